/- Nets: hosts, boxes' specs, pointers; the closures over hosts, inside, find. Conditions: those that each theorem names. -/
import Derived.Test.YtobfabfoenldfaaNI
namespace Go.Proofs.Ytobfabfoenldfaa.NW
set_option linter.unusedVariables false
set_option linter.unusedSimpArgs false
open Go Go.RowKit Go.Proofs.YtobfabfoenldfaaS Go.Proofs.YtobfabfoenldfaaS.Asn Go.Proofs.Ytobfabfoenldfaa.PA Go.Proofs.YtobfabfoenldfaaW.PrintWords Go.Proofs.YtobfabfoenldfaaW.PrintLast Go.Proofs.YtobfabfoenldfaaW.PrintMore

/-- A host. -/
structure Hs where
  ip : Int
  po : Int
  bx : Int
deriving DecidableEq
/-- A box's parts. -/
structure Sp where
  mp : Int
  fl : Int
  ip : Int
  hold : Int
  room : Int
deriving DecidableEq
def hosK : Kd Hs := Kd.iso (Kd.pair (Kd.int .u32) (Kd.pair (Kd.int .u16) (Kd.int .i64))) (fun r : Hs => (r.ip, r.po, r.bx))
def spK : Kd Sp := Kd.iso (Kd.pair (Kd.int .i64) (Kd.pair (Kd.int .i64) (Kd.pair (Kd.int .u32) (Kd.pair (Kd.int .u64) (Kd.int .i64))))) (fun r : Sp => (r.mp, r.fl, r.ip, r.hold, r.room))
def ptK : Kd Nat := Kd.scalar (fun p => Value.pointer (some ⟨p, 0, none⟩)) (fun _ => rfl)
def Hs.cells (r : Hs) : List Value := [.int .u32 r.ip, .int .u16 r.po, .int .i64 r.bx]
def Sp.cells (r : Sp) : List Value := [.int .i64 r.mp, .int .i64 r.fl, .int .u32 r.ip, .int .u64 r.hold, .int .i64 r.room]
theorem hosK_K (w : World) (x : Hs) : hosK.K w x x.cells := ⟨[_], _, rfl, rfl, ⟨[_], _, rfl, rfl, rfl⟩⟩
theorem hosK_M (w : World) (base : Nat) (ok : Nat → Prop) (x : Hs) : hosK.M w base ok x x.cells := ⟨[_], _, rfl, rfl, ⟨[_], _, rfl, rfl, rfl⟩⟩
theorem hosK_open {w : World} {x : Hs} {cs : List Value} (h : hosK.K w x cs) : cs = x.cells := by
  obtain ⟨_, _, rfl, rfl, ⟨_, _, rfl, rfl, rfl⟩⟩ := h
  rfl
theorem spK_K (w : World) (x : Sp) : spK.K w x x.cells := ⟨[_], _, rfl, rfl, ⟨[_], _, rfl, rfl, ⟨[_], _, rfl, rfl, ⟨[_], _, rfl, rfl, rfl⟩⟩⟩⟩
theorem spK_M (w : World) (base : Nat) (ok : Nat → Prop) (x : Sp) : spK.M w base ok x x.cells := ⟨[_], _, rfl, rfl, ⟨[_], _, rfl, rfl, ⟨[_], _, rfl, rfl, ⟨[_], _, rfl, rfl, rfl⟩⟩⟩⟩
theorem spK_open {w : World} {x : Sp} {cs : List Value} (h : spK.K w x cs) : cs = x.cells := by
  obtain ⟨_, _, rfl, rfl, ⟨_, _, rfl, rfl, ⟨_, _, rfl, rfl, ⟨_, _, rfl, rfl, rfl⟩⟩⟩⟩ := h
  rfl
def v34 : Value := .agg #[.int .u32 0, .int .u16 0, .int .i64 0]
theorem info34 : (Try.prog.info? 34).map (fun i => (i.zero, i.size, i.bytes)) = some (some v34, 3, 16) := by kernel_rfl
theorem info53 : (Try.prog.info? 53).map (fun i => (i.zero, i.size, i.bytes)) = some (some (.pointer none), 1, 8) := by kernel_rfl
theorem hos_at {w : World} {A : Option Addr} {l : List Hs} (h : hosK.C w A l.length l) (i : Nat) (x : Hs) (hx : l[i]? = some x) : ∃ ad, A = some ad ∧ w.cell? (ad.add (i * 3)) = some (.int .u32 x.ip) ∧ w.cell? ⟨(ad.add (i * 3)).block, (ad.add (i * 3)).off + 1, none⟩ = some (.int .u16 x.po) ∧ w.cell? ⟨(ad.add (i * 3)).block, (ad.add (i * 3)).off + 2, none⟩ = some (.int .i64 x.bx) := by
  obtain ⟨hi, he⟩ := List.getElem?_eq_some_iff.1 hx
  obtain ⟨h0, h1, h2⟩ := h
  obtain ⟨ad, rfl, hc⟩ := h2 (by omega)
  obtain ⟨c, hl, hk, hcell⟩ := hc i x hx
  rw [hosK_open hk] at hcell
  refine ⟨ad, rfl, hcell 0 _ rfl, ?_, ?_⟩
  · rw [add_f _ _ _ (by decide)]; exact hcell 1 _ rfl
  · rw [add_f _ _ _ (by decide)]; exact hcell 2 _ rfl
theorem sp_at {w : World} {A : Option Addr} {l : List Sp} (h : spK.C w A l.length l) (i : Nat) (x : Sp) (hx : l[i]? = some x) : ∃ ad, A = some ad ∧ w.cell? (ad.add (i * 5)) = some (.int .i64 x.mp) ∧ w.cell? ⟨(ad.add (i * 5)).block, (ad.add (i * 5)).off + 1, none⟩ = some (.int .i64 x.fl) ∧ w.cell? ⟨(ad.add (i * 5)).block, (ad.add (i * 5)).off + 2, none⟩ = some (.int .u32 x.ip) ∧ w.cell? ⟨(ad.add (i * 5)).block, (ad.add (i * 5)).off + 3, none⟩ = some (.int .u64 x.hold) ∧ w.cell? ⟨(ad.add (i * 5)).block, (ad.add (i * 5)).off + 4, none⟩ = some (.int .i64 x.room) := by
  obtain ⟨hi, he⟩ := List.getElem?_eq_some_iff.1 hx
  obtain ⟨h0, h1, h2⟩ := h
  obtain ⟨ad, rfl, hc⟩ := h2 (by omega)
  obtain ⟨c, hl, hk, hcell⟩ := hc i x hx
  rw [spK_open hk] at hcell
  refine ⟨ad, rfl, hcell 0 _ rfl, ?_, ?_, ?_, ?_⟩
  · rw [add_f _ _ _ (by decide)]; exact hcell 1 _ rfl
  · rw [add_f _ _ _ (by decide)]; exact hcell 2 _ rfl
  · rw [add_f _ _ _ (by decide)]; exact hcell 3 _ rfl
  · rw [add_f _ _ _ (by decide)]; exact hcell 4 _ rfl
theorem pt_at {w : World} {A : Option Addr} {l : List Nat} (h : ptK.C w A l.length l) (i : Nat) (x : Nat) (hx : l[i]? = some x) : ∃ ad, A = some ad ∧ w.cell? (ad.add (i * 1)) = some (.pointer (some ⟨x, 0, none⟩)) := by
  obtain ⟨hi, he⟩ := List.getElem?_eq_some_iff.1 hx
  obtain ⟨h0, h1, h2⟩ := h
  obtain ⟨ad, rfl, hc⟩ := h2 (by omega)
  obtain ⟨c, hl, hk, hcell⟩ := hc i x hx
  refine ⟨ad, rfl, ?_⟩
  have := hcell 0 (.pointer (some ⟨x, 0, none⟩)) (by rw [show c = [.pointer (some ⟨x, 0, none⟩)] from hk]; rfl)
  exact this
def ipH (ip : Int) (x : Hs) : Bool := x.ip == ip
def adH (a : S28) (x : Hs) : Bool := x.ip == a.f0 && (x.po == a.f1)
def hostH (y : Hs) (x : Hs) : Bool := (y.ip == x.ip && (y.po == x.po)) && (y.bx == x.bx)
theorem cl_40 (B : Nat) (ip : Int) (x : Hs) (W : World) (h1 : W.cell? ⟨B, 0, none⟩ = some (.int .u32 ip)) :
    Calls Try.prog 40 #[.agg #[.int .u32 x.ip, .int .u16 x.po, .int .i64 x.bx], .pointer (some ⟨B, 0, none⟩)] W fun e w' => e = .returned (.bool (ipH ip x)) ∧ Below W.heap.size W w' := by
  have HS := Aside0.mk (sep_start W)
  go_enter Try.func40, Try.ntmps40
  go_upto_region 1 with (fail)
  have n_ := sep_allocg HS.out #[.int .u32 x.ip, .int .u16 x.po, .int .i64 x.bx] 34 _ rfl
  have n0_ := Aside0.mk n_; clear HS n_; have HS := n0_; clear n0_
  generalize World.alloc _ _ = wa at HS ⊢
  generalize Array.size (World.heap _) = g2 at HS ⊢
  have k0 := sep_cell HS.out 0
  have k1 := sep_cell HS.out 1
  have k2 := sep_cell HS.out 2
  have h1 := cell_now h1 (sep_below_of HS.out)
  go_wp2
  all_goals (go_ret; refine ⟨?_, sep_below_of HS.out⟩; clear HS h1 k0 k1 k2; simp_all [ipH])
theorem cl_25 (B : Nat) (a : S28) (x : Hs) (W : World) (h1 : W.cell? ⟨B, 0, none⟩ = some (.int .u32 a.f0)) (h2 : W.cell? ⟨B, 1, none⟩ = some (.int .u16 a.f1)) :
    Calls Try.prog 25 #[.agg #[.int .u32 x.ip, .int .u16 x.po, .int .i64 x.bx], .pointer (some ⟨B, 0, none⟩)] W fun e w' => e = .returned (.bool (adH a x)) ∧ Below W.heap.size W w' := by
  have HS := Aside0.mk (sep_start W)
  go_enter Try.func25, Try.ntmps25
  go_upto_region 1 with (fail)
  have n_ := sep_allocg HS.out #[.int .u32 x.ip, .int .u16 x.po, .int .i64 x.bx] 34 _ rfl
  have n0_ := Aside0.mk n_; clear HS n_; have HS := n0_; clear n0_
  generalize World.alloc _ _ = wa at HS ⊢
  generalize Array.size (World.heap _) = g2 at HS ⊢
  have k0 := sep_cell HS.out 0
  have k1 := sep_cell HS.out 1
  have k2 := sep_cell HS.out 2
  have h1 := cell_now h1 (sep_below_of HS.out)
  have h2 := cell_now h2 (sep_below_of HS.out)
  go_wp2
  all_goals (go_ret; refine ⟨?_, sep_below_of HS.out⟩; clear HS h1 h2 k0 k1 k2; simp_all [adH])
set_option maxHeartbeats 1000000 in
theorem idx_40 (B : Nat) (ip : Int) (A : Option Addr) (c : Nat) (l : List Hs) (w : World) (h1 : w.cell? ⟨B, 0, none⟩ = some (.int .u32 ip)) (hr : hosK.C w A l.length l) :
    Calls Try.prog 38 #[.slice A l.length c, .func (.func 40) #[] #[.pointer (some ⟨B, 0, none⟩)]] w fun e w' => e = .returned (.int .i64 (idx (ipH ip) l)) ∧ Below w.heap.size w w' := by
  have H5 := Aside0.mk h1
  clear h1
  have HLN := Aside0.mk hr.2.1
  have HR := Aside0.mk hr
  clear hr
  go_enter Try.func38, Try.ntmps38
  go_upto_region 2 with (fail)
  go_loopg [5, 8] l.length (fun gg _ s8 wr => ∃ kk : Nat, kk ≤ l.length ∧ l.length - kk ≤ gg ∧ s8 = .int .i64 kk ∧ Aside0 (Below w.heap.size w wr) ∧ Aside0 ((l.take kk).any (ipH ip) = false))
  case atStart => exact ⟨0, Nat.zero_le _, by omega, rfl, ⟨Below.refl _ w⟩, ⟨by simp⟩⟩
  case round =>
    obtain ⟨kk, hkk, hg, rfl, BW, HA⟩ := hrel
    by_cases hlt : kk < l.length
    · have c1b : decide ((kk : Int) < (l.length : Int)) = true := decide_eq_true (Int.ofNat_lt.2 hlt); have c1n : decide (kk < l.length) = true := decide_eq_true hlt; have c1i : ((kk : Int) < (l.length : Int)) = True := eq_true (Int.ofNat_lt.2 hlt); have c1q : (kk < l.length) = True := eq_true hlt; have p0_ := eq_true (Int.natCast_nonneg kk)
      obtain ⟨y, hy⟩ : ∃ y, l[kk]? = some y := ⟨_, List.getElem?_eq_getElem hlt⟩
      obtain ⟨ad, rfl, k0, k1, k2⟩ := hos_at (Kd.C_below HR.out BW.out) kk y hy
      have hcall := cl_40 B ip y wr (cell_now H5.out BW.out)
      have HI := Aside0.mk (And.intro hlt hg)
      have HL := Aside0.mk hy
      clear hy hlt hkk hg
      cases hq : (ipH ip) y with
      | true =>
        rw [hq] at hcall
        have HC := Aside0.mk hcall
        have HQ := Aside0.mk hq
        clear hcall hq
        go_wp2_with (go_at_call 40; refine HC.out.mono ?_; rintro e w' ⟨rfl, hb'⟩; have HB' := Aside0.mk hb'; clear hb')
        go_ret
        rw [idx_found _ l kk y HL.out HQ.out HA.out]
        exact ⟨rfl, BW.out.trans (HB'.out.mono BW.out.size)⟩
      | false =>
        rw [hq] at hcall
        have HC := Aside0.mk hcall
        have HQ := Aside0.mk hq
        clear hcall hq
        go_wp2_with (go_at_call 40; refine HC.out.mono ?_; rintro e w' ⟨rfl, hb'⟩; have HB' := Aside0.mk hb'; clear hb')
        go_roundg (l.length - (kk + 1))
        case measure => have := HI.out; omega
        case rel =>
          refine ⟨kk + 1, by have := HI.out; omega, Nat.le_refl _, congrArg (Value.int .i64) (by have := HI.out; have := HLN.out; unfold wrap64; omega), ⟨BW.out.trans (HB'.out.mono BW.out.size)⟩, ⟨?_⟩⟩
          rw [List.take_add_one, HL.out, List.any_append, HA.out]
          simp [HQ.out]
    · obtain rfl : kk = l.length := by omega
      have c2b : decide ((l.length : Int) < (l.length : Int)) = false := decide_eq_false (by omega)
      go_wp2
      go_ret
      have h := HA.out
      rw [List.take_length] at h
      rw [idx_none _ l h]
      exact ⟨rfl, BW.out⟩
set_option maxHeartbeats 1000000 in
theorem idx_25 (B : Nat) (a : S28) (A : Option Addr) (c : Nat) (l : List Hs) (w : World) (h1 : w.cell? ⟨B, 0, none⟩ = some (.int .u32 a.f0)) (h2 : w.cell? ⟨B, 1, none⟩ = some (.int .u16 a.f1)) (hr : hosK.C w A l.length l) :
    Calls Try.prog 38 #[.slice A l.length c, .func (.func 25) #[] #[.pointer (some ⟨B, 0, none⟩)]] w fun e w' => e = .returned (.int .i64 (idx (adH a) l)) ∧ Below w.heap.size w w' := by
  have H5 := Aside0.mk (And.intro h1 h2)
  clear h1 h2
  have HLN := Aside0.mk hr.2.1
  have HR := Aside0.mk hr
  clear hr
  go_enter Try.func38, Try.ntmps38
  go_upto_region 2 with (fail)
  go_loopg [5, 8] l.length (fun gg _ s8 wr => ∃ kk : Nat, kk ≤ l.length ∧ l.length - kk ≤ gg ∧ s8 = .int .i64 kk ∧ Aside0 (Below w.heap.size w wr) ∧ Aside0 ((l.take kk).any (adH a) = false))
  case atStart => exact ⟨0, Nat.zero_le _, by omega, rfl, ⟨Below.refl _ w⟩, ⟨by simp⟩⟩
  case round =>
    obtain ⟨kk, hkk, hg, rfl, BW, HA⟩ := hrel
    by_cases hlt : kk < l.length
    · have c1b : decide ((kk : Int) < (l.length : Int)) = true := decide_eq_true (Int.ofNat_lt.2 hlt); have c1n : decide (kk < l.length) = true := decide_eq_true hlt; have c1i : ((kk : Int) < (l.length : Int)) = True := eq_true (Int.ofNat_lt.2 hlt); have c1q : (kk < l.length) = True := eq_true hlt; have p0_ := eq_true (Int.natCast_nonneg kk)
      obtain ⟨y, hy⟩ : ∃ y, l[kk]? = some y := ⟨_, List.getElem?_eq_getElem hlt⟩
      obtain ⟨ad, rfl, k0, k1, k2⟩ := hos_at (Kd.C_below HR.out BW.out) kk y hy
      have hcall := cl_25 B a y wr (cell_now H5.out.1 BW.out) (cell_now H5.out.2 BW.out)
      have HI := Aside0.mk (And.intro hlt hg)
      have HL := Aside0.mk hy
      clear hy hlt hkk hg
      cases hq : (adH a) y with
      | true =>
        rw [hq] at hcall
        have HC := Aside0.mk hcall
        have HQ := Aside0.mk hq
        clear hcall hq
        go_wp2_with (go_at_call 25; refine HC.out.mono ?_; rintro e w' ⟨rfl, hb'⟩; have HB' := Aside0.mk hb'; clear hb')
        go_ret
        rw [idx_found _ l kk y HL.out HQ.out HA.out]
        exact ⟨rfl, BW.out.trans (HB'.out.mono BW.out.size)⟩
      | false =>
        rw [hq] at hcall
        have HC := Aside0.mk hcall
        have HQ := Aside0.mk hq
        clear hcall hq
        go_wp2_with (go_at_call 25; refine HC.out.mono ?_; rintro e w' ⟨rfl, hb'⟩; have HB' := Aside0.mk hb'; clear hb')
        go_roundg (l.length - (kk + 1))
        case measure => have := HI.out; omega
        case rel =>
          refine ⟨kk + 1, by have := HI.out; omega, Nat.le_refl _, congrArg (Value.int .i64) (by have := HI.out; have := HLN.out; unfold wrap64; omega), ⟨BW.out.trans (HB'.out.mono BW.out.size)⟩, ⟨?_⟩⟩
          rw [List.take_add_one, HL.out, List.any_append, HA.out]
          simp [HQ.out]
    · obtain rfl : kk = l.length := by omega
      have c2b : decide ((l.length : Int) < (l.length : Int)) = false := decide_eq_false (by omega)
      go_wp2
      go_ret
      have h := HA.out
      rw [List.take_length] at h
      rw [idx_none _ l h]
      exact ⟨rfl, BW.out⟩
theorem con_40 (B : Nat) (ip : Int) (A : Option Addr) (c : Nat) (l : List Hs) (w : World) (h1 : w.cell? ⟨B, 0, none⟩ = some (.int .u32 ip)) (hr : hosK.C w A l.length l) :
    Calls Try.prog 24 #[.slice A l.length c, .func (.func 40) #[] #[.pointer (some ⟨B, 0, none⟩)]] w fun e w' => e = .returned (.bool (l.any (ipH ip))) ∧ Below w.heap.size w w' := by
  have hx_ := idx_40 B ip A c l w h1 hr
  clear h1
  have hd := idx_ge (ipH ip) l
  generalize idx (ipH ip) l = k at hx_ hd
  generalize l.any (ipH ip) = b at hd ⊢
  have hd2 : decide (0 ≤ k) = b := hd
  have HX := Aside0.mk hx_
  clear hx_ hr
  go_enter Try.func24, Try.ntmps24
  go_wp2_with (go_at_call 38; (with_reducible refine Calls.mono HX.out ?_); rintro e w1 ⟨rfl, hb_⟩)
  go_ret
  exact ⟨by first | rw [hd] | rw [hd2] | simp_all, hb_⟩
theorem con_25 (B : Nat) (a : S28) (A : Option Addr) (c : Nat) (l : List Hs) (w : World) (h1 : w.cell? ⟨B, 0, none⟩ = some (.int .u32 a.f0)) (h2 : w.cell? ⟨B, 1, none⟩ = some (.int .u16 a.f1)) (hr : hosK.C w A l.length l) :
    Calls Try.prog 24 #[.slice A l.length c, .func (.func 25) #[] #[.pointer (some ⟨B, 0, none⟩)]] w fun e w' => e = .returned (.bool (l.any (adH a))) ∧ Below w.heap.size w w' := by
  have hx_ := idx_25 B a A c l w h1 h2 hr
  clear h1 h2
  have hd := idx_ge (adH a) l
  generalize idx (adH a) l = k at hx_ hd
  generalize l.any (adH a) = b at hd ⊢
  have hd2 : decide (0 ≤ k) = b := hd
  have HX := Aside0.mk hx_
  clear hx_ hr
  go_enter Try.func24, Try.ntmps24
  go_wp2_with (go_at_call 38; (with_reducible refine Calls.mono HX.out ?_); rintro e w1 ⟨rfl, hb_⟩)
  go_ret
  exact ⟨by first | rw [hd] | rw [hd2] | simp_all, hb_⟩
theorem net_inside (p : Nat) (ip : Int) (A : Option Addr) (c : Nat) (l : List Hs) (w : World) (h0 : w.cell? ⟨p, 0, none⟩ = some (.slice A l.length c)) (hr : hosK.C w A l.length l) :
    Calls Try.prog 29 #[.pointer (some ⟨p, 0, none⟩), .int .u32 ip] w fun e w' => e = .returned (.bool (l.any (ipH ip))) ∧ Below w.heap.size w w' := by
  have HS := Aside0.mk (sep_start w)
  have HR := Aside0.mk hr
  have H0 := Aside0.mk h0
  clear hr h0
  go_enter Try.func29, Try.ntmps29
  go_upto_region 1 with (fail)
  have n_ := sep_allocg HS.out #[.int .u32 ip] 25 _ rfl
  have n0_ := Aside0.mk n_; clear HS n_; have HS := n0_; clear n0_
  generalize World.alloc _ _ = wa at HS ⊢
  generalize Array.size (World.heap _) = g3 at HS ⊢
  have m0 : wa.cell? ⟨g3, 0, none⟩ = some (.int .u32 ip) := sep_cell HS.out 0
  have p0 := cell_now H0.out (sep_below_of HS.out)
  go_wp2_with (go_at_call 24; (with_reducible refine Calls.mono (con_40 g3 ip A c l _ m0 (Kd.C_below HR.out (sep_below_of HS.out))) ?_); rintro e w1 ⟨rfl, hb_⟩; have n_ := sep_below HS.out hb_; clear hb_; have n0_ := Aside0.mk n_; clear HS n_; have HS := n0_; clear n0_; skip)
  go_ret
  exact ⟨rfl, sep_below_of HS.out⟩
theorem cmp3 (y x : Hs) : ((y.ip == x.ip) = true ∧ (y.ip = x.ip) = True ∧ (y.po == x.po) = true ∧ (y.po = x.po) = True ∧ (y.bx == x.bx) = true ∧ (y.bx = x.bx) = True ∧ hostH y x = true) ∨ (hostH y x = false ∧ (y.ip == x.ip) = false ∧ (y.ip = x.ip) = False) ∨ (hostH y x = false ∧ (y.ip == x.ip) = true ∧ (y.ip = x.ip) = True ∧ (y.po == x.po) = false ∧ (y.po = x.po) = False) ∨ (hostH y x = false ∧ (y.ip == x.ip) = true ∧ (y.ip = x.ip) = True ∧ (y.po == x.po) = true ∧ (y.po = x.po) = True ∧ (y.bx == x.bx) = false ∧ (y.bx = x.bx) = False) := by
  unfold hostH
  by_cases h1 : y.ip = x.ip
  · by_cases h2 : y.po = x.po
    · by_cases h3 : y.bx = x.bx
      · simp [h1, h2, h3]
      · simp [h1, h2, h3]
    · simp [h1, h2]
  · simp [h1]
set_option maxHeartbeats 1000000 in
theorem idx_64 (y : Hs) (A : Option Addr) (c : Nat) (l : List Hs) (w : World) (hr : hosK.C w A l.length l) :
    Calls Try.prog 64 #[.slice A l.length c, .agg #[.int .u32 y.ip, .int .u16 y.po, .int .i64 y.bx]] w fun e w' => e = .returned (.int .i64 (idx (hostH y) l)) ∧ Below w.heap.size w w' := by
  have HLN := Aside0.mk hr.2.1
  have HR := Aside0.mk hr
  have HS := Aside0.mk (sep_start w)
  clear hr
  go_enter Try.func64, Try.ntmps64
  go_upto_region 2 with (fail)
  have n_ := sep_allocg HS.out #[.int .u32 y.ip, .int .u16 y.po, .int .i64 y.bx] 34 _ rfl
  have n0_ := Aside0.mk n_; clear HS n_; have HS := n0_; clear n0_
  generalize World.alloc _ _ = wa at HS ⊢
  generalize Array.size (World.heap _) = g3 at HS ⊢
  go_loopg [5, 8] l.length (fun gg _ s8 wr => ∃ kk : Nat, kk ≤ l.length ∧ l.length - kk ≤ gg ∧ s8 = .int .i64 kk ∧ Aside0 (Sep w (fun _ => False) (pt g3 #[.int .u32 y.ip, .int .u16 y.po, .int .i64 y.bx] 34 ⋆ emp) wr) ∧ Aside0 ((l.take kk).any (hostH y) = false))
  case atStart => exact ⟨0, Nat.zero_le _, by omega, rfl, HS, ⟨by simp⟩⟩
  case round =>
    clear HS
    obtain ⟨kk, hkk, hg, rfl, HS, HA⟩ := hrel
    by_cases hlt : kk < l.length
    · have c1b : decide ((kk : Int) < (l.length : Int)) = true := decide_eq_true (Int.ofNat_lt.2 hlt); have c1n : decide (kk < l.length) = true := decide_eq_true hlt; have c1i : ((kk : Int) < (l.length : Int)) = True := eq_true (Int.ofNat_lt.2 hlt); have c1q : (kk < l.length) = True := eq_true hlt; have p0_ := eq_true (Int.natCast_nonneg kk)
      obtain ⟨x, hx⟩ : ∃ x, l[kk]? = some x := ⟨_, List.getElem?_eq_getElem hlt⟩
      have HI := Aside0.mk (And.intro hlt hg)
      have HL := Aside0.mk hx
      clear hx hlt hkk hg
      go_upto_region 4 with (fail)
      have n_ := sep_drew HS.out
      have n0_ := Aside0.mk n_; clear HS n_; have HS := n0_; clear n0_
      obtain ⟨ad, rfl, k0, k1, k2⟩ := hos_at (Kd.C_below HR.out (sep_below_of HS.out)) kk x HL.out
      have m0 := sep_cell HS.out 0
      have m1 := sep_cell HS.out 1
      have m2 := sep_cell HS.out 2
      rcases cmp3 y x with ⟨q1, q2, q3, q4, q5, q6, hq⟩ | ⟨hq, q1, q2⟩ | ⟨hq, q1, q2, q3, q4⟩ | ⟨hq, q1, q2, q3, q4, q5, q6⟩
      · skip
        have HQ := Aside0.mk hq
        clear hq
        go_region_held3 (fun w' => w'.cell? ⟨g3, 0, none⟩ = some (.int .u32 y.ip) ∧ w'.cell? ⟨g3, 1, none⟩ = some (.int .u16 y.po) ∧ w'.cell? ⟨g3, 2, none⟩ = some (.int .i64 y.bx) ∧ w'.cell? (ad.add (kk * 3)) = some (.int .u32 x.ip) ∧ w'.cell? ⟨(ad.add (kk * 3)).block, (ad.add (kk * 3)).off + 1, none⟩ = some (.int .u16 x.po) ∧ w'.cell? ⟨(ad.add (kk * 3)).block, (ad.add (kk * 3)).off + 2, none⟩ = some (.int .i64 x.bx)) (exact ⟨m0, m1, m2, k0, k1, k2⟩) (fail)
        all_goals
          go_wp2
          go_ret
          rw [idx_found _ l kk x HL.out HQ.out HA.out]
          exact ⟨rfl, sep_below_of HS.out⟩
      · skip
        have HQ := Aside0.mk hq
        clear hq
        go_region_held3 (fun w' => w'.cell? ⟨g3, 0, none⟩ = some (.int .u32 y.ip) ∧ w'.cell? ⟨g3, 1, none⟩ = some (.int .u16 y.po) ∧ w'.cell? ⟨g3, 2, none⟩ = some (.int .i64 y.bx) ∧ w'.cell? (ad.add (kk * 3)) = some (.int .u32 x.ip) ∧ w'.cell? ⟨(ad.add (kk * 3)).block, (ad.add (kk * 3)).off + 1, none⟩ = some (.int .u16 x.po) ∧ w'.cell? ⟨(ad.add (kk * 3)).block, (ad.add (kk * 3)).off + 2, none⟩ = some (.int .i64 x.bx)) (exact ⟨m0, m1, m2, k0, k1, k2⟩) (fail)
        all_goals
          go_wp2
          go_roundg (l.length - (kk + 1))
          case measure => have := HI.out; omega
          case rel =>
            refine ⟨kk + 1, by have := HI.out; omega, Nat.le_refl _, congrArg (Value.int .i64) (by have := HI.out; have := HLN.out; unfold wrap64; omega), HS, ⟨?_⟩⟩
            rw [List.take_add_one, HL.out, List.any_append, HA.out]
            simp [HQ.out]
      · skip
        have HQ := Aside0.mk hq
        clear hq
        go_region_held3 (fun w' => w'.cell? ⟨g3, 0, none⟩ = some (.int .u32 y.ip) ∧ w'.cell? ⟨g3, 1, none⟩ = some (.int .u16 y.po) ∧ w'.cell? ⟨g3, 2, none⟩ = some (.int .i64 y.bx) ∧ w'.cell? (ad.add (kk * 3)) = some (.int .u32 x.ip) ∧ w'.cell? ⟨(ad.add (kk * 3)).block, (ad.add (kk * 3)).off + 1, none⟩ = some (.int .u16 x.po) ∧ w'.cell? ⟨(ad.add (kk * 3)).block, (ad.add (kk * 3)).off + 2, none⟩ = some (.int .i64 x.bx)) (exact ⟨m0, m1, m2, k0, k1, k2⟩) (fail)
        all_goals
          go_wp2
          go_roundg (l.length - (kk + 1))
          case measure => have := HI.out; omega
          case rel =>
            refine ⟨kk + 1, by have := HI.out; omega, Nat.le_refl _, congrArg (Value.int .i64) (by have := HI.out; have := HLN.out; unfold wrap64; omega), HS, ⟨?_⟩⟩
            rw [List.take_add_one, HL.out, List.any_append, HA.out]
            simp [HQ.out]
      · skip
        have HQ := Aside0.mk hq
        clear hq
        go_region_held3 (fun w' => w'.cell? ⟨g3, 0, none⟩ = some (.int .u32 y.ip) ∧ w'.cell? ⟨g3, 1, none⟩ = some (.int .u16 y.po) ∧ w'.cell? ⟨g3, 2, none⟩ = some (.int .i64 y.bx) ∧ w'.cell? (ad.add (kk * 3)) = some (.int .u32 x.ip) ∧ w'.cell? ⟨(ad.add (kk * 3)).block, (ad.add (kk * 3)).off + 1, none⟩ = some (.int .u16 x.po) ∧ w'.cell? ⟨(ad.add (kk * 3)).block, (ad.add (kk * 3)).off + 2, none⟩ = some (.int .i64 x.bx)) (exact ⟨m0, m1, m2, k0, k1, k2⟩) (fail)
        all_goals
          go_wp2
          go_roundg (l.length - (kk + 1))
          case measure => have := HI.out; omega
          case rel =>
            refine ⟨kk + 1, by have := HI.out; omega, Nat.le_refl _, congrArg (Value.int .i64) (by have := HI.out; have := HLN.out; unfold wrap64; omega), HS, ⟨?_⟩⟩
            rw [List.take_add_one, HL.out, List.any_append, HA.out]
            simp [HQ.out]
    · obtain rfl : kk = l.length := by omega
      have c2b : decide ((l.length : Int) < (l.length : Int)) = false := decide_eq_false (by omega)
      go_wp2
      go_ret
      have h := HA.out
      rw [List.take_length] at h
      rw [idx_none _ l h]
      exact ⟨rfl, sep_below_of HS.out⟩
theorem net_find (p : Nat) (a : S28) (bx : Int) (A : Option Addr) (c : Nat) (l : List Hs) (w : World) (h0 : w.cell? ⟨p, 0, none⟩ = some (.slice A l.length c)) (hr : hosK.C w A l.length l) (hl : l.length ≤ 1000) :
    Calls Try.prog 47 #[.pointer (some ⟨p, 0, none⟩), .agg #[.int .u32 a.f0, .int .u16 a.f1], .int .i64 bx] w fun e w' => e = .returned (.int .i64 (idx (hostH ⟨a.f0, a.f1, bx⟩) l + 1)) ∧ Below w.heap.size w w' := by
  have HS := Aside0.mk (sep_start w)
  have HR := Aside0.mk hr
  have H0 := Aside0.mk h0
  obtain ⟨k, hk⟩ : ∃ k, idx (hostH ⟨a.f0, a.f1, bx⟩) l = k := ⟨_, rfl⟩
  have hx_ := fun W hW => idx_64 ⟨a.f0, a.f1, bx⟩ A c l W hW
  rw [hk] at hx_ ⊢
  have hkl : -1 ≤ k ∧ k ≤ 1000 := by
    rw [← hk]
    cases hb : l.any (hostH ⟨a.f0, a.f1, bx⟩) with
    | true => obtain ⟨i, y, h1, -, -, h2⟩ := idx_at _ _ hb; rw [h1]; omega
    | false => rw [idx_none _ _ hb]; omega
  have HX := Aside0.mk hx_
  have w1_ : wrap64 (k + 1) = k + 1 := by unfold wrap64; omega
  have w2_ : IntKind.i64.wrap (k + 1) = k + 1 := by rw [IntKind.wrap_i64]; omega
  clear hr h0 hl hk hkl hx_
  go_enter Try.func47, Try.ntmps47
  go_upto_region 1 with (fail)
  have n_ := sep_drew (sep_allocg HS.out #[.int .u32 a.f0, .int .u16 a.f1] 28 _ rfl)
  have n0_ := Aside0.mk n_; clear HS n_; have HS := n0_; clear n0_
  generalize hw0 : World.alloc _ _ = wa at HS ⊢
  clear hw0
  generalize hg0 : Array.size (World.heap _) = g3 at HS ⊢
  clear hg0
  have m0 : wa.drew.cell? ⟨g3, 0, none⟩ = some (.int .u32 a.f0) := sep_cell HS.out 0
  have m1 : wa.drew.cell? ⟨g3, 1, none⟩ = some (.int .u16 a.f1) := sep_cell HS.out 1
  have p0 := cell_now H0.out (sep_below_of HS.out)
  go_region_held3 (fun w' => w'.cell? ⟨g3, 0, none⟩ = some (.int .u32 a.f0) ∧ w'.cell? ⟨g3, 1, none⟩ = some (.int .u16 a.f1) ∧ w'.cell? ⟨p, 0, none⟩ = some (.slice A l.length c)) (first | exact ⟨m0, m1, p0⟩ | exact ⟨sep_cell HS.out 0, sep_cell HS.out 1, cell_now H0.out (sep_below_of HS.out)⟩) (first | (go_at_call 64; (with_reducible refine Calls.mono (HX.out _ (Kd.C_below HR.out (sep_below_of HS.out))) ?_); rintro e w1 ⟨rfl, hb_⟩; have n_ := sep_below HS.out hb_; clear hb_; have n0_ := Aside0.mk n_; clear HS n_; have HS := n0_; clear n0_; skip) | fail)
  all_goals
    go_wp2
    go_ret
    exact ⟨rfl, sep_below_of HS.out⟩
end Go.Proofs.Ytobfabfoenldfaa.NW
