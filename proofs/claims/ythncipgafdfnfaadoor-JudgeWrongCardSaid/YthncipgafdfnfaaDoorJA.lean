/- The judge: closures, slices.IndexFunc, slices.ContainsFunc, first, live, Rises. Conditions: those that each theorem names. -/
import Derived.Test.YthncipgafdfnfaaDoorMA
import Derived.Deep.RegionHeld3
namespace Go.Proofs.YthncipgafdfnfaaDoor.JW
set_option linter.unusedVariables false
set_option linter.unusedSimpArgs false
open Go Go.RowKit Go.Proofs.YthncipgafdfnfaaDoorS Go.Proofs.YthncipgafdfnfaaDoorS.Asn Go.Proofs.YthncipgafdfnfaaDoor.PA Go.Proofs.YthncipgafdfnfaaDoorW.PrintWords Go.Proofs.YthncipgafdfnfaaDoorW.PrintLast Go.Proofs.YthncipgafdfnfaaDoorW.PrintMore
def recK : Kd Rec := Kd.iso (Kd.pair (Kd.int .i64) (Kd.pair (Kd.int .i64) (Kd.pair (Kd.int .u32) (Kd.pair (Kd.int .u32) (Kd.int .u16))))) (fun r : Rec => (r.id, r.st, r.inc, r.ip, r.po))
def z36 : Value := .agg #[.int .i64 0, .int .i64 0, .int .u32 0, .int .u32 0, .int .u16 0]
theorem info36 : (Tryd.prog.info? 36).map (fun i => (i.zero, i.size, i.bytes)) = some (some z36, 5, 32) := by kernel_rfl
def Rec.cells (r : Rec) : List Value := [.int .i64 r.id, .int .i64 r.st, .int .u32 r.inc, .int .u32 r.ip, .int .u16 r.po]
theorem recK_M (w : World) (base : Nat) (ok : Nat → Prop) (x : Rec) : recK.M w base ok x x.cells := ⟨[_], _, rfl, rfl, ⟨[_], _, rfl, rfl, ⟨[_], _, rfl, rfl, ⟨[_], _, rfl, rfl, rfl⟩⟩⟩⟩
theorem recK_open {w : World} {x : Rec} {cs : List Value} (h : recK.K w x cs) : cs = x.cells := by
  obtain ⟨_, _, rfl, rfl, ⟨_, _, rfl, rfl, ⟨_, _, rfl, rfl, ⟨_, _, rfl, rfl, rfl⟩⟩⟩⟩ := h
  rfl
theorem recK_mk (w : World) (x : Rec) : recK.K w x x.cells := ⟨[_], _, rfl, rfl, ⟨[_], _, rfl, rfl, ⟨[_], _, rfl, rfl, ⟨[_], _, rfl, rfl, rfl⟩⟩⟩⟩
theorem add_f (a : Addr) (i j : Nat) (h : j ≠ 0) : (⟨(a.add i).block, (a.add i).off + j, none⟩ : Addr) = a.add (i + j) := by
  rw [← Go.Proofs.YthncipgafdfnfaaDoorW.PrintWords.add_add]
  generalize a.add i = b
  unfold Addr.add
  rw [if_neg h]
theorem add_at (g i : Nat) : (⟨g, 0, none⟩ : Addr).add i = ⟨g, i, none⟩ := by rw [Addr.add_mid, Nat.zero_add]
theorem row_addr {α : Type} {d : Kd α} {e : Nat} {w0 w : World} {ok0 : Nat → Prop} {F : Asn} {A : Option Addr} {n c : Nat} {xs : List α} (h : Sep w0 ok0 (row d e (.slice A n c) xs ⋆ F) w) (hp : 0 < xs.length) : ∃ g, A = some ⟨g, 0, none⟩ := by
  obtain ⟨_, _, ⟨_, _, hr, _⟩, _⟩ := h
  obtain ⟨g, cap, he, -⟩ := Kd.R_form hr (by omega)
  cases he
  exact ⟨g, rfl⟩
theorem rec_at {w : World} {A : Option Addr} {l : List Rec} (h : recK.C w A l.length l) (i : Nat) (x : Rec) (hx : l[i]? = some x) :
    ∃ ad, A = some ad ∧ w.cell? (ad.add (i * 5)) = some (.int .i64 x.id) ∧ w.cell? ⟨(ad.add (i * 5)).block, (ad.add (i * 5)).off + 1, none⟩ = some (.int .i64 x.st) ∧ w.cell? ⟨(ad.add (i * 5)).block, (ad.add (i * 5)).off + 2, none⟩ = some (.int .u32 x.inc) ∧ w.cell? ⟨(ad.add (i * 5)).block, (ad.add (i * 5)).off + 3, none⟩ = some (.int .u32 x.ip) ∧ w.cell? ⟨(ad.add (i * 5)).block, (ad.add (i * 5)).off + 4, none⟩ = some (.int .u16 x.po) := by
  obtain ⟨hi, he⟩ := List.getElem?_eq_some_iff.1 hx
  obtain ⟨h0, h1, h2⟩ := h
  obtain ⟨ad, rfl, hc⟩ := h2 (by omega)
  obtain ⟨c, hl, hk, hcell⟩ := hc i x hx
  rw [recK_open hk] at hcell
  refine ⟨ad, rfl, hcell 0 _ rfl, ?_, ?_, ?_, ?_⟩
  · rw [add_f _ _ _ (by decide)]; exact hcell 1 _ rfl
  · rw [add_f _ _ _ (by decide)]; exact hcell 2 _ rfl
  · rw [add_f _ _ _ (by decide)]; exact hcell 3 _ rfl
  · rw [add_f _ _ _ (by decide)]; exact hcell 4 _ rfl
/-- A record read, later on. -/
theorem rec_now {w wr : World} {A : Option Addr} {l : List Rec} (h : recK.C w A l.length l) (hb : Below w.heap.size w wr) (i : Nat) (x : Rec) (hx : l[i]? = some x) :
    ∃ ad, A = some ad ∧ wr.cell? (ad.add (i * 5)) = some (.int .i64 x.id) ∧ wr.cell? ⟨(ad.add (i * 5)).block, (ad.add (i * 5)).off + 1, none⟩ = some (.int .i64 x.st) ∧ wr.cell? ⟨(ad.add (i * 5)).block, (ad.add (i * 5)).off + 2, none⟩ = some (.int .u32 x.inc) ∧ wr.cell? ⟨(ad.add (i * 5)).block, (ad.add (i * 5)).off + 3, none⟩ = some (.int .u32 x.ip) ∧ wr.cell? ⟨(ad.add (i * 5)).block, (ad.add (i * 5)).off + 4, none⟩ = some (.int .u16 x.po) := rec_at (Kd.C_below h hb) i x hx
theorem cell_now {w wr : World} {a : Addr} {v : Value} (h : w.cell? a = some v) (hb : Below w.heap.size w wr) : wr.cell? a = some v := (hb.cell (World.block_lt_of_cell? w _ h)).trans h
/-! ## the closures -/
theorem first_1 (id : Int) (B : Nat) (x : Rec) (W : World) (hc : W.cell? ⟨B, 0, none⟩ = some (.int .i64 id)) :
    Calls Tryd.prog 32 #[.agg #[.int .i64 x.id, .int .i64 x.st, .int .u32 x.inc, .int .u32 x.ip, .int .u16 x.po], .pointer (some ⟨B, 0, none⟩)] W fun e w' => e = .returned (.bool (isId id x)) ∧ Below W.heap.size W w' := by
  have HS := Aside0.mk (sep_start W)
  have HC := Aside0.mk hc
  have hd : isId id x = (x.id == id) := rfl
  rw [hd]
  clear hc hd
  go_enter Tryd.func32, Tryd.ntmps32
  go_upto_region 1 with (fail)
  have n_ := sep_alloc HS.out #[.int .i64 x.id, .int .i64 x.st, .int .u32 x.inc, .int .u32 x.ip, .int .u16 x.po] 36
  have n0_ := Aside0.mk n_; clear HS n_; have HS := n0_; clear n0_
  generalize W.alloc (.cells #[.int .i64 x.id, .int .i64 x.st, .int .u32 x.inc, .int .u32 x.ip, .int .u16 x.po] 36) = wa at HS ⊢
  generalize W.heap.size = g2 at HS ⊢
  obtain ⟨k1, k2, k3, k4, k5⟩ := facts5 HS.out
  have kb := cell_now HC.out (sep_below_of HS.out)
  go_wp2
  go_ret
  exact ⟨rfl, sep_below_of HS.out⟩
set_option maxHeartbeats 1000000 in
theorem idx_32 (id : Int) (B : Nat) (A : Option Addr) (c : Nat) (l : List Rec) (w : World) (hb : w.cell? ⟨B, 0, none⟩ = some (.int .i64 id)) (hr : recK.C w A l.length l) :
    Calls Tryd.prog 31 #[.slice A l.length c, .func (.func 32) #[] #[.pointer (some ⟨B, 0, none⟩)]] w fun e w' => e = .returned (.int .i64 (idx (isId id) l)) ∧ Below w.heap.size w w' := by
  have HLN := Aside0.mk hr.2.1
  have HR := Aside0.mk hr
  have HBC := Aside0.mk hb
  clear hb
  clear hr
  go_enter Tryd.func31, Tryd.ntmps31
  go_upto_region 2 with (fail)
  go_loopg [5, 8] l.length (fun gg _ s8 wr => ∃ kk : Nat, kk ≤ l.length ∧ l.length - kk ≤ gg ∧ s8 = .int .i64 kk ∧ Aside0 (Below w.heap.size w wr) ∧ Aside0 ((l.take kk).any (isId id) = false))
  case atStart => exact ⟨0, Nat.zero_le _, by omega, rfl, ⟨Below.refl _ w⟩, ⟨by simp⟩⟩
  case round =>
    obtain ⟨kk, hkk, hg, rfl, BW, HA⟩ := hrel
    by_cases hlt : kk < l.length
    · have c1b : decide ((kk : Int) < (l.length : Int)) = true := decide_eq_true (Int.ofNat_lt.2 hlt); have c1n : decide (kk < l.length) = true := decide_eq_true hlt; have c1i : ((kk : Int) < (l.length : Int)) = True := eq_true (Int.ofNat_lt.2 hlt); have c1q : (kk < l.length) = True := eq_true hlt; have p0_ := eq_true (Int.natCast_nonneg kk)
      obtain ⟨y, hy⟩ : ∃ y, l[kk]? = some y := ⟨_, List.getElem?_eq_getElem hlt⟩
      obtain ⟨ad, rfl, k0, k1, k2, k3, k4⟩ := rec_now HR.out BW.out kk y hy
      have hcall := first_1 id B y wr (cell_now HBC.out BW.out)
      have HI := Aside0.mk (And.intro hlt hg)
      have HL := Aside0.mk hy
      clear hy hlt hkk hg
      cases hq : (isId id) y with
      | true =>
        rw [hq] at hcall
        have HC := Aside0.mk hcall
        have HQ := Aside0.mk hq
        clear hcall hq
        go_wp2_with (go_at_call 32; refine HC.out.mono ?_; rintro e w' ⟨rfl, hb'⟩; have HB' := Aside0.mk hb'; clear hb')
        go_ret
        rw [idx_found _ l kk y HL.out HQ.out HA.out]
        exact ⟨rfl, BW.out.trans (HB'.out.mono BW.out.size)⟩
      | false =>
        rw [hq] at hcall
        have HC := Aside0.mk hcall
        have HQ := Aside0.mk hq
        clear hcall hq
        go_wp2_with (go_at_call 32; refine HC.out.mono ?_; rintro e w' ⟨rfl, hb'⟩; have HB' := Aside0.mk hb'; clear hb')
        go_roundg (l.length - (kk + 1))
        case measure => have := HI.out; omega
        case rel =>
          refine ⟨kk + 1, by have := HI.out; omega, Nat.le_refl _, congrArg (Value.int .i64) (by have := HI.out; have := HLN.out; unfold wrap64; omega), ⟨BW.out.trans (HB'.out.mono BW.out.size)⟩, ⟨?_⟩⟩
          rw [List.take_add_one, HL.out, List.any_append, HA.out]
          simp [HQ.out]
    · obtain rfl : kk = l.length := by omega
      have c2b : decide ((l.length : Int) < (l.length : Int)) = false := decide_eq_false (by omega)
      go_wp2
      go_ret
      have h := HA.out
      rw [List.take_length] at h
      rw [idx_none _ l h]
      exact ⟨rfl, BW.out⟩
/-! ## first -/
theorem sep_set5 {w0 w : World} {ok0 : Nat → Prop} {F : Asn} {g : Nat} {t : TypeId} {a b c d e : Value} (h : Sep w0 ok0 (pt g #[a, b, c, d, e] t ⋆ F) w) (a' b' c' d' e' : Value) :
    Sep w0 ok0 (pt g #[a', b', c', d', e'] t ⋆ F) (((((w.setCell ⟨g, 0, none⟩ a').setCell ⟨g, 1, none⟩ b').setCell ⟨g, 2, none⟩ c').setCell ⟨g, 3, none⟩ d').setCell ⟨g, 4, none⟩ e') :=
  sep_set (sep_set (sep_set (sep_set (sep_set h 0 a') 1 b') 2 c') 3 d') 4 e'
set_option maxHeartbeats 1000000 in
theorem first_walk (A : Option Addr) (c : Nat) (l : List Rec) (id : Int) (w : World) (hr : recK.C w A l.length l) :
    Calls Tryd.prog 20 #[.slice A l.length c, .int .i64 id] w fun e w' => e = .returned (.tuple #[.agg #[.int .i64 (firstE l id).1.id, .int .i64 (firstE l id).1.st, .int .u32 (firstE l id).1.inc, .int .u32 (firstE l id).1.ip, .int .u16 (firstE l id).1.po], .bool (firstE l id).2]) ∧ Below w.heap.size w w' := by
  have HS := Aside0.mk (sep_start w)
  have HR := Aside0.mk hr
  have HLN := Aside0.mk hr.2.1
  clear hr
  cases ha : l.any (isId id) with
  | false =>
    have hi := idx_none _ l ha
    have hf : firstE l id = (Rec.zero, false) := by unfold firstE; rw [hi, if_pos (by decide)]
    rw [hf]
    have HI := Aside0.mk hi
    clear hi hf ha
    go_enter Tryd.func20, Tryd.ntmps20
    go_upto_region 1 with (fail)
    have n_ := sep_alloc (sep_alloc HS.out #[.int .i64 id] 3) #[.int .i64 0, .int .i64 0, .int .u32 0, .int .u32 0, .int .u16 0] 36
    have n0_ := Aside0.mk n_; clear HS n_; have HS := n0_; clear n0_
    rw [show (w.alloc (.cells #[.int .i64 id] 3)).heap.size = w.heap.size + 1 by simp] at HS
    generalize (w.alloc (.cells #[.int .i64 id] 3)).alloc (.cells #[.int .i64 0, .int .i64 0, .int .u32 0, .int .u32 0, .int .u16 0] 36) = wa at HS ⊢
    generalize w.heap.size + 1 = g4 at HS ⊢
    generalize hsz : w.heap.size = B at HS ⊢
    clear hsz
    obtain ⟨k1, k2, k3, k4, k5⟩ := facts5 HS.out
    obtain ⟨f1, f2, f3, f4, f5⟩ := facts5f HS.out
    go_upto_region 2 with (go_at_call 31; have hx_ := idx_32 id B A c l _ (sep_cell (sep_l1 HS.out) 0) (Kd.C_below HR.out (sep_below_of HS.out)); rw [HI.out] at hx_; (with_reducible refine Calls.mono hx_ ?_); rintro e w1 ⟨rfl, hb_⟩; have n_ := sep_below HS.out hb_; clear hb_ hx_ k1 k2 k3 k4 k5 f1 f2 f3 f4 f5; have n0_ := Aside0.mk n_; clear HS n_; have HS := n0_; clear n0_; obtain ⟨k1, k2, k3, k4, k5⟩ := facts5 HS.out; obtain ⟨f1, f2, f3, f4, f5⟩ := facts5f HS.out)
    go_wp2
    have n_ := sep_set5 HS.out (.int .i64 0) (.int .i64 0) (.int .u32 0) (.int .u32 0) (.int .u16 0)
    refine bodyPost_ret (results_ct rfl _ _ g4 36 #[.int .i64 Rec.zero.id, .int .i64 Rec.zero.st, .int .u32 Rec.zero.inc, .int .u32 Rec.zero.ip, .int .u16 Rec.zero.po] (0, 0) _ rfl (sep_pt n_) Tryd.underlying36 rfl (by kernel_rfl)) rfl ?_
    exact ⟨rfl, sep_below_of n_⟩
  | true =>
    obtain ⟨k, y, hi, hy, -, hk⟩ := idx_at _ l ha
    have hf : firstE l id = (y, true) := by unfold firstE; rw [hi, if_neg (by omega), Int.toNat_natCast, List.getD_eq_getElem?_getD, hy]; rfl
    rw [hf]
    have HI := Aside0.mk hi
    have c1b : decide ((k : Int) < (l.length : Int)) = true := decide_eq_true (Int.ofNat_lt.2 hk); have c1n : decide (k < l.length) = true := decide_eq_true hk; have c1i : ((k : Int) < (l.length : Int)) = True := eq_true (Int.ofNat_lt.2 hk); have c1q : (k < l.length) = True := eq_true hk; have p0_ := eq_true (Int.natCast_nonneg k)
    have d1 : decide ((k : Int) < 0) = false := decide_eq_false (by omega)
    have d2 : ((k : Int) < 0) = False := eq_false (by omega)
    have HY := Aside0.mk hy
    clear hi hf ha hk hy
    go_enter Tryd.func20, Tryd.ntmps20
    go_upto_region 1 with (fail)
    have n_ := sep_alloc (sep_alloc HS.out #[.int .i64 id] 3) #[.int .i64 0, .int .i64 0, .int .u32 0, .int .u32 0, .int .u16 0] 36
    have n0_ := Aside0.mk n_; clear HS n_; have HS := n0_; clear n0_
    rw [show (w.alloc (.cells #[.int .i64 id] 3)).heap.size = w.heap.size + 1 by simp] at HS
    generalize (w.alloc (.cells #[.int .i64 id] 3)).alloc (.cells #[.int .i64 0, .int .i64 0, .int .u32 0, .int .u32 0, .int .u16 0] 36) = wa at HS ⊢
    generalize w.heap.size + 1 = g4 at HS ⊢
    generalize hsz : w.heap.size = B at HS ⊢
    clear hsz
    obtain ⟨k1, k2, k3, k4, k5⟩ := facts5 HS.out
    obtain ⟨f1, f2, f3, f4, f5⟩ := facts5f HS.out
    go_upto_region 2 with (go_at_call 31; have hx_ := idx_32 id B A c l _ (sep_cell (sep_l1 HS.out) 0) (Kd.C_below HR.out (sep_below_of HS.out)); rw [HI.out] at hx_; (with_reducible refine Calls.mono hx_ ?_); rintro e w1 ⟨rfl, hb_⟩; have n_ := sep_below HS.out hb_; clear hb_ hx_ k1 k2 k3 k4 k5 f1 f2 f3 f4 f5; have n0_ := Aside0.mk n_; clear HS n_; have HS := n0_; clear n0_; obtain ⟨k1, k2, k3, k4, k5⟩ := facts5 HS.out; obtain ⟨f1, f2, f3, f4, f5⟩ := facts5f HS.out)
    obtain ⟨ad, rfl, m0, m1, m2, m3, m4⟩ := rec_now HR.out (sep_below_of HS.out) k y HY.out
    go_wp2
    have n_ := sep_set5 HS.out (.int .i64 y.id) (.int .i64 y.st) (.int .u32 y.inc) (.int .u32 y.ip) (.int .u16 y.po)
    refine bodyPost_ret (results_ct rfl _ _ g4 36 #[.int .i64 y.id, .int .i64 y.st, .int .u32 y.inc, .int .u32 y.ip, .int .u16 y.po] (0, 0) _ rfl (sep_pt n_) Tryd.underlying36 rfl (by kernel_rfl)) rfl ?_
    exact ⟨rfl, sep_below_of n_⟩
theorem live_walk (A : Option Addr) (c : Nat) (l : List Rec) (id : Int) (w : World) (hr : recK.C w A l.length l) :
    Calls Tryd.prog 21 #[.slice A l.length c, .int .i64 id] w fun e w' => e = .returned (.bool (liveE l id)) ∧ Below w.heap.size w w' := by
  have HS := Aside0.mk (sep_start w)
  have HR := Aside0.mk hr
  obtain ⟨⟨y, b⟩, hy⟩ : ∃ x, firstE l id = x := ⟨_, rfl⟩
  have hl : liveE l id = (b && liveB y) := by unfold liveE; rw [hy]
  rw [hl]
  have HY := Aside0.mk hy
  have HLV := Aside0.mk (live_f y)
  clear hr hy hl
  cases b with
  | false =>
    go_enter Tryd.func21, Tryd.ntmps21
    go_upto_region 2 with (go_at_call 20; have hx_ := first_walk A c l id _ (Kd.C_below HR.out (sep_below_of HS.out)); rw [HY.out] at hx_; dsimp only at hx_; (with_reducible refine Calls.mono hx_ ?_); rintro e w1 ⟨rfl, hb_⟩; have n_ := sep_below HS.out hb_; clear hb_ hx_; have n0_ := Aside0.mk n_; clear HS n_; have HS := n0_; clear n0_)
    go_wp2
    go_ret
    exact ⟨rfl, sep_below_of (sep_skip HS.out (.cells #[.int .i64 y.id, .int .i64 y.st, .int .u32 y.inc, .int .u32 y.ip, .int .u16 y.po] 36))⟩
  | true =>
    rw [Bool.true_and]
    obtain ⟨b, hb⟩ : ∃ b, liveB y = b := ⟨_, rfl⟩
    rw [hb] at HLV ⊢
    clear hb
    go_enter Tryd.func21, Tryd.ntmps21
    go_upto_region 2 with (go_at_call 20; have hx_ := first_walk A c l id _ (Kd.C_below HR.out (sep_below_of HS.out)); rw [HY.out] at hx_; dsimp only at hx_; (with_reducible refine Calls.mono hx_ ?_); rintro e w1 ⟨rfl, hb_⟩; have n_ := sep_below HS.out hb_; clear hb_ hx_; have n0_ := Aside0.mk n_; clear HS n_; have HS := n0_; clear n0_)
    have n_ := sep_alloc HS.out #[.int .i64 y.id, .int .i64 y.st, .int .u32 y.inc, .int .u32 y.ip, .int .u16 y.po] 36
    have n0_ := Aside0.mk n_; clear HS n_; have HS := n0_; clear n0_
    generalize w1.alloc (.cells #[.int .i64 y.id, .int .i64 y.st, .int .u32 y.inc, .int .u32 y.ip, .int .u16 y.po] 36) = wa at HS ⊢
    generalize w1.heap.size = g5 at HS ⊢
    obtain ⟨m1, m2, m3, m4, m5⟩ := facts5 HS.out
    go_wp2_with (go_at_call 16; (with_reducible refine Calls.mono (record_Record_Live.calls y.id y.st y.inc y.ip y.po b _ HLV.out) ?_); rintro e w1 ⟨rfl, hb_⟩; have n_ := sep_below HS.out hb_; clear hb_; have n0_ := Aside0.mk n_; clear HS n_; have HS := n0_; clear n0_; skip)
    go_ret
    exact ⟨rfl, sep_below_of HS.out⟩
end Go.Proofs.YthncipgafdfnfaaDoor.JW
