/- The judge: Rises, Stranger. Conditions: those that each theorem names. -/
import Derived.Test.YthncipgafdfnfaaDoorJA
namespace Go.Proofs.YthncipgafdfnfaaDoor.JW
set_option linter.unusedVariables false
set_option linter.unusedSimpArgs false
open Go Go.RowKit Go.Proofs.YthncipgafdfnfaaDoorS Go.Proofs.YthncipgafdfnfaaDoorS.Asn Go.Proofs.YthncipgafdfnfaaDoor.PA Go.Proofs.YthncipgafdfnfaaDoorW.PrintWords Go.Proofs.YthncipgafdfnfaaDoorW.PrintLast Go.Proofs.YthncipgafdfnfaaDoorW.PrintMore
set_option maxHeartbeats 1000000 in
theorem rises_1 (B : Nat) (Ab : Option Addr) (cb : Nat) (lb : List Rec) (x : Rec) (W : World) (hb : W.cell? ⟨B, 0, none⟩ = some (.slice Ab lb.length cb)) (hl : recK.C W Ab lb.length lb) :
    Calls Tryd.prog 19 #[.agg #[.int .i64 x.id, .int .i64 x.st, .int .u32 x.inc, .int .u32 x.ip, .int .u16 x.po], .pointer (some ⟨B, 0, none⟩)] W fun e w' => e = .returned (.bool (badB lb x)) ∧ Below W.heap.size W w' := by
  have HS := Aside0.mk (sep_start W)
  have HBC := Aside0.mk hb
  have HR := Aside0.mk hl
  obtain ⟨⟨y, b⟩, hy⟩ : ∃ z, firstE lb x.id = z := ⟨_, rfl⟩
  have hd : badB lb x = (!b || decide (order y x < 0)) := by unfold badB; rw [hy]
  rw [hd]
  have HY := Aside0.mk hy
  have HO := Aside0.mk (order_f y x)
  obtain ⟨o, ho⟩ : ∃ o, order y x = o := ⟨_, rfl⟩
  rw [ho] at HO ⊢
  clear hb hl hy hd ho
  cases b with
  | false =>
    rw [Bool.not_false, Bool.true_or]
    go_enter Tryd.func19, Tryd.ntmps19
    go_upto_region 1 with (fail)
    have n_ := sep_alloc HS.out #[.int .i64 x.id, .int .i64 x.st, .int .u32 x.inc, .int .u32 x.ip, .int .u16 x.po] 36
    have n0_ := Aside0.mk n_; clear HS n_; have HS := n0_; clear n0_
    generalize W.alloc (.cells #[.int .i64 x.id, .int .i64 x.st, .int .u32 x.inc, .int .u32 x.ip, .int .u16 x.po] 36) = wa at HS ⊢
    generalize W.heap.size = g2 at HS ⊢
    obtain ⟨k1, k2, k3, k4, k5⟩ := facts5 HS.out
    have kb := cell_now HBC.out (sep_below_of HS.out)
    go_upto_region 2 with (go_at_call 20; have hx_ := first_walk Ab cb lb x.id _ (Kd.C_below HR.out (sep_below_of HS.out)); rw [HY.out] at hx_; dsimp only at hx_; (with_reducible refine Calls.mono hx_ ?_); rintro e w1 ⟨rfl, hb_⟩; have n_ := sep_below HS.out hb_; clear hb_ hx_ k1 k2 k3 k4 k5 kb; have n0_ := Aside0.mk n_; clear HS n_; have HS := n0_; clear n0_)
    have n_ := sep_alloc HS.out #[.int .i64 y.id, .int .i64 y.st, .int .u32 y.inc, .int .u32 y.ip, .int .u16 y.po] 36
    have n0_ := Aside0.mk n_; clear HS n_; have HS := n0_; clear n0_
    generalize w1.alloc (.cells #[.int .i64 y.id, .int .i64 y.st, .int .u32 y.inc, .int .u32 y.ip, .int .u16 y.po] 36) = wc at HS ⊢
    generalize w1.heap.size = g4 at HS ⊢
    obtain ⟨k1, k2, k3, k4, k5⟩ := facts5 (sep_l1 HS.out)
    obtain ⟨m1, m2, m3, m4, m5⟩ := facts5 HS.out
    go_wp2
    go_ret
    exact ⟨rfl, sep_below_of HS.out⟩
  | true =>
    rw [Bool.not_true, Bool.false_or]
    go_enter Tryd.func19, Tryd.ntmps19
    go_upto_region 1 with (fail)
    have n_ := sep_alloc HS.out #[.int .i64 x.id, .int .i64 x.st, .int .u32 x.inc, .int .u32 x.ip, .int .u16 x.po] 36
    have n0_ := Aside0.mk n_; clear HS n_; have HS := n0_; clear n0_
    generalize W.alloc (.cells #[.int .i64 x.id, .int .i64 x.st, .int .u32 x.inc, .int .u32 x.ip, .int .u16 x.po] 36) = wa at HS ⊢
    generalize W.heap.size = g2 at HS ⊢
    obtain ⟨k1, k2, k3, k4, k5⟩ := facts5 HS.out
    have kb := cell_now HBC.out (sep_below_of HS.out)
    go_upto_region 2 with (go_at_call 20; have hx_ := first_walk Ab cb lb x.id _ (Kd.C_below HR.out (sep_below_of HS.out)); rw [HY.out] at hx_; dsimp only at hx_; (with_reducible refine Calls.mono hx_ ?_); rintro e w1 ⟨rfl, hb_⟩; have n_ := sep_below HS.out hb_; clear hb_ hx_ k1 k2 k3 k4 k5 kb; have n0_ := Aside0.mk n_; clear HS n_; have HS := n0_; clear n0_)
    have n_ := sep_alloc HS.out #[.int .i64 y.id, .int .i64 y.st, .int .u32 y.inc, .int .u32 y.ip, .int .u16 y.po] 36
    have n0_ := Aside0.mk n_; clear HS n_; have HS := n0_; clear n0_
    generalize w1.alloc (.cells #[.int .i64 y.id, .int .i64 y.st, .int .u32 y.inc, .int .u32 y.ip, .int .u16 y.po] 36) = wc at HS ⊢
    generalize w1.heap.size = g4 at HS ⊢
    obtain ⟨k1, k2, k3, k4, k5⟩ := facts5 (sep_l1 HS.out)
    obtain ⟨m1, m2, m3, m4, m5⟩ := facts5 HS.out
    go_wp2_with (go_at_call 17; (with_reducible refine Calls.mono (record_Order.calls 5 y.id y.st y.inc y.ip y.po x.id x.st x.inc x.ip x.po _ _ HO.out) ?_); rintro e w1 ⟨rfl, hb_⟩; have n_ := sep_below HS.out hb_; clear hb_; have n0_ := Aside0.mk n_; clear HS n_; have HS := n0_; clear n0_; skip)
    go_ret
    exact ⟨rfl, sep_below_of HS.out⟩
set_option maxHeartbeats 1000000 in
theorem idx_19 (B : Nat) (Ab : Option Addr) (cb : Nat) (lb : List Rec) (A : Option Addr) (c : Nat) (l : List Rec) (w : World) (hb : w.cell? ⟨B, 0, none⟩ = some (.slice Ab lb.length cb)) (hl : recK.C w Ab lb.length lb) (hr : recK.C w A l.length l) :
    Calls Tryd.prog 31 #[.slice A l.length c, .func (.func 19) #[] #[.pointer (some ⟨B, 0, none⟩)]] w fun e w' => e = .returned (.int .i64 (idx (badB lb) l)) ∧ Below w.heap.size w w' := by
  have HLN := Aside0.mk hr.2.1
  have HR := Aside0.mk hr
  have HBC := Aside0.mk hb
  have HLB := Aside0.mk hl
  clear hb hl
  clear hr
  go_enter Tryd.func31, Tryd.ntmps31
  go_upto_region 2 with (fail)
  go_loopg [5, 8] l.length (fun gg _ s8 wr => ∃ kk : Nat, kk ≤ l.length ∧ l.length - kk ≤ gg ∧ s8 = .int .i64 kk ∧ Aside0 (Below w.heap.size w wr) ∧ Aside0 ((l.take kk).any (badB lb) = false))
  case atStart => exact ⟨0, Nat.zero_le _, by omega, rfl, ⟨Below.refl _ w⟩, ⟨by simp⟩⟩
  case round =>
    obtain ⟨kk, hkk, hg, rfl, BW, HA⟩ := hrel
    by_cases hlt : kk < l.length
    · have c1b : decide ((kk : Int) < (l.length : Int)) = true := decide_eq_true (Int.ofNat_lt.2 hlt); have c1n : decide (kk < l.length) = true := decide_eq_true hlt; have c1i : ((kk : Int) < (l.length : Int)) = True := eq_true (Int.ofNat_lt.2 hlt); have c1q : (kk < l.length) = True := eq_true hlt; have p0_ := eq_true (Int.natCast_nonneg kk)
      obtain ⟨y, hy⟩ : ∃ y, l[kk]? = some y := ⟨_, List.getElem?_eq_getElem hlt⟩
      obtain ⟨ad, rfl, k0, k1, k2, k3, k4⟩ := rec_now HR.out BW.out kk y hy
      have hcall := rises_1 B Ab cb lb y wr (cell_now HBC.out BW.out) (Kd.C_below HLB.out BW.out)
      have HI := Aside0.mk (And.intro hlt hg)
      have HL := Aside0.mk hy
      clear hy hlt hkk hg
      cases hq : (badB lb) y with
      | true =>
        rw [hq] at hcall
        have HC := Aside0.mk hcall
        have HQ := Aside0.mk hq
        clear hcall hq
        go_wp2_with (go_at_call 19; refine HC.out.mono ?_; rintro e w' ⟨rfl, hb'⟩; have HB' := Aside0.mk hb'; clear hb')
        go_ret
        rw [idx_found _ l kk y HL.out HQ.out HA.out]
        exact ⟨rfl, BW.out.trans (HB'.out.mono BW.out.size)⟩
      | false =>
        rw [hq] at hcall
        have HC := Aside0.mk hcall
        have HQ := Aside0.mk hq
        clear hcall hq
        go_wp2_with (go_at_call 19; refine HC.out.mono ?_; rintro e w' ⟨rfl, hb'⟩; have HB' := Aside0.mk hb'; clear hb')
        go_roundg (l.length - (kk + 1))
        case measure => have := HI.out; omega
        case rel =>
          refine ⟨kk + 1, by have := HI.out; omega, Nat.le_refl _, congrArg (Value.int .i64) (by have := HI.out; have := HLN.out; unfold wrap64; omega), ⟨BW.out.trans (HB'.out.mono BW.out.size)⟩, ⟨?_⟩⟩
          rw [List.take_add_one, HL.out, List.any_append, HA.out]
          simp [HQ.out]
    · obtain rfl : kk = l.length := by omega
      have c2b : decide ((l.length : Int) < (l.length : Int)) = false := decide_eq_false (by omega)
      go_wp2
      go_ret
      have h := HA.out
      rw [List.take_length] at h
      rw [idx_none _ l h]
      exact ⟨rfl, BW.out⟩
theorem has_19 (B : Nat) (Ab : Option Addr) (cb : Nat) (lb : List Rec) (A : Option Addr) (c : Nat) (l : List Rec) (w : World) (hb : w.cell? ⟨B, 0, none⟩ = some (.slice Ab lb.length cb)) (hl : recK.C w Ab lb.length lb) (hr : recK.C w A l.length l) :
    Calls Tryd.prog 18 #[.slice A l.length c, .func (.func 19) #[] #[.pointer (some ⟨B, 0, none⟩)]] w fun e w' => e = .returned (.bool (l.any (badB lb))) ∧ Below w.heap.size w w' := by
  have hcall := idx_19 B Ab cb lb A c l w hb hl hr
  rw [← idx_ge]
  clear hr
  go_enter Tryd.func18, Tryd.ntmps18
  go_wp2_with (go_at_call 31; refine hcall.mono ?_; rintro e w' ⟨rfl, hb'⟩)
  go_ret
  exact ⟨rfl, hb'⟩
theorem rises_walk (A Ab : Option Addr) (c cb : Nat) (l lb : List Rec) (w : World) (hr : recK.C w A l.length l) (hl : recK.C w Ab lb.length lb) :
    Calls Tryd.prog 11 #[.slice A l.length c, .slice Ab lb.length cb] w fun e w' => e = .returned (.bool (risesE l lb)) ∧ Below w.heap.size w w' := by
  have HS := Aside0.mk (sep_start w)
  have HR := Aside0.mk hr
  have HLB := Aside0.mk hl
  obtain ⟨b, hb⟩ : ∃ b, l.any (badB lb) = b := ⟨_, rfl⟩
  have hd : risesE l lb = !b := by unfold risesE; rw [hb]
  rw [hd]
  have HB := Aside0.mk hb
  clear hr hl hb hd
  go_enter Tryd.func11, Tryd.ntmps11
  go_upto_region 1 with (fail)
  have n_ := sep_alloc HS.out #[.slice Ab lb.length cb] 24
  have n0_ := Aside0.mk n_; clear HS n_; have HS := n0_; clear n0_
  generalize w.alloc (.cells #[.slice Ab lb.length cb] 24) = wa at HS ⊢
  generalize w.heap.size = g3 at HS ⊢
  go_wp2_with (go_at_call 18; have hx_ := has_19 g3 Ab cb lb A c l _ (sep_cell HS.out 0) (Kd.C_below HLB.out (sep_below_of HS.out)) (Kd.C_below HR.out (sep_below_of HS.out)); rw [HB.out] at hx_; (with_reducible refine Calls.mono hx_ ?_); rintro e w1 ⟨rfl, hb_⟩; have n_ := sep_below HS.out hb_; clear hb_ hx_; have n0_ := Aside0.mk n_; clear HS n_; have HS := n0_; clear n0_)
  go_ret
  exact ⟨rfl, sep_below_of HS.out⟩
/-! ## Stranger -/
theorem strange_1 (B : Nat) (r x : Rec) (W : World) (h1 : W.cell? ⟨B, 0, none⟩ = some (.int .i64 r.id)) (h2 : W.cell? ⟨B, 1, none⟩ = some (.int .i64 r.st)) (h3 : W.cell? ⟨B, 2, none⟩ = some (.int .u32 r.inc)) (h4 : W.cell? ⟨B, 3, none⟩ = some (.int .u32 r.ip)) (h5 : W.cell? ⟨B, 4, none⟩ = some (.int .u16 r.po)) :
    Calls Tryd.prog 22 #[.agg #[.int .i64 x.id, .int .i64 x.st, .int .u32 x.inc, .int .u32 x.ip, .int .u16 x.po], .pointer (some ⟨B, 0, none⟩)] W fun e w' => e = .returned (.bool (ownB r x)) ∧ Below W.heap.size W w' := by
  have HS := Aside0.mk (sep_start W)
  obtain ⟨x0, x1, x2, x3, x4⟩ := x
  obtain ⟨r0, r1, r2, r3, r4⟩ := r
  dsimp only at h1 h2 h3 h4 h5 ⊢
  go_enter Tryd.func22, Tryd.ntmps22
  go_upto_region 1 with (fail)
  have n_ := sep_alloc HS.out #[.int .i64 x0, .int .i64 x1, .int .u32 x2, .int .u32 x3, .int .u16 x4] 36
  have n0_ := Aside0.mk n_; clear HS n_; have HS := n0_; clear n0_
  replace h1 := cell_now h1 (sep_below_of HS.out)
  replace h2 := cell_now h2 (sep_below_of HS.out)
  replace h3 := cell_now h3 (sep_below_of HS.out)
  replace h4 := cell_now h4 (sep_below_of HS.out)
  replace h5 := cell_now h5 (sep_below_of HS.out)
  generalize W.alloc (.cells #[.int .i64 x0, .int .i64 x1, .int .u32 x2, .int .u32 x3, .int .u16 x4] 36) = wa at HS h1 h2 h3 h4 h5 ⊢
  generalize W.heap.size = g2 at HS ⊢
  obtain ⟨k1, k2, k3, k4, k5⟩ := facts5 HS.out
  go_wp2
  all_goals (go_ret; refine ⟨?_, sep_below_of HS.out⟩; clear HS h1 h2 h3 h4 h5 k1 k2 k3 k4 k5; simp_all [ownB] <;> rfl)
set_option maxHeartbeats 1000000 in
theorem idx_22 (B : Nat) (r : Rec) (A : Option Addr) (c : Nat) (l : List Rec) (w : World) (h1 : w.cell? ⟨B, 0, none⟩ = some (.int .i64 r.id)) (h2 : w.cell? ⟨B, 1, none⟩ = some (.int .i64 r.st)) (h3 : w.cell? ⟨B, 2, none⟩ = some (.int .u32 r.inc)) (h4 : w.cell? ⟨B, 3, none⟩ = some (.int .u32 r.ip)) (h5 : w.cell? ⟨B, 4, none⟩ = some (.int .u16 r.po)) (hr : recK.C w A l.length l) :
    Calls Tryd.prog 31 #[.slice A l.length c, .func (.func 22) #[] #[.pointer (some ⟨B, 0, none⟩)]] w fun e w' => e = .returned (.int .i64 (idx (ownB r) l)) ∧ Below w.heap.size w w' := by
  have HLN := Aside0.mk hr.2.1
  have HR := Aside0.mk hr
  have H5 := Aside0.mk (And.intro h1 (And.intro h2 (And.intro h3 (And.intro h4 h5))))
  clear h1 h2 h3 h4 h5
  clear hr
  go_enter Tryd.func31, Tryd.ntmps31
  go_upto_region 2 with (fail)
  go_loopg [5, 8] l.length (fun gg _ s8 wr => ∃ kk : Nat, kk ≤ l.length ∧ l.length - kk ≤ gg ∧ s8 = .int .i64 kk ∧ Aside0 (Below w.heap.size w wr) ∧ Aside0 ((l.take kk).any (ownB r) = false))
  case atStart => exact ⟨0, Nat.zero_le _, by omega, rfl, ⟨Below.refl _ w⟩, ⟨by simp⟩⟩
  case round =>
    obtain ⟨kk, hkk, hg, rfl, BW, HA⟩ := hrel
    by_cases hlt : kk < l.length
    · have c1b : decide ((kk : Int) < (l.length : Int)) = true := decide_eq_true (Int.ofNat_lt.2 hlt); have c1n : decide (kk < l.length) = true := decide_eq_true hlt; have c1i : ((kk : Int) < (l.length : Int)) = True := eq_true (Int.ofNat_lt.2 hlt); have c1q : (kk < l.length) = True := eq_true hlt; have p0_ := eq_true (Int.natCast_nonneg kk)
      obtain ⟨y, hy⟩ : ∃ y, l[kk]? = some y := ⟨_, List.getElem?_eq_getElem hlt⟩
      obtain ⟨ad, rfl, k0, k1, k2, k3, k4⟩ := rec_now HR.out BW.out kk y hy
      have hcall := strange_1 B r y wr (cell_now H5.out.1 BW.out) (cell_now H5.out.2.1 BW.out) (cell_now H5.out.2.2.1 BW.out) (cell_now H5.out.2.2.2.1 BW.out) (cell_now H5.out.2.2.2.2 BW.out)
      have HI := Aside0.mk (And.intro hlt hg)
      have HL := Aside0.mk hy
      clear hy hlt hkk hg
      cases hq : (ownB r) y with
      | true =>
        rw [hq] at hcall
        have HC := Aside0.mk hcall
        have HQ := Aside0.mk hq
        clear hcall hq
        go_wp2_with (go_at_call 22; refine HC.out.mono ?_; rintro e w' ⟨rfl, hb'⟩; have HB' := Aside0.mk hb'; clear hb')
        go_ret
        rw [idx_found _ l kk y HL.out HQ.out HA.out]
        exact ⟨rfl, BW.out.trans (HB'.out.mono BW.out.size)⟩
      | false =>
        rw [hq] at hcall
        have HC := Aside0.mk hcall
        have HQ := Aside0.mk hq
        clear hcall hq
        go_wp2_with (go_at_call 22; refine HC.out.mono ?_; rintro e w' ⟨rfl, hb'⟩; have HB' := Aside0.mk hb'; clear hb')
        go_roundg (l.length - (kk + 1))
        case measure => have := HI.out; omega
        case rel =>
          refine ⟨kk + 1, by have := HI.out; omega, Nat.le_refl _, congrArg (Value.int .i64) (by have := HI.out; have := HLN.out; unfold wrap64; omega), ⟨BW.out.trans (HB'.out.mono BW.out.size)⟩, ⟨?_⟩⟩
          rw [List.take_add_one, HL.out, List.any_append, HA.out]
          simp [HQ.out]
    · obtain rfl : kk = l.length := by omega
      have c2b : decide ((l.length : Int) < (l.length : Int)) = false := decide_eq_false (by omega)
      go_wp2
      go_ret
      have h := HA.out
      rw [List.take_length] at h
      rw [idx_none _ l h]
      exact ⟨rfl, BW.out⟩
theorem has_22 (B : Nat) (r : Rec) (A : Option Addr) (c : Nat) (l : List Rec) (w : World) (h1 : w.cell? ⟨B, 0, none⟩ = some (.int .i64 r.id)) (h2 : w.cell? ⟨B, 1, none⟩ = some (.int .i64 r.st)) (h3 : w.cell? ⟨B, 2, none⟩ = some (.int .u32 r.inc)) (h4 : w.cell? ⟨B, 3, none⟩ = some (.int .u32 r.ip)) (h5 : w.cell? ⟨B, 4, none⟩ = some (.int .u16 r.po)) (hr : recK.C w A l.length l) :
    Calls Tryd.prog 18 #[.slice A l.length c, .func (.func 22) #[] #[.pointer (some ⟨B, 0, none⟩)]] w fun e w' => e = .returned (.bool (l.any (ownB r))) ∧ Below w.heap.size w w' := by
  have hcall := idx_22 B r A c l w h1 h2 h3 h4 h5 hr
  rw [← idx_ge]
  clear hr
  go_enter Tryd.func18, Tryd.ntmps18
  go_wp2_with (go_at_call 31; refine hcall.mono ?_; rintro e w' ⟨rfl, hb'⟩)
  go_ret
  exact ⟨rfl, hb'⟩
/-- Lists of records. -/
abbrev llK : Kd (List Rec) := Kd.slice 36 recK
theorem ll_at {w : World} {A : Option Addr} {ll : List (List Rec)} (h : llK.C w A ll.length ll) (i : Nat) (l : List Rec) (hl : ll[i]? = some l) :
    ∃ (ad : Addr) (A' : Option Addr) (c' : Nat), A = some ad ∧ w.cell? (ad.add i) = some (.slice A' l.length c') ∧ l.length ≤ c' ∧ recK.C w A' l.length l := by
  obtain ⟨hi, he⟩ := List.getElem?_eq_some_iff.1 hl
  obtain ⟨h0, h1, h2⟩ := h
  obtain ⟨ad, rfl, hc⟩ := h2 (by omega)
  obtain ⟨c, hlen, ⟨A', c', rfl, hle, hC⟩, hcell⟩ := hc i l hl
  have := hcell 0 _ rfl
  rw [show i * llK.sz + 0 = i from Nat.mul_one i] at this
  exact ⟨ad, A', c', rfl, this, hle, hC⟩
def StrRel (w : World) (l : List Rec) (told : List (List Rec)) (kq : Nat) (v5 : Value) (w' : World) : Prop :=
  ∃ i : Nat, i ≤ l.length ∧ l.length + 1 - i ≤ kq ∧ v5 = .int .i64 ((i : Int) - 1) ∧ Aside0 (Sep w (fun _ => False) emp w') ∧ Aside0 ((l.take i).any (strange told) = false)
set_option maxHeartbeats 4000000 in
set_option maxRecDepth 100000 in
theorem stranger_walk (A At : Option Addr) (c ct : Nat) (l : List Rec) (told : List (List Rec)) (w : World) (hr : recK.C w A l.length l) (ht : llK.C w At told.length told) :
    Calls Tryd.prog 14 #[.slice A l.length c, .slice At told.length ct] w fun e w' => e = .returned (.int .i64 (strangerE l told)) ∧ Below w.heap.size w w' := by
  have HS := Aside0.mk (sep_start w)
  have HR := Aside0.mk hr
  have HT := Aside0.mk ht
  have HLN := Aside0.mk hr.2.1
  clear hr ht
  go_enter Tryd.func14, Tryd.ntmps14
  go_wp2_with (first | (refine Go.Proofs.YthncipgafdfnfaaDoorX.wp_scope_k ?_; intro Jg hJg; have HJg := Aside0.mk hJg; clear hJg))
  refine wp_label ?_
  go_step
  (first | (show Code.wp _ _ _ _ _) | go_step)
  refine Go.Proofs.YthncipgafdfnfaaDoorX.wp_label_ghost 0 [5, 6, 7, 8, 9, 10, 11, 12, 13, 14, 15, 16, 17, 18, 19, 20, 21, 22, 23, 24, 25, 26, 27, 28, 29, 30, 31, 32, 33, 34, 35, 36, 37] (fun kq u w' => (StrRel w l told) kq (u 5) w') (l.length+1) ?hJ ?atStart ?round
  case hJ => exact fun a w h => HJg.out _ _ _ _ rfl (Go.Proofs.YthncipgafdfnfaaDoorX.wp_skip_seq h)
  case atStart => exact ⟨0, Nat.zero_le _, by omega, rfl, HS, ⟨by simp⟩⟩
  case round =>
    clear HS
    intro gk u wr hrel Ji hI hH
    have hL : ∀ (kq : Nat) (u5 u6 u7 u8 u9 u10 u11 u12 u13 u14 u15 u16 u17 u18 u19 u20 u21 u22 u23 u24 u25 u26 u27 u28 u29 u30 u31 u32 u33 u34 u35 u36 u37 : Value) (w' : World), (StrRel w l told) kq u5 w' → Ji kq ⟨Go.Proofs.YthncipgafdfnfaaDoorX.setAll _ [5, 6, 7, 8, 9, 10, 11, 12, 13, 14, 15, 16, 17, 18, 19, 20, 21, 22, 23, 24, 25, 26, 27, 28, 29, 30, 31, 32, 33, 34, 35, 36, 37] (Go.Proofs.YthncipgafdfnfaaDoorX.sel [(5, u5), (6, u6), (7, u7), (8, u8), (9, u9), (10, u10), (11, u11), (12, u12), (13, u13), (14, u14), (15, u15), (16, u16), (17, u17), (18, u18), (19, u19), (20, u20), (21, u21), (22, u22), (23, u23), (24, u24), (25, u25), (26, u26), (27, u27), (28, u28), (29, u29), (30, u30), (31, u31), (32, u32), (33, u33), (34, u34), (35, u35), (36, u36), (37, u37)]), _⟩ w' := fun kq u5 u6 u7 u8 u9 u10 u11 u12 u13 u14 u15 u16 u17 u18 u19 u20 u21 u22 u23 u24 u25 u26 u27 u28 u29 u30 u31 u32 u33 u34 u35 u36 u37 w' h => hI kq _ w' ⟨Go.Proofs.YthncipgafdfnfaaDoorX.sel [(5, u5), (6, u6), (7, u7), (8, u8), (9, u9), (10, u10), (11, u11), (12, u12), (13, u13), (14, u14), (15, u15), (16, u16), (17, u17), (18, u18), (19, u19), (20, u20), (21, u21), (22, u22), (23, u23), (24, u24), (25, u25), (26, u26), (27, u27), (28, u28), (29, u29), (30, u30), (31, u31), (32, u32), (33, u33), (34, u34), (35, u35), (36, u36), (37, u37)], h, rfl⟩
    clear hI
    simp only [Go.Proofs.YthncipgafdfnfaaDoorX.setAll, Go.Proofs.YthncipgafdfnfaaDoorX.sel, Nat.reduceEqDiff, ↓reduceIte, List.setIfInBounds_toArray, List.set_cons_zero, List.set_cons_succ] at hL
    simp only [Go.Proofs.YthncipgafdfnfaaDoorX.setAll, Go.Proofs.YthncipgafdfnfaaDoorX.sel, Nat.reduceEqDiff, ↓reduceIte, List.setIfInBounds_toArray, List.set_cons_zero, List.set_cons_succ]
    generalize u 5 = u5 at hrel ⊢
    generalize u 6 = u6 at hrel ⊢
    generalize u 7 = u7 at hrel ⊢
    generalize u 8 = u8 at hrel ⊢
    generalize u 9 = u9 at hrel ⊢
    generalize u 10 = u10 at hrel ⊢
    generalize u 11 = u11 at hrel ⊢
    generalize u 12 = u12 at hrel ⊢
    generalize u 13 = u13 at hrel ⊢
    generalize u 14 = u14 at hrel ⊢
    generalize u 15 = u15 at hrel ⊢
    generalize u 16 = u16 at hrel ⊢
    generalize u 17 = u17 at hrel ⊢
    generalize u 18 = u18 at hrel ⊢
    generalize u 19 = u19 at hrel ⊢
    generalize u 20 = u20 at hrel ⊢
    generalize u 21 = u21 at hrel ⊢
    generalize u 22 = u22 at hrel ⊢
    generalize u 23 = u23 at hrel ⊢
    generalize u 24 = u24 at hrel ⊢
    generalize u 25 = u25 at hrel ⊢
    generalize u 26 = u26 at hrel ⊢
    generalize u 27 = u27 at hrel ⊢
    generalize u 28 = u28 at hrel ⊢
    generalize u 29 = u29 at hrel ⊢
    generalize u 30 = u30 at hrel ⊢
    generalize u 31 = u31 at hrel ⊢
    generalize u 32 = u32 at hrel ⊢
    generalize u 33 = u33 at hrel ⊢
    generalize u 34 = u34 at hrel ⊢
    generalize u 35 = u35 at hrel ⊢
    generalize u 36 = u36 at hrel ⊢
    generalize u 37 = u37 at hrel ⊢
    clear u
    obtain ⟨i, hi, hgi, rfl, HS, HA⟩ := hrel
    have w1_ : wrap64 (i : Int) = (i : Int) := by have := HLN.out; unfold wrap64; omega
    have HW := Aside0.mk w1_
    by_cases hlt : i < l.length
    · have HI := Aside0.mk (And.intro hlt hgi)
      have c1b : decide ((i : Int) < (l.length : Int)) = true := decide_eq_true (Int.ofNat_lt.2 hlt); have c1n : decide (i < l.length) = true := decide_eq_true hlt; have c1i : ((i : Int) < (l.length : Int)) = True := eq_true (Int.ofNat_lt.2 hlt); have c1q : (i < l.length) = True := eq_true hlt; have p0_ := eq_true (Int.natCast_nonneg i)
      have e1 : ((i : Int) == (l.length : Int)) = false := by rw [beq_eq_false_iff_ne]; omega
      have e2 : ((i : Int) = (l.length : Int)) = False := eq_false (by omega)
      have e3 : (i = l.length) = False := eq_false (by omega)
      obtain ⟨y, hy⟩ : ∃ y, l[i]? = some y := ⟨_, List.getElem?_eq_getElem hlt⟩
      have HY := Aside0.mk hy
      obtain ⟨ad, rfl, k0, k1, k2, k3, k4⟩ := rec_now HR.out (sep_below_of HS.out) i y hy
      clear hi hgi hlt hy
      go_upto_region 6 with (fail)
      have n_ := sep_alloc HS.out #[.int .i64 y.id, .int .i64 y.st, .int .u32 y.inc, .int .u32 y.ip, .int .u16 y.po] 36
      have n0_ := Aside0.mk n_; clear HS n_; have HS := n0_; clear n0_
      generalize wr.alloc (.cells #[.int .i64 y.id, .int .i64 y.st, .int .u32 y.inc, .int .u32 y.ip, .int .u16 y.po] 36) = wa at HS ⊢
      generalize wr.heap.size = g6 at HS ⊢
      clear k0 k1 k2 k3 k4 w1_ e1 e2 e3
      obtain ⟨k1, k2, k3, k4, k5⟩ := facts5 HS.out
      by_cases q1 : y.id < 1
      · have d1 : decide (y.id < 1) = true := decide_eq_true q1
        have HST : Aside0 (strange told y = true) := ⟨by unfold strange; rw [decide_eq_true (.inl q1), Bool.true_or]⟩
        clear q1
        go_wp2
        (try rw [Go.Proofs.YthncipgafdfnfaaDoorX.jumps_ret])
        go_ret
        have hs := HST.out
        unfold strangerE
        rw [idx_found _ l i y HY.out hs HA.out]
        refine ⟨?_, sep_below_of HS.out⟩
        show Ending.returned (Value.int .i64 (wrap64 (i : Int))) = _
        rw [HW.out]
      · have d1 : decide (y.id < 1) = false := decide_eq_false q1
        by_cases q2 : (told.length : Int) < y.id
        · have d2 : decide ((told.length : Int) < y.id) = true := decide_eq_true q2
          have d3 : decide (y.id > (told.length : Int)) = true := decide_eq_true q2
          have HST : Aside0 (strange told y = true) := ⟨by unfold strange; rw [decide_eq_true (.inr q2), Bool.true_or]⟩
          clear q1 q2
          go_wp2
          (try rw [Go.Proofs.YthncipgafdfnfaaDoorX.jumps_ret])
          go_ret
          have hs := HST.out
          unfold strangerE
          rw [idx_found _ l i y HY.out hs HA.out]
          refine ⟨?_, sep_below_of HS.out⟩
          show Ending.returned (Value.int .i64 (wrap64 (i : Int))) = _
          rw [HW.out]
        · have d2 : decide ((told.length : Int) < y.id) = false := decide_eq_false q2
          have d3 : decide (y.id > (told.length : Int)) = false := decide_eq_false q2
          have d4 := eq_false q2
          obtain ⟨j, hj⟩ : ∃ j : Nat, y.id - 1 = (j : Int) := ⟨(y.id - 1).toNat, by omega⟩
          have hjl : j < told.length := by omega
          obtain ⟨lt, hlt⟩ : ∃ lt, told[j]? = some lt := ⟨_, List.getElem?_eq_getElem hjl⟩
          obtain ⟨at_, A', c', hAt, ka, hle, hC⟩ := ll_at (Kd.C_below HT.out (sep_below_of HS.out)) j lt hlt
          subst hAt
          have w2_ : wrap64 (y.id - 1) = (j : Int) := by have := HT.out.2.1; unfold wrap64; omega
          have j1 := eq_true (Int.natCast_nonneg j)
          have j2 : ((j : Int) < (told.length : Int)) = True := eq_true (by omega)
          have j3 := eq_true hjl
          have HLC := Aside0.mk hC
          obtain ⟨b, hb⟩ : ∃ b, lt.any (ownB y) = b := ⟨_, rfl⟩
          have hst : strange told y = !b := by
            unfold strange
            rw [decide_eq_false (by omega), Bool.false_or, hj, Int.toNat_natCast, List.getD_eq_getElem?_getD, hlt, Option.getD_some, hb]
          have HB := Aside0.mk hb
          have HST := Aside0.mk hst
          clear q1 q2 hj hjl hlt hle hC hb hst
          cases b with
          | true =>
            go_wp2_with (go_at_call 18; have hx_ := has_22 g6 y A' c' lt _ k1 k2 k3 k4 k5 (Kd.C_below HLC.out (Below.refl _ _)); rw [HB.out] at hx_; (with_reducible refine Calls.mono hx_ ?_); rintro e w1 ⟨rfl, hb_⟩; have n_ := sep_below HS.out hb_; clear hb_ hx_ k1 k2 k3 k4 k5 ka; have n0_ := Aside0.mk n_; clear HS n_; have HS := n0_; clear n0_)
            have n_ := sep_drop HS.out
            have n0_ := Aside0.mk n_; clear HS n_; have HS := n0_; clear n0_
            refine wp_goto ?_
            refine hH _ _ ?_
            refine Handed.intro (l.length + 1 - (i + 1)) ?measure ?_
            rotate_left
            refine hL _ _ _ _ _ _ _ _ _ _ _ _ _ _ _ _ _ _ _ _ _ _ _ _ _ _ _ _ _ _ _ _ _ _ _ ?rel
            case measure => have := HI.out; omega
            case rel =>
              refine ⟨i + 1, HI.out.1, Nat.le_refl _, congrArg (Value.int .i64) (by have := HW.out; omega), HS, ⟨?_⟩⟩
              rw [List.take_add_one, HY.out, List.any_append, HA.out]
              simp [HST.out]
          | false =>
            go_wp2_with (go_at_call 18; have hx_ := has_22 g6 y A' c' lt _ k1 k2 k3 k4 k5 (Kd.C_below HLC.out (Below.refl _ _)); rw [HB.out] at hx_; (with_reducible refine Calls.mono hx_ ?_); rintro e w1 ⟨rfl, hb_⟩; have n_ := sep_below HS.out hb_; clear hb_ hx_ k1 k2 k3 k4 k5 ka; have n0_ := Aside0.mk n_; clear HS n_; have HS := n0_; clear n0_)
            (try rw [Go.Proofs.YthncipgafdfnfaaDoorX.jumps_ret])
            go_ret
            have hs := HST.out
            unfold strangerE
            rw [idx_found _ l i y HY.out hs HA.out]
            refine ⟨?_, sep_below_of HS.out⟩
            show Ending.returned (Value.int .i64 (wrap64 (i : Int))) = _
            rw [HW.out]
    · obtain rfl : i = l.length := by omega
      have e1 : ((l.length : Int) == (l.length : Int)) = true := by simp
      go_wp2
      (try rw [Go.Proofs.YthncipgafdfnfaaDoorX.jumps_ret])
      go_ret
      have h := HA.out
      rw [List.take_length] at h
      unfold strangerE
      rw [idx_none _ l h]
      exact ⟨rfl, sep_below_of HS.out⟩
end Go.Proofs.YthncipgafdfnfaaDoor.JW
