/- The bag: Put's refusals, Ready, find. Conditions: those that each theorem names. -/
import Derived.Test.YtlpiodcklacdpaaBG
namespace Go.Proofs.Ytlpiodcklacdpaa.BG
set_option linter.unusedVariables false
set_option linter.unusedSimpArgs false
open Go Go.RowKit Go.Proofs.YtlpiodcklacdpaaS Go.Proofs.YtlpiodcklacdpaaS.Asn Go.Proofs.Ytlpiodcklacdpaa.PA Go.Proofs.YtlpiodcklacdpaaW.PrintWords Go.Proofs.YtlpiodcklacdpaaW.PrintLast Go.Proofs.YtlpiodcklacdpaaW.PrintMore
theorem add_f (a : Addr) (i j : Nat) (h : j ≠ 0) : (⟨(a.add i).block, (a.add i).off + j, none⟩ : Addr) = a.add (i + j) := by
  rw [← Go.Proofs.YtlpiodcklacdpaaW.PrintWords.add_add]
  generalize a.add i = b
  unfold Addr.add
  rw [if_neg h]
theorem it_at {w : World} {A : Option Addr} {l : List It} (h : itK.C w A l.length l) (i : Nat) (x : It) (hx : l[i]? = some x) :
    ∃ ad, A = some ad ∧ w.cell? (ad.add (i * 6)) = some (.int .u32 x.fi) ∧ w.cell? ⟨(ad.add (i * 6)).block, (ad.add (i * 6)).off + 1, none⟩ = some (.int .u16 x.fp) ∧ w.cell? ⟨(ad.add (i * 6)).block, (ad.add (i * 6)).off + 2, none⟩ = some (.int .u32 x.ti) ∧ w.cell? ⟨(ad.add (i * 6)).block, (ad.add (i * 6)).off + 3, none⟩ = some (.int .u16 x.tp) ∧ w.cell? ⟨(ad.add (i * 6)).block, (ad.add (i * 6)).off + 4, none⟩ = some (.string x.by_) ∧ w.cell? ⟨(ad.add (i * 6)).block, (ad.add (i * 6)).off + 5, none⟩ = some (.int .u64 x.t) := by
  obtain ⟨hi, he⟩ := List.getElem?_eq_some_iff.1 hx
  obtain ⟨ad, c, rfl, hc, hk, hcell⟩ := Kd.C_get h x (i : Int) (Int.natCast_nonneg i) (Int.ofNat_lt.2 hi)
  rw [Int.toNat_natCast, List.getD_eq_getElem?_getD, hx, Option.getD_some] at hk
  rw [itK_open hk, Int.toNat_natCast] at hcell
  refine ⟨ad, rfl, hcell 0 _ rfl, ?_, ?_, ?_, ?_, ?_⟩
  · rw [add_f _ _ _ (by decide)]; exact hcell 1 _ rfl
  · rw [add_f _ _ _ (by decide)]; exact hcell 2 _ rfl
  · rw [add_f _ _ _ (by decide)]; exact hcell 3 _ rfl
  · rw [add_f _ _ _ (by decide)]; exact hcell 4 _ rfl
  · rw [add_f _ _ _ (by decide)]; exact hcell 5 _ rfl
theorem bag_Ready (p : Nat) (l : List It) (room : Int) (u : Int) (w : World) (ok : Nat → Prop) (h : (bagA p l room ⋆ emp).H w ok) :
    Calls Try.prog 12 #[.pointer (some ⟨p, 0, none⟩), .int .u64 u] w fun e w' => e = .returned (.int .i64 (rdy l u : Int)) ∧ Sep w ok (bagA p l room ⋆ emp) w' := by
  obtain ⟨v, hs⟩ := bag_open (sep_begin h)
  obtain ⟨A, c, rfl, hc, hC⟩ := sep_row (sep_l1 hs)
  have hlen : l.length ≤ 9223372036854775807 := hC.2.1
  have HS := Aside0.mk hs
  obtain ⟨b1, b2, b3⟩ := facts2 hs
  clear hs hC hc h
  go_enter Try.func12, Try.ntmps12
  go_upto_region 3 with (fail)
  go_loopg [5, 13] l.length (fun gg v5 v13 wr => ∃ i : Nat, i ≤ l.length ∧ l.length - i ≤ gg ∧ v5 = .int .i64 (rdy (l.take i) u : Int) ∧ v13 = .int .i64 (i : Int) ∧ Aside0 (Sep w ok (pt p #[.slice A l.length c, .int .i64 room] 74 ⋆ row itK 35 (.slice A l.length c) l ⋆ emp) wr))
  case atStart => exact ⟨0, Nat.zero_le _, by omega, rfl, rfl, HS⟩
  case round =>
    clear HS b1 b2 b3
    obtain ⟨i, hi, hgi, rfl, rfl, HS⟩ := hrel
    obtain ⟨b1, b2, b3⟩ := facts2 HS.out
    by_cases hlt : i < l.length
    · have c1b : decide ((i : Int) < (l.length : Int)) = true := decide_eq_true (Int.ofNat_lt.2 hlt); have c1n : decide (i < l.length) = true := decide_eq_true hlt; have c1q : (i < l.length) = True := eq_true hlt; have p0_ := eq_true (Int.natCast_nonneg i)
      obtain ⟨x, hx⟩ : ∃ x, l[i]? = some x := ⟨_, List.getElem?_eq_getElem hlt⟩
      obtain ⟨ad, hA, k1, k2, k3, k4, k5, k6⟩ := it_at (sep_row' (sep_l1 HS.out)).2.2 i x hx
      subst hA
      go_upto_region 5 with (fail)
      have n_ := sep_alloc HS.out #[.int .u32 x.fi, .int .u16 x.fp, .int .u32 x.ti, .int .u16 x.tp, .string x.by_, .int .u64 x.t] 35
      have n0_ := Aside0.mk n_; clear HS n_; have HS := n0_; clear n0_
      generalize wr.alloc (.cells #[.int .u32 x.fi, .int .u16 x.fp, .int .u32 x.ti, .int .u16 x.tp, .string x.by_, .int .u64 x.t] 35) = wa at HS ⊢
      generalize wr.heap.size = g9 at HS ⊢
      clear k1 k2 k3 k4 k5 k6
      obtain ⟨k1, k2, k3, k4, k5, k6⟩ := facts6 HS.out
      have n_ := sep_drop HS.out
      have n0_ := Aside0.mk n_; clear HS n_; have HS := n0_; clear n0_
      have HI := Aside0.mk (And.intro hlt hgi)
      have hst : rdy (l.take (i + 1)) u = rdy (l.take i) u + (if x.t ≤ u then 1 else 0) := by
        rw [List.take_add_one, hx, rdy_append]; simp [rdy_cons, rdy_nil]
      have hle := rdy_le (l.take i) u
      rw [List.length_take] at hle
      have HK := Aside0.mk hle
      clear hle hlt hi hgi
      by_cases hxu : x.t ≤ u
      · have d1 : decide (x.t ≤ u) = true := decide_eq_true hxu
        rw [if_pos hxu] at hst
        have HT := Aside0.mk hst
        clear hxu hst
        go_wp2
        go_roundg (l.length - (i + 1))
        case measure => have := HI.out; omega
        case rel => exact ⟨i + 1, HI.out.1, Nat.le_refl _, congrArg (Value.int .i64) (by rw [HT.out]; have := HI.out; have := HK.out; unfold wrap64; omega), congrArg (Value.int .i64) (by have := HI.out; unfold wrap64; omega), HS⟩
      · have d1 : decide (x.t ≤ u) = false := decide_eq_false hxu
        rw [if_neg hxu] at hst
        have HT := Aside0.mk hst
        clear hxu hst
        go_wp2
        go_roundg (l.length - (i + 1))
        case measure => have := HI.out; omega
        case rel => exact ⟨i + 1, HI.out.1, Nat.le_refl _, congrArg (Value.int .i64) (by rw [HT.out]; rfl), congrArg (Value.int .i64) (by have := HI.out; unfold wrap64; omega), HS⟩
    · obtain rfl : i = l.length := by omega
      rw [List.take_length]
      have c2b : decide ((l.length : Int) < (l.length : Int)) = false := decide_eq_false (by omega)
      go_wp2
      go_ret
      exact ⟨rfl, bag_mk HS.out⟩
/-! ## find -/
def FindRel (w : World) (ok : Nat → Prop) (p : Nat) (l : List It) (room um : Int) (k0 : Nat) (A : Option Addr) (c : Nat) (kq : Nat) (v2 v6 : Value) (w' : World) : Prop :=
  ∃ i k : Nat, v2 = .int .i64 (k : Int) ∧ v6 = .int .i64 (i : Int) ∧ Aside0 (k < rdy (l.drop i) um) ∧ Aside0 (i + pos um (l.drop i) k = pos um l k0) ∧ Aside0 (l.length - i ≤ kq) ∧ Aside0 (Sep w ok (pt p #[.slice A l.length c, .int .i64 room] 74 ⋆ row itK 35 (.slice A l.length c) l ⋆ emp) w')
def findE (l : List It) (um pick : Int) : Int × Int := if pick < 0 then (0, 1) else if rdy l um = 0 then (0, 5) else ((pos um l (pick.toNat % rdy l um) : Nat), 0)
set_option maxRecDepth 100000 in
set_option maxHeartbeats 4000000 in
theorem bag_find (p : Nat) (l : List It) (room um pick : Int) (w : World) (ok : Nat → Prop) (hp : pick ≤ 9223372036854775807) (h : (bagA p l room ⋆ emp).H w ok) :
    Calls Try.prog 30 #[.pointer (some ⟨p, 0, none⟩), .int .u64 um, .int .i64 pick] w fun e w' => e = .returned (.tuple #[.int .i64 (findE l um pick).1, .int .i64 (findE l um pick).2]) ∧ Sep w ok (bagA p l room ⋆ emp) w' := by
  have HS := Aside0.mk (sep_begin h)
  have HP := Aside0.mk hp
  clear h hp
  obtain ⟨r, hr⟩ : ∃ r, findE l um pick = r := ⟨_, rfl⟩
  rw [hr]
  unfold findE at hr
  have HR := Aside0.mk hr
  clear hr
  go_enter Try.func30, Try.ntmps30
  go_upto_region 2 with (first | (refine Go.Proofs.YtlpiodcklacdpaaX.wp_scope_k ?_; intro Jg hJg; have HJg := Aside0.mk hJg; clear hJg) | (go_at_call 12; obtain ⟨ok_, hp_, hk_⟩ := sep_use1 HS.out; have hx_ := bag_Ready p l room um _ ok_ hp_; (with_reducible refine Calls.mono hx_ ?_); rintro e w1 ⟨rfl, hq_⟩; have n_ := back1 hk_ hq_; clear hx_ hp_ hk_ hq_; have n0_ := Aside0.mk n_; clear HS n_; have HS := n0_; clear n0_))
  by_cases h0 : pick < 0
  · have e1 : decide (pick < 0) = true := decide_eq_true h0
    go_wp2
    (try rw [Go.Proofs.YtlpiodcklacdpaaX.jumps_ret])
    go_ret2
    have hr := HR.out
    rw [if_pos (by omega)] at hr
    subst hr
    exact ⟨rfl, HS.out⟩
  · have e1 : decide (pick < 0) = false := decide_eq_false h0
    obtain ⟨k, rfl⟩ : ∃ k : Nat, pick = k := ⟨pick.toNat, by omega⟩
    rcases Nat.eq_zero_or_pos (rdy l um) with h1 | h1
    · have e2 : (((rdy l um : Nat) : Int) == 0) = true := by rw [h1]; rfl
      have e3 : decide (((rdy l um : Nat) : Int) = 0) = true := by rw [h1]; rfl
      have e4 := eq_true h1
      go_wp2
      (try rw [Go.Proofs.YtlpiodcklacdpaaX.jumps_ret])
      go_ret2
      have hr := HR.out
      rw [if_neg (by omega), if_pos h1] at hr
      subst hr
      exact ⟨rfl, HS.out⟩
    · have e2 : (((rdy l um : Nat) : Int) == 0) = false := by simp; omega
      have e3 : decide (((rdy l um : Nat) : Int) = 0) = false := decide_eq_false (by omega)
      have e4 : (rdy l um = 0) = False := eq_false (by omega)
      have hr := HR.out
      rw [if_neg h0, if_neg (by omega), Int.toNat_natCast] at hr
      clear HR
      have HR := Aside0.mk hr
      clear hr
      have hm : k % rdy l um < rdy l um := Nat.mod_lt _ h1
      have m1 : ((k : Int) % ((rdy l um : Nat) : Int)) = ((k % rdy l um : Nat) : Int) := rfl
      go_wp2
      obtain ⟨v, hs⟩ := bag_open HS.out
      obtain ⟨A, c, rfl, hc, hC⟩ := sep_row (sep_l1 hs)
      have HLN := Aside0.mk hC.2.1
      clear HS hc hC
      have HS := Aside0.mk hs
      clear hs
      generalize k % rdy l um = k0 at HR hm m1
      rw [m1]
      clear m1 e1 e2 e3 e4
      refine wp_label ?_
      go_step
      (first | (show Code.wp _ _ _ _ _) | go_step)
      refine Go.Proofs.YtlpiodcklacdpaaX.wp_label_ghost 0 [2, 6, 19, 20, 21, 22, 23, 24, 25, 26, 27, 28, 29, 30, 31, 32, 33, 34, 35, 36, 37] (fun kq u w' => (FindRel w ok p l room um k0 A c) kq (u 2) (u 6) w') (l.length) ?hJ ?atStart ?round
      case hJ => exact fun a w h => HJg.out _ _ _ _ rfl (Go.Proofs.YtlpiodcklacdpaaX.wp_skip_seq h)
      case atStart => exact ⟨0, k0, rfl, rfl, ⟨by rw [List.drop_zero]; exact hm⟩, ⟨by rw [List.drop_zero, Nat.zero_add]⟩, ⟨by omega⟩, HS⟩
      case round =>
        clear HS
        intro gk u wr hrel Ji hI hH
        have hL : ∀ (kq : Nat) (u2 u6 u19 u20 u21 u22 u23 u24 u25 u26 u27 u28 u29 u30 u31 u32 u33 u34 u35 u36 u37 : Value) (w' : World), (FindRel w ok p l room um k0 A c) kq u2 u6 w' → Ji kq ⟨Go.Proofs.YtlpiodcklacdpaaX.setAll _ [2, 6, 19, 20, 21, 22, 23, 24, 25, 26, 27, 28, 29, 30, 31, 32, 33, 34, 35, 36, 37] (Go.Proofs.YtlpiodcklacdpaaX.sel [(2, u2), (6, u6), (19, u19), (20, u20), (21, u21), (22, u22), (23, u23), (24, u24), (25, u25), (26, u26), (27, u27), (28, u28), (29, u29), (30, u30), (31, u31), (32, u32), (33, u33), (34, u34), (35, u35), (36, u36), (37, u37)]), _⟩ w' := fun kq u2 u6 u19 u20 u21 u22 u23 u24 u25 u26 u27 u28 u29 u30 u31 u32 u33 u34 u35 u36 u37 w' h => hI kq _ w' ⟨Go.Proofs.YtlpiodcklacdpaaX.sel [(2, u2), (6, u6), (19, u19), (20, u20), (21, u21), (22, u22), (23, u23), (24, u24), (25, u25), (26, u26), (27, u27), (28, u28), (29, u29), (30, u30), (31, u31), (32, u32), (33, u33), (34, u34), (35, u35), (36, u36), (37, u37)], h, rfl⟩
        clear hI
        simp only [Go.Proofs.YtlpiodcklacdpaaX.setAll, Go.Proofs.YtlpiodcklacdpaaX.sel, Nat.reduceEqDiff, ↓reduceIte, List.setIfInBounds_toArray, List.set_cons_zero, List.set_cons_succ] at hL
        simp only [Go.Proofs.YtlpiodcklacdpaaX.setAll, Go.Proofs.YtlpiodcklacdpaaX.sel, Nat.reduceEqDiff, ↓reduceIte, List.setIfInBounds_toArray, List.set_cons_zero, List.set_cons_succ]
        generalize u 2 = u2 at hrel ⊢
        generalize u 6 = u6 at hrel ⊢
        generalize u 19 = u19 at hrel ⊢
        generalize u 20 = u20 at hrel ⊢
        generalize u 21 = u21 at hrel ⊢
        generalize u 22 = u22 at hrel ⊢
        generalize u 23 = u23 at hrel ⊢
        generalize u 24 = u24 at hrel ⊢
        generalize u 25 = u25 at hrel ⊢
        generalize u 26 = u26 at hrel ⊢
        generalize u 27 = u27 at hrel ⊢
        generalize u 28 = u28 at hrel ⊢
        generalize u 29 = u29 at hrel ⊢
        generalize u 30 = u30 at hrel ⊢
        generalize u 31 = u31 at hrel ⊢
        generalize u 32 = u32 at hrel ⊢
        generalize u 33 = u33 at hrel ⊢
        generalize u 34 = u34 at hrel ⊢
        generalize u 35 = u35 at hrel ⊢
        generalize u 36 = u36 at hrel ⊢
        generalize u 37 = u37 at hrel ⊢
        clear u
        obtain ⟨i, k1, rfl, rfl, HK, HE, HM, HS⟩ := hrel
        obtain ⟨b1, b2, b3⟩ := facts2 HS.out
        have hlt := rdy_lt HK.out
        obtain ⟨x, hx⟩ : ∃ x, l[i]? = some x := ⟨_, List.getElem?_eq_getElem hlt⟩
        have HX := Aside0.mk (pos_drop (u := um) (k := k1) hx)
        have c1b : decide ((i : Int) < (l.length : Int)) = true := decide_eq_true (Int.ofNat_lt.2 hlt); have c1n : decide (i < l.length) = true := decide_eq_true hlt; have c1q : (i < l.length) = True := eq_true hlt; have p0_ := eq_true (Int.natCast_nonneg i)
        obtain ⟨ad, hA, q1, q2, q3, q4, q5, q6⟩ := it_at (sep_row' (sep_l1 HS.out)).2.2 i x hx
        subst hA
        have HI := Aside0.mk hlt
        clear hlt
        clear hx
        by_cases hxu : x.t ≤ um
        · have d1 : decide (um < x.t) = false := decide_eq_false (by omega)
          have d2 : (um < x.t) = False := eq_false (by omega)
          rcases Nat.eq_zero_or_pos k1 with hk | hk
          · subst hk
            have HU := Aside0.mk (HX.out.1 hxu rfl)
            clear hxu
            go_wp2
            (try rw [Go.Proofs.YtlpiodcklacdpaaX.jumps_ret])
            go_ret2
            have hr := HR.out
            rw [← HE.out, HU.out, Nat.add_zero] at hr
            subst hr
            exact ⟨rfl, bag_mk HS.out⟩
          · have d3 : decide (0 < k1) = true := decide_eq_true hk
            have d4 : decide ((0 : Int) < (k1 : Int)) = true := decide_eq_true (by omega)
            have d5 := eq_true hk
            have HU := Aside0.mk (HX.out.2.1 hxu hk)
            have HH := Aside0.mk hk
            clear hxu hk
            go_wp2
            refine wp_goto ?_
            refine hH _ _ ?_
            refine Handed.intro (l.length - (i + 1)) ?measure ?_
            rotate_left
            refine hL _ _ _ _ _ _ _ _ _ _ _ _ _ _ _ _ _ _ _ _ _ _ _ ?rel
            case measure => have := HI.out; have := HM.out; omega
            case rel => exact ⟨i + 1, k1 - 1, congrArg (Value.int .i64) (by have := HH.out; have := HK.out; have := HLN.out; have := rdy_le (l.drop i) um; rw [List.length_drop] at this; unfold wrap64; omega), congrArg (Value.int .i64) (by have := HI.out; have := HLN.out; unfold wrap64; omega), ⟨HU.out.2 HK.out⟩, ⟨by have := HE.out; rw [HU.out.1] at this; omega⟩, ⟨Nat.le_refl _⟩, HS⟩
        · have d1 : decide (um < x.t) = true := decide_eq_true (by omega)
          have HU := Aside0.mk (HX.out.2.2 hxu)
          clear hxu
          go_wp2
          refine wp_goto ?_
          refine hH _ _ ?_
          refine Handed.intro (l.length - (i + 1)) ?measure ?_
          rotate_left
          refine hL _ _ _ _ _ _ _ _ _ _ _ _ _ _ _ _ _ _ _ _ _ _ _ ?rel
          case measure => have := HI.out; have := HM.out; omega
          case rel => exact ⟨i + 1, k1, rfl, congrArg (Value.int .i64) (by have := HI.out; have := HLN.out; unfold wrap64; omega), ⟨HU.out.2 HK.out⟩, ⟨by have := HE.out; rw [HU.out.1] at this; omega⟩, ⟨Nat.le_refl _⟩, HS⟩
end Go.Proofs.Ytlpiodcklacdpaa.BG
