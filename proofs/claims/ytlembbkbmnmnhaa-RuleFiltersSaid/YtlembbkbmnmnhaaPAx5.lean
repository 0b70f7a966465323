/- Written by xprint.py, a program of this session: Go functions that the laws reach, each as a plain Lean function, and the proof that the Go code comes to what it says. No condition but those that each theorem names. -/
import Derived.Test.YtlembbkbmnmnhaaPAx0
import Derived.Test.YtlembbkbmnmnhaaPAx2
import Derived.Test.YtlembbkbmnmnhaaPAx4
import Derived.WalkSpells
import Derived.WalkLawsBesides
import Derived.Test.YtlembbkbmnmnhaaXAux
namespace Go.Proofs.Ytlembbkbmnmnhaa.PA
open Go.RowKit Go.Proofs.YtlembbkbmnmnhaaW.PrintWords Go.Proofs.YtlembbkbmnmnhaaW.PrintLast Go.Proofs.YtlembbkbmnmnhaaW.PrintMore
attribute [local go_sem] max2_int min2_int max_two min_two max_three min_three max_four min_four   -- for this text's walks alone
set_option linter.unusedVariables false
set_option linter.unusedSimpArgs false

/-! ### scuttlebuttlaw07_RuleFilters: function 6 -/
mutual
def scuttlebuttlaw07_RuleFilters.j0 : Nat → List (S28) → Int → Bool → Bool → Int → Int → Option (Bool)
  | 0, _, _, _, _, _, _ => none
  | k + 1, x0, x2, x3, x26, x135000, x135001 => if x26 = true then (if (x0.length : Int) = 0 then (none) else (if 0 ≤ (Int.tmod (wrap64 (x2)) (x0.length : Int)) then (if (Int.tmod (wrap64 (x2)) (x0.length : Int)) < (x0.length : Int) then (scuttlebuttlaw07_RuleFilters.j1 k x0 x3 ((rd_T28 x0 (Int.tmod (wrap64 (x2)) (x0.length : Int))).f0) ((rd_T28 x0 (Int.tmod (wrap64 (x2)) (x0.length : Int))).f1)) else (none)) else (none))) else (scuttlebuttlaw07_RuleFilters.j1 k x0 x3 x135000 x135001)
def scuttlebuttlaw07_RuleFilters.j1 : Nat → List (S28) → Bool → Int → Int → Option (Bool)
  | 0, _, _, _, _ => none
  | k + 1, x0, x3, x135000, x135001 => (rule_Passes.f k 0 0 x0 x135000 x135001).bind fun t141 => ((rule_Passes.f k 0 1 x0 x135000 x135001).bind fun t142 => ((rule_Passes.f k 0 2 x0 x135000 x135001).bind fun t143 => (if t141 = true then (if t143 = true then (if t142 = true then (if x3 = true then (if (x0.length : Int) = 0 then ((rule_Passes.f k 0 3 x0 x135000 x135001).bind fun t144 => (if t144 = true then (none) else (if (x0.length : Int) > 0 then (some true) else (none)))) else ((rule_Passes.f k 0 3 x0 x135000 x135001).bind fun t145 => (if t145 = true then (none) else (if (x0.length : Int) > 0 then (some true) else (none))))) else ((rule_Passes.f k 0 3 x0 x135000 x135001).bind fun t146 => (if t146 = true then (none) else (if (x0.length : Int) > 0 then (some true) else (none))))) else (none)) else (if x3 = true then (if (x0.length : Int) = 0 then ((rule_Passes.f k 0 3 x0 x135000 x135001).bind fun t147 => (if t147 = true then (none) else (if (x0.length : Int) > 0 then (some true) else (some (!t142))))) else (none)) else ((rule_Passes.f k 0 3 x0 x135000 x135001).bind fun t148 => (if t148 = true then (none) else (if (x0.length : Int) > 0 then (some true) else (some (!t142))))))) else (none))))
end
def scuttlebuttlaw07_RuleFilters.f (k : Nat) (l0 : List (S28)) (a1_0 : Int) (a1_1 : Int) (a2 : Int) (a3 : Bool) : Option (Bool) := (scuttlebuttlaw07_examples.f k).bind fun t135 => (if t135 = true then (if 0 ≤ (mn (l0.length : Int) 12) then (if (mn (l0.length : Int) 12) ≤ (l0.length : Int) then ((some (l0.take ((mn (l0.length : Int) 12) : Int).toNat : List (S28))).bind fun y136 => (if a3 = true then (scuttlebuttlaw07_RuleFilters.j0 k y136 a2 true (decide ((y136.length : Int) > 0)) a1_0 a1_1) else (scuttlebuttlaw07_RuleFilters.j0 k y136 a2 false false a1_0 a1_1))) else (none)) else (none)) else (none))
theorem scuttlebuttlaw07_RuleFilters.mono_l : ∀ k, (∀ y0 y1 y2 y3 y4 y5, LeO (scuttlebuttlaw07_RuleFilters.j0 k y0 y1 y2 y3 y4 y5) (scuttlebuttlaw07_RuleFilters.j0 (k + 1) y0 y1 y2 y3 y4 y5)) ∧ (∀ y0 y1 y2 y3, LeO (scuttlebuttlaw07_RuleFilters.j1 k y0 y1 y2 y3) (scuttlebuttlaw07_RuleFilters.j1 (k + 1) y0 y1 y2 y3))
  | 0 => ⟨fun _ _ _ _ _ _ r h => by simp [scuttlebuttlaw07_RuleFilters.j0] at h, fun _ _ _ _ r h => by simp [scuttlebuttlaw07_RuleFilters.j1] at h⟩
  | k + 1 => by
    obtain ⟨ih0, ih1⟩ := scuttlebuttlaw07_RuleFilters.mono_l k
    refine ⟨?_, ?_⟩
    · intro y0 y1 y2 y3 y4 y5
      unfold scuttlebuttlaw07_RuleFilters.j0
      repeat' first
      | (with_reducible exact ih0 _ _ _ _ _ _)
      | (with_reducible exact ih1 _ _ _ _)
      | (with_reducible exact rule_Passes.mono _ _ _ _ _ _)
      | (with_reducible exact scuttlebuttlaw07_examples.mono _)
      | (with_reducible exact LeO.refl _)
      | (with_reducible exact LeO.none _)
      | (with_reducible refine LeO.ite ?_ ?_)
      | (with_reducible refine LeO.bind ?_ (fun _ => ?_))
      | exact ih0 _ _ _ _ _ _
      | exact ih1 _ _ _ _
      | exact rule_Passes.mono _ _ _ _ _ _
      | exact scuttlebuttlaw07_examples.mono _
      | exact LeO.none _
      | refine LeO.ite ?_ ?_
      | refine LeO.bind ?_ (fun _ => ?_)
    · intro y0 y1 y2 y3
      unfold scuttlebuttlaw07_RuleFilters.j1
      repeat' first
      | (with_reducible exact ih0 _ _ _ _ _ _)
      | (with_reducible exact ih1 _ _ _ _)
      | (with_reducible exact rule_Passes.mono _ _ _ _ _ _)
      | (with_reducible exact scuttlebuttlaw07_examples.mono _)
      | (with_reducible exact LeO.refl _)
      | (with_reducible exact LeO.none _)
      | (with_reducible refine LeO.ite ?_ ?_)
      | (with_reducible refine LeO.bind ?_ (fun _ => ?_))
      | exact ih0 _ _ _ _ _ _
      | exact ih1 _ _ _ _
      | exact rule_Passes.mono _ _ _ _ _ _
      | exact scuttlebuttlaw07_examples.mono _
      | exact LeO.none _
      | refine LeO.ite ?_ ?_
      | refine LeO.bind ?_ (fun _ => ?_)
theorem scuttlebuttlaw07_RuleFilters.mono : ∀ a0 a1 a2 a3 a4 k, LeO (scuttlebuttlaw07_RuleFilters.f k a0 a1 a2 a3 a4) (scuttlebuttlaw07_RuleFilters.f (k + 1) a0 a1 a2 a3 a4) := by
  intro a0 a1 a2 a3 a4 k
  obtain ⟨ih0, ih1⟩ := scuttlebuttlaw07_RuleFilters.mono_l k
  unfold scuttlebuttlaw07_RuleFilters.f
  repeat' first
      | (with_reducible exact ih0 _ _ _ _ _ _)
      | (with_reducible exact ih1 _ _ _ _)
      | (with_reducible exact rule_Passes.mono _ _ _ _ _ _)
      | (with_reducible exact scuttlebuttlaw07_examples.mono _)
      | (with_reducible exact LeO.refl _)
      | (with_reducible exact LeO.none _)
      | (with_reducible refine LeO.ite ?_ ?_)
      | (with_reducible refine LeO.bind ?_ (fun _ => ?_))
      | exact ih0 _ _ _ _ _ _
      | exact ih1 _ _ _ _
      | exact rule_Passes.mono _ _ _ _ _ _
      | exact scuttlebuttlaw07_examples.mono _
      | exact LeO.none _
      | refine LeO.ite ?_ ?_
      | refine LeO.bind ?_ (fun _ => ?_)
set_option maxHeartbeats 8000000 in
set_option maxRecDepth 100000 in
theorem scuttlebuttlaw07_RuleFilters.calls (k : Nat) (A0 : Option Addr) (c0 : Nat) (l0 : List (S28)) (a1_0 : Int) (a1_1 : Int) (a2 : Int) (a3 : Bool) (r : Bool) (w : World) (hr0 : Kd.C k28 w A0 l0.length l0) (hc0 : l0.length ≤ c0) (h : scuttlebuttlaw07_RuleFilters.f k l0 a1_0 a1_1 a2 a3 = some r) :
    Calls Try.prog 6 #[.slice A0 l0.length c0, .agg #[.int .u32 a1_0, .int .u16 a1_1], .int .u8 a2, .bool a3] w fun e w' => e = .returned (.bool r) ∧ Below w.heap.size w w' := by
  have hu28 := Try.underlying28
  have hu23 := Try.underlying23
  have HR0 := Aside0.mk hr0
  have HC0 := Aside0.mk hc0
  clear hr0 hc0
  have HB := Aside0.mk (Below.refl w.heap.size w)
  have H : ((scuttlebuttlaw07_examples.f k).bind fun t135 => (if t135 = true then (if 0 ≤ (mn (l0.length : Int) 12) then (if (mn (l0.length : Int) 12) ≤ (l0.length : Int) then ((some (l0.take ((mn (l0.length : Int) 12) : Int).toNat : List (S28))).bind fun y136 => (if a3 = true then (scuttlebuttlaw07_RuleFilters.j0 k y136 a2 true (decide ((y136.length : Int) > 0)) a1_0 a1_1) else (scuttlebuttlaw07_RuleFilters.j0 k y136 a2 false false a1_0 a1_1))) else (none)) else (none)) else (none))) = some r := h
  clear h
  replace H := Option.bind_eq_some_iff.mp H
  obtain ⟨t135, A50, H⟩ := H
  replace H : (if t135 = true then (if 0 ≤ (mn (l0.length : Int) 12) then (if (mn (l0.length : Int) 12) ≤ (l0.length : Int) then ((some (l0.take ((mn (l0.length : Int) 12) : Int).toNat : List (S28))).bind fun y136 => (if a3 = true then (scuttlebuttlaw07_RuleFilters.j0 k y136 a2 true (decide ((y136.length : Int) > 0)) a1_0 a1_1) else (scuttlebuttlaw07_RuleFilters.j0 k y136 a2 false false a1_0 a1_1))) else (none)) else (none)) else (none)) = some r := H
  have A5 := Aside0.mk A50
  clear A50
  by_cases c6 : t135 = true
  · (first | subst c6 | clear c6)
    have H1 : (if 0 ≤ (mn (l0.length : Int) 12) then (if (mn (l0.length : Int) 12) ≤ (l0.length : Int) then ((some (l0.take ((mn (l0.length : Int) 12) : Int).toNat : List (S28))).bind fun y136 => (if a3 = true then (scuttlebuttlaw07_RuleFilters.j0 k y136 a2 true (decide ((y136.length : Int) > 0)) a1_0 a1_1) else (scuttlebuttlaw07_RuleFilters.j0 k y136 a2 false false a1_0 a1_1))) else (none)) else (none)) = some r := by first | (rw [if_pos rfl] at H; exact H) | (rw [if_pos trivial] at H; exact H)
    clear H
    have H := H1
    clear H1
    obtain ⟨ji7, hji7⟩ : ∃ j_ : Int, (mn (l0.length : Int) 12) = j_ := ⟨_, rfl⟩
    replace H : (if 0 ≤ (ji7) then (if (ji7) ≤ (l0.length : Int) then ((some (l0.take ((ji7) : Int).toNat : List (S28))).bind fun y136 => (if a3 = true then (scuttlebuttlaw07_RuleFilters.j0 k y136 a2 true (decide ((y136.length : Int) > 0)) a1_0 a1_1) else (scuttlebuttlaw07_RuleFilters.j0 k y136 a2 false false a1_0 a1_1))) else (none)) else (none)) = some r := by first | (rw [hji7] at H; exact H) | (simp only [hji7] at H ⊢; exact H)
    (try rw [hji7] at A5)
    (try (have hji7h : ji7 ≤ 12 := by (rw [← hji7]; unfold mn; (repeat' split) <;> omega)))
    (try (have hji7g : ji7 ≤ 64 := by omega))
    (try (have hji7l : 0 ≤ ji7 := by (rw [← hji7]; unfold mn; (repeat' split) <;> omega)))
    (try (have hji7m : 0 ≤ ji7 := by omega))
    have hji7_ : (if 12 < (l0.length : Int) then 12 else (l0.length : Int)) = ji7 := hji7
    by_cases c8 : 0 ≤ (ji7)
    · rw [if_pos c8] at H
      have c8b0 := eq_true c8
      have c8b1 : decide (0 ≤ (ji7)) = true := decide_eq_true c8
      clear c8
      by_cases c9 : (ji7) ≤ (l0.length : Int)
      · rw [if_pos c9] at H
        have c9b0 := eq_true c9
        have c9b1 : decide ((ji7) ≤ (l0.length : Int)) = true := decide_eq_true c9
        clear c9
        obtain ⟨y136, hy136⟩ : ∃ y_ : List (S28), y_ = (l0.take ((ji7) : Int).toNat) := ⟨_, rfl⟩
        replace H : (if a3 = true then (scuttlebuttlaw07_RuleFilters.j0 k y136 a2 true (decide ((y136.length : Int) > 0)) a1_0 a1_1) else (scuttlebuttlaw07_RuleFilters.j0 k y136 a2 false false a1_0 a1_1)) = some r := by first | (rw [hy136]; with_reducible exact H) | (have H2_ := (Option.bind_some _ _).symm.trans H; rw [hy136]; with_reducible exact H2_) | (have H2_ := (Option.bind_some _ _).symm.trans H; with_reducible exact H2_) | with_reducible exact H | (rw [hy136]; exact H) | exact H
        have Ny136 := Aside0.mk hy136
        clear hy136
        have HC10 := Aside0.mk H
        clear H
        go_enter Try.func6, Try.ntmps6
        go_upto_region 5 with (first | ((with_reducible refine gate_dst (N := 5) rfl ?_); (try (refine gate_guard (by rfl) ?_; dsimp only)); refine box_event ?hg (N := 5) ?hd (cs := #[.int .u32 a1_0, .int .u16 a1_1]) (t := 28) ?hr ?_; (case hd => rfl); (case hg => rfl); (case hr => first | (go_simp; done) | (go_simp; rfl)); intro gb134 hg w11 hbox hb; have n0_ := Aside0.mk (below_step (by repeat (first | (with_reducible first | exact HB.out | apply below_alloc | apply pw_below_drewN | apply below_drew1) | exact HB.out)) hb); have n1_ := Aside0.mk (hbox); have n2_ := Aside0.mk ((by rw [hg]; exact (below_size (by repeat (first | (with_reducible first | exact HB.out | apply below_alloc | apply pw_below_drewN | apply below_drew1) | exact HB.out))) : w.heap.size ≤ gb134)); have n3_ := Aside0.mk ((by rw [hg]; exact (below_size (by repeat (first | (with_reducible first | exact HB.out | apply below_alloc | apply pw_below_drewN | apply below_drew1) | exact HB.out))) : w.heap.size ≤ gb134)); clear HB; have HB := n0_; have BK134 := n1_; have GW134 := n2_; have GE134 := n3_; clear n0_ n1_ n2_ n3_; clear hb hbox hg) | ((with_reducible refine gate_callee (f := 8) rfl ?_); refine goesL_ (some 13) rfl rfl Try.func8 (by kernel_rfl) rfl #[] rfl (by (try simp only [List.map_toArray, List.map_cons, List.map_nil]); first | done | rfl | (simp only [List.length_drop, List.length_take]; rfl)) ?_; (with_reducible refine (scuttlebuttlaw07_examples.calls k  true _ A5.out).mono ?_); rintro e w12 ⟨rfl, hb⟩; refine ⟨_, rfl, ?_⟩; have n0_ := Aside0.mk (blk_below (g := gb134) (o := .cells #[.int .u32 a1_0, .int .u16 a1_1] 28 (0, 0)) (by (with_reducible repeat (first | refine blk_drewN ?_ _ | refine blk_drew ?_ | refine blk_alloc ?_ _)); exact BK134.out) hb); have n1_ := Aside0.mk (below_step (by repeat (first | (with_reducible first | exact HB.out | apply below_alloc | apply pw_below_drewN | apply below_drew1 | refine below_set ?_ GE134.out) | exact HB.out)) hb); clear BK134; clear HB; have BK134 := n0_; have HB := n1_; clear n0_ n1_; (try clear hb); (try clear hb2); (try clear hk); (try clear hi); have q13 : ((ji7) : Int) ≤ ((l0.length : Int) : Int) := of_decide_eq_true (by first | (with_reducible assumption) | assumption); obtain ⟨i013, hi013, _, hsz13, _⟩ := info_parts info28; have hroom13 : l0.length ≤ c0 := HC0.out; have hC13 : Kd.C k28 _ A0 l0.length l0 := HR0.out; have hcut13 := cut_to (P := Try.prog) 24 28 .i64 Try.underlying24 hi013 A0 l0.length c0 (ji7) (of_decide_eq_true (by first | (with_reducible assumption) | assumption)) q13 hroom13; have hr13 := Kd.C_take (m := ((ji7) : Int).toNat) hC13 (by omega); have hy13 : y136.length = ((ji7) : Int).toNat := (by rw [Ny136.out, List.length_take]; omega); rw [← Ny136.out] at hr13; rw [← hy13] at hcut13; have HR139 := Aside0.mk hr13; have HC139 := Aside0.mk (show y136.length ≤ c0 from by omega); clear hr13 hC13 hroom13 hi013 hsz13; have KY13 := Aside0.mk hy13; clear hy13; replace q13 := eq_true q13))
        (try simp only [Act.put, List.setIfInBounds_toArray, List.set_cons_zero, List.set_cons_succ])
        go_cut [26] (fun v26 wc => ∃ (kq : Nat) (x26_9 : Bool), v26 = .bool x26_9 ∧ Aside0 (scuttlebuttlaw07_RuleFilters.j0 kq y136 a2 a3 x26_9 a1_0 a1_1 = some r) ∧ Aside0 (kq ≤ k) ∧ Aside0 (wc.heap[gb134]? = some (.cells #[.int .u32 a1_0, .int .u16 a1_1] 28 (0, 0))) ∧ Aside0 (Below w.heap.size w wc))
        case first =>
          have H := HC10.out
          clear HC10
          by_cases c14 : a3 = true
          · (first | subst c14 | clear c14)
            have H1 : (scuttlebuttlaw07_RuleFilters.j0 k y136 a2 true (decide ((y136.length : Int) > 0)) a1_0 a1_1) = some r := by first | (rw [if_pos rfl] at H; exact H) | (rw [if_pos trivial] at H; exact H)
            clear H
            have H := H1
            clear H1
            have H' := Aside0.mk H
            clear H
            go_wp2
            go_meet
            case rel => exact ⟨_, (decide ((y136.length : Int) > 0)), (by first | rfl | (simp; done) | (simp [*]; done)), H', ⟨by first | omega | exact Nat.le_refl _⟩, ⟨by (with_reducible repeat (first | refine blk_drewN ?_ _ | refine blk_drew ?_ | refine blk_alloc ?_ _)); exact BK134.out⟩, ⟨by repeat (first | (with_reducible first | exact HB.out | apply below_alloc | apply pw_below_drewN | apply below_drew1 | refine below_set ?_ GE134.out) | exact HB.out)⟩⟩
          · replace c14 := Bool.eq_false_iff.mpr c14
            (first | subst c14 | clear c14)
            have H1 : (scuttlebuttlaw07_RuleFilters.j0 k y136 a2 false false a1_0 a1_1) = some r := by rw [if_neg (show ¬ (false = true) by decide)] at H; exact H
            clear H
            have H := H1
            clear H1
            have H' := Aside0.mk H
            clear H
            go_wp2
            go_meet
            case rel => exact ⟨_, (false), (by first | rfl | (simp; done) | (simp [*]; done)), H', ⟨by first | omega | exact Nat.le_refl _⟩, ⟨by (with_reducible repeat (first | refine blk_drewN ?_ _ | refine blk_drew ?_ | refine blk_alloc ?_ _)); exact BK134.out⟩, ⟨by repeat (first | (with_reducible first | exact HB.out | apply below_alloc | apply pw_below_drewN | apply below_drew1 | refine below_set ?_ GE134.out) | exact HB.out)⟩⟩
        case rest =>
          clear HC10
          try clear c1
          try clear q1
          try clear p2
          try clear c6
          try clear c8
          try clear c8b0
          try clear c8b1
          try clear c9
          try clear c9b0
          try clear c9b1
          try clear q13
          try clear c14
          try clear q13
          obtain ⟨kq, x26_9, rfl, HA, HJ9, BK134, HB⟩ := hcut
          cases kq with
          | zero => exact absurd HA.out (by simp [scuttlebuttlaw07_RuleFilters.j0])
          | succ kj9 =>
            have H := HA.out
            clear HA
            simp only [scuttlebuttlaw07_RuleFilters.j0] at H
            have HC15 := Aside0.mk H
            clear H
            go_upto_if 26 with (fail)
            go_cut [] (fun wc => ∃ (kq : Nat) (x135000_14 : Int) (x135001_14 : Int), Aside0 (scuttlebuttlaw07_RuleFilters.j1 kq y136 a3 x135000_14 x135001_14 = some r) ∧ Aside0 (kq ≤ kj9) ∧ Aside0 (wc.heap[gb134]? = some (.cells #[.int .u32 x135000_14, .int .u16 x135001_14] 28 (0, 0))) ∧ Aside0 (Below w.heap.size w wc))
            case first =>
              have H := HC15.out
              clear HC15
              by_cases c16 : x26_9 = true
              · (first | subst c16 | clear c16)
                have H1 : (if (y136.length : Int) = 0 then (none) else (if 0 ≤ (Int.tmod (wrap64 (a2)) (y136.length : Int)) then (if (Int.tmod (wrap64 (a2)) (y136.length : Int)) < (y136.length : Int) then (scuttlebuttlaw07_RuleFilters.j1 kj9 y136 a3 ((rd_T28 y136 (Int.tmod (wrap64 (a2)) (y136.length : Int))).f0) ((rd_T28 y136 (Int.tmod (wrap64 (a2)) (y136.length : Int))).f1)) else (none)) else (none))) = some r := by first | (rw [if_pos rfl] at H; exact H) | (rw [if_pos trivial] at H; exact H)
                clear H
                have H := H1
                clear H1
                by_cases c17 : (y136.length : Int) = 0
                · rw [if_pos c17] at H
                  exact absurd H (by simp)
                · (first | rw [if_neg c17] at H | exact absurd rfl c17)
                  have c17b0 : ((y136.length : Int) == 0) = false := beq_eq_false_iff_ne.mpr c17
                  have c17b1 : ((y136.length : Int) != 0) = true := bne_iff_ne.mpr c17
                  have c17b2 : ¬ (y136 = []) := fun h_ => c17 (by rw [h_]; rfl)
                  (first | rw [c17b0] | (simp only [i64_w, i32_w]; rw [c17b0]) | skip)
                  obtain ⟨ji18, hji18⟩ : ∃ j_ : Int, (Int.tmod (wrap64 (a2)) (y136.length : Int)) = j_ := ⟨_, rfl⟩
                  replace H : (if 0 ≤ (ji18) then (if (ji18) < (y136.length : Int) then (scuttlebuttlaw07_RuleFilters.j1 kj9 y136 a3 ((rd_T28 y136 (ji18)).f0) ((rd_T28 y136 (ji18)).f1)) else (none)) else (none)) = some r := by first | (rw [hji18] at H; exact H) | (simp only [hji18] at H ⊢; exact H)
                  by_cases c19 : 0 ≤ (ji18)
                  · rw [if_pos c19] at H
                    have c19b0 : decide (0 ≤ (ji18)) = true := decide_eq_true c19
                    clear c19
                    by_cases c20 : (ji18) < (y136.length : Int)
                    · rw [if_pos c20] at H
                      have c20b0 : decide ((ji18) < (y136.length : Int)) = true := decide_eq_true c20
                      clear c20
                      have H' := Aside0.mk H
                      clear H
                      have p140 : 0 ≤ ((ji18) : Int) := of_decide_eq_true (by first | (with_reducible assumption) | assumption)
                      have q140 : (ji18) < (y136.length : Int) := of_decide_eq_true (by first | (with_reducible assumption) | assumption)
                      obtain ⟨ad140, e140, hx140_0, hx140_1⟩ := at_T28 HR139.out (ji18) p140 q140
                      cases e140
                      replace hx140_0 := (HB.out.cell (World.block_lt_of_cell? w _ hx140_0)).trans hx140_0
                      replace hx140_1 := (HB.out.cell (World.block_lt_of_cell? w _ hx140_1)).trans hx140_1
                      replace p140 := eq_true p140
                      replace q140 := eq_true q140
                      have hcz21_0 : wc.cell? ⟨gb134, 0, none⟩ = some (.int .u32 a1_0) := (blk_cell BK134.out 0).trans rfl
                      have hcz21_1 : wc.cell? ⟨gb134, 1, none⟩ = some (.int .u16 a1_1) := (blk_cell BK134.out 1).trans rfl
                      have hfz21_0 := blk_frozen BK134.out 0
                      have hfz21_1 := blk_frozen BK134.out 1
                      go_wp2
                      go_meet
                      case rel => exact ⟨_, ((rd_T28 y136 (ji18)).f0), ((rd_T28 y136 (ji18)).f1), H', ⟨by have := HJ9.out; first | omega | exact Nat.le_refl _⟩, ⟨by (with_reducible repeat (first | refine blk_drewN ?_ _ | refine blk_drew ?_ | refine blk_alloc ?_ _)); refine blk_put (cs := #[.int .u32 ((rd_T28 y136 (ji18)).f0), .int .u16 a1_1]) ?_ 1 _ rfl; (with_reducible repeat (first | refine blk_drewN ?_ _ | refine blk_drew ?_ | refine blk_alloc ?_ _)); refine blk_put (cs := #[.int .u32 a1_0, .int .u16 a1_1]) ?_ 0 _ rfl; (with_reducible repeat (first | refine blk_drewN ?_ _ | refine blk_drew ?_ | refine blk_alloc ?_ _)); exact BK134.out⟩, ⟨by repeat (first | (with_reducible first | exact HB.out | apply below_alloc | apply pw_below_drewN | apply below_drew1 | refine below_set ?_ GE134.out) | exact HB.out)⟩⟩
                    · (first | rw [if_neg c20] at H | exact absurd rfl c20)
                      exact absurd H (by simp)
                  · (first | rw [if_neg c19] at H | exact absurd rfl c19)
                    exact absurd H (by simp)
              · replace c16 := Bool.eq_false_iff.mpr c16
                (first | subst c16 | clear c16)
                have H1 : (scuttlebuttlaw07_RuleFilters.j1 kj9 y136 a3 a1_0 a1_1) = some r := by rw [if_neg (show ¬ (false = true) by decide)] at H; exact H
                clear H
                have H := H1
                clear H1
                have H' := Aside0.mk H
                clear H
                go_wp2
                go_meet
                case rel => exact ⟨_, (a1_0), (a1_1), H', ⟨by have := HJ9.out; first | omega | exact Nat.le_refl _⟩, ⟨by (with_reducible repeat (first | refine blk_drewN ?_ _ | refine blk_drew ?_ | refine blk_alloc ?_ _)); exact BK134.out⟩, ⟨by repeat (first | (with_reducible first | exact HB.out | apply below_alloc | apply pw_below_drewN | apply below_drew1 | refine below_set ?_ GE134.out) | exact HB.out)⟩⟩
            case rest =>
              clear HC15
              try clear c1
              try clear p1
              try clear q1
              try clear hx1
              try clear c2
              try clear p2
              try clear c6
              try clear p6
              try clear c8
              try clear c8b0
              try clear c8b1
              try clear c9
              try clear c9b0
              try clear c9b1
              try clear q13
              try clear c14
              try clear p14
              try clear q14
              try clear hx14
              try clear c16
              try clear c17
              try clear c17b0
              try clear c17b1
              try clear c17b2
              try clear c19
              try clear c19b0
              try clear c20
              try clear c20b0
              try clear hcz21_0
              try clear hcz21_1
              try clear hfz21_0
              try clear hfz21_1
              try clear hx140_0
              try clear hx140_1
              try clear p140
              try clear p2
              try clear q1
              try clear q13
              try clear q140
              obtain ⟨kq, x135000_14, x135001_14, HA, HJ14, BK134, HB⟩ := hcut
              cases kq with
              | zero => exact absurd HA.out (by simp [scuttlebuttlaw07_RuleFilters.j1])
              | succ kj14 =>
                have H := HA.out
                clear HA
                simp only [scuttlebuttlaw07_RuleFilters.j1] at H
                replace H := Option.bind_eq_some_iff.mp H
                obtain ⟨t141, A220, H⟩ := H
                replace H : ((rule_Passes.f kj14 0 1 y136 x135000_14 x135001_14).bind fun t142 => ((rule_Passes.f kj14 0 2 y136 x135000_14 x135001_14).bind fun t143 => (if t141 = true then (if t143 = true then (if t142 = true then (if a3 = true then (if (y136.length : Int) = 0 then ((rule_Passes.f kj14 0 3 y136 x135000_14 x135001_14).bind fun t144 => (if t144 = true then (none) else (if (y136.length : Int) > 0 then (some true) else (none)))) else ((rule_Passes.f kj14 0 3 y136 x135000_14 x135001_14).bind fun t145 => (if t145 = true then (none) else (if (y136.length : Int) > 0 then (some true) else (none))))) else ((rule_Passes.f kj14 0 3 y136 x135000_14 x135001_14).bind fun t146 => (if t146 = true then (none) else (if (y136.length : Int) > 0 then (some true) else (none))))) else (none)) else (if a3 = true then (if (y136.length : Int) = 0 then ((rule_Passes.f kj14 0 3 y136 x135000_14 x135001_14).bind fun t147 => (if t147 = true then (none) else (if (y136.length : Int) > 0 then (some true) else (some (!t142))))) else (none)) else ((rule_Passes.f kj14 0 3 y136 x135000_14 x135001_14).bind fun t148 => (if t148 = true then (none) else (if (y136.length : Int) > 0 then (some true) else (some (!t142))))))) else (none)))) = some r := H
                have A22 := Aside0.mk A220
                clear A220
                replace H := Option.bind_eq_some_iff.mp H
                obtain ⟨t142, A230, H⟩ := H
                replace H : ((rule_Passes.f kj14 0 2 y136 x135000_14 x135001_14).bind fun t143 => (if t141 = true then (if t143 = true then (if t142 = true then (if a3 = true then (if (y136.length : Int) = 0 then ((rule_Passes.f kj14 0 3 y136 x135000_14 x135001_14).bind fun t144 => (if t144 = true then (none) else (if (y136.length : Int) > 0 then (some true) else (none)))) else ((rule_Passes.f kj14 0 3 y136 x135000_14 x135001_14).bind fun t145 => (if t145 = true then (none) else (if (y136.length : Int) > 0 then (some true) else (none))))) else ((rule_Passes.f kj14 0 3 y136 x135000_14 x135001_14).bind fun t146 => (if t146 = true then (none) else (if (y136.length : Int) > 0 then (some true) else (none))))) else (none)) else (if a3 = true then (if (y136.length : Int) = 0 then ((rule_Passes.f kj14 0 3 y136 x135000_14 x135001_14).bind fun t147 => (if t147 = true then (none) else (if (y136.length : Int) > 0 then (some true) else (some (!t142))))) else (none)) else ((rule_Passes.f kj14 0 3 y136 x135000_14 x135001_14).bind fun t148 => (if t148 = true then (none) else (if (y136.length : Int) > 0 then (some true) else (some (!t142))))))) else (none))) = some r := H
                have A23 := Aside0.mk A230
                clear A230
                replace H := Option.bind_eq_some_iff.mp H
                obtain ⟨t143, A240, H⟩ := H
                replace H : (if t141 = true then (if t143 = true then (if t142 = true then (if a3 = true then (if (y136.length : Int) = 0 then ((rule_Passes.f kj14 0 3 y136 x135000_14 x135001_14).bind fun t144 => (if t144 = true then (none) else (if (y136.length : Int) > 0 then (some true) else (none)))) else ((rule_Passes.f kj14 0 3 y136 x135000_14 x135001_14).bind fun t145 => (if t145 = true then (none) else (if (y136.length : Int) > 0 then (some true) else (none))))) else ((rule_Passes.f kj14 0 3 y136 x135000_14 x135001_14).bind fun t146 => (if t146 = true then (none) else (if (y136.length : Int) > 0 then (some true) else (none))))) else (none)) else (if a3 = true then (if (y136.length : Int) = 0 then ((rule_Passes.f kj14 0 3 y136 x135000_14 x135001_14).bind fun t147 => (if t147 = true then (none) else (if (y136.length : Int) > 0 then (some true) else (some (!t142))))) else (none)) else ((rule_Passes.f kj14 0 3 y136 x135000_14 x135001_14).bind fun t148 => (if t148 = true then (none) else (if (y136.length : Int) > 0 then (some true) else (some (!t142))))))) else (none)) = some r := H
                have A24 := Aside0.mk A240
                clear A240
                by_cases c25 : t141 = true
                · (first | subst c25 | clear c25)
                  have H1 : (if t143 = true then (if t142 = true then (if a3 = true then (if (y136.length : Int) = 0 then ((rule_Passes.f kj14 0 3 y136 x135000_14 x135001_14).bind fun t144 => (if t144 = true then (none) else (if (y136.length : Int) > 0 then (some true) else (none)))) else ((rule_Passes.f kj14 0 3 y136 x135000_14 x135001_14).bind fun t145 => (if t145 = true then (none) else (if (y136.length : Int) > 0 then (some true) else (none))))) else ((rule_Passes.f kj14 0 3 y136 x135000_14 x135001_14).bind fun t146 => (if t146 = true then (none) else (if (y136.length : Int) > 0 then (some true) else (none))))) else (none)) else (if a3 = true then (if (y136.length : Int) = 0 then ((rule_Passes.f kj14 0 3 y136 x135000_14 x135001_14).bind fun t147 => (if t147 = true then (none) else (if (y136.length : Int) > 0 then (some true) else (some (!t142))))) else (none)) else ((rule_Passes.f kj14 0 3 y136 x135000_14 x135001_14).bind fun t148 => (if t148 = true then (none) else (if (y136.length : Int) > 0 then (some true) else (some (!t142))))))) = some r := by first | (rw [if_pos rfl] at H; exact H) | (rw [if_pos trivial] at H; exact H)
                  clear H
                  have H := H1
                  clear H1
                  by_cases c26 : t143 = true
                  · (first | subst c26 | clear c26)
                    have H1 : (if t142 = true then (if a3 = true then (if (y136.length : Int) = 0 then ((rule_Passes.f kj14 0 3 y136 x135000_14 x135001_14).bind fun t144 => (if t144 = true then (none) else (if (y136.length : Int) > 0 then (some true) else (none)))) else ((rule_Passes.f kj14 0 3 y136 x135000_14 x135001_14).bind fun t145 => (if t145 = true then (none) else (if (y136.length : Int) > 0 then (some true) else (none))))) else ((rule_Passes.f kj14 0 3 y136 x135000_14 x135001_14).bind fun t146 => (if t146 = true then (none) else (if (y136.length : Int) > 0 then (some true) else (none))))) else (none)) = some r := by first | (rw [if_pos rfl] at H; exact H) | (rw [if_pos trivial] at H; exact H)
                    clear H
                    have H := H1
                    clear H1
                    by_cases c27 : t142 = true
                    · (first | subst c27 | clear c27)
                      have H1 : (if a3 = true then (if (y136.length : Int) = 0 then ((rule_Passes.f kj14 0 3 y136 x135000_14 x135001_14).bind fun t144 => (if t144 = true then (none) else (if (y136.length : Int) > 0 then (some true) else (none)))) else ((rule_Passes.f kj14 0 3 y136 x135000_14 x135001_14).bind fun t145 => (if t145 = true then (none) else (if (y136.length : Int) > 0 then (some true) else (none))))) else ((rule_Passes.f kj14 0 3 y136 x135000_14 x135001_14).bind fun t146 => (if t146 = true then (none) else (if (y136.length : Int) > 0 then (some true) else (none))))) = some r := by first | (rw [if_pos rfl] at H; exact H) | (rw [if_pos trivial] at H; exact H)
                      clear H
                      have H := H1
                      clear H1
                      by_cases c28 : a3 = true
                      · (first | subst c28 | clear c28)
                        have H1 : (if (y136.length : Int) = 0 then ((rule_Passes.f kj14 0 3 y136 x135000_14 x135001_14).bind fun t144 => (if t144 = true then (none) else (if (y136.length : Int) > 0 then (some true) else (none)))) else ((rule_Passes.f kj14 0 3 y136 x135000_14 x135001_14).bind fun t145 => (if t145 = true then (none) else (if (y136.length : Int) > 0 then (some true) else (none))))) = some r := by first | (rw [if_pos rfl] at H; exact H) | (rw [if_pos trivial] at H; exact H)
                        clear H
                        have H := H1
                        clear H1
                        by_cases c29 : (y136.length : Int) = 0
                        · rw [if_pos c29] at H
                          have c29b0 : ((y136.length : Int) == 0) = true := beq_iff_eq.mpr c29
                          have c29b1 : ((y136.length : Int) != 0) = false := bne_eq_false_iff_eq.mpr c29
                          clear c29
                          replace H := Option.bind_eq_some_iff.mp H
                          obtain ⟨t144, A300, H⟩ := H
                          replace H : (if t144 = true then (none) else (if (y136.length : Int) > 0 then (some true) else (none))) = some r := H
                          have A30 := Aside0.mk A300
                          clear A300
                          by_cases c31 : t144 = true
                          · (first | subst c31 | clear c31)
                            have H1 : (none) = some r := by first | (rw [if_pos rfl] at H; exact H) | (rw [if_pos trivial] at H; exact H)
                            clear H
                            have H := H1
                            clear H1
                            exact absurd H (by simp)
                          · replace c31 := Bool.eq_false_iff.mpr c31
                            (first | subst c31 | clear c31)
                            have H1 : (if (y136.length : Int) > 0 then (some true) else (none)) = some r := by rw [if_neg (show ¬ (false = true) by decide)] at H; exact H
                            clear H
                            have H := H1
                            clear H1
                            by_cases c32 : (y136.length : Int) > 0
                            · rw [if_pos c32] at H
                              have c32b0 : decide (0 < (y136.length : Int)) = true := decide_eq_true c32
                              have c32b1 : decide (0 < y136.length) = true := decide_eq_true (by omega)
                              clear c32
                              obtain rfl := Option.some.inj H
                              have hcz33_0 : wc.cell? ⟨gb134, 0, none⟩ = some (.int .u32 x135000_14) := (blk_cell BK134.out 0).trans rfl
                              have hcz33_1 : wc.cell? ⟨gb134, 1, none⟩ = some (.int .u16 x135001_14) := (blk_cell BK134.out 1).trans rfl
                              have hfz33_0 := blk_frozen BK134.out 0
                              have hfz33_1 := blk_frozen BK134.out 1
                              go_wp2_with (first | ((with_reducible refine gate_callee (f := 14) rfl ?_); refine goesL_ (some 38) rfl rfl Try.func14 (by kernel_rfl) rfl #[.agg #[.int .i64 0, .int .i64 0], (.slice A0 y136.length c0), .agg #[.int .u32 x135000_14, .int .u16 x135001_14]] rfl (by (try simp only [List.map_toArray, List.map_cons, List.map_nil]); first | done | rfl | (simp only [List.length_drop, List.length_take]; rfl)) ?_; (with_reducible refine (rule_Passes.calls kj14 0 0 _ _ y136 x135000_14 x135001_14 true _ ?side1 ?side2 A22.out).mono ?_); (case side1 => repeat (first | exact (Kd.C_below HR139.out HB.out) | (with_reducible refine Kd.C_alloc ?_ _) | (with_reducible refine Kd.C_drewN ?_ _) | (with_reducible refine Kd.C_drew ?_))); (case side2 => exact HC139.out); rintro e w34 ⟨rfl, hb⟩; refine ⟨_, rfl, ?_⟩; have n0_ := Aside0.mk (blk_below (g := gb134) (o := .cells #[.int .u32 x135000_14, .int .u16 x135001_14] 28 (0, 0)) (by (with_reducible repeat (first | refine blk_drewN ?_ _ | refine blk_drew ?_ | refine blk_alloc ?_ _)); exact BK134.out) hb); have n1_ := Aside0.mk (below_step (by repeat (first | (with_reducible first | exact HB.out | apply below_alloc | apply pw_below_drewN | apply below_drew1 | refine below_set ?_ GE134.out) | exact HB.out)) hb); clear BK134; clear HB; have BK134 := n0_; have HB := n1_; clear n0_ n1_; (try clear hb); (try clear hb2); (try clear hk); (try clear hi); have hcz35_0 : w34.cell? ⟨gb134, 0, none⟩ = some (.int .u32 x135000_14) := (blk_cell BK134.out 0).trans rfl; have hcz35_1 : w34.cell? ⟨gb134, 1, none⟩ = some (.int .u16 x135001_14) := (blk_cell BK134.out 1).trans rfl; have hfz35_0 := blk_frozen BK134.out 0; have hfz35_1 := blk_frozen BK134.out 1) | ((with_reducible refine gate_callee (f := 14) rfl ?_); refine goesL_ (some 42) rfl rfl Try.func14 (by kernel_rfl) rfl #[.agg #[.int .i64 0, .int .i64 1], (.slice A0 y136.length c0), .agg #[.int .u32 x135000_14, .int .u16 x135001_14]] rfl (by (try simp only [List.map_toArray, List.map_cons, List.map_nil]); first | done | rfl | (simp only [List.length_drop, List.length_take]; rfl)) ?_; (with_reducible refine (rule_Passes.calls kj14 0 1 _ _ y136 x135000_14 x135001_14 true _ ?side1 ?side2 A23.out).mono ?_); (case side1 => repeat (first | exact (Kd.C_below HR139.out HB.out) | (with_reducible refine Kd.C_alloc ?_ _) | (with_reducible refine Kd.C_drewN ?_ _) | (with_reducible refine Kd.C_drew ?_))); (case side2 => exact HC139.out); rintro e w36 ⟨rfl, hb⟩; refine ⟨_, rfl, ?_⟩; have n0_ := Aside0.mk (blk_below (g := gb134) (o := .cells #[.int .u32 x135000_14, .int .u16 x135001_14] 28 (0, 0)) (by (with_reducible repeat (first | refine blk_drewN ?_ _ | refine blk_drew ?_ | refine blk_alloc ?_ _)); exact BK134.out) hb); have n1_ := Aside0.mk (below_step (by repeat (first | (with_reducible first | exact HB.out | apply below_alloc | apply pw_below_drewN | apply below_drew1 | refine below_set ?_ GE134.out) | exact HB.out)) hb); clear BK134; clear HB; have BK134 := n0_; have HB := n1_; clear n0_ n1_; (try clear hb); (try clear hb2); (try clear hk); (try clear hi); have hcz37_0 : w36.cell? ⟨gb134, 0, none⟩ = some (.int .u32 x135000_14) := (blk_cell BK134.out 0).trans rfl; have hcz37_1 : w36.cell? ⟨gb134, 1, none⟩ = some (.int .u16 x135001_14) := (blk_cell BK134.out 1).trans rfl; have hfz37_0 := blk_frozen BK134.out 0; have hfz37_1 := blk_frozen BK134.out 1) | ((with_reducible refine gate_callee (f := 14) rfl ?_); refine goesL_ (some 46) rfl rfl Try.func14 (by kernel_rfl) rfl #[.agg #[.int .i64 0, .int .i64 2], (.slice A0 y136.length c0), .agg #[.int .u32 x135000_14, .int .u16 x135001_14]] rfl (by (try simp only [List.map_toArray, List.map_cons, List.map_nil]); first | done | rfl | (simp only [List.length_drop, List.length_take]; rfl)) ?_; (with_reducible refine (rule_Passes.calls kj14 0 2 _ _ y136 x135000_14 x135001_14 true _ ?side1 ?side2 A24.out).mono ?_); (case side1 => repeat (first | exact (Kd.C_below HR139.out HB.out) | (with_reducible refine Kd.C_alloc ?_ _) | (with_reducible refine Kd.C_drewN ?_ _) | (with_reducible refine Kd.C_drew ?_))); (case side2 => exact HC139.out); rintro e w38 ⟨rfl, hb⟩; refine ⟨_, rfl, ?_⟩; have n0_ := Aside0.mk (blk_below (g := gb134) (o := .cells #[.int .u32 x135000_14, .int .u16 x135001_14] 28 (0, 0)) (by (with_reducible repeat (first | refine blk_drewN ?_ _ | refine blk_drew ?_ | refine blk_alloc ?_ _)); exact BK134.out) hb); have n1_ := Aside0.mk (below_step (by repeat (first | (with_reducible first | exact HB.out | apply below_alloc | apply pw_below_drewN | apply below_drew1 | refine below_set ?_ GE134.out) | exact HB.out)) hb); clear BK134; clear HB; have BK134 := n0_; have HB := n1_; clear n0_ n1_; (try clear hb); (try clear hb2); (try clear hk); (try clear hi); have hcz39_0 : w38.cell? ⟨gb134, 0, none⟩ = some (.int .u32 x135000_14) := (blk_cell BK134.out 0).trans rfl; have hcz39_1 : w38.cell? ⟨gb134, 1, none⟩ = some (.int .u16 x135001_14) := (blk_cell BK134.out 1).trans rfl; have hfz39_0 := blk_frozen BK134.out 0; have hfz39_1 := blk_frozen BK134.out 1) | (go_at_call 14; (with_reducible refine (rule_Passes.calls kj14 0 3 _ _ y136 x135000_14 x135001_14 false _ ?side1 ?side2 A30.out).mono ?_); (case side1 => repeat (first | exact (Kd.C_below HR139.out HB.out) | (with_reducible refine Kd.C_alloc ?_ _) | (with_reducible refine Kd.C_drewN ?_ _) | (with_reducible refine Kd.C_drew ?_))); (case side2 => exact HC139.out); rintro e w40 ⟨rfl, hb⟩; have n0_ := Aside0.mk (blk_below (g := gb134) (o := .cells #[.int .u32 x135000_14, .int .u16 x135001_14] 28 (0, 0)) (by (with_reducible repeat (first | refine blk_drewN ?_ _ | refine blk_drew ?_ | refine blk_alloc ?_ _)); exact BK134.out) hb); have n1_ := Aside0.mk (below_step (by repeat (first | (with_reducible first | exact HB.out | apply below_alloc | apply pw_below_drewN | apply below_drew1 | refine below_set ?_ GE134.out) | exact HB.out)) hb); clear BK134; clear HB; have BK134 := n0_; have HB := n1_; clear n0_ n1_; (try clear hb); (try clear hb2); (try clear hk); (try clear hi)))
                              go_ret
                              exact ⟨by first | rfl | (simp [errW_none, errW_some] <;> rfl) | (simp only [← hji7]; first | rfl | (simp [errW_none, errW_some] <;> rfl)) | (simp [*, errW_none, errW_some] <;> rfl), by repeat (first | (with_reducible first | exact HB.out | apply below_alloc | apply pw_below_drewN | apply below_drew1 | refine below_set ?_ GE134.out) | exact HB.out)⟩
                            · (first | rw [if_neg c32] at H | exact absurd rfl c32)
                              exact absurd H (by simp)
                        · (first | rw [if_neg c29] at H | exact absurd rfl c29)
                          have c29b0 : ((y136.length : Int) == 0) = false := beq_eq_false_iff_ne.mpr c29
                          have c29b1 : ((y136.length : Int) != 0) = true := bne_iff_ne.mpr c29
                          have c29b2 : ¬ (y136 = []) := fun h_ => c29 (by rw [h_]; rfl)
                          replace H := Option.bind_eq_some_iff.mp H
                          obtain ⟨t145, A410, H⟩ := H
                          replace H : (if t145 = true then (none) else (if (y136.length : Int) > 0 then (some true) else (none))) = some r := H
                          have A41 := Aside0.mk A410
                          clear A410
                          by_cases c42 : t145 = true
                          · (first | subst c42 | clear c42)
                            have H1 : (none) = some r := by first | (rw [if_pos rfl] at H; exact H) | (rw [if_pos trivial] at H; exact H)
                            clear H
                            have H := H1
                            clear H1
                            exact absurd H (by simp)
                          · replace c42 := Bool.eq_false_iff.mpr c42
                            (first | subst c42 | clear c42)
                            have H1 : (if (y136.length : Int) > 0 then (some true) else (none)) = some r := by rw [if_neg (show ¬ (false = true) by decide)] at H; exact H
                            clear H
                            have H := H1
                            clear H1
                            by_cases c43 : (y136.length : Int) > 0
                            · rw [if_pos c43] at H
                              have c43b0 : decide (0 < (y136.length : Int)) = true := decide_eq_true c43
                              have c43b1 : decide (0 < y136.length) = true := decide_eq_true (by omega)
                              clear c43
                              obtain rfl := Option.some.inj H
                              have hcz44_0 : wc.cell? ⟨gb134, 0, none⟩ = some (.int .u32 x135000_14) := (blk_cell BK134.out 0).trans rfl
                              have hcz44_1 : wc.cell? ⟨gb134, 1, none⟩ = some (.int .u16 x135001_14) := (blk_cell BK134.out 1).trans rfl
                              have hfz44_0 := blk_frozen BK134.out 0
                              have hfz44_1 := blk_frozen BK134.out 1
                              go_wp2_with (first | ((with_reducible refine gate_callee (f := 14) rfl ?_); refine goesL_ (some 38) rfl rfl Try.func14 (by kernel_rfl) rfl #[.agg #[.int .i64 0, .int .i64 0], (.slice A0 y136.length c0), .agg #[.int .u32 x135000_14, .int .u16 x135001_14]] rfl (by (try simp only [List.map_toArray, List.map_cons, List.map_nil]); first | done | rfl | (simp only [List.length_drop, List.length_take]; rfl)) ?_; (with_reducible refine (rule_Passes.calls kj14 0 0 _ _ y136 x135000_14 x135001_14 true _ ?side1 ?side2 A22.out).mono ?_); (case side1 => repeat (first | exact (Kd.C_below HR139.out HB.out) | (with_reducible refine Kd.C_alloc ?_ _) | (with_reducible refine Kd.C_drewN ?_ _) | (with_reducible refine Kd.C_drew ?_))); (case side2 => exact HC139.out); rintro e w45 ⟨rfl, hb⟩; refine ⟨_, rfl, ?_⟩; have n0_ := Aside0.mk (blk_below (g := gb134) (o := .cells #[.int .u32 x135000_14, .int .u16 x135001_14] 28 (0, 0)) (by (with_reducible repeat (first | refine blk_drewN ?_ _ | refine blk_drew ?_ | refine blk_alloc ?_ _)); exact BK134.out) hb); have n1_ := Aside0.mk (below_step (by repeat (first | (with_reducible first | exact HB.out | apply below_alloc | apply pw_below_drewN | apply below_drew1 | refine below_set ?_ GE134.out) | exact HB.out)) hb); clear BK134; clear HB; have BK134 := n0_; have HB := n1_; clear n0_ n1_; (try clear hb); (try clear hb2); (try clear hk); (try clear hi); have hcz46_0 : w45.cell? ⟨gb134, 0, none⟩ = some (.int .u32 x135000_14) := (blk_cell BK134.out 0).trans rfl; have hcz46_1 : w45.cell? ⟨gb134, 1, none⟩ = some (.int .u16 x135001_14) := (blk_cell BK134.out 1).trans rfl; have hfz46_0 := blk_frozen BK134.out 0; have hfz46_1 := blk_frozen BK134.out 1) | ((with_reducible refine gate_callee (f := 14) rfl ?_); refine goesL_ (some 42) rfl rfl Try.func14 (by kernel_rfl) rfl #[.agg #[.int .i64 0, .int .i64 1], (.slice A0 y136.length c0), .agg #[.int .u32 x135000_14, .int .u16 x135001_14]] rfl (by (try simp only [List.map_toArray, List.map_cons, List.map_nil]); first | done | rfl | (simp only [List.length_drop, List.length_take]; rfl)) ?_; (with_reducible refine (rule_Passes.calls kj14 0 1 _ _ y136 x135000_14 x135001_14 true _ ?side1 ?side2 A23.out).mono ?_); (case side1 => repeat (first | exact (Kd.C_below HR139.out HB.out) | (with_reducible refine Kd.C_alloc ?_ _) | (with_reducible refine Kd.C_drewN ?_ _) | (with_reducible refine Kd.C_drew ?_))); (case side2 => exact HC139.out); rintro e w47 ⟨rfl, hb⟩; refine ⟨_, rfl, ?_⟩; have n0_ := Aside0.mk (blk_below (g := gb134) (o := .cells #[.int .u32 x135000_14, .int .u16 x135001_14] 28 (0, 0)) (by (with_reducible repeat (first | refine blk_drewN ?_ _ | refine blk_drew ?_ | refine blk_alloc ?_ _)); exact BK134.out) hb); have n1_ := Aside0.mk (below_step (by repeat (first | (with_reducible first | exact HB.out | apply below_alloc | apply pw_below_drewN | apply below_drew1 | refine below_set ?_ GE134.out) | exact HB.out)) hb); clear BK134; clear HB; have BK134 := n0_; have HB := n1_; clear n0_ n1_; (try clear hb); (try clear hb2); (try clear hk); (try clear hi); have hcz48_0 : w47.cell? ⟨gb134, 0, none⟩ = some (.int .u32 x135000_14) := (blk_cell BK134.out 0).trans rfl; have hcz48_1 : w47.cell? ⟨gb134, 1, none⟩ = some (.int .u16 x135001_14) := (blk_cell BK134.out 1).trans rfl; have hfz48_0 := blk_frozen BK134.out 0; have hfz48_1 := blk_frozen BK134.out 1) | ((with_reducible refine gate_callee (f := 14) rfl ?_); refine goesL_ (some 46) rfl rfl Try.func14 (by kernel_rfl) rfl #[.agg #[.int .i64 0, .int .i64 2], (.slice A0 y136.length c0), .agg #[.int .u32 x135000_14, .int .u16 x135001_14]] rfl (by (try simp only [List.map_toArray, List.map_cons, List.map_nil]); first | done | rfl | (simp only [List.length_drop, List.length_take]; rfl)) ?_; (with_reducible refine (rule_Passes.calls kj14 0 2 _ _ y136 x135000_14 x135001_14 true _ ?side1 ?side2 A24.out).mono ?_); (case side1 => repeat (first | exact (Kd.C_below HR139.out HB.out) | (with_reducible refine Kd.C_alloc ?_ _) | (with_reducible refine Kd.C_drewN ?_ _) | (with_reducible refine Kd.C_drew ?_))); (case side2 => exact HC139.out); rintro e w49 ⟨rfl, hb⟩; refine ⟨_, rfl, ?_⟩; have n0_ := Aside0.mk (blk_below (g := gb134) (o := .cells #[.int .u32 x135000_14, .int .u16 x135001_14] 28 (0, 0)) (by (with_reducible repeat (first | refine blk_drewN ?_ _ | refine blk_drew ?_ | refine blk_alloc ?_ _)); exact BK134.out) hb); have n1_ := Aside0.mk (below_step (by repeat (first | (with_reducible first | exact HB.out | apply below_alloc | apply pw_below_drewN | apply below_drew1 | refine below_set ?_ GE134.out) | exact HB.out)) hb); clear BK134; clear HB; have BK134 := n0_; have HB := n1_; clear n0_ n1_; (try clear hb); (try clear hb2); (try clear hk); (try clear hi); have hcz50_0 : w49.cell? ⟨gb134, 0, none⟩ = some (.int .u32 x135000_14) := (blk_cell BK134.out 0).trans rfl; have hcz50_1 : w49.cell? ⟨gb134, 1, none⟩ = some (.int .u16 x135001_14) := (blk_cell BK134.out 1).trans rfl; have hfz50_0 := blk_frozen BK134.out 0; have hfz50_1 := blk_frozen BK134.out 1) | (go_at_call 14; (with_reducible refine (rule_Passes.calls kj14 0 3 _ _ y136 x135000_14 x135001_14 false _ ?side1 ?side2 A41.out).mono ?_); (case side1 => repeat (first | exact (Kd.C_below HR139.out HB.out) | (with_reducible refine Kd.C_alloc ?_ _) | (with_reducible refine Kd.C_drewN ?_ _) | (with_reducible refine Kd.C_drew ?_))); (case side2 => exact HC139.out); rintro e w51 ⟨rfl, hb⟩; have n0_ := Aside0.mk (blk_below (g := gb134) (o := .cells #[.int .u32 x135000_14, .int .u16 x135001_14] 28 (0, 0)) (by (with_reducible repeat (first | refine blk_drewN ?_ _ | refine blk_drew ?_ | refine blk_alloc ?_ _)); exact BK134.out) hb); have n1_ := Aside0.mk (below_step (by repeat (first | (with_reducible first | exact HB.out | apply below_alloc | apply pw_below_drewN | apply below_drew1 | refine below_set ?_ GE134.out) | exact HB.out)) hb); clear BK134; clear HB; have BK134 := n0_; have HB := n1_; clear n0_ n1_; (try clear hb); (try clear hb2); (try clear hk); (try clear hi)))
                              go_ret
                              exact ⟨by first | rfl | (simp [errW_none, errW_some] <;> rfl) | (simp only [← hji7]; first | rfl | (simp [errW_none, errW_some] <;> rfl)) | (simp [*, errW_none, errW_some] <;> rfl), by repeat (first | (with_reducible first | exact HB.out | apply below_alloc | apply pw_below_drewN | apply below_drew1 | refine below_set ?_ GE134.out) | exact HB.out)⟩
                            · (first | rw [if_neg c43] at H | exact absurd rfl c43)
                              exact absurd H (by simp)
                      · replace c28 := Bool.eq_false_iff.mpr c28
                        (first | subst c28 | clear c28)
                        have H1 : ((rule_Passes.f kj14 0 3 y136 x135000_14 x135001_14).bind fun t146 => (if t146 = true then (none) else (if (y136.length : Int) > 0 then (some true) else (none)))) = some r := by rw [if_neg (show ¬ (false = true) by decide)] at H; exact H
                        clear H
                        have H := H1
                        clear H1
                        replace H := Option.bind_eq_some_iff.mp H
                        obtain ⟨t146, A520, H⟩ := H
                        replace H : (if t146 = true then (none) else (if (y136.length : Int) > 0 then (some true) else (none))) = some r := H
                        have A52 := Aside0.mk A520
                        clear A520
                        by_cases c53 : t146 = true
                        · (first | subst c53 | clear c53)
                          have H1 : (none) = some r := by first | (rw [if_pos rfl] at H; exact H) | (rw [if_pos trivial] at H; exact H)
                          clear H
                          have H := H1
                          clear H1
                          exact absurd H (by simp)
                        · replace c53 := Bool.eq_false_iff.mpr c53
                          (first | subst c53 | clear c53)
                          have H1 : (if (y136.length : Int) > 0 then (some true) else (none)) = some r := by rw [if_neg (show ¬ (false = true) by decide)] at H; exact H
                          clear H
                          have H := H1
                          clear H1
                          by_cases c54 : (y136.length : Int) > 0
                          · rw [if_pos c54] at H
                            have c54b0 : decide (0 < (y136.length : Int)) = true := decide_eq_true c54
                            have c54b1 : decide (0 < y136.length) = true := decide_eq_true (by omega)
                            clear c54
                            obtain rfl := Option.some.inj H
                            have hcz55_0 : wc.cell? ⟨gb134, 0, none⟩ = some (.int .u32 x135000_14) := (blk_cell BK134.out 0).trans rfl
                            have hcz55_1 : wc.cell? ⟨gb134, 1, none⟩ = some (.int .u16 x135001_14) := (blk_cell BK134.out 1).trans rfl
                            have hfz55_0 := blk_frozen BK134.out 0
                            have hfz55_1 := blk_frozen BK134.out 1
                            go_wp2_with (first | ((with_reducible refine gate_callee (f := 14) rfl ?_); refine goesL_ (some 38) rfl rfl Try.func14 (by kernel_rfl) rfl #[.agg #[.int .i64 0, .int .i64 0], (.slice A0 y136.length c0), .agg #[.int .u32 x135000_14, .int .u16 x135001_14]] rfl (by (try simp only [List.map_toArray, List.map_cons, List.map_nil]); first | done | rfl | (simp only [List.length_drop, List.length_take]; rfl)) ?_; (with_reducible refine (rule_Passes.calls kj14 0 0 _ _ y136 x135000_14 x135001_14 true _ ?side1 ?side2 A22.out).mono ?_); (case side1 => repeat (first | exact (Kd.C_below HR139.out HB.out) | (with_reducible refine Kd.C_alloc ?_ _) | (with_reducible refine Kd.C_drewN ?_ _) | (with_reducible refine Kd.C_drew ?_))); (case side2 => exact HC139.out); rintro e w56 ⟨rfl, hb⟩; refine ⟨_, rfl, ?_⟩; have n0_ := Aside0.mk (blk_below (g := gb134) (o := .cells #[.int .u32 x135000_14, .int .u16 x135001_14] 28 (0, 0)) (by (with_reducible repeat (first | refine blk_drewN ?_ _ | refine blk_drew ?_ | refine blk_alloc ?_ _)); exact BK134.out) hb); have n1_ := Aside0.mk (below_step (by repeat (first | (with_reducible first | exact HB.out | apply below_alloc | apply pw_below_drewN | apply below_drew1 | refine below_set ?_ GE134.out) | exact HB.out)) hb); clear BK134; clear HB; have BK134 := n0_; have HB := n1_; clear n0_ n1_; (try clear hb); (try clear hb2); (try clear hk); (try clear hi); have hcz57_0 : w56.cell? ⟨gb134, 0, none⟩ = some (.int .u32 x135000_14) := (blk_cell BK134.out 0).trans rfl; have hcz57_1 : w56.cell? ⟨gb134, 1, none⟩ = some (.int .u16 x135001_14) := (blk_cell BK134.out 1).trans rfl; have hfz57_0 := blk_frozen BK134.out 0; have hfz57_1 := blk_frozen BK134.out 1) | ((with_reducible refine gate_callee (f := 14) rfl ?_); refine goesL_ (some 42) rfl rfl Try.func14 (by kernel_rfl) rfl #[.agg #[.int .i64 0, .int .i64 1], (.slice A0 y136.length c0), .agg #[.int .u32 x135000_14, .int .u16 x135001_14]] rfl (by (try simp only [List.map_toArray, List.map_cons, List.map_nil]); first | done | rfl | (simp only [List.length_drop, List.length_take]; rfl)) ?_; (with_reducible refine (rule_Passes.calls kj14 0 1 _ _ y136 x135000_14 x135001_14 true _ ?side1 ?side2 A23.out).mono ?_); (case side1 => repeat (first | exact (Kd.C_below HR139.out HB.out) | (with_reducible refine Kd.C_alloc ?_ _) | (with_reducible refine Kd.C_drewN ?_ _) | (with_reducible refine Kd.C_drew ?_))); (case side2 => exact HC139.out); rintro e w58 ⟨rfl, hb⟩; refine ⟨_, rfl, ?_⟩; have n0_ := Aside0.mk (blk_below (g := gb134) (o := .cells #[.int .u32 x135000_14, .int .u16 x135001_14] 28 (0, 0)) (by (with_reducible repeat (first | refine blk_drewN ?_ _ | refine blk_drew ?_ | refine blk_alloc ?_ _)); exact BK134.out) hb); have n1_ := Aside0.mk (below_step (by repeat (first | (with_reducible first | exact HB.out | apply below_alloc | apply pw_below_drewN | apply below_drew1 | refine below_set ?_ GE134.out) | exact HB.out)) hb); clear BK134; clear HB; have BK134 := n0_; have HB := n1_; clear n0_ n1_; (try clear hb); (try clear hb2); (try clear hk); (try clear hi); have hcz59_0 : w58.cell? ⟨gb134, 0, none⟩ = some (.int .u32 x135000_14) := (blk_cell BK134.out 0).trans rfl; have hcz59_1 : w58.cell? ⟨gb134, 1, none⟩ = some (.int .u16 x135001_14) := (blk_cell BK134.out 1).trans rfl; have hfz59_0 := blk_frozen BK134.out 0; have hfz59_1 := blk_frozen BK134.out 1) | ((with_reducible refine gate_callee (f := 14) rfl ?_); refine goesL_ (some 46) rfl rfl Try.func14 (by kernel_rfl) rfl #[.agg #[.int .i64 0, .int .i64 2], (.slice A0 y136.length c0), .agg #[.int .u32 x135000_14, .int .u16 x135001_14]] rfl (by (try simp only [List.map_toArray, List.map_cons, List.map_nil]); first | done | rfl | (simp only [List.length_drop, List.length_take]; rfl)) ?_; (with_reducible refine (rule_Passes.calls kj14 0 2 _ _ y136 x135000_14 x135001_14 true _ ?side1 ?side2 A24.out).mono ?_); (case side1 => repeat (first | exact (Kd.C_below HR139.out HB.out) | (with_reducible refine Kd.C_alloc ?_ _) | (with_reducible refine Kd.C_drewN ?_ _) | (with_reducible refine Kd.C_drew ?_))); (case side2 => exact HC139.out); rintro e w60 ⟨rfl, hb⟩; refine ⟨_, rfl, ?_⟩; have n0_ := Aside0.mk (blk_below (g := gb134) (o := .cells #[.int .u32 x135000_14, .int .u16 x135001_14] 28 (0, 0)) (by (with_reducible repeat (first | refine blk_drewN ?_ _ | refine blk_drew ?_ | refine blk_alloc ?_ _)); exact BK134.out) hb); have n1_ := Aside0.mk (below_step (by repeat (first | (with_reducible first | exact HB.out | apply below_alloc | apply pw_below_drewN | apply below_drew1 | refine below_set ?_ GE134.out) | exact HB.out)) hb); clear BK134; clear HB; have BK134 := n0_; have HB := n1_; clear n0_ n1_; (try clear hb); (try clear hb2); (try clear hk); (try clear hi); have hcz61_0 : w60.cell? ⟨gb134, 0, none⟩ = some (.int .u32 x135000_14) := (blk_cell BK134.out 0).trans rfl; have hcz61_1 : w60.cell? ⟨gb134, 1, none⟩ = some (.int .u16 x135001_14) := (blk_cell BK134.out 1).trans rfl; have hfz61_0 := blk_frozen BK134.out 0; have hfz61_1 := blk_frozen BK134.out 1) | (go_at_call 14; (with_reducible refine (rule_Passes.calls kj14 0 3 _ _ y136 x135000_14 x135001_14 false _ ?side1 ?side2 A52.out).mono ?_); (case side1 => repeat (first | exact (Kd.C_below HR139.out HB.out) | (with_reducible refine Kd.C_alloc ?_ _) | (with_reducible refine Kd.C_drewN ?_ _) | (with_reducible refine Kd.C_drew ?_))); (case side2 => exact HC139.out); rintro e w62 ⟨rfl, hb⟩; have n0_ := Aside0.mk (blk_below (g := gb134) (o := .cells #[.int .u32 x135000_14, .int .u16 x135001_14] 28 (0, 0)) (by (with_reducible repeat (first | refine blk_drewN ?_ _ | refine blk_drew ?_ | refine blk_alloc ?_ _)); exact BK134.out) hb); have n1_ := Aside0.mk (below_step (by repeat (first | (with_reducible first | exact HB.out | apply below_alloc | apply pw_below_drewN | apply below_drew1 | refine below_set ?_ GE134.out) | exact HB.out)) hb); clear BK134; clear HB; have BK134 := n0_; have HB := n1_; clear n0_ n1_; (try clear hb); (try clear hb2); (try clear hk); (try clear hi)))
                            go_ret
                            exact ⟨by first | rfl | (simp [errW_none, errW_some] <;> rfl) | (simp only [← hji7]; first | rfl | (simp [errW_none, errW_some] <;> rfl)) | (simp [*, errW_none, errW_some] <;> rfl), by repeat (first | (with_reducible first | exact HB.out | apply below_alloc | apply pw_below_drewN | apply below_drew1 | refine below_set ?_ GE134.out) | exact HB.out)⟩
                          · (first | rw [if_neg c54] at H | exact absurd rfl c54)
                            exact absurd H (by simp)
                    · replace c27 := Bool.eq_false_iff.mpr c27
                      (first | subst c27 | clear c27)
                      have H1 : (none) = some r := by rw [if_neg (show ¬ (false = true) by decide)] at H; exact H
                      clear H
                      have H := H1
                      clear H1
                      exact absurd H (by simp)
                  · replace c26 := Bool.eq_false_iff.mpr c26
                    (first | subst c26 | clear c26)
                    have H1 : (if a3 = true then (if (y136.length : Int) = 0 then ((rule_Passes.f kj14 0 3 y136 x135000_14 x135001_14).bind fun t147 => (if t147 = true then (none) else (if (y136.length : Int) > 0 then (some true) else (some (!t142))))) else (none)) else ((rule_Passes.f kj14 0 3 y136 x135000_14 x135001_14).bind fun t148 => (if t148 = true then (none) else (if (y136.length : Int) > 0 then (some true) else (some (!t142)))))) = some r := by rw [if_neg (show ¬ (false = true) by decide)] at H; exact H
                    clear H
                    have H := H1
                    clear H1
                    by_cases c63 : a3 = true
                    · (first | subst c63 | clear c63)
                      have H1 : (if (y136.length : Int) = 0 then ((rule_Passes.f kj14 0 3 y136 x135000_14 x135001_14).bind fun t147 => (if t147 = true then (none) else (if (y136.length : Int) > 0 then (some true) else (some (!t142))))) else (none)) = some r := by first | (rw [if_pos rfl] at H; exact H) | (rw [if_pos trivial] at H; exact H)
                      clear H
                      have H := H1
                      clear H1
                      by_cases c64 : (y136.length : Int) = 0
                      · rw [if_pos c64] at H
                        have c64b0 : ((y136.length : Int) == 0) = true := beq_iff_eq.mpr c64
                        have c64b1 : ((y136.length : Int) != 0) = false := bne_eq_false_iff_eq.mpr c64
                        clear c64
                        replace H := Option.bind_eq_some_iff.mp H
                        obtain ⟨t147, A650, H⟩ := H
                        replace H : (if t147 = true then (none) else (if (y136.length : Int) > 0 then (some true) else (some (!t142)))) = some r := H
                        have A65 := Aside0.mk A650
                        clear A650
                        by_cases c66 : t147 = true
                        · (first | subst c66 | clear c66)
                          have H1 : (none) = some r := by first | (rw [if_pos rfl] at H; exact H) | (rw [if_pos trivial] at H; exact H)
                          clear H
                          have H := H1
                          clear H1
                          exact absurd H (by simp)
                        · replace c66 := Bool.eq_false_iff.mpr c66
                          (first | subst c66 | clear c66)
                          have H1 : (if (y136.length : Int) > 0 then (some true) else (some (!t142))) = some r := by rw [if_neg (show ¬ (false = true) by decide)] at H; exact H
                          clear H
                          have H := H1
                          clear H1
                          by_cases c67 : (y136.length : Int) > 0
                          · rw [if_pos c67] at H
                            have c67b0 : decide (0 < (y136.length : Int)) = true := decide_eq_true c67
                            have c67b1 : decide (0 < y136.length) = true := decide_eq_true (by omega)
                            clear c67
                            obtain rfl := Option.some.inj H
                            have hcz68_0 : wc.cell? ⟨gb134, 0, none⟩ = some (.int .u32 x135000_14) := (blk_cell BK134.out 0).trans rfl
                            have hcz68_1 : wc.cell? ⟨gb134, 1, none⟩ = some (.int .u16 x135001_14) := (blk_cell BK134.out 1).trans rfl
                            have hfz68_0 := blk_frozen BK134.out 0
                            have hfz68_1 := blk_frozen BK134.out 1
                            go_wp2_with (first | ((with_reducible refine gate_callee (f := 14) rfl ?_); refine goesL_ (some 38) rfl rfl Try.func14 (by kernel_rfl) rfl #[.agg #[.int .i64 0, .int .i64 0], (.slice A0 y136.length c0), .agg #[.int .u32 x135000_14, .int .u16 x135001_14]] rfl (by (try simp only [List.map_toArray, List.map_cons, List.map_nil]); first | done | rfl | (simp only [List.length_drop, List.length_take]; rfl)) ?_; (with_reducible refine (rule_Passes.calls kj14 0 0 _ _ y136 x135000_14 x135001_14 true _ ?side1 ?side2 A22.out).mono ?_); (case side1 => repeat (first | exact (Kd.C_below HR139.out HB.out) | (with_reducible refine Kd.C_alloc ?_ _) | (with_reducible refine Kd.C_drewN ?_ _) | (with_reducible refine Kd.C_drew ?_))); (case side2 => exact HC139.out); rintro e w69 ⟨rfl, hb⟩; refine ⟨_, rfl, ?_⟩; have n0_ := Aside0.mk (blk_below (g := gb134) (o := .cells #[.int .u32 x135000_14, .int .u16 x135001_14] 28 (0, 0)) (by (with_reducible repeat (first | refine blk_drewN ?_ _ | refine blk_drew ?_ | refine blk_alloc ?_ _)); exact BK134.out) hb); have n1_ := Aside0.mk (below_step (by repeat (first | (with_reducible first | exact HB.out | apply below_alloc | apply pw_below_drewN | apply below_drew1 | refine below_set ?_ GE134.out) | exact HB.out)) hb); clear BK134; clear HB; have BK134 := n0_; have HB := n1_; clear n0_ n1_; (try clear hb); (try clear hb2); (try clear hk); (try clear hi); have hcz70_0 : w69.cell? ⟨gb134, 0, none⟩ = some (.int .u32 x135000_14) := (blk_cell BK134.out 0).trans rfl; have hcz70_1 : w69.cell? ⟨gb134, 1, none⟩ = some (.int .u16 x135001_14) := (blk_cell BK134.out 1).trans rfl; have hfz70_0 := blk_frozen BK134.out 0; have hfz70_1 := blk_frozen BK134.out 1) | ((with_reducible refine gate_callee (f := 14) rfl ?_); refine goesL_ (some 42) rfl rfl Try.func14 (by kernel_rfl) rfl #[.agg #[.int .i64 0, .int .i64 1], (.slice A0 y136.length c0), .agg #[.int .u32 x135000_14, .int .u16 x135001_14]] rfl (by (try simp only [List.map_toArray, List.map_cons, List.map_nil]); first | done | rfl | (simp only [List.length_drop, List.length_take]; rfl)) ?_; (with_reducible refine (rule_Passes.calls kj14 0 1 _ _ y136 x135000_14 x135001_14 t142 _ ?side1 ?side2 A23.out).mono ?_); (case side1 => repeat (first | exact (Kd.C_below HR139.out HB.out) | (with_reducible refine Kd.C_alloc ?_ _) | (with_reducible refine Kd.C_drewN ?_ _) | (with_reducible refine Kd.C_drew ?_))); (case side2 => exact HC139.out); rintro e w71 ⟨rfl, hb⟩; refine ⟨_, rfl, ?_⟩; have n0_ := Aside0.mk (blk_below (g := gb134) (o := .cells #[.int .u32 x135000_14, .int .u16 x135001_14] 28 (0, 0)) (by (with_reducible repeat (first | refine blk_drewN ?_ _ | refine blk_drew ?_ | refine blk_alloc ?_ _)); exact BK134.out) hb); have n1_ := Aside0.mk (below_step (by repeat (first | (with_reducible first | exact HB.out | apply below_alloc | apply pw_below_drewN | apply below_drew1 | refine below_set ?_ GE134.out) | exact HB.out)) hb); clear BK134; clear HB; have BK134 := n0_; have HB := n1_; clear n0_ n1_; (try clear hb); (try clear hb2); (try clear hk); (try clear hi); have hcz72_0 : w71.cell? ⟨gb134, 0, none⟩ = some (.int .u32 x135000_14) := (blk_cell BK134.out 0).trans rfl; have hcz72_1 : w71.cell? ⟨gb134, 1, none⟩ = some (.int .u16 x135001_14) := (blk_cell BK134.out 1).trans rfl; have hfz72_0 := blk_frozen BK134.out 0; have hfz72_1 := blk_frozen BK134.out 1) | ((with_reducible refine gate_callee (f := 14) rfl ?_); refine goesL_ (some 46) rfl rfl Try.func14 (by kernel_rfl) rfl #[.agg #[.int .i64 0, .int .i64 2], (.slice A0 y136.length c0), .agg #[.int .u32 x135000_14, .int .u16 x135001_14]] rfl (by (try simp only [List.map_toArray, List.map_cons, List.map_nil]); first | done | rfl | (simp only [List.length_drop, List.length_take]; rfl)) ?_; (with_reducible refine (rule_Passes.calls kj14 0 2 _ _ y136 x135000_14 x135001_14 false _ ?side1 ?side2 A24.out).mono ?_); (case side1 => repeat (first | exact (Kd.C_below HR139.out HB.out) | (with_reducible refine Kd.C_alloc ?_ _) | (with_reducible refine Kd.C_drewN ?_ _) | (with_reducible refine Kd.C_drew ?_))); (case side2 => exact HC139.out); rintro e w73 ⟨rfl, hb⟩; refine ⟨_, rfl, ?_⟩; have n0_ := Aside0.mk (blk_below (g := gb134) (o := .cells #[.int .u32 x135000_14, .int .u16 x135001_14] 28 (0, 0)) (by (with_reducible repeat (first | refine blk_drewN ?_ _ | refine blk_drew ?_ | refine blk_alloc ?_ _)); exact BK134.out) hb); have n1_ := Aside0.mk (below_step (by repeat (first | (with_reducible first | exact HB.out | apply below_alloc | apply pw_below_drewN | apply below_drew1 | refine below_set ?_ GE134.out) | exact HB.out)) hb); clear BK134; clear HB; have BK134 := n0_; have HB := n1_; clear n0_ n1_; (try clear hb); (try clear hb2); (try clear hk); (try clear hi); have hcz74_0 : w73.cell? ⟨gb134, 0, none⟩ = some (.int .u32 x135000_14) := (blk_cell BK134.out 0).trans rfl; have hcz74_1 : w73.cell? ⟨gb134, 1, none⟩ = some (.int .u16 x135001_14) := (blk_cell BK134.out 1).trans rfl; have hfz74_0 := blk_frozen BK134.out 0; have hfz74_1 := blk_frozen BK134.out 1) | (go_at_call 14; (with_reducible refine (rule_Passes.calls kj14 0 3 _ _ y136 x135000_14 x135001_14 false _ ?side1 ?side2 A65.out).mono ?_); (case side1 => repeat (first | exact (Kd.C_below HR139.out HB.out) | (with_reducible refine Kd.C_alloc ?_ _) | (with_reducible refine Kd.C_drewN ?_ _) | (with_reducible refine Kd.C_drew ?_))); (case side2 => exact HC139.out); rintro e w75 ⟨rfl, hb⟩; have n0_ := Aside0.mk (blk_below (g := gb134) (o := .cells #[.int .u32 x135000_14, .int .u16 x135001_14] 28 (0, 0)) (by (with_reducible repeat (first | refine blk_drewN ?_ _ | refine blk_drew ?_ | refine blk_alloc ?_ _)); exact BK134.out) hb); have n1_ := Aside0.mk (below_step (by repeat (first | (with_reducible first | exact HB.out | apply below_alloc | apply pw_below_drewN | apply below_drew1 | refine below_set ?_ GE134.out) | exact HB.out)) hb); clear BK134; clear HB; have BK134 := n0_; have HB := n1_; clear n0_ n1_; (try clear hb); (try clear hb2); (try clear hk); (try clear hi)))
                            go_ret
                            exact ⟨by first | rfl | (simp [errW_none, errW_some] <;> rfl) | (simp only [← hji7]; first | rfl | (simp [errW_none, errW_some] <;> rfl)) | (simp [*, errW_none, errW_some] <;> rfl), by repeat (first | (with_reducible first | exact HB.out | apply below_alloc | apply pw_below_drewN | apply below_drew1 | refine below_set ?_ GE134.out) | exact HB.out)⟩
                          · (first | rw [if_neg c67] at H | exact absurd rfl c67)
                            have c67b0 : decide (0 < (y136.length : Int)) = false := decide_eq_false c67
                            have c67b1 : decide (0 < y136.length) = false := decide_eq_false (by omega)
                            clear c67
                            obtain rfl := Option.some.inj H
                            have hcz76_0 : wc.cell? ⟨gb134, 0, none⟩ = some (.int .u32 x135000_14) := (blk_cell BK134.out 0).trans rfl
                            have hcz76_1 : wc.cell? ⟨gb134, 1, none⟩ = some (.int .u16 x135001_14) := (blk_cell BK134.out 1).trans rfl
                            have hfz76_0 := blk_frozen BK134.out 0
                            have hfz76_1 := blk_frozen BK134.out 1
                            go_wp2_with (first | ((with_reducible refine gate_callee (f := 14) rfl ?_); refine goesL_ (some 38) rfl rfl Try.func14 (by kernel_rfl) rfl #[.agg #[.int .i64 0, .int .i64 0], (.slice A0 y136.length c0), .agg #[.int .u32 x135000_14, .int .u16 x135001_14]] rfl (by (try simp only [List.map_toArray, List.map_cons, List.map_nil]); first | done | rfl | (simp only [List.length_drop, List.length_take]; rfl)) ?_; (with_reducible refine (rule_Passes.calls kj14 0 0 _ _ y136 x135000_14 x135001_14 true _ ?side1 ?side2 A22.out).mono ?_); (case side1 => repeat (first | exact (Kd.C_below HR139.out HB.out) | (with_reducible refine Kd.C_alloc ?_ _) | (with_reducible refine Kd.C_drewN ?_ _) | (with_reducible refine Kd.C_drew ?_))); (case side2 => exact HC139.out); rintro e w77 ⟨rfl, hb⟩; refine ⟨_, rfl, ?_⟩; have n0_ := Aside0.mk (blk_below (g := gb134) (o := .cells #[.int .u32 x135000_14, .int .u16 x135001_14] 28 (0, 0)) (by (with_reducible repeat (first | refine blk_drewN ?_ _ | refine blk_drew ?_ | refine blk_alloc ?_ _)); exact BK134.out) hb); have n1_ := Aside0.mk (below_step (by repeat (first | (with_reducible first | exact HB.out | apply below_alloc | apply pw_below_drewN | apply below_drew1 | refine below_set ?_ GE134.out) | exact HB.out)) hb); clear BK134; clear HB; have BK134 := n0_; have HB := n1_; clear n0_ n1_; (try clear hb); (try clear hb2); (try clear hk); (try clear hi); have hcz78_0 : w77.cell? ⟨gb134, 0, none⟩ = some (.int .u32 x135000_14) := (blk_cell BK134.out 0).trans rfl; have hcz78_1 : w77.cell? ⟨gb134, 1, none⟩ = some (.int .u16 x135001_14) := (blk_cell BK134.out 1).trans rfl; have hfz78_0 := blk_frozen BK134.out 0; have hfz78_1 := blk_frozen BK134.out 1) | ((with_reducible refine gate_callee (f := 14) rfl ?_); refine goesL_ (some 42) rfl rfl Try.func14 (by kernel_rfl) rfl #[.agg #[.int .i64 0, .int .i64 1], (.slice A0 y136.length c0), .agg #[.int .u32 x135000_14, .int .u16 x135001_14]] rfl (by (try simp only [List.map_toArray, List.map_cons, List.map_nil]); first | done | rfl | (simp only [List.length_drop, List.length_take]; rfl)) ?_; (with_reducible refine (rule_Passes.calls kj14 0 1 _ _ y136 x135000_14 x135001_14 t142 _ ?side1 ?side2 A23.out).mono ?_); (case side1 => repeat (first | exact (Kd.C_below HR139.out HB.out) | (with_reducible refine Kd.C_alloc ?_ _) | (with_reducible refine Kd.C_drewN ?_ _) | (with_reducible refine Kd.C_drew ?_))); (case side2 => exact HC139.out); rintro e w79 ⟨rfl, hb⟩; refine ⟨_, rfl, ?_⟩; have n0_ := Aside0.mk (blk_below (g := gb134) (o := .cells #[.int .u32 x135000_14, .int .u16 x135001_14] 28 (0, 0)) (by (with_reducible repeat (first | refine blk_drewN ?_ _ | refine blk_drew ?_ | refine blk_alloc ?_ _)); exact BK134.out) hb); have n1_ := Aside0.mk (below_step (by repeat (first | (with_reducible first | exact HB.out | apply below_alloc | apply pw_below_drewN | apply below_drew1 | refine below_set ?_ GE134.out) | exact HB.out)) hb); clear BK134; clear HB; have BK134 := n0_; have HB := n1_; clear n0_ n1_; (try clear hb); (try clear hb2); (try clear hk); (try clear hi); have hcz80_0 : w79.cell? ⟨gb134, 0, none⟩ = some (.int .u32 x135000_14) := (blk_cell BK134.out 0).trans rfl; have hcz80_1 : w79.cell? ⟨gb134, 1, none⟩ = some (.int .u16 x135001_14) := (blk_cell BK134.out 1).trans rfl; have hfz80_0 := blk_frozen BK134.out 0; have hfz80_1 := blk_frozen BK134.out 1) | ((with_reducible refine gate_callee (f := 14) rfl ?_); refine goesL_ (some 46) rfl rfl Try.func14 (by kernel_rfl) rfl #[.agg #[.int .i64 0, .int .i64 2], (.slice A0 y136.length c0), .agg #[.int .u32 x135000_14, .int .u16 x135001_14]] rfl (by (try simp only [List.map_toArray, List.map_cons, List.map_nil]); first | done | rfl | (simp only [List.length_drop, List.length_take]; rfl)) ?_; (with_reducible refine (rule_Passes.calls kj14 0 2 _ _ y136 x135000_14 x135001_14 false _ ?side1 ?side2 A24.out).mono ?_); (case side1 => repeat (first | exact (Kd.C_below HR139.out HB.out) | (with_reducible refine Kd.C_alloc ?_ _) | (with_reducible refine Kd.C_drewN ?_ _) | (with_reducible refine Kd.C_drew ?_))); (case side2 => exact HC139.out); rintro e w81 ⟨rfl, hb⟩; refine ⟨_, rfl, ?_⟩; have n0_ := Aside0.mk (blk_below (g := gb134) (o := .cells #[.int .u32 x135000_14, .int .u16 x135001_14] 28 (0, 0)) (by (with_reducible repeat (first | refine blk_drewN ?_ _ | refine blk_drew ?_ | refine blk_alloc ?_ _)); exact BK134.out) hb); have n1_ := Aside0.mk (below_step (by repeat (first | (with_reducible first | exact HB.out | apply below_alloc | apply pw_below_drewN | apply below_drew1 | refine below_set ?_ GE134.out) | exact HB.out)) hb); clear BK134; clear HB; have BK134 := n0_; have HB := n1_; clear n0_ n1_; (try clear hb); (try clear hb2); (try clear hk); (try clear hi); have hcz82_0 : w81.cell? ⟨gb134, 0, none⟩ = some (.int .u32 x135000_14) := (blk_cell BK134.out 0).trans rfl; have hcz82_1 : w81.cell? ⟨gb134, 1, none⟩ = some (.int .u16 x135001_14) := (blk_cell BK134.out 1).trans rfl; have hfz82_0 := blk_frozen BK134.out 0; have hfz82_1 := blk_frozen BK134.out 1) | (go_at_call 14; (with_reducible refine (rule_Passes.calls kj14 0 3 _ _ y136 x135000_14 x135001_14 false _ ?side1 ?side2 A65.out).mono ?_); (case side1 => repeat (first | exact (Kd.C_below HR139.out HB.out) | (with_reducible refine Kd.C_alloc ?_ _) | (with_reducible refine Kd.C_drewN ?_ _) | (with_reducible refine Kd.C_drew ?_))); (case side2 => exact HC139.out); rintro e w83 ⟨rfl, hb⟩; have n0_ := Aside0.mk (blk_below (g := gb134) (o := .cells #[.int .u32 x135000_14, .int .u16 x135001_14] 28 (0, 0)) (by (with_reducible repeat (first | refine blk_drewN ?_ _ | refine blk_drew ?_ | refine blk_alloc ?_ _)); exact BK134.out) hb); have n1_ := Aside0.mk (below_step (by repeat (first | (with_reducible first | exact HB.out | apply below_alloc | apply pw_below_drewN | apply below_drew1 | refine below_set ?_ GE134.out) | exact HB.out)) hb); clear BK134; clear HB; have BK134 := n0_; have HB := n1_; clear n0_ n1_; (try clear hb); (try clear hb2); (try clear hk); (try clear hi)))
                            go_ret
                            exact ⟨by first | rfl | (simp [errW_none, errW_some] <;> rfl) | (simp only [← hji7]; first | rfl | (simp [errW_none, errW_some] <;> rfl)) | (simp [*, errW_none, errW_some] <;> rfl), by repeat (first | (with_reducible first | exact HB.out | apply below_alloc | apply pw_below_drewN | apply below_drew1 | refine below_set ?_ GE134.out) | exact HB.out)⟩
                      · (first | rw [if_neg c64] at H | exact absurd rfl c64)
                        exact absurd H (by simp)
                    · replace c63 := Bool.eq_false_iff.mpr c63
                      (first | subst c63 | clear c63)
                      have H1 : ((rule_Passes.f kj14 0 3 y136 x135000_14 x135001_14).bind fun t148 => (if t148 = true then (none) else (if (y136.length : Int) > 0 then (some true) else (some (!t142))))) = some r := by rw [if_neg (show ¬ (false = true) by decide)] at H; exact H
                      clear H
                      have H := H1
                      clear H1
                      replace H := Option.bind_eq_some_iff.mp H
                      obtain ⟨t148, A840, H⟩ := H
                      replace H : (if t148 = true then (none) else (if (y136.length : Int) > 0 then (some true) else (some (!t142)))) = some r := H
                      have A84 := Aside0.mk A840
                      clear A840
                      by_cases c85 : t148 = true
                      · (first | subst c85 | clear c85)
                        have H1 : (none) = some r := by first | (rw [if_pos rfl] at H; exact H) | (rw [if_pos trivial] at H; exact H)
                        clear H
                        have H := H1
                        clear H1
                        exact absurd H (by simp)
                      · replace c85 := Bool.eq_false_iff.mpr c85
                        (first | subst c85 | clear c85)
                        have H1 : (if (y136.length : Int) > 0 then (some true) else (some (!t142))) = some r := by rw [if_neg (show ¬ (false = true) by decide)] at H; exact H
                        clear H
                        have H := H1
                        clear H1
                        by_cases c86 : (y136.length : Int) > 0
                        · rw [if_pos c86] at H
                          have c86b0 : decide (0 < (y136.length : Int)) = true := decide_eq_true c86
                          have c86b1 : decide (0 < y136.length) = true := decide_eq_true (by omega)
                          clear c86
                          obtain rfl := Option.some.inj H
                          have hcz87_0 : wc.cell? ⟨gb134, 0, none⟩ = some (.int .u32 x135000_14) := (blk_cell BK134.out 0).trans rfl
                          have hcz87_1 : wc.cell? ⟨gb134, 1, none⟩ = some (.int .u16 x135001_14) := (blk_cell BK134.out 1).trans rfl
                          have hfz87_0 := blk_frozen BK134.out 0
                          have hfz87_1 := blk_frozen BK134.out 1
                          go_wp2_with (first | ((with_reducible refine gate_callee (f := 14) rfl ?_); refine goesL_ (some 38) rfl rfl Try.func14 (by kernel_rfl) rfl #[.agg #[.int .i64 0, .int .i64 0], (.slice A0 y136.length c0), .agg #[.int .u32 x135000_14, .int .u16 x135001_14]] rfl (by (try simp only [List.map_toArray, List.map_cons, List.map_nil]); first | done | rfl | (simp only [List.length_drop, List.length_take]; rfl)) ?_; (with_reducible refine (rule_Passes.calls kj14 0 0 _ _ y136 x135000_14 x135001_14 true _ ?side1 ?side2 A22.out).mono ?_); (case side1 => repeat (first | exact (Kd.C_below HR139.out HB.out) | (with_reducible refine Kd.C_alloc ?_ _) | (with_reducible refine Kd.C_drewN ?_ _) | (with_reducible refine Kd.C_drew ?_))); (case side2 => exact HC139.out); rintro e w88 ⟨rfl, hb⟩; refine ⟨_, rfl, ?_⟩; have n0_ := Aside0.mk (blk_below (g := gb134) (o := .cells #[.int .u32 x135000_14, .int .u16 x135001_14] 28 (0, 0)) (by (with_reducible repeat (first | refine blk_drewN ?_ _ | refine blk_drew ?_ | refine blk_alloc ?_ _)); exact BK134.out) hb); have n1_ := Aside0.mk (below_step (by repeat (first | (with_reducible first | exact HB.out | apply below_alloc | apply pw_below_drewN | apply below_drew1 | refine below_set ?_ GE134.out) | exact HB.out)) hb); clear BK134; clear HB; have BK134 := n0_; have HB := n1_; clear n0_ n1_; (try clear hb); (try clear hb2); (try clear hk); (try clear hi); have hcz89_0 : w88.cell? ⟨gb134, 0, none⟩ = some (.int .u32 x135000_14) := (blk_cell BK134.out 0).trans rfl; have hcz89_1 : w88.cell? ⟨gb134, 1, none⟩ = some (.int .u16 x135001_14) := (blk_cell BK134.out 1).trans rfl; have hfz89_0 := blk_frozen BK134.out 0; have hfz89_1 := blk_frozen BK134.out 1) | ((with_reducible refine gate_callee (f := 14) rfl ?_); refine goesL_ (some 42) rfl rfl Try.func14 (by kernel_rfl) rfl #[.agg #[.int .i64 0, .int .i64 1], (.slice A0 y136.length c0), .agg #[.int .u32 x135000_14, .int .u16 x135001_14]] rfl (by (try simp only [List.map_toArray, List.map_cons, List.map_nil]); first | done | rfl | (simp only [List.length_drop, List.length_take]; rfl)) ?_; (with_reducible refine (rule_Passes.calls kj14 0 1 _ _ y136 x135000_14 x135001_14 t142 _ ?side1 ?side2 A23.out).mono ?_); (case side1 => repeat (first | exact (Kd.C_below HR139.out HB.out) | (with_reducible refine Kd.C_alloc ?_ _) | (with_reducible refine Kd.C_drewN ?_ _) | (with_reducible refine Kd.C_drew ?_))); (case side2 => exact HC139.out); rintro e w90 ⟨rfl, hb⟩; refine ⟨_, rfl, ?_⟩; have n0_ := Aside0.mk (blk_below (g := gb134) (o := .cells #[.int .u32 x135000_14, .int .u16 x135001_14] 28 (0, 0)) (by (with_reducible repeat (first | refine blk_drewN ?_ _ | refine blk_drew ?_ | refine blk_alloc ?_ _)); exact BK134.out) hb); have n1_ := Aside0.mk (below_step (by repeat (first | (with_reducible first | exact HB.out | apply below_alloc | apply pw_below_drewN | apply below_drew1 | refine below_set ?_ GE134.out) | exact HB.out)) hb); clear BK134; clear HB; have BK134 := n0_; have HB := n1_; clear n0_ n1_; (try clear hb); (try clear hb2); (try clear hk); (try clear hi); have hcz91_0 : w90.cell? ⟨gb134, 0, none⟩ = some (.int .u32 x135000_14) := (blk_cell BK134.out 0).trans rfl; have hcz91_1 : w90.cell? ⟨gb134, 1, none⟩ = some (.int .u16 x135001_14) := (blk_cell BK134.out 1).trans rfl; have hfz91_0 := blk_frozen BK134.out 0; have hfz91_1 := blk_frozen BK134.out 1) | ((with_reducible refine gate_callee (f := 14) rfl ?_); refine goesL_ (some 46) rfl rfl Try.func14 (by kernel_rfl) rfl #[.agg #[.int .i64 0, .int .i64 2], (.slice A0 y136.length c0), .agg #[.int .u32 x135000_14, .int .u16 x135001_14]] rfl (by (try simp only [List.map_toArray, List.map_cons, List.map_nil]); first | done | rfl | (simp only [List.length_drop, List.length_take]; rfl)) ?_; (with_reducible refine (rule_Passes.calls kj14 0 2 _ _ y136 x135000_14 x135001_14 false _ ?side1 ?side2 A24.out).mono ?_); (case side1 => repeat (first | exact (Kd.C_below HR139.out HB.out) | (with_reducible refine Kd.C_alloc ?_ _) | (with_reducible refine Kd.C_drewN ?_ _) | (with_reducible refine Kd.C_drew ?_))); (case side2 => exact HC139.out); rintro e w92 ⟨rfl, hb⟩; refine ⟨_, rfl, ?_⟩; have n0_ := Aside0.mk (blk_below (g := gb134) (o := .cells #[.int .u32 x135000_14, .int .u16 x135001_14] 28 (0, 0)) (by (with_reducible repeat (first | refine blk_drewN ?_ _ | refine blk_drew ?_ | refine blk_alloc ?_ _)); exact BK134.out) hb); have n1_ := Aside0.mk (below_step (by repeat (first | (with_reducible first | exact HB.out | apply below_alloc | apply pw_below_drewN | apply below_drew1 | refine below_set ?_ GE134.out) | exact HB.out)) hb); clear BK134; clear HB; have BK134 := n0_; have HB := n1_; clear n0_ n1_; (try clear hb); (try clear hb2); (try clear hk); (try clear hi); have hcz93_0 : w92.cell? ⟨gb134, 0, none⟩ = some (.int .u32 x135000_14) := (blk_cell BK134.out 0).trans rfl; have hcz93_1 : w92.cell? ⟨gb134, 1, none⟩ = some (.int .u16 x135001_14) := (blk_cell BK134.out 1).trans rfl; have hfz93_0 := blk_frozen BK134.out 0; have hfz93_1 := blk_frozen BK134.out 1) | (go_at_call 14; (with_reducible refine (rule_Passes.calls kj14 0 3 _ _ y136 x135000_14 x135001_14 false _ ?side1 ?side2 A84.out).mono ?_); (case side1 => repeat (first | exact (Kd.C_below HR139.out HB.out) | (with_reducible refine Kd.C_alloc ?_ _) | (with_reducible refine Kd.C_drewN ?_ _) | (with_reducible refine Kd.C_drew ?_))); (case side2 => exact HC139.out); rintro e w94 ⟨rfl, hb⟩; have n0_ := Aside0.mk (blk_below (g := gb134) (o := .cells #[.int .u32 x135000_14, .int .u16 x135001_14] 28 (0, 0)) (by (with_reducible repeat (first | refine blk_drewN ?_ _ | refine blk_drew ?_ | refine blk_alloc ?_ _)); exact BK134.out) hb); have n1_ := Aside0.mk (below_step (by repeat (first | (with_reducible first | exact HB.out | apply below_alloc | apply pw_below_drewN | apply below_drew1 | refine below_set ?_ GE134.out) | exact HB.out)) hb); clear BK134; clear HB; have BK134 := n0_; have HB := n1_; clear n0_ n1_; (try clear hb); (try clear hb2); (try clear hk); (try clear hi)))
                          go_ret
                          exact ⟨by first | rfl | (simp [errW_none, errW_some] <;> rfl) | (simp only [← hji7]; first | rfl | (simp [errW_none, errW_some] <;> rfl)) | (simp [*, errW_none, errW_some] <;> rfl), by repeat (first | (with_reducible first | exact HB.out | apply below_alloc | apply pw_below_drewN | apply below_drew1 | refine below_set ?_ GE134.out) | exact HB.out)⟩
                        · (first | rw [if_neg c86] at H | exact absurd rfl c86)
                          have c86b0 : decide (0 < (y136.length : Int)) = false := decide_eq_false c86
                          have c86b1 : decide (0 < y136.length) = false := decide_eq_false (by omega)
                          clear c86
                          obtain rfl := Option.some.inj H
                          have hcz95_0 : wc.cell? ⟨gb134, 0, none⟩ = some (.int .u32 x135000_14) := (blk_cell BK134.out 0).trans rfl
                          have hcz95_1 : wc.cell? ⟨gb134, 1, none⟩ = some (.int .u16 x135001_14) := (blk_cell BK134.out 1).trans rfl
                          have hfz95_0 := blk_frozen BK134.out 0
                          have hfz95_1 := blk_frozen BK134.out 1
                          go_wp2_with (first | ((with_reducible refine gate_callee (f := 14) rfl ?_); refine goesL_ (some 38) rfl rfl Try.func14 (by kernel_rfl) rfl #[.agg #[.int .i64 0, .int .i64 0], (.slice A0 y136.length c0), .agg #[.int .u32 x135000_14, .int .u16 x135001_14]] rfl (by (try simp only [List.map_toArray, List.map_cons, List.map_nil]); first | done | rfl | (simp only [List.length_drop, List.length_take]; rfl)) ?_; (with_reducible refine (rule_Passes.calls kj14 0 0 _ _ y136 x135000_14 x135001_14 true _ ?side1 ?side2 A22.out).mono ?_); (case side1 => repeat (first | exact (Kd.C_below HR139.out HB.out) | (with_reducible refine Kd.C_alloc ?_ _) | (with_reducible refine Kd.C_drewN ?_ _) | (with_reducible refine Kd.C_drew ?_))); (case side2 => exact HC139.out); rintro e w96 ⟨rfl, hb⟩; refine ⟨_, rfl, ?_⟩; have n0_ := Aside0.mk (blk_below (g := gb134) (o := .cells #[.int .u32 x135000_14, .int .u16 x135001_14] 28 (0, 0)) (by (with_reducible repeat (first | refine blk_drewN ?_ _ | refine blk_drew ?_ | refine blk_alloc ?_ _)); exact BK134.out) hb); have n1_ := Aside0.mk (below_step (by repeat (first | (with_reducible first | exact HB.out | apply below_alloc | apply pw_below_drewN | apply below_drew1 | refine below_set ?_ GE134.out) | exact HB.out)) hb); clear BK134; clear HB; have BK134 := n0_; have HB := n1_; clear n0_ n1_; (try clear hb); (try clear hb2); (try clear hk); (try clear hi); have hcz97_0 : w96.cell? ⟨gb134, 0, none⟩ = some (.int .u32 x135000_14) := (blk_cell BK134.out 0).trans rfl; have hcz97_1 : w96.cell? ⟨gb134, 1, none⟩ = some (.int .u16 x135001_14) := (blk_cell BK134.out 1).trans rfl; have hfz97_0 := blk_frozen BK134.out 0; have hfz97_1 := blk_frozen BK134.out 1) | ((with_reducible refine gate_callee (f := 14) rfl ?_); refine goesL_ (some 42) rfl rfl Try.func14 (by kernel_rfl) rfl #[.agg #[.int .i64 0, .int .i64 1], (.slice A0 y136.length c0), .agg #[.int .u32 x135000_14, .int .u16 x135001_14]] rfl (by (try simp only [List.map_toArray, List.map_cons, List.map_nil]); first | done | rfl | (simp only [List.length_drop, List.length_take]; rfl)) ?_; (with_reducible refine (rule_Passes.calls kj14 0 1 _ _ y136 x135000_14 x135001_14 t142 _ ?side1 ?side2 A23.out).mono ?_); (case side1 => repeat (first | exact (Kd.C_below HR139.out HB.out) | (with_reducible refine Kd.C_alloc ?_ _) | (with_reducible refine Kd.C_drewN ?_ _) | (with_reducible refine Kd.C_drew ?_))); (case side2 => exact HC139.out); rintro e w98 ⟨rfl, hb⟩; refine ⟨_, rfl, ?_⟩; have n0_ := Aside0.mk (blk_below (g := gb134) (o := .cells #[.int .u32 x135000_14, .int .u16 x135001_14] 28 (0, 0)) (by (with_reducible repeat (first | refine blk_drewN ?_ _ | refine blk_drew ?_ | refine blk_alloc ?_ _)); exact BK134.out) hb); have n1_ := Aside0.mk (below_step (by repeat (first | (with_reducible first | exact HB.out | apply below_alloc | apply pw_below_drewN | apply below_drew1 | refine below_set ?_ GE134.out) | exact HB.out)) hb); clear BK134; clear HB; have BK134 := n0_; have HB := n1_; clear n0_ n1_; (try clear hb); (try clear hb2); (try clear hk); (try clear hi); have hcz99_0 : w98.cell? ⟨gb134, 0, none⟩ = some (.int .u32 x135000_14) := (blk_cell BK134.out 0).trans rfl; have hcz99_1 : w98.cell? ⟨gb134, 1, none⟩ = some (.int .u16 x135001_14) := (blk_cell BK134.out 1).trans rfl; have hfz99_0 := blk_frozen BK134.out 0; have hfz99_1 := blk_frozen BK134.out 1) | ((with_reducible refine gate_callee (f := 14) rfl ?_); refine goesL_ (some 46) rfl rfl Try.func14 (by kernel_rfl) rfl #[.agg #[.int .i64 0, .int .i64 2], (.slice A0 y136.length c0), .agg #[.int .u32 x135000_14, .int .u16 x135001_14]] rfl (by (try simp only [List.map_toArray, List.map_cons, List.map_nil]); first | done | rfl | (simp only [List.length_drop, List.length_take]; rfl)) ?_; (with_reducible refine (rule_Passes.calls kj14 0 2 _ _ y136 x135000_14 x135001_14 false _ ?side1 ?side2 A24.out).mono ?_); (case side1 => repeat (first | exact (Kd.C_below HR139.out HB.out) | (with_reducible refine Kd.C_alloc ?_ _) | (with_reducible refine Kd.C_drewN ?_ _) | (with_reducible refine Kd.C_drew ?_))); (case side2 => exact HC139.out); rintro e w100 ⟨rfl, hb⟩; refine ⟨_, rfl, ?_⟩; have n0_ := Aside0.mk (blk_below (g := gb134) (o := .cells #[.int .u32 x135000_14, .int .u16 x135001_14] 28 (0, 0)) (by (with_reducible repeat (first | refine blk_drewN ?_ _ | refine blk_drew ?_ | refine blk_alloc ?_ _)); exact BK134.out) hb); have n1_ := Aside0.mk (below_step (by repeat (first | (with_reducible first | exact HB.out | apply below_alloc | apply pw_below_drewN | apply below_drew1 | refine below_set ?_ GE134.out) | exact HB.out)) hb); clear BK134; clear HB; have BK134 := n0_; have HB := n1_; clear n0_ n1_; (try clear hb); (try clear hb2); (try clear hk); (try clear hi); have hcz101_0 : w100.cell? ⟨gb134, 0, none⟩ = some (.int .u32 x135000_14) := (blk_cell BK134.out 0).trans rfl; have hcz101_1 : w100.cell? ⟨gb134, 1, none⟩ = some (.int .u16 x135001_14) := (blk_cell BK134.out 1).trans rfl; have hfz101_0 := blk_frozen BK134.out 0; have hfz101_1 := blk_frozen BK134.out 1) | (go_at_call 14; (with_reducible refine (rule_Passes.calls kj14 0 3 _ _ y136 x135000_14 x135001_14 false _ ?side1 ?side2 A84.out).mono ?_); (case side1 => repeat (first | exact (Kd.C_below HR139.out HB.out) | (with_reducible refine Kd.C_alloc ?_ _) | (with_reducible refine Kd.C_drewN ?_ _) | (with_reducible refine Kd.C_drew ?_))); (case side2 => exact HC139.out); rintro e w102 ⟨rfl, hb⟩; have n0_ := Aside0.mk (blk_below (g := gb134) (o := .cells #[.int .u32 x135000_14, .int .u16 x135001_14] 28 (0, 0)) (by (with_reducible repeat (first | refine blk_drewN ?_ _ | refine blk_drew ?_ | refine blk_alloc ?_ _)); exact BK134.out) hb); have n1_ := Aside0.mk (below_step (by repeat (first | (with_reducible first | exact HB.out | apply below_alloc | apply pw_below_drewN | apply below_drew1 | refine below_set ?_ GE134.out) | exact HB.out)) hb); clear BK134; clear HB; have BK134 := n0_; have HB := n1_; clear n0_ n1_; (try clear hb); (try clear hb2); (try clear hk); (try clear hi)))
                          go_ret
                          exact ⟨by first | rfl | (simp [errW_none, errW_some] <;> rfl) | (simp only [← hji7]; first | rfl | (simp [errW_none, errW_some] <;> rfl)) | (simp [*, errW_none, errW_some] <;> rfl), by repeat (first | (with_reducible first | exact HB.out | apply below_alloc | apply pw_below_drewN | apply below_drew1 | refine below_set ?_ GE134.out) | exact HB.out)⟩
                · replace c25 := Bool.eq_false_iff.mpr c25
                  (first | subst c25 | clear c25)
                  have H1 : (none) = some r := by rw [if_neg (show ¬ (false = true) by decide)] at H; exact H
                  clear H
                  have H := H1
                  clear H1
                  exact absurd H (by simp)
      · (first | rw [if_neg c9] at H | exact absurd rfl c9)
        exact absurd H (by simp)
    · (first | rw [if_neg c8] at H | exact absurd rfl c8)
      exact absurd H (by simp)
  · replace c6 := Bool.eq_false_iff.mpr c6
    (first | subst c6 | clear c6)
    have H1 : (none) = some r := by rw [if_neg (show ¬ (false = true) by decide)] at H; exact H
    clear H
    have H := H1
    clear H1
    exact absurd H (by simp)

/-- THE ONE PURE STATEMENT of scuttlebuttlaw07_RuleFilters: yours. -/
def scuttlebuttlaw07_RuleFilters.Pure : Prop := ∀ (l0 : List (S28)) (a1_0 : Int) (a1_1 : Int) (a2 : Int) (a3 : Bool), l0.length ≤ maxLen → l0.length * 8 ≤ 140737488351232 → (∀ x ∈ l0, (Lit.int .u32 x.f0).wf = true ∧ (Lit.int .u16 x.f1).wf = true) → (Lit.int .u32 a1_0).wf = true → (Lit.int .u16 a1_1).wf = true → (Lit.int .u8 a2).wf = true → ∃ k, scuttlebuttlaw07_RuleFilters.f k l0 a1_0 a1_1 a2 a3 = some true
theorem scuttlebuttlaw07_RuleFilters.walk (P : scuttlebuttlaw07_RuleFilters.Pure) (a0 : Option Addr) (cap0 : Nat) (l0 : List S28) (a1_0 : Int) (a1_1 : Int) (a2 : Int) (a3 : Bool) (w : World) (hr0 : Kd.C k28 w a0 l0.length l0) (hm0 : l0.length ≤ maxLen) (hc0 : l0.length ≤ cap0) (y0 : l0.length * 8 ≤ 140737488351232) (hw0 : (∀ x ∈ l0, (Lit.int .u32 x.f0).wf = true ∧ (Lit.int .u16 x.f1).wf = true)) (w1_0 : (Lit.int .u32 a1_0).wf = true) (w1_1 : (Lit.int .u16 a1_1).wf = true) (w2 : (Lit.int .u8 a2).wf = true) :
    Calls Try.prog 6 #[.slice a0 l0.length cap0, .agg #[.int .u32 a1_0, .int .u16 a1_1], .int .u8 a2, .bool a3] w fun e w' => e = .returned (.bool true) ∧ Below w.heap.size w w' := by
  obtain ⟨k, h⟩ := P l0 a1_0 a1_1 a2 a3 hm0 y0 hw0 w1_0 w1_1 w2
  refine (scuttlebuttlaw07_RuleFilters.calls k _ _ l0 a1_0 a1_1 a2 a3 true w hr0 hc0 h).mono ?_
  rintro e w' ⟨rfl, hd⟩
  exact ⟨rfl, hd⟩

end Go.Proofs.Ytlembbkbmnmnhaa.PA
