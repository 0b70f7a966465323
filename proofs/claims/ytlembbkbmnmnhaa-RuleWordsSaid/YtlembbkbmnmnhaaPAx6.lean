/- Written by xprint.py, a program of this session: Go functions that the laws reach, each as a plain Lean function, and the proof that the Go code comes to what it says. No condition but those that each theorem names. -/
import Derived.Test.YtlembbkbmnmnhaaPAx0
import Derived.Test.YtlembbkbmnmnhaaPAx1
import Derived.Test.YtlembbkbmnmnhaaPAx3
import Derived.Test.YtlembbkbmnmnhaaPAx4
import Derived.Test.YtlembbkbmnmnhaaPAx5
import Derived.WalkSpells
import Derived.WalkLawsBesides
import Derived.Test.YtlembbkbmnmnhaaXAux
namespace Go.Proofs.Ytlembbkbmnmnhaa.PA
open Go.RowKit Go.Proofs.YtlembbkbmnmnhaaW.PrintWords Go.Proofs.YtlembbkbmnmnhaaW.PrintLast Go.Proofs.YtlembbkbmnmnhaaW.PrintMore
attribute [local go_sem] max2_int min2_int max_two min_two max_three min_three max_four min_four   -- for this text's walks alone
set_option linter.unusedVariables false
set_option linter.unusedSimpArgs false

attribute [local go_sem high] eqA23
/-! ### scuttlebuttlaw07_RuleWords: function 7 -/
def scuttlebuttlaw07_RuleWords.j0 : Nat → Int → Int → Int → Int → Option (Bool)
  | 0, _, _, _, _ => none
  | k + 1, x135000, x135001, x136000, x136001 => (rule_Word.f x135000 x135001).bind fun t137 => ((rule_Word.f x136000 x136001).bind fun t138 => ((rule_Right.f x135000 x135001).bind fun t139 => (if t137.toList = ([] : List UInt8) then (if t139 = true then (none) else ((rule_Right.f x135000 x135001).bind fun t140 => (if t140 = true then (none) else ((rule_Right.f x135000 x135001).bind fun t141 => (if t141 = true then (none) else ((rule_Punch.f k x135000 x135001 x136000 x136001).bind fun t142 => (if t142 = true then (none) else ((rule_Through.f k x136000 x136001 x135000 x135001).bind fun t143 => (some (!t143)))))))))) else (if t139 = true then ((rule_Right.f x135000 x135001).bind fun t144 => (if t144 = true then ((rule_Right.f x136000 x136001).bind fun t145 => (if t145 = true then (if t137.toList = t138.toList then (if (x135000 == x136000 && (x135001 == x136001)) = true then ((rule_Right.f x135000 x135001).bind fun t146 => (if t146 = true then (some true) else (none))) else (none)) else (if (x135000 == x136000 && (x135001 == x136001)) = true then (none) else ((rule_Right.f x135000 x135001).bind fun t147 => (if t147 = true then (some true) else (none))))) else ((rule_Right.f x135000 x135001).bind fun t148 => (if t148 = true then (some true) else (none))))) else (none))) else (none)))))
def scuttlebuttlaw07_RuleWords.f (k : Nat) (a0_0 : Int) (a0_1 : Int) (a1_0 : Int) (a1_1 : Int) (a2 : Bool) : Option (Bool) := (scuttlebuttlaw07_examples.f k).bind fun t136 => (if t136 = true then (if a2 = true then (scuttlebuttlaw07_RuleWords.j0 k (Int.tmod a0_0 4) (Int.tmod a0_1 4) (Int.tmod a1_0 4) (Int.tmod a1_1 4)) else (scuttlebuttlaw07_RuleWords.j0 k a0_0 a0_1 a1_0 a1_1)) else (none))
theorem scuttlebuttlaw07_RuleWords.mono_l : ∀ k, (∀ y0 y1 y2 y3, LeO (scuttlebuttlaw07_RuleWords.j0 k y0 y1 y2 y3) (scuttlebuttlaw07_RuleWords.j0 (k + 1) y0 y1 y2 y3))
  | 0 => fun _ _ _ _ r h => by simp [scuttlebuttlaw07_RuleWords.j0] at h
  | k + 1 => by
    have ih0 := scuttlebuttlaw07_RuleWords.mono_l k
    · intro y0 y1 y2 y3
      unfold scuttlebuttlaw07_RuleWords.j0
      repeat' first
      | (with_reducible exact ih0 _ _ _ _)
      | (with_reducible exact rule_Punch.mono _ _ _ _ _)
      | (with_reducible exact rule_Through.mono _ _ _ _ _)
      | (with_reducible exact scuttlebuttlaw07_examples.mono _)
      | (with_reducible exact LeO.refl _)
      | (with_reducible exact LeO.none _)
      | (with_reducible refine LeO.ite ?_ ?_)
      | (with_reducible refine LeO.bind ?_ (fun _ => ?_))
      | exact ih0 _ _ _ _
      | exact rule_Punch.mono _ _ _ _ _
      | exact rule_Through.mono _ _ _ _ _
      | exact scuttlebuttlaw07_examples.mono _
      | exact LeO.none _
      | refine LeO.ite ?_ ?_
      | refine LeO.bind ?_ (fun _ => ?_)
theorem scuttlebuttlaw07_RuleWords.mono : ∀ a0 a1 a2 a3 a4 k, LeO (scuttlebuttlaw07_RuleWords.f k a0 a1 a2 a3 a4) (scuttlebuttlaw07_RuleWords.f (k + 1) a0 a1 a2 a3 a4) := by
  intro a0 a1 a2 a3 a4 k
  have ih0 := scuttlebuttlaw07_RuleWords.mono_l k
  unfold scuttlebuttlaw07_RuleWords.f
  repeat' first
      | (with_reducible exact ih0 _ _ _ _)
      | (with_reducible exact rule_Punch.mono _ _ _ _ _)
      | (with_reducible exact rule_Through.mono _ _ _ _ _)
      | (with_reducible exact scuttlebuttlaw07_examples.mono _)
      | (with_reducible exact LeO.refl _)
      | (with_reducible exact LeO.none _)
      | (with_reducible refine LeO.ite ?_ ?_)
      | (with_reducible refine LeO.bind ?_ (fun _ => ?_))
      | exact ih0 _ _ _ _
      | exact rule_Punch.mono _ _ _ _ _
      | exact rule_Through.mono _ _ _ _ _
      | exact scuttlebuttlaw07_examples.mono _
      | exact LeO.none _
      | refine LeO.ite ?_ ?_
      | refine LeO.bind ?_ (fun _ => ?_)
set_option maxHeartbeats 8000000 in
set_option maxRecDepth 100000 in
theorem scuttlebuttlaw07_RuleWords.calls (k : Nat) (a0_0 : Int) (a0_1 : Int) (a1_0 : Int) (a1_1 : Int) (a2 : Bool) (r : Bool) (w : World) (h : scuttlebuttlaw07_RuleWords.f k a0_0 a0_1 a1_0 a1_1 a2 = some r) :
    Calls Try.prog 7 #[.agg #[.int .i64 a0_0, .int .i64 a0_1], .agg #[.int .i64 a1_0, .int .i64 a1_1], .bool a2] w fun e w' => e = .returned (.bool r) ∧ Below w.heap.size w w' := by
  have hu23 := Try.underlying23
  have HB := Aside0.mk (Below.refl w.heap.size w)
  have H : ((scuttlebuttlaw07_examples.f k).bind fun t136 => (if t136 = true then (if a2 = true then (scuttlebuttlaw07_RuleWords.j0 k (Int.tmod a0_0 4) (Int.tmod a0_1 4) (Int.tmod a1_0 4) (Int.tmod a1_1 4)) else (scuttlebuttlaw07_RuleWords.j0 k a0_0 a0_1 a1_0 a1_1)) else (none))) = some r := h
  clear h
  replace H := Option.bind_eq_some_iff.mp H
  obtain ⟨t136, A40, H⟩ := H
  replace H : (if t136 = true then (if a2 = true then (scuttlebuttlaw07_RuleWords.j0 k (Int.tmod a0_0 4) (Int.tmod a0_1 4) (Int.tmod a1_0 4) (Int.tmod a1_1 4)) else (scuttlebuttlaw07_RuleWords.j0 k a0_0 a0_1 a1_0 a1_1)) else (none)) = some r := H
  have A4 := Aside0.mk A40
  clear A40
  by_cases c5 : t136 = true
  · (first | subst c5 | clear c5)
    have H1 : (if a2 = true then (scuttlebuttlaw07_RuleWords.j0 k (Int.tmod a0_0 4) (Int.tmod a0_1 4) (Int.tmod a1_0 4) (Int.tmod a1_1 4)) else (scuttlebuttlaw07_RuleWords.j0 k a0_0 a0_1 a1_0 a1_1)) = some r := by first | (rw [if_pos rfl] at H; exact H) | (rw [if_pos trivial] at H; exact H)
    clear H
    have H := H1
    clear H1
    have HC6 := Aside0.mk H
    clear H
    go_enter Try.func7, Try.ntmps7
    go_upto_if 13 with (first | ((with_reducible refine gate_dst (N := 3) rfl ?_); refine box_event ?hg (N := 3) ?hd (cs := #[.int .i64 a0_0, .int .i64 a0_1]) (t := 23) ?hr ?_; (case hd => rfl); (case hg => rfl); (case hr => first | (go_simp; done) | (go_simp; rfl)); intro gb134 hg w7 hbox hb; have n0_ := Aside0.mk (below_step (by repeat (first | (with_reducible first | exact HB.out | apply below_alloc | apply pw_below_drewN | apply below_drew1) | exact HB.out)) hb); have n1_ := Aside0.mk (hbox); have n2_ := Aside0.mk ((by rw [hg]; exact (below_size (by repeat (first | (with_reducible first | exact HB.out | apply below_alloc | apply pw_below_drewN | apply below_drew1) | exact HB.out))) : w.heap.size ≤ gb134)); have n3_ := Aside0.mk ((by rw [hg]; exact (below_size (by repeat (first | (with_reducible first | exact HB.out | apply below_alloc | apply pw_below_drewN | apply below_drew1) | exact HB.out))) : w.heap.size ≤ gb134)); clear HB; have HB := n0_; have BK134 := n1_; have GW134 := n2_; have GE134 := n3_; clear n0_ n1_ n2_ n3_; clear hb hbox hg) | ((with_reducible refine gate_dst (N := 4) rfl ?_); refine box_event ?hg (N := 4) ?hd (cs := #[.int .i64 a1_0, .int .i64 a1_1]) (t := 23) ?hr ?_; (case hd => rfl); (case hg => rfl); (case hr => first | (go_simp; done) | (go_simp; rfl)); intro gb135 hg w8 hbox hb; have n0_ := Aside0.mk (blk_below (g := gb134) (o := .cells #[.int .i64 a0_0, .int .i64 a0_1] 23 (0, 0)) (by (with_reducible repeat (first | refine blk_drewN ?_ _ | refine blk_drew ?_ | refine blk_alloc ?_ _)); exact BK134.out) hb); have n1_ := Aside0.mk (below_step (by repeat (first | (with_reducible first | exact HB.out | apply below_alloc | apply pw_below_drewN | apply below_drew1 | refine below_set ?_ GE134.out) | exact HB.out)) hb); have n2_ := Aside0.mk (hbox); have n3_ := Aside0.mk ((by rw [hg]; exact (below_size (by repeat (first | (with_reducible first | exact HB.out | apply below_alloc | apply pw_below_drewN | apply below_drew1 | refine below_set ?_ GE134.out) | exact HB.out))) : w.heap.size ≤ gb135)); have n4_ := Aside0.mk ((by rw [hg]; exact (below_size (by repeat (first | (with_reducible first | exact HB.out | apply below_alloc | apply pw_below_drewN | apply below_drew1 | refine below_set ?_ GE134.out) | exact HB.out))) : w.heap.size ≤ gb135)); have n5_ := Aside0.mk ((by rw [hg]; exact Nat.ne_of_lt (blk_lt (g := gb134) (o := .cells #[.int .i64 a0_0, .int .i64 a0_1] 23 (0, 0)) (by (with_reducible repeat (first | refine blk_drewN ?_ _ | refine blk_drew ?_ | refine blk_alloc ?_ _)); exact BK134.out)) : gb134 ≠ gb135)); have n6_ := Aside0.mk ((by rw [hg]; exact Nat.ne_of_gt (blk_lt (g := gb134) (o := .cells #[.int .i64 a0_0, .int .i64 a0_1] 23 (0, 0)) (by (with_reducible repeat (first | refine blk_drewN ?_ _ | refine blk_drew ?_ | refine blk_alloc ?_ _)); exact BK134.out)) : gb135 ≠ gb134)); clear BK134; clear HB; have BK134 := n0_; have HB := n1_; have BK135 := n2_; have GW135 := n3_; have GE135 := n4_; have NB134_135 := n5_; have NB135_134 := n6_; clear n0_ n1_ n2_ n3_ n4_ n5_ n6_; clear hb hbox hg) | ((with_reducible refine gate_callee (f := 8) rfl ?_); refine goesL_ (some 10) rfl rfl Try.func8 (by kernel_rfl) rfl #[] rfl (by (try simp only [List.map_toArray, List.map_cons, List.map_nil]); first | done | rfl | (simp only [List.length_drop, List.length_take]; rfl)) ?_; (with_reducible refine (scuttlebuttlaw07_examples.calls k  true _ A4.out).mono ?_); rintro e w9 ⟨rfl, hb⟩; refine ⟨_, rfl, ?_⟩; have n0_ := Aside0.mk (blk_below (g := gb134) (o := .cells #[.int .i64 a0_0, .int .i64 a0_1] 23 (0, 0)) (by (with_reducible repeat (first | refine blk_drewN ?_ _ | refine blk_drew ?_ | refine blk_alloc ?_ _)); exact BK134.out) hb); have n1_ := Aside0.mk (blk_below (g := gb135) (o := .cells #[.int .i64 a1_0, .int .i64 a1_1] 23 (0, 0)) (by (with_reducible repeat (first | refine blk_drewN ?_ _ | refine blk_drew ?_ | refine blk_alloc ?_ _)); exact BK135.out) hb); have n2_ := Aside0.mk (below_step (by repeat (first | (with_reducible first | exact HB.out | apply below_alloc | apply pw_below_drewN | apply below_drew1 | refine below_set ?_ GE134.out | refine below_set ?_ GE135.out) | exact HB.out)) hb); clear BK134; clear BK135; clear HB; have BK134 := n0_; have BK135 := n1_; have HB := n2_; clear n0_ n1_ n2_; (try clear hb); (try clear hb2); (try clear hk); (try clear hi)))
    (try simp only [Act.put, List.setIfInBounds_toArray, List.set_cons_zero, List.set_cons_succ])
    go_cut [] (fun wc => ∃ (kq : Nat) (x135000_5 : Int) (x135001_5 : Int) (x136000_5 : Int) (x136001_5 : Int), Aside0 (scuttlebuttlaw07_RuleWords.j0 kq x135000_5 x135001_5 x136000_5 x136001_5 = some r) ∧ Aside0 (kq ≤ k) ∧ Aside0 (wc.heap[gb134]? = some (.cells #[.int .i64 x135000_5, .int .i64 x135001_5] 23 (0, 0))) ∧ Aside0 (wc.heap[gb135]? = some (.cells #[.int .i64 x136000_5, .int .i64 x136001_5] 23 (0, 0))) ∧ Aside0 (Below w.heap.size w wc))
    case first =>
      have H := HC6.out
      clear HC6
      by_cases c10 : a2 = true
      · (first | subst c10 | clear c10)
        have H1 : (scuttlebuttlaw07_RuleWords.j0 k (Int.tmod a0_0 4) (Int.tmod a0_1 4) (Int.tmod a1_0 4) (Int.tmod a1_1 4)) = some r := by first | (rw [if_pos rfl] at H; exact H) | (rw [if_pos trivial] at H; exact H)
        clear H
        have H := H1
        clear H1
        have H' := Aside0.mk H
        clear H
        have hnb11 := NB134_135.out
        have hnc11 := NB135_134.out
        have hcz12_0 : w9.cell? ⟨gb134, 0, none⟩ = some (.int .i64 a0_0) := (blk_cell BK134.out 0).trans rfl
        have hcz12_1 : w9.cell? ⟨gb134, 1, none⟩ = some (.int .i64 a0_1) := (blk_cell BK134.out 1).trans rfl
        have hfz12_0 := blk_frozen BK134.out 0
        have hfz12_1 := blk_frozen BK134.out 1
        have hcz13_0 : w9.cell? ⟨gb135, 0, none⟩ = some (.int .i64 a1_0) := (blk_cell BK135.out 0).trans rfl
        have hcz13_1 : w9.cell? ⟨gb135, 1, none⟩ = some (.int .i64 a1_1) := (blk_cell BK135.out 1).trans rfl
        have hfz13_0 := blk_frozen BK135.out 0
        have hfz13_1 := blk_frozen BK135.out 1
        go_wp2
        go_meet
        case rel => exact ⟨_, (Int.tmod a0_0 4), (Int.tmod a0_1 4), (Int.tmod a1_0 4), (Int.tmod a1_1 4), H', ⟨by first | omega | exact Nat.le_refl _⟩, ⟨by (with_reducible repeat (first | refine blk_drewN ?_ _ | refine blk_drew ?_ | refine blk_alloc ?_ _)); refine blk_far ?_ NB134_135.out _; (with_reducible repeat (first | refine blk_drewN ?_ _ | refine blk_drew ?_ | refine blk_alloc ?_ _)); refine blk_far ?_ NB134_135.out _; (with_reducible repeat (first | refine blk_drewN ?_ _ | refine blk_drew ?_ | refine blk_alloc ?_ _)); refine blk_put (cs := #[.int .i64 (Int.tmod a0_0 4), .int .i64 a0_1]) ?_ 1 _ rfl; (with_reducible repeat (first | refine blk_drewN ?_ _ | refine blk_drew ?_ | refine blk_alloc ?_ _)); refine blk_put (cs := #[.int .i64 a0_0, .int .i64 a0_1]) ?_ 0 _ rfl; (with_reducible repeat (first | refine blk_drewN ?_ _ | refine blk_drew ?_ | refine blk_alloc ?_ _)); exact BK134.out⟩, ⟨by (with_reducible repeat (first | refine blk_drewN ?_ _ | refine blk_drew ?_ | refine blk_alloc ?_ _)); refine blk_put (cs := #[.int .i64 (Int.tmod a1_0 4), .int .i64 a1_1]) ?_ 1 _ rfl; (with_reducible repeat (first | refine blk_drewN ?_ _ | refine blk_drew ?_ | refine blk_alloc ?_ _)); refine blk_put (cs := #[.int .i64 a1_0, .int .i64 a1_1]) ?_ 0 _ rfl; (with_reducible repeat (first | refine blk_drewN ?_ _ | refine blk_drew ?_ | refine blk_alloc ?_ _)); refine blk_far ?_ NB135_134.out _; (with_reducible repeat (first | refine blk_drewN ?_ _ | refine blk_drew ?_ | refine blk_alloc ?_ _)); refine blk_far ?_ NB135_134.out _; (with_reducible repeat (first | refine blk_drewN ?_ _ | refine blk_drew ?_ | refine blk_alloc ?_ _)); exact BK135.out⟩, ⟨by repeat (first | (with_reducible first | exact HB.out | apply below_alloc | apply pw_below_drewN | apply below_drew1 | refine below_set ?_ GE134.out | refine below_set ?_ GE135.out) | exact HB.out)⟩⟩
      · replace c10 := Bool.eq_false_iff.mpr c10
        (first | subst c10 | clear c10)
        have H1 : (scuttlebuttlaw07_RuleWords.j0 k a0_0 a0_1 a1_0 a1_1) = some r := by rw [if_neg (show ¬ (false = true) by decide)] at H; exact H
        clear H
        have H := H1
        clear H1
        have H' := Aside0.mk H
        clear H
        go_wp2
        go_meet
        case rel => exact ⟨_, (a0_0), (a0_1), (a1_0), (a1_1), H', ⟨by first | omega | exact Nat.le_refl _⟩, ⟨by (with_reducible repeat (first | refine blk_drewN ?_ _ | refine blk_drew ?_ | refine blk_alloc ?_ _)); exact BK134.out⟩, ⟨by (with_reducible repeat (first | refine blk_drewN ?_ _ | refine blk_drew ?_ | refine blk_alloc ?_ _)); exact BK135.out⟩, ⟨by repeat (first | (with_reducible first | exact HB.out | apply below_alloc | apply pw_below_drewN | apply below_drew1 | refine below_set ?_ GE134.out | refine below_set ?_ GE135.out) | exact HB.out)⟩⟩
    case rest =>
      clear HC6
      try clear c1
      try clear p2
      try clear c5
      try clear c7
      try clear c8
      try clear c10
      try clear c11
      try clear hcz12_0
      try clear hcz12_1
      try clear hcz13_0
      try clear hcz13_1
      try clear hfz12_0
      try clear hfz12_1
      try clear hfz13_0
      try clear hfz13_1
      obtain ⟨kq, x135000_5, x135001_5, x136000_5, x136001_5, HA, HJ5, BK134, BK135, HB⟩ := hcut
      cases kq with
      | zero => exact absurd HA.out (by simp [scuttlebuttlaw07_RuleWords.j0])
      | succ kj5 =>
        have H := HA.out
        clear HA
        simp only [scuttlebuttlaw07_RuleWords.j0] at H
        replace H := Option.bind_eq_some_iff.mp H
        obtain ⟨t137, A140, H⟩ := H
        replace H : ((rule_Word.f x136000_5 x136001_5).bind fun t138 => ((rule_Right.f x135000_5 x135001_5).bind fun t139 => (if t137.toList = ([] : List UInt8) then (if t139 = true then (none) else ((rule_Right.f x135000_5 x135001_5).bind fun t140 => (if t140 = true then (none) else ((rule_Right.f x135000_5 x135001_5).bind fun t141 => (if t141 = true then (none) else ((rule_Punch.f kj5 x135000_5 x135001_5 x136000_5 x136001_5).bind fun t142 => (if t142 = true then (none) else ((rule_Through.f kj5 x136000_5 x136001_5 x135000_5 x135001_5).bind fun t143 => (some (!t143)))))))))) else (if t139 = true then ((rule_Right.f x135000_5 x135001_5).bind fun t144 => (if t144 = true then ((rule_Right.f x136000_5 x136001_5).bind fun t145 => (if t145 = true then (if t137.toList = t138.toList then (if (x135000_5 == x136000_5 && (x135001_5 == x136001_5)) = true then ((rule_Right.f x135000_5 x135001_5).bind fun t146 => (if t146 = true then (some true) else (none))) else (none)) else (if (x135000_5 == x136000_5 && (x135001_5 == x136001_5)) = true then (none) else ((rule_Right.f x135000_5 x135001_5).bind fun t147 => (if t147 = true then (some true) else (none))))) else ((rule_Right.f x135000_5 x135001_5).bind fun t148 => (if t148 = true then (some true) else (none))))) else (none))) else (none))))) = some r := H
        have A14 := Aside0.mk A140
        clear A140
        replace H := Option.bind_eq_some_iff.mp H
        obtain ⟨t138, A150, H⟩ := H
        replace H : ((rule_Right.f x135000_5 x135001_5).bind fun t139 => (if t137.toList = ([] : List UInt8) then (if t139 = true then (none) else ((rule_Right.f x135000_5 x135001_5).bind fun t140 => (if t140 = true then (none) else ((rule_Right.f x135000_5 x135001_5).bind fun t141 => (if t141 = true then (none) else ((rule_Punch.f kj5 x135000_5 x135001_5 x136000_5 x136001_5).bind fun t142 => (if t142 = true then (none) else ((rule_Through.f kj5 x136000_5 x136001_5 x135000_5 x135001_5).bind fun t143 => (some (!t143)))))))))) else (if t139 = true then ((rule_Right.f x135000_5 x135001_5).bind fun t144 => (if t144 = true then ((rule_Right.f x136000_5 x136001_5).bind fun t145 => (if t145 = true then (if t137.toList = t138.toList then (if (x135000_5 == x136000_5 && (x135001_5 == x136001_5)) = true then ((rule_Right.f x135000_5 x135001_5).bind fun t146 => (if t146 = true then (some true) else (none))) else (none)) else (if (x135000_5 == x136000_5 && (x135001_5 == x136001_5)) = true then (none) else ((rule_Right.f x135000_5 x135001_5).bind fun t147 => (if t147 = true then (some true) else (none))))) else ((rule_Right.f x135000_5 x135001_5).bind fun t148 => (if t148 = true then (some true) else (none))))) else (none))) else (none)))) = some r := H
        have A15 := Aside0.mk A150
        clear A150
        replace H := Option.bind_eq_some_iff.mp H
        obtain ⟨t139, A160, H⟩ := H
        replace H : (if t137.toList = ([] : List UInt8) then (if t139 = true then (none) else ((rule_Right.f x135000_5 x135001_5).bind fun t140 => (if t140 = true then (none) else ((rule_Right.f x135000_5 x135001_5).bind fun t141 => (if t141 = true then (none) else ((rule_Punch.f kj5 x135000_5 x135001_5 x136000_5 x136001_5).bind fun t142 => (if t142 = true then (none) else ((rule_Through.f kj5 x136000_5 x136001_5 x135000_5 x135001_5).bind fun t143 => (some (!t143)))))))))) else (if t139 = true then ((rule_Right.f x135000_5 x135001_5).bind fun t144 => (if t144 = true then ((rule_Right.f x136000_5 x136001_5).bind fun t145 => (if t145 = true then (if t137.toList = t138.toList then (if (x135000_5 == x136000_5 && (x135001_5 == x136001_5)) = true then ((rule_Right.f x135000_5 x135001_5).bind fun t146 => (if t146 = true then (some true) else (none))) else (none)) else (if (x135000_5 == x136000_5 && (x135001_5 == x136001_5)) = true then (none) else ((rule_Right.f x135000_5 x135001_5).bind fun t147 => (if t147 = true then (some true) else (none))))) else ((rule_Right.f x135000_5 x135001_5).bind fun t148 => (if t148 = true then (some true) else (none))))) else (none))) else (none))) = some r := H
        have A16 := Aside0.mk A160
        clear A160
        by_cases c17 : t137.toList = ([] : List UInt8)
        · rw [if_pos c17] at H
          have c17b0 : (t137.toList == ([] : List UInt8)) = true := beq_iff_eq.mpr c17
          have c17b1 : (t137.toList != ([] : List UInt8)) = false := bne_eq_false_iff_eq.mpr c17
          clear c17
          by_cases c18 : t139 = true
          · (first | subst c18 | clear c18)
            have H1 : (none) = some r := by first | (rw [if_pos rfl] at H; exact H) | (rw [if_pos trivial] at H; exact H)
            clear H
            have H := H1
            clear H1
            exact absurd H (by simp)
          · replace c18 := Bool.eq_false_iff.mpr c18
            (first | subst c18 | clear c18)
            have H1 : ((rule_Right.f x135000_5 x135001_5).bind fun t140 => (if t140 = true then (none) else ((rule_Right.f x135000_5 x135001_5).bind fun t141 => (if t141 = true then (none) else ((rule_Punch.f kj5 x135000_5 x135001_5 x136000_5 x136001_5).bind fun t142 => (if t142 = true then (none) else ((rule_Through.f kj5 x136000_5 x136001_5 x135000_5 x135001_5).bind fun t143 => (some (!t143))))))))) = some r := by rw [if_neg (show ¬ (false = true) by decide)] at H; exact H
            clear H
            have H := H1
            clear H1
            replace H := Option.bind_eq_some_iff.mp H
            obtain ⟨t140, A190, H⟩ := H
            replace H : (if t140 = true then (none) else ((rule_Right.f x135000_5 x135001_5).bind fun t141 => (if t141 = true then (none) else ((rule_Punch.f kj5 x135000_5 x135001_5 x136000_5 x136001_5).bind fun t142 => (if t142 = true then (none) else ((rule_Through.f kj5 x136000_5 x136001_5 x135000_5 x135001_5).bind fun t143 => (some (!t143)))))))) = some r := H
            have A19 := Aside0.mk A190
            clear A190
            by_cases c20 : t140 = true
            · (first | subst c20 | clear c20)
              have H1 : (none) = some r := by first | (rw [if_pos rfl] at H; exact H) | (rw [if_pos trivial] at H; exact H)
              clear H
              have H := H1
              clear H1
              exact absurd H (by simp)
            · replace c20 := Bool.eq_false_iff.mpr c20
              (first | subst c20 | clear c20)
              have H1 : ((rule_Right.f x135000_5 x135001_5).bind fun t141 => (if t141 = true then (none) else ((rule_Punch.f kj5 x135000_5 x135001_5 x136000_5 x136001_5).bind fun t142 => (if t142 = true then (none) else ((rule_Through.f kj5 x136000_5 x136001_5 x135000_5 x135001_5).bind fun t143 => (some (!t143))))))) = some r := by rw [if_neg (show ¬ (false = true) by decide)] at H; exact H
              clear H
              have H := H1
              clear H1
              replace H := Option.bind_eq_some_iff.mp H
              obtain ⟨t141, A210, H⟩ := H
              replace H : (if t141 = true then (none) else ((rule_Punch.f kj5 x135000_5 x135001_5 x136000_5 x136001_5).bind fun t142 => (if t142 = true then (none) else ((rule_Through.f kj5 x136000_5 x136001_5 x135000_5 x135001_5).bind fun t143 => (some (!t143)))))) = some r := H
              have A21 := Aside0.mk A210
              clear A210
              by_cases c22 : t141 = true
              · (first | subst c22 | clear c22)
                have H1 : (none) = some r := by first | (rw [if_pos rfl] at H; exact H) | (rw [if_pos trivial] at H; exact H)
                clear H
                have H := H1
                clear H1
                exact absurd H (by simp)
              · replace c22 := Bool.eq_false_iff.mpr c22
                (first | subst c22 | clear c22)
                have H1 : ((rule_Punch.f kj5 x135000_5 x135001_5 x136000_5 x136001_5).bind fun t142 => (if t142 = true then (none) else ((rule_Through.f kj5 x136000_5 x136001_5 x135000_5 x135001_5).bind fun t143 => (some (!t143))))) = some r := by rw [if_neg (show ¬ (false = true) by decide)] at H; exact H
                clear H
                have H := H1
                clear H1
                replace H := Option.bind_eq_some_iff.mp H
                obtain ⟨t142, A230, H⟩ := H
                replace H : (if t142 = true then (none) else ((rule_Through.f kj5 x136000_5 x136001_5 x135000_5 x135001_5).bind fun t143 => (some (!t143)))) = some r := H
                have A23 := Aside0.mk A230
                clear A230
                by_cases c24 : t142 = true
                · (first | subst c24 | clear c24)
                  have H1 : (none) = some r := by first | (rw [if_pos rfl] at H; exact H) | (rw [if_pos trivial] at H; exact H)
                  clear H
                  have H := H1
                  clear H1
                  exact absurd H (by simp)
                · replace c24 := Bool.eq_false_iff.mpr c24
                  (first | subst c24 | clear c24)
                  have H1 : ((rule_Through.f kj5 x136000_5 x136001_5 x135000_5 x135001_5).bind fun t143 => (some (!t143))) = some r := by rw [if_neg (show ¬ (false = true) by decide)] at H; exact H
                  clear H
                  have H := H1
                  clear H1
                  replace H := Option.bind_eq_some_iff.mp H
                  obtain ⟨t143, A250, H⟩ := H
                  replace H : (some (!t143)) = some r := H
                  have A25 := Aside0.mk A250
                  clear A250
                  obtain rfl := Option.some.inj H
                  have hnb26 := NB134_135.out
                  have hnc26 := NB135_134.out
                  have hcz27_0 : wc.cell? ⟨gb134, 0, none⟩ = some (.int .i64 x135000_5) := (blk_cell BK134.out 0).trans rfl
                  have hcz27_1 : wc.cell? ⟨gb134, 1, none⟩ = some (.int .i64 x135001_5) := (blk_cell BK134.out 1).trans rfl
                  have hfz27_0 := blk_frozen BK134.out 0
                  have hfz27_1 := blk_frozen BK134.out 1
                  go_wp2_with (first | ((with_reducible refine gate_callee (f := 20) rfl ?_); refine goesL_ (some 29) rfl rfl Try.func20 (by kernel_rfl) rfl #[.agg #[.int .i64 x135000_5, .int .i64 x135001_5]] rfl (by (try simp only [List.map_toArray, List.map_cons, List.map_nil]); first | done | rfl | (simp only [List.length_drop, List.length_take]; rfl)) ?_; (with_reducible refine (rule_Word.calls x135000_5 x135001_5 t137 _ A14.out).mono ?_); rintro e w28 ⟨rfl, hb⟩; refine ⟨_, rfl, ?_⟩; have n0_ := Aside0.mk (blk_below (g := gb134) (o := .cells #[.int .i64 x135000_5, .int .i64 x135001_5] 23 (0, 0)) (by (with_reducible repeat (first | refine blk_drewN ?_ _ | refine blk_drew ?_ | refine blk_alloc ?_ _)); exact BK134.out) hb); have n1_ := Aside0.mk (blk_below (g := gb135) (o := .cells #[.int .i64 x136000_5, .int .i64 x136001_5] 23 (0, 0)) (by (with_reducible repeat (first | refine blk_drewN ?_ _ | refine blk_drew ?_ | refine blk_alloc ?_ _)); exact BK135.out) hb); have n2_ := Aside0.mk (below_step (by repeat (first | (with_reducible first | exact HB.out | apply below_alloc | apply pw_below_drewN | apply below_drew1 | refine below_set ?_ GE134.out | refine below_set ?_ GE135.out) | exact HB.out)) hb); clear BK134; clear BK135; clear HB; have BK134 := n0_; have BK135 := n1_; have HB := n2_; clear n0_ n1_ n2_; (try clear hb); (try clear hb2); (try clear hk); (try clear hi); have hcz29_0 : w28.cell? ⟨gb135, 0, none⟩ = some (.int .i64 x136000_5) := (blk_cell BK135.out 0).trans rfl; have hcz29_1 : w28.cell? ⟨gb135, 1, none⟩ = some (.int .i64 x136001_5) := (blk_cell BK135.out 1).trans rfl; have hfz29_0 := blk_frozen BK135.out 0; have hfz29_1 := blk_frozen BK135.out 1) | ((with_reducible refine gate_callee (f := 20) rfl ?_); refine goesL_ (some 31) rfl rfl Try.func20 (by kernel_rfl) rfl #[.agg #[.int .i64 x136000_5, .int .i64 x136001_5]] rfl (by (try simp only [List.map_toArray, List.map_cons, List.map_nil]); first | done | rfl | (simp only [List.length_drop, List.length_take]; rfl)) ?_; (with_reducible refine (rule_Word.calls x136000_5 x136001_5 t138 _ A15.out).mono ?_); rintro e w30 ⟨rfl, hb⟩; refine ⟨_, rfl, ?_⟩; have n0_ := Aside0.mk (blk_below (g := gb134) (o := .cells #[.int .i64 x135000_5, .int .i64 x135001_5] 23 (0, 0)) (by (with_reducible repeat (first | refine blk_drewN ?_ _ | refine blk_drew ?_ | refine blk_alloc ?_ _)); exact BK134.out) hb); have n1_ := Aside0.mk (blk_below (g := gb135) (o := .cells #[.int .i64 x136000_5, .int .i64 x136001_5] 23 (0, 0)) (by (with_reducible repeat (first | refine blk_drewN ?_ _ | refine blk_drew ?_ | refine blk_alloc ?_ _)); exact BK135.out) hb); have n2_ := Aside0.mk (below_step (by repeat (first | (with_reducible first | exact HB.out | apply below_alloc | apply pw_below_drewN | apply below_drew1 | refine below_set ?_ GE134.out | refine below_set ?_ GE135.out) | exact HB.out)) hb); clear BK134; clear BK135; clear HB; have BK134 := n0_; have BK135 := n1_; have HB := n2_; clear n0_ n1_ n2_; (try clear hb); (try clear hb2); (try clear hk); (try clear hi); have hcz31_0 : w30.cell? ⟨gb134, 0, none⟩ = some (.int .i64 x135000_5) := (blk_cell BK134.out 0).trans rfl; have hcz31_1 : w30.cell? ⟨gb134, 1, none⟩ = some (.int .i64 x135001_5) := (blk_cell BK134.out 1).trans rfl; have hfz31_0 := blk_frozen BK134.out 0; have hfz31_1 := blk_frozen BK134.out 1) | (go_at_call 10; (with_reducible refine (rule_Right.calls x135000_5 x135001_5 false _ A16.out).mono ?_); rintro e w32 ⟨rfl, hb⟩; have n0_ := Aside0.mk (blk_below (g := gb134) (o := .cells #[.int .i64 x135000_5, .int .i64 x135001_5] 23 (0, 0)) (by (with_reducible repeat (first | refine blk_drewN ?_ _ | refine blk_drew ?_ | refine blk_alloc ?_ _)); exact BK134.out) hb); have n1_ := Aside0.mk (blk_below (g := gb135) (o := .cells #[.int .i64 x136000_5, .int .i64 x136001_5] 23 (0, 0)) (by (with_reducible repeat (first | refine blk_drewN ?_ _ | refine blk_drew ?_ | refine blk_alloc ?_ _)); exact BK135.out) hb); have n2_ := Aside0.mk (below_step (by repeat (first | (with_reducible first | exact HB.out | apply below_alloc | apply pw_below_drewN | apply below_drew1 | refine below_set ?_ GE134.out | refine below_set ?_ GE135.out) | exact HB.out)) hb); clear BK134; clear BK135; clear HB; have BK134 := n0_; have BK135 := n1_; have HB := n2_; clear n0_ n1_ n2_; (try clear hb); (try clear hb2); (try clear hk); (try clear hi); have hcz33_0 : w32.cell? ⟨gb134, 0, none⟩ = some (.int .i64 x135000_5) := (blk_cell BK134.out 0).trans rfl; have hcz33_1 : w32.cell? ⟨gb134, 1, none⟩ = some (.int .i64 x135001_5) := (blk_cell BK134.out 1).trans rfl; have hfz33_0 := blk_frozen BK134.out 0; have hfz33_1 := blk_frozen BK134.out 1; have hcz38_0 : w32.cell? ⟨gb135, 0, none⟩ = some (.int .i64 x136000_5) := (blk_cell BK135.out 0).trans rfl; have hcz38_1 : w32.cell? ⟨gb135, 1, none⟩ = some (.int .i64 x136001_5) := (blk_cell BK135.out 1).trans rfl; have hfz38_0 := blk_frozen BK135.out 0; have hfz38_1 := blk_frozen BK135.out 1) | (go_at_call 18; (with_reducible refine (rule_Punch.calls kj5 x135000_5 x135001_5 x136000_5 x136001_5 false _ A23.out).mono ?_); rintro e w39 ⟨rfl, hb⟩; have n0_ := Aside0.mk (blk_below (g := gb134) (o := .cells #[.int .i64 x135000_5, .int .i64 x135001_5] 23 (0, 0)) (by (with_reducible repeat (first | refine blk_drewN ?_ _ | refine blk_drew ?_ | refine blk_alloc ?_ _)); exact BK134.out) hb); have n1_ := Aside0.mk (blk_below (g := gb135) (o := .cells #[.int .i64 x136000_5, .int .i64 x136001_5] 23 (0, 0)) (by (with_reducible repeat (first | refine blk_drewN ?_ _ | refine blk_drew ?_ | refine blk_alloc ?_ _)); exact BK135.out) hb); have n2_ := Aside0.mk (below_step (by repeat (first | (with_reducible first | exact HB.out | apply below_alloc | apply pw_below_drewN | apply below_drew1 | refine below_set ?_ GE134.out | refine below_set ?_ GE135.out) | exact HB.out)) hb); clear BK134; clear BK135; clear HB; have BK134 := n0_; have BK135 := n1_; have HB := n2_; clear n0_ n1_ n2_; (try clear hb); (try clear hb2); (try clear hk); (try clear hi); have hcz40_0 : w39.cell? ⟨gb135, 0, none⟩ = some (.int .i64 x136000_5) := (blk_cell BK135.out 0).trans rfl; have hcz40_1 : w39.cell? ⟨gb135, 1, none⟩ = some (.int .i64 x136001_5) := (blk_cell BK135.out 1).trans rfl; have hfz40_0 := blk_frozen BK135.out 0; have hfz40_1 := blk_frozen BK135.out 1; have hcz41_0 : w39.cell? ⟨gb134, 0, none⟩ = some (.int .i64 x135000_5) := (blk_cell BK134.out 0).trans rfl; have hcz41_1 : w39.cell? ⟨gb134, 1, none⟩ = some (.int .i64 x135001_5) := (blk_cell BK134.out 1).trans rfl; have hfz41_0 := blk_frozen BK134.out 0; have hfz41_1 := blk_frozen BK134.out 1) | (go_at_call 16; (with_reducible refine (rule_Through.calls kj5 x136000_5 x136001_5 x135000_5 x135001_5 t143 _ A25.out).mono ?_); rintro e w42 ⟨rfl, hb⟩; have n0_ := Aside0.mk (blk_below (g := gb134) (o := .cells #[.int .i64 x135000_5, .int .i64 x135001_5] 23 (0, 0)) (by (with_reducible repeat (first | refine blk_drewN ?_ _ | refine blk_drew ?_ | refine blk_alloc ?_ _)); exact BK134.out) hb); have n1_ := Aside0.mk (blk_below (g := gb135) (o := .cells #[.int .i64 x136000_5, .int .i64 x136001_5] 23 (0, 0)) (by (with_reducible repeat (first | refine blk_drewN ?_ _ | refine blk_drew ?_ | refine blk_alloc ?_ _)); exact BK135.out) hb); have n2_ := Aside0.mk (below_step (by repeat (first | (with_reducible first | exact HB.out | apply below_alloc | apply pw_below_drewN | apply below_drew1 | refine below_set ?_ GE134.out | refine below_set ?_ GE135.out) | exact HB.out)) hb); clear BK134; clear BK135; clear HB; have BK134 := n0_; have BK135 := n1_; have HB := n2_; clear n0_ n1_ n2_; (try clear hb); (try clear hb2); (try clear hk); (try clear hi)))
                  go_ret
                  exact ⟨by first | rfl | (simp [errW_none, errW_some] <;> rfl) | (simp [*, errW_none, errW_some] <;> rfl), by repeat (first | (with_reducible first | exact HB.out | apply below_alloc | apply pw_below_drewN | apply below_drew1 | refine below_set ?_ GE134.out | refine below_set ?_ GE135.out) | exact HB.out)⟩
        · (first | rw [if_neg c17] at H | exact absurd rfl c17)
          have c17b0 : (t137.toList == ([] : List UInt8)) = false := beq_eq_false_iff_ne.mpr c17
          have c17b1 : (t137.toList != ([] : List UInt8)) = true := bne_iff_ne.mpr c17
          by_cases c43 : t139 = true
          · (first | subst c43 | clear c43)
            have H1 : ((rule_Right.f x135000_5 x135001_5).bind fun t144 => (if t144 = true then ((rule_Right.f x136000_5 x136001_5).bind fun t145 => (if t145 = true then (if t137.toList = t138.toList then (if (x135000_5 == x136000_5 && (x135001_5 == x136001_5)) = true then ((rule_Right.f x135000_5 x135001_5).bind fun t146 => (if t146 = true then (some true) else (none))) else (none)) else (if (x135000_5 == x136000_5 && (x135001_5 == x136001_5)) = true then (none) else ((rule_Right.f x135000_5 x135001_5).bind fun t147 => (if t147 = true then (some true) else (none))))) else ((rule_Right.f x135000_5 x135001_5).bind fun t148 => (if t148 = true then (some true) else (none))))) else (none))) = some r := by first | (rw [if_pos rfl] at H; exact H) | (rw [if_pos trivial] at H; exact H)
            clear H
            have H := H1
            clear H1
            replace H := Option.bind_eq_some_iff.mp H
            obtain ⟨t144, A440, H⟩ := H
            replace H : (if t144 = true then ((rule_Right.f x136000_5 x136001_5).bind fun t145 => (if t145 = true then (if t137.toList = t138.toList then (if (x135000_5 == x136000_5 && (x135001_5 == x136001_5)) = true then ((rule_Right.f x135000_5 x135001_5).bind fun t146 => (if t146 = true then (some true) else (none))) else (none)) else (if (x135000_5 == x136000_5 && (x135001_5 == x136001_5)) = true then (none) else ((rule_Right.f x135000_5 x135001_5).bind fun t147 => (if t147 = true then (some true) else (none))))) else ((rule_Right.f x135000_5 x135001_5).bind fun t148 => (if t148 = true then (some true) else (none))))) else (none)) = some r := H
            have A44 := Aside0.mk A440
            clear A440
            by_cases c45 : t144 = true
            · (first | subst c45 | clear c45)
              have H1 : ((rule_Right.f x136000_5 x136001_5).bind fun t145 => (if t145 = true then (if t137.toList = t138.toList then (if (x135000_5 == x136000_5 && (x135001_5 == x136001_5)) = true then ((rule_Right.f x135000_5 x135001_5).bind fun t146 => (if t146 = true then (some true) else (none))) else (none)) else (if (x135000_5 == x136000_5 && (x135001_5 == x136001_5)) = true then (none) else ((rule_Right.f x135000_5 x135001_5).bind fun t147 => (if t147 = true then (some true) else (none))))) else ((rule_Right.f x135000_5 x135001_5).bind fun t148 => (if t148 = true then (some true) else (none))))) = some r := by first | (rw [if_pos rfl] at H; exact H) | (rw [if_pos trivial] at H; exact H)
              clear H
              have H := H1
              clear H1
              replace H := Option.bind_eq_some_iff.mp H
              obtain ⟨t145, A460, H⟩ := H
              replace H : (if t145 = true then (if t137.toList = t138.toList then (if (x135000_5 == x136000_5 && (x135001_5 == x136001_5)) = true then ((rule_Right.f x135000_5 x135001_5).bind fun t146 => (if t146 = true then (some true) else (none))) else (none)) else (if (x135000_5 == x136000_5 && (x135001_5 == x136001_5)) = true then (none) else ((rule_Right.f x135000_5 x135001_5).bind fun t147 => (if t147 = true then (some true) else (none))))) else ((rule_Right.f x135000_5 x135001_5).bind fun t148 => (if t148 = true then (some true) else (none)))) = some r := H
              have A46 := Aside0.mk A460
              clear A460
              by_cases c47 : t145 = true
              · (first | subst c47 | clear c47)
                have H1 : (if t137.toList = t138.toList then (if (x135000_5 == x136000_5 && (x135001_5 == x136001_5)) = true then ((rule_Right.f x135000_5 x135001_5).bind fun t146 => (if t146 = true then (some true) else (none))) else (none)) else (if (x135000_5 == x136000_5 && (x135001_5 == x136001_5)) = true then (none) else ((rule_Right.f x135000_5 x135001_5).bind fun t147 => (if t147 = true then (some true) else (none))))) = some r := by first | (rw [if_pos rfl] at H; exact H) | (rw [if_pos trivial] at H; exact H)
                clear H
                have H := H1
                clear H1
                by_cases c48 : t137.toList = t138.toList
                · rw [if_pos c48] at H
                  have c48b0 : (t137.toList == t138.toList) = true := beq_iff_eq.mpr c48
                  have c48b1 : (t137.toList != t138.toList) = false := bne_eq_false_iff_eq.mpr c48
                  clear c48
                  by_cases c49 : (x135000_5 == x136000_5 && (x135001_5 == x136001_5)) = true
                  · rw [if_pos c49] at H
                    have c49b0 : (x135000_5 == x136000_5 && (x135001_5 == x136001_5)) = true := c49
                    (try (have c49b1 : decide (x135000_5 = x136000_5 && (x135001_5 == x136001_5)) = true := by simpa using c49))
                    (try (have c49b2 : (x135000_5 == x136000_5 && (x135001_5 == x136001_5)) = true := by simpa using c49))
                    clear c49
                    replace H := Option.bind_eq_some_iff.mp H
                    obtain ⟨t146, A500, H⟩ := H
                    replace H : (if t146 = true then (some true) else (none)) = some r := H
                    have A50 := Aside0.mk A500
                    clear A500
                    by_cases c51 : t146 = true
                    · (first | subst c51 | clear c51)
                      have H1 : (some true) = some r := by first | (rw [if_pos rfl] at H; exact H) | (rw [if_pos trivial] at H; exact H)
                      clear H
                      have H := H1
                      clear H1
                      obtain rfl := Option.some.inj H
                      have hnb52 := NB134_135.out
                      have hnc52 := NB135_134.out
                      have hcz53_0 : wc.cell? ⟨gb134, 0, none⟩ = some (.int .i64 x135000_5) := (blk_cell BK134.out 0).trans rfl
                      have hcz53_1 : wc.cell? ⟨gb134, 1, none⟩ = some (.int .i64 x135001_5) := (blk_cell BK134.out 1).trans rfl
                      have hfz53_0 := blk_frozen BK134.out 0
                      have hfz53_1 := blk_frozen BK134.out 1
                      go_wp2_with (first | ((with_reducible refine gate_callee (f := 20) rfl ?_); refine goesL_ (some 29) rfl rfl Try.func20 (by kernel_rfl) rfl #[.agg #[.int .i64 x135000_5, .int .i64 x135001_5]] rfl (by (try simp only [List.map_toArray, List.map_cons, List.map_nil]); first | done | rfl | (simp only [List.length_drop, List.length_take]; rfl)) ?_; (with_reducible refine (rule_Word.calls x135000_5 x135001_5 t137 _ A14.out).mono ?_); rintro e w54 ⟨rfl, hb⟩; refine ⟨_, rfl, ?_⟩; have n0_ := Aside0.mk (blk_below (g := gb134) (o := .cells #[.int .i64 x135000_5, .int .i64 x135001_5] 23 (0, 0)) (by (with_reducible repeat (first | refine blk_drewN ?_ _ | refine blk_drew ?_ | refine blk_alloc ?_ _)); exact BK134.out) hb); have n1_ := Aside0.mk (blk_below (g := gb135) (o := .cells #[.int .i64 x136000_5, .int .i64 x136001_5] 23 (0, 0)) (by (with_reducible repeat (first | refine blk_drewN ?_ _ | refine blk_drew ?_ | refine blk_alloc ?_ _)); exact BK135.out) hb); have n2_ := Aside0.mk (below_step (by repeat (first | (with_reducible first | exact HB.out | apply below_alloc | apply pw_below_drewN | apply below_drew1 | refine below_set ?_ GE134.out | refine below_set ?_ GE135.out) | exact HB.out)) hb); clear BK134; clear BK135; clear HB; have BK134 := n0_; have BK135 := n1_; have HB := n2_; clear n0_ n1_ n2_; (try clear hb); (try clear hb2); (try clear hk); (try clear hi); have hcz55_0 : w54.cell? ⟨gb135, 0, none⟩ = some (.int .i64 x136000_5) := (blk_cell BK135.out 0).trans rfl; have hcz55_1 : w54.cell? ⟨gb135, 1, none⟩ = some (.int .i64 x136001_5) := (blk_cell BK135.out 1).trans rfl; have hfz55_0 := blk_frozen BK135.out 0; have hfz55_1 := blk_frozen BK135.out 1) | ((with_reducible refine gate_callee (f := 20) rfl ?_); refine goesL_ (some 31) rfl rfl Try.func20 (by kernel_rfl) rfl #[.agg #[.int .i64 x136000_5, .int .i64 x136001_5]] rfl (by (try simp only [List.map_toArray, List.map_cons, List.map_nil]); first | done | rfl | (simp only [List.length_drop, List.length_take]; rfl)) ?_; (with_reducible refine (rule_Word.calls x136000_5 x136001_5 t138 _ A15.out).mono ?_); rintro e w56 ⟨rfl, hb⟩; refine ⟨_, rfl, ?_⟩; have n0_ := Aside0.mk (blk_below (g := gb134) (o := .cells #[.int .i64 x135000_5, .int .i64 x135001_5] 23 (0, 0)) (by (with_reducible repeat (first | refine blk_drewN ?_ _ | refine blk_drew ?_ | refine blk_alloc ?_ _)); exact BK134.out) hb); have n1_ := Aside0.mk (blk_below (g := gb135) (o := .cells #[.int .i64 x136000_5, .int .i64 x136001_5] 23 (0, 0)) (by (with_reducible repeat (first | refine blk_drewN ?_ _ | refine blk_drew ?_ | refine blk_alloc ?_ _)); exact BK135.out) hb); have n2_ := Aside0.mk (below_step (by repeat (first | (with_reducible first | exact HB.out | apply below_alloc | apply pw_below_drewN | apply below_drew1 | refine below_set ?_ GE134.out | refine below_set ?_ GE135.out) | exact HB.out)) hb); clear BK134; clear BK135; clear HB; have BK134 := n0_; have BK135 := n1_; have HB := n2_; clear n0_ n1_ n2_; (try clear hb); (try clear hb2); (try clear hk); (try clear hi); have hcz57_0 : w56.cell? ⟨gb134, 0, none⟩ = some (.int .i64 x135000_5) := (blk_cell BK134.out 0).trans rfl; have hcz57_1 : w56.cell? ⟨gb134, 1, none⟩ = some (.int .i64 x135001_5) := (blk_cell BK134.out 1).trans rfl; have hfz57_0 := blk_frozen BK134.out 0; have hfz57_1 := blk_frozen BK134.out 1) | (go_at_call 10; (with_reducible refine (rule_Right.calls x135000_5 x135001_5 true _ A16.out).mono ?_); rintro e w58 ⟨rfl, hb⟩; have n0_ := Aside0.mk (blk_below (g := gb134) (o := .cells #[.int .i64 x135000_5, .int .i64 x135001_5] 23 (0, 0)) (by (with_reducible repeat (first | refine blk_drewN ?_ _ | refine blk_drew ?_ | refine blk_alloc ?_ _)); exact BK134.out) hb); have n1_ := Aside0.mk (blk_below (g := gb135) (o := .cells #[.int .i64 x136000_5, .int .i64 x136001_5] 23 (0, 0)) (by (with_reducible repeat (first | refine blk_drewN ?_ _ | refine blk_drew ?_ | refine blk_alloc ?_ _)); exact BK135.out) hb); have n2_ := Aside0.mk (below_step (by repeat (first | (with_reducible first | exact HB.out | apply below_alloc | apply pw_below_drewN | apply below_drew1 | refine below_set ?_ GE134.out | refine below_set ?_ GE135.out) | exact HB.out)) hb); clear BK134; clear BK135; clear HB; have BK134 := n0_; have BK135 := n1_; have HB := n2_; clear n0_ n1_ n2_; (try clear hb); (try clear hb2); (try clear hk); (try clear hi); have hcz59_0 : w58.cell? ⟨gb134, 0, none⟩ = some (.int .i64 x135000_5) := (blk_cell BK134.out 0).trans rfl; have hcz59_1 : w58.cell? ⟨gb134, 1, none⟩ = some (.int .i64 x135001_5) := (blk_cell BK134.out 1).trans rfl; have hfz59_0 := blk_frozen BK134.out 0; have hfz59_1 := blk_frozen BK134.out 1; have hcz61_0 : w58.cell? ⟨gb135, 0, none⟩ = some (.int .i64 x136000_5) := (blk_cell BK135.out 0).trans rfl; have hcz61_1 : w58.cell? ⟨gb135, 1, none⟩ = some (.int .i64 x136001_5) := (blk_cell BK135.out 1).trans rfl; have hfz61_0 := blk_frozen BK135.out 0; have hfz61_1 := blk_frozen BK135.out 1) | (go_at_call 10; (with_reducible refine (rule_Right.calls x136000_5 x136001_5 true _ A46.out).mono ?_); rintro e w62 ⟨rfl, hb⟩; have n0_ := Aside0.mk (blk_below (g := gb134) (o := .cells #[.int .i64 x135000_5, .int .i64 x135001_5] 23 (0, 0)) (by (with_reducible repeat (first | refine blk_drewN ?_ _ | refine blk_drew ?_ | refine blk_alloc ?_ _)); exact BK134.out) hb); have n1_ := Aside0.mk (blk_below (g := gb135) (o := .cells #[.int .i64 x136000_5, .int .i64 x136001_5] 23 (0, 0)) (by (with_reducible repeat (first | refine blk_drewN ?_ _ | refine blk_drew ?_ | refine blk_alloc ?_ _)); exact BK135.out) hb); have n2_ := Aside0.mk (below_step (by repeat (first | (with_reducible first | exact HB.out | apply below_alloc | apply pw_below_drewN | apply below_drew1 | refine below_set ?_ GE134.out | refine below_set ?_ GE135.out) | exact HB.out)) hb); clear BK134; clear BK135; clear HB; have BK134 := n0_; have BK135 := n1_; have HB := n2_; clear n0_ n1_ n2_; (try clear hb); (try clear hb2); (try clear hk); (try clear hi); have hcz63_0 : w62.cell? ⟨gb134, 0, none⟩ = some (.int .i64 x135000_5) := (blk_cell BK134.out 0).trans rfl; have hcz63_1 : w62.cell? ⟨gb134, 1, none⟩ = some (.int .i64 x135001_5) := (blk_cell BK134.out 1).trans rfl; have hfz63_0 := blk_frozen BK134.out 0; have hfz63_1 := blk_frozen BK134.out 1; have hcz64_0 : w62.cell? ⟨gb135, 0, none⟩ = some (.int .i64 x136000_5) := (blk_cell BK135.out 0).trans rfl; have hcz64_1 : w62.cell? ⟨gb135, 1, none⟩ = some (.int .i64 x136001_5) := (blk_cell BK135.out 1).trans rfl; have hfz64_0 := blk_frozen BK135.out 0; have hfz64_1 := blk_frozen BK135.out 1))
                      go_ret
                      exact ⟨by first | rfl | (simp [errW_none, errW_some] <;> rfl) | (simp [*, errW_none, errW_some] <;> rfl), by repeat (first | (with_reducible first | exact HB.out | apply below_alloc | apply pw_below_drewN | apply below_drew1 | refine below_set ?_ GE134.out | refine below_set ?_ GE135.out) | exact HB.out)⟩
                    · replace c51 := Bool.eq_false_iff.mpr c51
                      (first | subst c51 | clear c51)
                      have H1 : (none) = some r := by rw [if_neg (show ¬ (false = true) by decide)] at H; exact H
                      clear H
                      have H := H1
                      clear H1
                      exact absurd H (by simp)
                  · (first | rw [if_neg c49] at H | exact absurd rfl c49)
                    exact absurd H (by simp)
                · (first | rw [if_neg c48] at H | exact absurd rfl c48)
                  have c48b0 : (t137.toList == t138.toList) = false := beq_eq_false_iff_ne.mpr c48
                  have c48b1 : (t137.toList != t138.toList) = true := bne_iff_ne.mpr c48
                  by_cases c66 : (x135000_5 == x136000_5 && (x135001_5 == x136001_5)) = true
                  · rw [if_pos c66] at H
                    exact absurd H (by simp)
                  · (first | rw [if_neg c66] at H | exact absurd rfl c66)
                    have c66b0 : (x135000_5 == x136000_5 && (x135001_5 == x136001_5)) = false := by simpa using c66
                    (try (have c66b1 : decide (x135000_5 = x136000_5 && (x135001_5 == x136001_5)) = false := by simpa using c66))
                    (try (have c66b2 : (x135000_5 == x136000_5 && (x135001_5 == x136001_5)) = false := by simpa using c66))
                    (try (have c66b3 : ¬ (x135000_5 = x136000_5 && (x135001_5 == x136001_5)) := by simpa using c66))
                    clear c66
                    replace H := Option.bind_eq_some_iff.mp H
                    obtain ⟨t147, A670, H⟩ := H
                    replace H : (if t147 = true then (some true) else (none)) = some r := H
                    have A67 := Aside0.mk A670
                    clear A670
                    by_cases c68 : t147 = true
                    · (first | subst c68 | clear c68)
                      have H1 : (some true) = some r := by first | (rw [if_pos rfl] at H; exact H) | (rw [if_pos trivial] at H; exact H)
                      clear H
                      have H := H1
                      clear H1
                      obtain rfl := Option.some.inj H
                      have hnb69 := NB134_135.out
                      have hnc69 := NB135_134.out
                      have hcz70_0 : wc.cell? ⟨gb134, 0, none⟩ = some (.int .i64 x135000_5) := (blk_cell BK134.out 0).trans rfl
                      have hcz70_1 : wc.cell? ⟨gb134, 1, none⟩ = some (.int .i64 x135001_5) := (blk_cell BK134.out 1).trans rfl
                      have hfz70_0 := blk_frozen BK134.out 0
                      have hfz70_1 := blk_frozen BK134.out 1
                      go_wp2_with (first | ((with_reducible refine gate_callee (f := 20) rfl ?_); refine goesL_ (some 29) rfl rfl Try.func20 (by kernel_rfl) rfl #[.agg #[.int .i64 x135000_5, .int .i64 x135001_5]] rfl (by (try simp only [List.map_toArray, List.map_cons, List.map_nil]); first | done | rfl | (simp only [List.length_drop, List.length_take]; rfl)) ?_; (with_reducible refine (rule_Word.calls x135000_5 x135001_5 t137 _ A14.out).mono ?_); rintro e w71 ⟨rfl, hb⟩; refine ⟨_, rfl, ?_⟩; have n0_ := Aside0.mk (blk_below (g := gb134) (o := .cells #[.int .i64 x135000_5, .int .i64 x135001_5] 23 (0, 0)) (by (with_reducible repeat (first | refine blk_drewN ?_ _ | refine blk_drew ?_ | refine blk_alloc ?_ _)); exact BK134.out) hb); have n1_ := Aside0.mk (blk_below (g := gb135) (o := .cells #[.int .i64 x136000_5, .int .i64 x136001_5] 23 (0, 0)) (by (with_reducible repeat (first | refine blk_drewN ?_ _ | refine blk_drew ?_ | refine blk_alloc ?_ _)); exact BK135.out) hb); have n2_ := Aside0.mk (below_step (by repeat (first | (with_reducible first | exact HB.out | apply below_alloc | apply pw_below_drewN | apply below_drew1 | refine below_set ?_ GE134.out | refine below_set ?_ GE135.out) | exact HB.out)) hb); clear BK134; clear BK135; clear HB; have BK134 := n0_; have BK135 := n1_; have HB := n2_; clear n0_ n1_ n2_; (try clear hb); (try clear hb2); (try clear hk); (try clear hi); have hcz72_0 : w71.cell? ⟨gb135, 0, none⟩ = some (.int .i64 x136000_5) := (blk_cell BK135.out 0).trans rfl; have hcz72_1 : w71.cell? ⟨gb135, 1, none⟩ = some (.int .i64 x136001_5) := (blk_cell BK135.out 1).trans rfl; have hfz72_0 := blk_frozen BK135.out 0; have hfz72_1 := blk_frozen BK135.out 1) | ((with_reducible refine gate_callee (f := 20) rfl ?_); refine goesL_ (some 31) rfl rfl Try.func20 (by kernel_rfl) rfl #[.agg #[.int .i64 x136000_5, .int .i64 x136001_5]] rfl (by (try simp only [List.map_toArray, List.map_cons, List.map_nil]); first | done | rfl | (simp only [List.length_drop, List.length_take]; rfl)) ?_; (with_reducible refine (rule_Word.calls x136000_5 x136001_5 t138 _ A15.out).mono ?_); rintro e w73 ⟨rfl, hb⟩; refine ⟨_, rfl, ?_⟩; have n0_ := Aside0.mk (blk_below (g := gb134) (o := .cells #[.int .i64 x135000_5, .int .i64 x135001_5] 23 (0, 0)) (by (with_reducible repeat (first | refine blk_drewN ?_ _ | refine blk_drew ?_ | refine blk_alloc ?_ _)); exact BK134.out) hb); have n1_ := Aside0.mk (blk_below (g := gb135) (o := .cells #[.int .i64 x136000_5, .int .i64 x136001_5] 23 (0, 0)) (by (with_reducible repeat (first | refine blk_drewN ?_ _ | refine blk_drew ?_ | refine blk_alloc ?_ _)); exact BK135.out) hb); have n2_ := Aside0.mk (below_step (by repeat (first | (with_reducible first | exact HB.out | apply below_alloc | apply pw_below_drewN | apply below_drew1 | refine below_set ?_ GE134.out | refine below_set ?_ GE135.out) | exact HB.out)) hb); clear BK134; clear BK135; clear HB; have BK134 := n0_; have BK135 := n1_; have HB := n2_; clear n0_ n1_ n2_; (try clear hb); (try clear hb2); (try clear hk); (try clear hi); have hcz74_0 : w73.cell? ⟨gb134, 0, none⟩ = some (.int .i64 x135000_5) := (blk_cell BK134.out 0).trans rfl; have hcz74_1 : w73.cell? ⟨gb134, 1, none⟩ = some (.int .i64 x135001_5) := (blk_cell BK134.out 1).trans rfl; have hfz74_0 := blk_frozen BK134.out 0; have hfz74_1 := blk_frozen BK134.out 1) | (go_at_call 10; (with_reducible refine (rule_Right.calls x135000_5 x135001_5 true _ A16.out).mono ?_); rintro e w75 ⟨rfl, hb⟩; have n0_ := Aside0.mk (blk_below (g := gb134) (o := .cells #[.int .i64 x135000_5, .int .i64 x135001_5] 23 (0, 0)) (by (with_reducible repeat (first | refine blk_drewN ?_ _ | refine blk_drew ?_ | refine blk_alloc ?_ _)); exact BK134.out) hb); have n1_ := Aside0.mk (blk_below (g := gb135) (o := .cells #[.int .i64 x136000_5, .int .i64 x136001_5] 23 (0, 0)) (by (with_reducible repeat (first | refine blk_drewN ?_ _ | refine blk_drew ?_ | refine blk_alloc ?_ _)); exact BK135.out) hb); have n2_ := Aside0.mk (below_step (by repeat (first | (with_reducible first | exact HB.out | apply below_alloc | apply pw_below_drewN | apply below_drew1 | refine below_set ?_ GE134.out | refine below_set ?_ GE135.out) | exact HB.out)) hb); clear BK134; clear BK135; clear HB; have BK134 := n0_; have BK135 := n1_; have HB := n2_; clear n0_ n1_ n2_; (try clear hb); (try clear hb2); (try clear hk); (try clear hi); have hcz76_0 : w75.cell? ⟨gb134, 0, none⟩ = some (.int .i64 x135000_5) := (blk_cell BK134.out 0).trans rfl; have hcz76_1 : w75.cell? ⟨gb134, 1, none⟩ = some (.int .i64 x135001_5) := (blk_cell BK134.out 1).trans rfl; have hfz76_0 := blk_frozen BK134.out 0; have hfz76_1 := blk_frozen BK134.out 1; have hcz78_0 : w75.cell? ⟨gb135, 0, none⟩ = some (.int .i64 x136000_5) := (blk_cell BK135.out 0).trans rfl; have hcz78_1 : w75.cell? ⟨gb135, 1, none⟩ = some (.int .i64 x136001_5) := (blk_cell BK135.out 1).trans rfl; have hfz78_0 := blk_frozen BK135.out 0; have hfz78_1 := blk_frozen BK135.out 1) | (go_at_call 10; (with_reducible refine (rule_Right.calls x136000_5 x136001_5 true _ A46.out).mono ?_); rintro e w79 ⟨rfl, hb⟩; have n0_ := Aside0.mk (blk_below (g := gb134) (o := .cells #[.int .i64 x135000_5, .int .i64 x135001_5] 23 (0, 0)) (by (with_reducible repeat (first | refine blk_drewN ?_ _ | refine blk_drew ?_ | refine blk_alloc ?_ _)); exact BK134.out) hb); have n1_ := Aside0.mk (blk_below (g := gb135) (o := .cells #[.int .i64 x136000_5, .int .i64 x136001_5] 23 (0, 0)) (by (with_reducible repeat (first | refine blk_drewN ?_ _ | refine blk_drew ?_ | refine blk_alloc ?_ _)); exact BK135.out) hb); have n2_ := Aside0.mk (below_step (by repeat (first | (with_reducible first | exact HB.out | apply below_alloc | apply pw_below_drewN | apply below_drew1 | refine below_set ?_ GE134.out | refine below_set ?_ GE135.out) | exact HB.out)) hb); clear BK134; clear BK135; clear HB; have BK134 := n0_; have BK135 := n1_; have HB := n2_; clear n0_ n1_ n2_; (try clear hb); (try clear hb2); (try clear hk); (try clear hi); have hcz80_0 : w79.cell? ⟨gb134, 0, none⟩ = some (.int .i64 x135000_5) := (blk_cell BK134.out 0).trans rfl; have hcz80_1 : w79.cell? ⟨gb134, 1, none⟩ = some (.int .i64 x135001_5) := (blk_cell BK134.out 1).trans rfl; have hfz80_0 := blk_frozen BK134.out 0; have hfz80_1 := blk_frozen BK134.out 1; have hcz81_0 : w79.cell? ⟨gb135, 0, none⟩ = some (.int .i64 x136000_5) := (blk_cell BK135.out 0).trans rfl; have hcz81_1 : w79.cell? ⟨gb135, 1, none⟩ = some (.int .i64 x136001_5) := (blk_cell BK135.out 1).trans rfl; have hfz81_0 := blk_frozen BK135.out 0; have hfz81_1 := blk_frozen BK135.out 1))
                      go_ret
                      exact ⟨by first | rfl | (simp [errW_none, errW_some] <;> rfl) | (simp [*, errW_none, errW_some] <;> rfl), by repeat (first | (with_reducible first | exact HB.out | apply below_alloc | apply pw_below_drewN | apply below_drew1 | refine below_set ?_ GE134.out | refine below_set ?_ GE135.out) | exact HB.out)⟩
                    · replace c68 := Bool.eq_false_iff.mpr c68
                      (first | subst c68 | clear c68)
                      have H1 : (none) = some r := by rw [if_neg (show ¬ (false = true) by decide)] at H; exact H
                      clear H
                      have H := H1
                      clear H1
                      exact absurd H (by simp)
              · replace c47 := Bool.eq_false_iff.mpr c47
                (first | subst c47 | clear c47)
                have H1 : ((rule_Right.f x135000_5 x135001_5).bind fun t148 => (if t148 = true then (some true) else (none))) = some r := by rw [if_neg (show ¬ (false = true) by decide)] at H; exact H
                clear H
                have H := H1
                clear H1
                replace H := Option.bind_eq_some_iff.mp H
                obtain ⟨t148, A830, H⟩ := H
                replace H : (if t148 = true then (some true) else (none)) = some r := H
                have A83 := Aside0.mk A830
                clear A830
                by_cases c84 : t148 = true
                · (first | subst c84 | clear c84)
                  have H1 : (some true) = some r := by first | (rw [if_pos rfl] at H; exact H) | (rw [if_pos trivial] at H; exact H)
                  clear H
                  have H := H1
                  clear H1
                  obtain rfl := Option.some.inj H
                  have hnb85 := NB134_135.out
                  have hnc85 := NB135_134.out
                  have hcz86_0 : wc.cell? ⟨gb134, 0, none⟩ = some (.int .i64 x135000_5) := (blk_cell BK134.out 0).trans rfl
                  have hcz86_1 : wc.cell? ⟨gb134, 1, none⟩ = some (.int .i64 x135001_5) := (blk_cell BK134.out 1).trans rfl
                  have hfz86_0 := blk_frozen BK134.out 0
                  have hfz86_1 := blk_frozen BK134.out 1
                  go_wp2_with (first | ((with_reducible refine gate_callee (f := 20) rfl ?_); refine goesL_ (some 29) rfl rfl Try.func20 (by kernel_rfl) rfl #[.agg #[.int .i64 x135000_5, .int .i64 x135001_5]] rfl (by (try simp only [List.map_toArray, List.map_cons, List.map_nil]); first | done | rfl | (simp only [List.length_drop, List.length_take]; rfl)) ?_; (with_reducible refine (rule_Word.calls x135000_5 x135001_5 t137 _ A14.out).mono ?_); rintro e w87 ⟨rfl, hb⟩; refine ⟨_, rfl, ?_⟩; have n0_ := Aside0.mk (blk_below (g := gb134) (o := .cells #[.int .i64 x135000_5, .int .i64 x135001_5] 23 (0, 0)) (by (with_reducible repeat (first | refine blk_drewN ?_ _ | refine blk_drew ?_ | refine blk_alloc ?_ _)); exact BK134.out) hb); have n1_ := Aside0.mk (blk_below (g := gb135) (o := .cells #[.int .i64 x136000_5, .int .i64 x136001_5] 23 (0, 0)) (by (with_reducible repeat (first | refine blk_drewN ?_ _ | refine blk_drew ?_ | refine blk_alloc ?_ _)); exact BK135.out) hb); have n2_ := Aside0.mk (below_step (by repeat (first | (with_reducible first | exact HB.out | apply below_alloc | apply pw_below_drewN | apply below_drew1 | refine below_set ?_ GE134.out | refine below_set ?_ GE135.out) | exact HB.out)) hb); clear BK134; clear BK135; clear HB; have BK134 := n0_; have BK135 := n1_; have HB := n2_; clear n0_ n1_ n2_; (try clear hb); (try clear hb2); (try clear hk); (try clear hi); have hcz88_0 : w87.cell? ⟨gb135, 0, none⟩ = some (.int .i64 x136000_5) := (blk_cell BK135.out 0).trans rfl; have hcz88_1 : w87.cell? ⟨gb135, 1, none⟩ = some (.int .i64 x136001_5) := (blk_cell BK135.out 1).trans rfl; have hfz88_0 := blk_frozen BK135.out 0; have hfz88_1 := blk_frozen BK135.out 1) | ((with_reducible refine gate_callee (f := 20) rfl ?_); refine goesL_ (some 31) rfl rfl Try.func20 (by kernel_rfl) rfl #[.agg #[.int .i64 x136000_5, .int .i64 x136001_5]] rfl (by (try simp only [List.map_toArray, List.map_cons, List.map_nil]); first | done | rfl | (simp only [List.length_drop, List.length_take]; rfl)) ?_; (with_reducible refine (rule_Word.calls x136000_5 x136001_5 t138 _ A15.out).mono ?_); rintro e w89 ⟨rfl, hb⟩; refine ⟨_, rfl, ?_⟩; have n0_ := Aside0.mk (blk_below (g := gb134) (o := .cells #[.int .i64 x135000_5, .int .i64 x135001_5] 23 (0, 0)) (by (with_reducible repeat (first | refine blk_drewN ?_ _ | refine blk_drew ?_ | refine blk_alloc ?_ _)); exact BK134.out) hb); have n1_ := Aside0.mk (blk_below (g := gb135) (o := .cells #[.int .i64 x136000_5, .int .i64 x136001_5] 23 (0, 0)) (by (with_reducible repeat (first | refine blk_drewN ?_ _ | refine blk_drew ?_ | refine blk_alloc ?_ _)); exact BK135.out) hb); have n2_ := Aside0.mk (below_step (by repeat (first | (with_reducible first | exact HB.out | apply below_alloc | apply pw_below_drewN | apply below_drew1 | refine below_set ?_ GE134.out | refine below_set ?_ GE135.out) | exact HB.out)) hb); clear BK134; clear BK135; clear HB; have BK134 := n0_; have BK135 := n1_; have HB := n2_; clear n0_ n1_ n2_; (try clear hb); (try clear hb2); (try clear hk); (try clear hi); have hcz90_0 : w89.cell? ⟨gb134, 0, none⟩ = some (.int .i64 x135000_5) := (blk_cell BK134.out 0).trans rfl; have hcz90_1 : w89.cell? ⟨gb134, 1, none⟩ = some (.int .i64 x135001_5) := (blk_cell BK134.out 1).trans rfl; have hfz90_0 := blk_frozen BK134.out 0; have hfz90_1 := blk_frozen BK134.out 1) | (go_at_call 10; (with_reducible refine (rule_Right.calls x135000_5 x135001_5 true _ A16.out).mono ?_); rintro e w91 ⟨rfl, hb⟩; have n0_ := Aside0.mk (blk_below (g := gb134) (o := .cells #[.int .i64 x135000_5, .int .i64 x135001_5] 23 (0, 0)) (by (with_reducible repeat (first | refine blk_drewN ?_ _ | refine blk_drew ?_ | refine blk_alloc ?_ _)); exact BK134.out) hb); have n1_ := Aside0.mk (blk_below (g := gb135) (o := .cells #[.int .i64 x136000_5, .int .i64 x136001_5] 23 (0, 0)) (by (with_reducible repeat (first | refine blk_drewN ?_ _ | refine blk_drew ?_ | refine blk_alloc ?_ _)); exact BK135.out) hb); have n2_ := Aside0.mk (below_step (by repeat (first | (with_reducible first | exact HB.out | apply below_alloc | apply pw_below_drewN | apply below_drew1 | refine below_set ?_ GE134.out | refine below_set ?_ GE135.out) | exact HB.out)) hb); clear BK134; clear BK135; clear HB; have BK134 := n0_; have BK135 := n1_; have HB := n2_; clear n0_ n1_ n2_; (try clear hb); (try clear hb2); (try clear hk); (try clear hi); have hcz92_0 : w91.cell? ⟨gb134, 0, none⟩ = some (.int .i64 x135000_5) := (blk_cell BK134.out 0).trans rfl; have hcz92_1 : w91.cell? ⟨gb134, 1, none⟩ = some (.int .i64 x135001_5) := (blk_cell BK134.out 1).trans rfl; have hfz92_0 := blk_frozen BK134.out 0; have hfz92_1 := blk_frozen BK134.out 1; have hcz94_0 : w91.cell? ⟨gb135, 0, none⟩ = some (.int .i64 x136000_5) := (blk_cell BK135.out 0).trans rfl; have hcz94_1 : w91.cell? ⟨gb135, 1, none⟩ = some (.int .i64 x136001_5) := (blk_cell BK135.out 1).trans rfl; have hfz94_0 := blk_frozen BK135.out 0; have hfz94_1 := blk_frozen BK135.out 1) | (go_at_call 10; (with_reducible refine (rule_Right.calls x136000_5 x136001_5 false _ A46.out).mono ?_); rintro e w95 ⟨rfl, hb⟩; have n0_ := Aside0.mk (blk_below (g := gb134) (o := .cells #[.int .i64 x135000_5, .int .i64 x135001_5] 23 (0, 0)) (by (with_reducible repeat (first | refine blk_drewN ?_ _ | refine blk_drew ?_ | refine blk_alloc ?_ _)); exact BK134.out) hb); have n1_ := Aside0.mk (blk_below (g := gb135) (o := .cells #[.int .i64 x136000_5, .int .i64 x136001_5] 23 (0, 0)) (by (with_reducible repeat (first | refine blk_drewN ?_ _ | refine blk_drew ?_ | refine blk_alloc ?_ _)); exact BK135.out) hb); have n2_ := Aside0.mk (below_step (by repeat (first | (with_reducible first | exact HB.out | apply below_alloc | apply pw_below_drewN | apply below_drew1 | refine below_set ?_ GE134.out | refine below_set ?_ GE135.out) | exact HB.out)) hb); clear BK134; clear BK135; clear HB; have BK134 := n0_; have BK135 := n1_; have HB := n2_; clear n0_ n1_ n2_; (try clear hb); (try clear hb2); (try clear hk); (try clear hi); have hcz96_0 : w95.cell? ⟨gb134, 0, none⟩ = some (.int .i64 x135000_5) := (blk_cell BK134.out 0).trans rfl; have hcz96_1 : w95.cell? ⟨gb134, 1, none⟩ = some (.int .i64 x135001_5) := (blk_cell BK134.out 1).trans rfl; have hfz96_0 := blk_frozen BK134.out 0; have hfz96_1 := blk_frozen BK134.out 1))
                  go_ret
                  exact ⟨by first | rfl | (simp [errW_none, errW_some] <;> rfl) | (simp [*, errW_none, errW_some] <;> rfl), by repeat (first | (with_reducible first | exact HB.out | apply below_alloc | apply pw_below_drewN | apply below_drew1 | refine below_set ?_ GE134.out | refine below_set ?_ GE135.out) | exact HB.out)⟩
                · replace c84 := Bool.eq_false_iff.mpr c84
                  (first | subst c84 | clear c84)
                  have H1 : (none) = some r := by rw [if_neg (show ¬ (false = true) by decide)] at H; exact H
                  clear H
                  have H := H1
                  clear H1
                  exact absurd H (by simp)
            · replace c45 := Bool.eq_false_iff.mpr c45
              (first | subst c45 | clear c45)
              have H1 : (none) = some r := by rw [if_neg (show ¬ (false = true) by decide)] at H; exact H
              clear H
              have H := H1
              clear H1
              exact absurd H (by simp)
          · replace c43 := Bool.eq_false_iff.mpr c43
            (first | subst c43 | clear c43)
            have H1 : (none) = some r := by rw [if_neg (show ¬ (false = true) by decide)] at H; exact H
            clear H
            have H := H1
            clear H1
            exact absurd H (by simp)
  · replace c5 := Bool.eq_false_iff.mpr c5
    (first | subst c5 | clear c5)
    have H1 : (none) = some r := by rw [if_neg (show ¬ (false = true) by decide)] at H; exact H
    clear H
    have H := H1
    clear H1
    exact absurd H (by simp)

/-- THE ONE PURE STATEMENT of scuttlebuttlaw07_RuleWords: yours. -/
def scuttlebuttlaw07_RuleWords.Pure : Prop := ∀ (a0_0 : Int) (a0_1 : Int) (a1_0 : Int) (a1_1 : Int) (a2 : Bool), (Lit.int .i64 a0_0).wf = true → (Lit.int .i64 a0_1).wf = true → (Lit.int .i64 a1_0).wf = true → (Lit.int .i64 a1_1).wf = true → ∃ k, scuttlebuttlaw07_RuleWords.f k a0_0 a0_1 a1_0 a1_1 a2 = some true
theorem scuttlebuttlaw07_RuleWords.walk (P : scuttlebuttlaw07_RuleWords.Pure) (a0_0 : Int) (a0_1 : Int) (a1_0 : Int) (a1_1 : Int) (a2 : Bool) (w : World) (w0_0 : (Lit.int .i64 a0_0).wf = true) (w0_1 : (Lit.int .i64 a0_1).wf = true) (w1_0 : (Lit.int .i64 a1_0).wf = true) (w1_1 : (Lit.int .i64 a1_1).wf = true) :
    Calls Try.prog 7 #[.agg #[.int .i64 a0_0, .int .i64 a0_1], .agg #[.int .i64 a1_0, .int .i64 a1_1], .bool a2] w fun e w' => e = .returned (.bool true) ∧ Below w.heap.size w w' := by
  obtain ⟨k, h⟩ := P a0_0 a0_1 a1_0 a1_1 a2 w0_0 w0_1 w1_0 w1_1
  refine (scuttlebuttlaw07_RuleWords.calls k a0_0 a0_1 a1_0 a1_1 a2 true w h).mono ?_
  rintro e w' ⟨rfl, hd⟩
  exact ⟨rfl, hd⟩

end Go.Proofs.Ytlembbkbmnmnhaa.PA
