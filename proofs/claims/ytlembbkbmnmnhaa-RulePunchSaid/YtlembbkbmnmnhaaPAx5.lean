/- Written by xprint.py, a program of this session: Go functions that the laws reach, each as a plain Lean function, and the proof that the Go code comes to what it says. No condition but those that each theorem names. -/
import Derived.Test.YtlembbkbmnmnhaaPAx0
import Derived.Test.YtlembbkbmnmnhaaPAx3
import Derived.Test.YtlembbkbmnmnhaaPAx4
import Derived.WalkSpells
import Derived.WalkLawsBesides
import Derived.Test.YtlembbkbmnmnhaaXAux
namespace Go.Proofs.Ytlembbkbmnmnhaa.PA
open Go.RowKit Go.Proofs.YtlembbkbmnmnhaaW.PrintWords Go.Proofs.YtlembbkbmnmnhaaW.PrintLast Go.Proofs.YtlembbkbmnmnhaaW.PrintMore
open Go.Proofs.YtlembbkbmnmnhaaX (bm)
open Int (tmod tdiv)
open List (setIfInBounds_toArray set_cons_zero set_cons_succ)
attribute [local go_sem] max2_int min2_int max_two min_two max_three min_three max_four min_four   -- for this text's walks alone
set_option linter.unusedVariables false
set_option linter.unusedSimpArgs false

/-! ### law07_RulePunch: function 4 -/
def law07_RulePunch.j0 : Nat → Bool → Int → Int → Int → Int → Int → Int → Int → Int → Option (Bool)
 | 0, _, _, _, _, _, _, _, _, _ => none
 | k + 1, x10, x_m, x_n, x_o, x_p, x138000, x138001, x139000, x139001 => (rule_Punch.f k x_m x_n x_o x_p).bind fun t139 => ((rule_Punch.f k x_o x_p x_m x_n).bind fun t140 => (if t139 = true then (if t140 = true then (if x10 = true then ((rule_Punch.f k x_m x_n x_o x_p).bind fun t141 => (if t141 = true then ((rule_Punch.f k x139000 x139001 x139000 x139001).bind fun t142 => (if t142 = true then (none) else ((rule_Punch.f k x_m x_n x_o x_p).bind fun t143 => (if t143 = true then ((rule_Punch.f k x_m x_n x138000 x138001).bind fun t144 => (if t144 = true then ((rule_Punch.f k x_m x_n x_o x_p).bind fun t145 => (if t145 = true then ((rule_Through.f k x_m x_n x_o x_p).bind fun t146 => (if t146 = true then (some true) else ((rule_Through.f k x_o x_p x_m x_n).bind fun t147 => (some t147)))) else (none))) else (none))) else (none))))) else (none))) else ((rule_Punch.f k x139000 x139001 x139000 x139001).bind fun t148 => (if t148 = true then (none) else ((rule_Punch.f k x_m x_n x_o x_p).bind fun t149 => (if t149 = true then ((rule_Punch.f k x_m x_n x138000 x138001).bind fun t150 => (if t150 = true then ((rule_Punch.f k x_m x_n x_o x_p).bind fun t151 => (if t151 = true then ((rule_Through.f k x_m x_n x_o x_p).bind fun t152 => (if t152 = true then (some true) else ((rule_Through.f k x_o x_p x_m x_n).bind fun t153 => (some t153)))) else (none))) else (none))) else (none)))))) else (none)) else (if t140 = true then (none) else (if x10 = true then ((rule_Punch.f k x_m x_n x_o x_p).bind fun t154 => (if t154 = true then (none) else (none))) else ((rule_Punch.f k x139000 x139001 x139000 x139001).bind fun t155 => (if t155 = true then (none) else ((rule_Punch.f k x_m x_n x_o x_p).bind fun t156 => (if t156 = true then (none) else ((rule_Punch.f k x_m x_n x_o x_p).bind fun t157 => (if t157 = true then (none) else (some true)))))))))))
def law07_RulePunch.f (k : Nat) (a0 : Int) (a1 : Int) : Option (Bool) := (law07_examples.f k).bind fun t134 => (if t134 = true then (if (wrap64 (tmod a0 3)) = 0 then (law07_RulePunch.j0 k ((((tdiv a0 3) % 256) % 3) != 2) (wrap64 (tmod a0 3)) (((tdiv a0 3) % 256) % 3) (wrap64 (tmod a1 3)) (((tdiv a1 3) % 256) % 3) (wrap64 (tmod a1 3)) (mx ((((tdiv a1 3) % 256) % 3) - 1) 0) 2 2) else (law07_RulePunch.j0 k false (wrap64 (tmod a0 3)) (((tdiv a0 3) % 256) % 3) (wrap64 (tmod a1 3)) (((tdiv a1 3) % 256) % 3) (wrap64 (tmod a1 3)) (mx ((((tdiv a1 3) % 256) % 3) - 1) 0) 2 2)) else (none))
theorem law07_RulePunch.mono_l : ∀ k, (∀ y0 y1 y2 y3 y4 y5 y6 y7 y8, LeO (law07_RulePunch.j0 k y0 y1 y2 y3 y4 y5 y6 y7 y8) (law07_RulePunch.j0 (k + 1) y0 y1 y2 y3 y4 y5 y6 y7 y8))
 | 0 => fun _ _ _ _ _ _ _ _ _ r h => by simp [law07_RulePunch.j0] at h
 | k + 1 => by
  have ih0 := law07_RulePunch.mono_l k
  ·intro y0 y1 y2 y3 y4 y5 y6 y7 y8
   unfold law07_RulePunch.j0
   repeat' first
   | (with_reducible exact ih0 _ _ _ _ _ _ _ _ _)
   | (with_reducible exact rule_Punch.mono _ _ _ _ _)
   | (with_reducible exact rule_Through.mono _ _ _ _ _)
   | (with_reducible exact law07_examples.mono _)
   | (with_reducible exact LeO.refl _)
   | (with_reducible exact LeO.none _)
   | (with_reducible refine LeO.ite ?_ ?_)
   | (with_reducible refine LeO.bind ?_ (fun _ => ?_))
   | exact ih0 _ _ _ _ _ _ _ _ _
   | exact rule_Punch.mono _ _ _ _ _
   | exact rule_Through.mono _ _ _ _ _
   | exact law07_examples.mono _
   | exact LeO.none _
   | refine LeO.ite ?_ ?_
   | refine LeO.bind ?_ (fun _ => ?_)
theorem law07_RulePunch.mono : ∀ a0 a1 k, LeO (law07_RulePunch.f k a0 a1) (law07_RulePunch.f (k + 1) a0 a1) := by
 intro a0 a1 k
 have ih0 := law07_RulePunch.mono_l k
 unfold law07_RulePunch.f
 repeat' first
   | (with_reducible exact ih0 _ _ _ _ _ _ _ _ _)
   | (with_reducible exact rule_Punch.mono _ _ _ _ _)
   | (with_reducible exact rule_Through.mono _ _ _ _ _)
   | (with_reducible exact law07_examples.mono _)
   | (with_reducible exact LeO.refl _)
   | (with_reducible exact LeO.none _)
   | (with_reducible refine LeO.ite ?_ ?_)
   | (with_reducible refine LeO.bind ?_ (fun _ => ?_))
   | exact ih0 _ _ _ _ _ _ _ _ _
   | exact rule_Punch.mono _ _ _ _ _
   | exact rule_Through.mono _ _ _ _ _
   | exact law07_examples.mono _
   | exact LeO.none _
   | refine LeO.ite ?_ ?_
   | refine LeO.bind ?_ (fun _ => ?_)
def law07_RulePunch.T9 : Bool × List (List Nat × List Nat) := (true, [([], []), ([0], [0]), ([1], [1]), ([1], [1]), ([2, 3, 1, 1], [1, 2, 3]), ([1], [1]), ([1], [1]), ([5, 6, 4, 1], [1, 5, 6]), ([4, 7, 1], [1, 4, 7]), ([1, 8], [1, 8]), ([9, 7], [9]), ([10], [10]), ([11, 10], [10, 11]), ([12, 10, 10], [10, 12]), ([13], [13]), ([13], [13]), ([14, 15, 13, 13], [13, 14, 15]), ([13, 16, 10], [10, 13, 16]), ([10, 17], [10, 17]), ([18, 16], [18]), ([19], [19]), ([19], [19]), ([20, 21, 19, 19], [19, 20, 21]), ([22, 19], [19, 22]), ([19, 23], [19, 23]), ([24, 22], [24]), ([25], [25]), ([25], [25]), ([26, 27, 25, 25], [25, 26, 27]), ([28, 25], [25, 28]), ([29, 28, 25], [25, 29]), ([30], [30]), ([30], [30]), ([31, 32, 30, 30], [30, 31, 32]), ([30, 33, 25], [25, 30, 33]), ([25, 34], [25, 34]), ([35, 33], [35]), ([36], [36]), ([36], [36]), ([37, 38, 36, 36], [36, 37, 38]), ([39, 36], [36, 39]), ([40, 39, 36], [36, 40]), ([41], [41]), ([41], [41]), ([42, 43, 41, 41], [41, 42, 43]), ([41, 44, 36], [36, 41, 44]), ([45, 44, 36], [36, 45]), ([46], [46]), ([46], [46]), ([47, 48, 46, 46], [46, 47, 48]), ([46, 49, 36], [36, 46, 49]), ([36, 50], [36, 50]), ([51, 49, 0, 1, 2, 3, 4, 5, 6, 7, 8, 9, 10, 11, 12, 13, 14, 15, 16, 17, 18, 19, 20, 21, 22, 23, 24, 25, 26, 27, 28, 29, 30, 31, 32, 33, 34, 35, 36, 37, 38, 39, 40, 41, 42, 43, 44, 45, 46, 47, 48, 49, 50, 51], [51])])
def law07_RulePunch.B9 : List Nat := [0, 1, 3, 3, 15, 3, 3, 127, 255, 511, 1023, 2047, 4095, 8191, 16383, 16383, 65535, 131071, 262143, 524287, 1048575, 1048575, 4194303, 8388607, 16777215, 33554431, 67108863, 67108863, 268435455, 536870911, 1073741823, 2147483647, 2147483647, 8589934591, 17179869183, 34359738367, 68719476735, 137438953471, 137438953471, 549755813887, 1099511627775, 2199023255551, 4398046511103, 4398046511103, 17592186044415, 35184372088831, 70368744177663, 140737488355327, 140737488355327, 562949953421311, 1125899906842623, 2251799813685247, 4503599627370495]
theorem law07_RulePunch.tab9 : rtab .any (opsOf Try.f4 9) = law07_RulePunch.T9 := by kernel_rfl
theorem law07_RulePunch.bits9 : waitsOk law07_RulePunch.T9.2 law07_RulePunch.B9 = true := by kernel_rfl
set_option maxHeartbeats 8000000 in
set_option maxRecDepth 100000 in
theorem law07_RulePunch.calls (k : Nat) (a0 : Int) (a1 : Int) (r : Bool) (w : World) (h : law07_RulePunch.f k a0 a1 = some r) :
  Calls Try.prog 4 #[.int .u8 a0, .int .u8 a1] w fun e w' => e = .returned (.bool r) ∧ Below w.heap.size w w' := by
 have hu23 := Try.underlying23
 have HB := Aside0.mk (Below.refl w.heap.size w)
 have H : ((law07_examples.f k).bind fun t134 => (if t134 = true then (if (wrap64 (tmod a0 3)) = 0 then (law07_RulePunch.j0 k ((((tdiv a0 3) % 256) % 3) != 2) (wrap64 (tmod a0 3)) (((tdiv a0 3) % 256) % 3) (wrap64 (tmod a1 3)) (((tdiv a1 3) % 256) % 3) (wrap64 (tmod a1 3)) (mx ((((tdiv a1 3) % 256) % 3) - 1) 0) 2 2) else (law07_RulePunch.j0 k false (wrap64 (tmod a0 3)) (((tdiv a0 3) % 256) % 3) (wrap64 (tmod a1 3)) (((tdiv a1 3) % 256) % 3) (wrap64 (tmod a1 3)) (mx ((((tdiv a1 3) % 256) % 3) - 1) 0) 2 2)) else (none))) = some r := h
 clear h
 replace H := Option.bind_eq_some_iff.mp H
 obtain ⟨t134, A30, H⟩ := H
 replace H : (if t134 = true then (if (wrap64 (tmod a0 3)) = 0 then (law07_RulePunch.j0 k ((((tdiv a0 3) % 256) % 3) != 2) (wrap64 (tmod a0 3)) (((tdiv a0 3) % 256) % 3) (wrap64 (tmod a1 3)) (((tdiv a1 3) % 256) % 3) (wrap64 (tmod a1 3)) (mx ((((tdiv a1 3) % 256) % 3) - 1) 0) 2 2) else (law07_RulePunch.j0 k false (wrap64 (tmod a0 3)) (((tdiv a0 3) % 256) % 3) (wrap64 (tmod a1 3)) (((tdiv a1 3) % 256) % 3) (wrap64 (tmod a1 3)) (mx ((((tdiv a1 3) % 256) % 3) - 1) 0) 2 2)) else (none)) = some r := H
 have A3 := Aside0.mk A30
 clear A30
 by_cases c4 : t134 = true
 ·(first | subst c4 | clear c4)
  have H1 : (if (wrap64 (tmod a0 3)) = 0 then (law07_RulePunch.j0 k ((((tdiv a0 3) % 256) % 3) != 2) (wrap64 (tmod a0 3)) (((tdiv a0 3) % 256) % 3) (wrap64 (tmod a1 3)) (((tdiv a1 3) % 256) % 3) (wrap64 (tmod a1 3)) (mx ((((tdiv a1 3) % 256) % 3) - 1) 0) 2 2) else (law07_RulePunch.j0 k false (wrap64 (tmod a0 3)) (((tdiv a0 3) % 256) % 3) (wrap64 (tmod a1 3)) (((tdiv a1 3) % 256) % 3) (wrap64 (tmod a1 3)) (mx ((((tdiv a1 3) % 256) % 3) - 1) 0) 2 2)) = some r := by first | (rw [if_pos rfl] at H; exact H) | (rw [if_pos trivial] at H; exact H)
  clear H
  have H := H1
  clear H1
  obtain ⟨ji5, hji5⟩ : ∃ j_ : Int, (mx ((((tdiv a1 3) % 256) % 3) - 1) 0) = j_ := ⟨_, rfl⟩
  replace H : (if (wrap64 (tmod a0 3)) = 0 then (law07_RulePunch.j0 k ((((tdiv a0 3) % 256) % 3) != 2) (wrap64 (tmod a0 3)) (((tdiv a0 3) % 256) % 3) (wrap64 (tmod a1 3)) (((tdiv a1 3) % 256) % 3) (wrap64 (tmod a1 3)) ji5 2 2) else (law07_RulePunch.j0 k false (wrap64 (tmod a0 3)) (((tdiv a0 3) % 256) % 3) (wrap64 (tmod a1 3)) (((tdiv a1 3) % 256) % 3) (wrap64 (tmod a1 3)) ji5 2 2)) = some r := by first | (rw [hji5] at H; exact H) | (simp only [hji5] at H ⊢; exact H)
  (try rw [hji5] at A3)
  (try (have hji5h : ji5 ≤ 1 := by (rw [← hji5]; unfold mx; (repeat' split) <;> omega)))
  (try (have hji5g : ji5 ≤ 64 := by omega))
  (try (have hji5l : 0 ≤ ji5 := by (rw [← hji5]; unfold mx; (repeat' split) <;> omega)))
  (try (have hji5m : 0 ≤ ji5 := by omega))
  have hji5_ : (if ((((tdiv a1 3) % 256) % 3) - 1) < 0 then 0 else ((((tdiv a1 3) % 256) % 3) - 1)) = ji5 := hji5
  have HC6 := Aside0.mk H
  clear H
  go_enter Try.func4, Try.ntmps4
  go_upto_region 8 with (first | ((with_reducible refine gate_callee (f := 8) rfl ?_); refine goesL_ (some 11) rfl rfl Try.func8 (by kernel_rfl) rfl #[] rfl (by (try simp only [List.map_toArray, List.map_cons, List.map_nil]); first | done | rfl | (simp only [List.length_drop, List.length_take]; rfl)) ?_; (with_reducible refine (law07_examples.calls k  true _ A3.out).mono ?_); rintro e w7 ⟨rfl, hb⟩; refine ⟨_, rfl, ?_⟩; have n0_ := Aside0.mk (below_step (by repeat (first | (with_reducible first | exact HB.out | apply below_alloc | apply pw_below_drewN | apply below_drew1) | exact HB.out)) hb); clear HB; have HB := n0_; clear n0_; (try clear hb); (try clear hb2); (try clear hk); (try clear hi)) | ((with_reducible refine gate_dst (N := 6) rfl ?_); refine box_event ?hg (N := 6) ?hd (cs := #[.int .i64 0, .int .i64 0]) (t := 23) ?hr ?_; (case hd => rfl); (case hg => rfl); (case hr => first | (go_simp; done) | (go_simp; rfl)); intro g_e hg w8 hbox hb; have n0_ := Aside0.mk (below_step (by repeat (first | (with_reducible first | exact HB.out | apply below_alloc | apply pw_below_drewN | apply below_drew1) | exact HB.out)) hb); have n1_ := Aside0.mk (hbox); have n2_ := Aside0.mk ((by rw [hg]; exact (below_size (by repeat (first | (with_reducible first | exact HB.out | apply below_alloc | apply pw_below_drewN | apply below_drew1) | exact HB.out))) : w.heap.size ≤ g_e)); have n3_ := Aside0.mk ((by rw [hg]; exact (below_size (by repeat (first | (with_reducible first | exact HB.out | apply below_alloc | apply pw_below_drewN | apply below_drew1) | exact HB.out))) : w.heap.size ≤ g_e)); clear HB; have HB := n0_; have B_a := n1_; have GW135 := n2_; have G_i := n3_; clear n0_ n1_ n2_ n3_; clear hb hbox hg; have hcz9_0 : w8.cell? ⟨g_e, 0, none⟩ = some (.int .i64 0) := (blk_cell B_a.out 0).trans rfl; have hcz9_1 : w8.cell? ⟨g_e, 1, none⟩ = some (.int .i64 0) := (blk_cell B_a.out 1).trans rfl; have hfz9_0 := blk_frozen B_a.out 0; have hfz9_1 := blk_frozen B_a.out 1) | ((with_reducible refine gate_dst (N := 7) rfl ?_); refine box_event ?hg (N := 7) ?hd (cs := #[.int .i64 0, .int .i64 0]) (t := 23) ?hr ?_; (case hd => rfl); (case hg => rfl); (case hr => first | (go_simp; done) | (go_simp; rfl)); intro g_f hg w10 hbox hb; have n0_ := Aside0.mk (blk_below (g := g_e) (o := .cells #[.int .i64 (wrap64 (tmod a0 3)), .int .i64 (((tdiv a0 3) % 256) % 3)] 23 (0, 0)) (by (with_reducible repeat (first | refine blk_drewN ?_ _ | refine blk_drew ?_ | refine blk_alloc ?_ _)); refine blk_put (cs := #[.int .i64 (wrap64 (tmod a0 3)), .int .i64 0]) ?_ 1 _ rfl; (with_reducible repeat (first | refine blk_drewN ?_ _ | refine blk_drew ?_ | refine blk_alloc ?_ _)); refine blk_put (cs := #[.int .i64 0, .int .i64 0]) ?_ 0 _ rfl; (with_reducible repeat (first | refine blk_drewN ?_ _ | refine blk_drew ?_ | refine blk_alloc ?_ _)); exact B_a.out) hb); have n1_ := Aside0.mk (below_step (by repeat (first | (with_reducible first | exact HB.out | apply below_alloc | apply pw_below_drewN | apply below_drew1 | refine below_set ?_ G_i.out) | exact HB.out)) hb); have n2_ := Aside0.mk (hbox); have n3_ := Aside0.mk ((by rw [hg]; exact (below_size (by repeat (first | (with_reducible first | exact HB.out | apply below_alloc | apply pw_below_drewN | apply below_drew1 | refine below_set ?_ G_i.out) | exact HB.out))) : w.heap.size ≤ g_f)); have n4_ := Aside0.mk ((by rw [hg]; exact (below_size (by repeat (first | (with_reducible first | exact HB.out | apply below_alloc | apply pw_below_drewN | apply below_drew1 | refine below_set ?_ G_i.out) | exact HB.out))) : w.heap.size ≤ g_f)); have n5_ := Aside0.mk ((by rw [hg]; exact Nat.ne_of_lt (blk_lt (g := g_e) (o := .cells #[.int .i64 (wrap64 (tmod a0 3)), .int .i64 (((tdiv a0 3) % 256) % 3)] 23 (0, 0)) (by (with_reducible repeat (first | refine blk_drewN ?_ _ | refine blk_drew ?_ | refine blk_alloc ?_ _)); refine blk_put (cs := #[.int .i64 (wrap64 (tmod a0 3)), .int .i64 0]) ?_ 1 _ rfl; (with_reducible repeat (first | refine blk_drewN ?_ _ | refine blk_drew ?_ | refine blk_alloc ?_ _)); refine blk_put (cs := #[.int .i64 0, .int .i64 0]) ?_ 0 _ rfl; (with_reducible repeat (first | refine blk_drewN ?_ _ | refine blk_drew ?_ | refine blk_alloc ?_ _)); exact B_a.out)) : g_e ≠ g_f)); have n6_ := Aside0.mk ((by rw [hg]; exact Nat.ne_of_gt (blk_lt (g := g_e) (o := .cells #[.int .i64 (wrap64 (tmod a0 3)), .int .i64 (((tdiv a0 3) % 256) % 3)] 23 (0, 0)) (by (with_reducible repeat (first | refine blk_drewN ?_ _ | refine blk_drew ?_ | refine blk_alloc ?_ _)); refine blk_put (cs := #[.int .i64 (wrap64 (tmod a0 3)), .int .i64 0]) ?_ 1 _ rfl; (with_reducible repeat (first | refine blk_drewN ?_ _ | refine blk_drew ?_ | refine blk_alloc ?_ _)); refine blk_put (cs := #[.int .i64 0, .int .i64 0]) ?_ 0 _ rfl; (with_reducible repeat (first | refine blk_drewN ?_ _ | refine blk_drew ?_ | refine blk_alloc ?_ _)); exact B_a.out)) : g_f ≠ g_e)); clear B_a; clear HB; have B_a := n0_; have HB := n1_; have B_b := n2_; have GW136 := n3_; have G_j := n4_; have N_q := n5_; have NB136_135 := n6_; clear n0_ n1_ n2_ n3_ n4_ n5_ n6_; clear hb hbox hg; have hnb11 := NB136_135.out; have hnc11 := N_q.out; have hcz12_0 : w10.cell? ⟨g_f, 0, none⟩ = some (.int .i64 0) := (blk_cell B_b.out 0).trans rfl; have hcz12_1 : w10.cell? ⟨g_f, 1, none⟩ = some (.int .i64 0) := (blk_cell B_b.out 1).trans rfl; have hfz12_0 := blk_frozen B_b.out 0; have hfz12_1 := blk_frozen B_b.out 1) | ((with_reducible refine gate_dst (N := 8) rfl ?_); refine box_event ?hg (N := 8) ?hd (cs := #[.int .i64 0, .int .i64 0]) (t := 23) ?hr ?_; (case hd => rfl); (case hg => rfl); (case hr => first | (go_simp; done) | (go_simp; rfl)); intro g_g hg w13 hbox hb; have n0_ := Aside0.mk (blk_below (g := g_e) (o := .cells #[.int .i64 (wrap64 (tmod a0 3)), .int .i64 (((tdiv a0 3) % 256) % 3)] 23 (0, 0)) (by (with_reducible repeat (first | refine blk_drewN ?_ _ | refine blk_drew ?_ | refine blk_alloc ?_ _)); refine blk_far ?_ N_q.out _; (with_reducible repeat (first | refine blk_drewN ?_ _ | refine blk_drew ?_ | refine blk_alloc ?_ _)); refine blk_far ?_ N_q.out _; (with_reducible repeat (first | refine blk_drewN ?_ _ | refine blk_drew ?_ | refine blk_alloc ?_ _)); exact B_a.out) hb); have n1_ := Aside0.mk (blk_below (g := g_f) (o := .cells #[.int .i64 (wrap64 (tmod a1 3)), .int .i64 (((tdiv a1 3) % 256) % 3)] 23 (0, 0)) (by (with_reducible repeat (first | refine blk_drewN ?_ _ | refine blk_drew ?_ | refine blk_alloc ?_ _)); refine blk_put (cs := #[.int .i64 (wrap64 (tmod a1 3)), .int .i64 0]) ?_ 1 _ rfl; (with_reducible repeat (first | refine blk_drewN ?_ _ | refine blk_drew ?_ | refine blk_alloc ?_ _)); refine blk_put (cs := #[.int .i64 0, .int .i64 0]) ?_ 0 _ rfl; (with_reducible repeat (first | refine blk_drewN ?_ _ | refine blk_drew ?_ | refine blk_alloc ?_ _)); exact B_b.out) hb); have n2_ := Aside0.mk (below_step (by repeat (first | (with_reducible first | exact HB.out | apply below_alloc | apply pw_below_drewN | apply below_drew1 | refine below_set ?_ G_i.out | refine below_set ?_ G_j.out) | exact HB.out)) hb); have n3_ := Aside0.mk (hbox); have n4_ := Aside0.mk ((by rw [hg]; exact (below_size (by repeat (first | (with_reducible first | exact HB.out | apply below_alloc | apply pw_below_drewN | apply below_drew1 | refine below_set ?_ G_i.out | refine below_set ?_ G_j.out) | exact HB.out))) : w.heap.size ≤ g_g)); have n5_ := Aside0.mk ((by rw [hg]; exact (below_size (by repeat (first | (with_reducible first | exact HB.out | apply below_alloc | apply pw_below_drewN | apply below_drew1 | refine below_set ?_ G_i.out | refine below_set ?_ G_j.out) | exact HB.out))) : w.heap.size ≤ g_g)); have n6_ := Aside0.mk ((by rw [hg]; exact Nat.ne_of_lt (blk_lt (g := g_e) (o := .cells #[.int .i64 (wrap64 (tmod a0 3)), .int .i64 (((tdiv a0 3) % 256) % 3)] 23 (0, 0)) (by (with_reducible repeat (first | refine blk_drewN ?_ _ | refine blk_drew ?_ | refine blk_alloc ?_ _)); refine blk_far ?_ N_q.out _; (with_reducible repeat (first | refine blk_drewN ?_ _ | refine blk_drew ?_ | refine blk_alloc ?_ _)); refine blk_far ?_ N_q.out _; (with_reducible repeat (first | refine blk_drewN ?_ _ | refine blk_drew ?_ | refine blk_alloc ?_ _)); exact B_a.out)) : g_e ≠ g_g)); have n7_ := Aside0.mk ((by rw [hg]; exact Nat.ne_of_gt (blk_lt (g := g_e) (o := .cells #[.int .i64 (wrap64 (tmod a0 3)), .int .i64 (((tdiv a0 3) % 256) % 3)] 23 (0, 0)) (by (with_reducible repeat (first | refine blk_drewN ?_ _ | refine blk_drew ?_ | refine blk_alloc ?_ _)); refine blk_far ?_ N_q.out _; (with_reducible repeat (first | refine blk_drewN ?_ _ | refine blk_drew ?_ | refine blk_alloc ?_ _)); refine blk_far ?_ N_q.out _; (with_reducible repeat (first | refine blk_drewN ?_ _ | refine blk_drew ?_ | refine blk_alloc ?_ _)); exact B_a.out)) : g_g ≠ g_e)); have n8_ := Aside0.mk ((by rw [hg]; exact Nat.ne_of_lt (blk_lt (g := g_f) (o := .cells #[.int .i64 (wrap64 (tmod a1 3)), .int .i64 (((tdiv a1 3) % 256) % 3)] 23 (0, 0)) (by (with_reducible repeat (first | refine blk_drewN ?_ _ | refine blk_drew ?_ | refine blk_alloc ?_ _)); refine blk_put (cs := #[.int .i64 (wrap64 (tmod a1 3)), .int .i64 0]) ?_ 1 _ rfl; (with_reducible repeat (first | refine blk_drewN ?_ _ | refine blk_drew ?_ | refine blk_alloc ?_ _)); refine blk_put (cs := #[.int .i64 0, .int .i64 0]) ?_ 0 _ rfl; (with_reducible repeat (first | refine blk_drewN ?_ _ | refine blk_drew ?_ | refine blk_alloc ?_ _)); exact B_b.out)) : g_f ≠ g_g)); have n9_ := Aside0.mk ((by rw [hg]; exact Nat.ne_of_gt (blk_lt (g := g_f) (o := .cells #[.int .i64 (wrap64 (tmod a1 3)), .int .i64 (((tdiv a1 3) % 256) % 3)] 23 (0, 0)) (by (with_reducible repeat (first | refine blk_drewN ?_ _ | refine blk_drew ?_ | refine blk_alloc ?_ _)); refine blk_put (cs := #[.int .i64 (wrap64 (tmod a1 3)), .int .i64 0]) ?_ 1 _ rfl; (with_reducible repeat (first | refine blk_drewN ?_ _ | refine blk_drew ?_ | refine blk_alloc ?_ _)); refine blk_put (cs := #[.int .i64 0, .int .i64 0]) ?_ 0 _ rfl; (with_reducible repeat (first | refine blk_drewN ?_ _ | refine blk_drew ?_ | refine blk_alloc ?_ _)); exact B_b.out)) : g_g ≠ g_f)); clear B_a; clear B_b; clear HB; have B_a := n0_; have B_b := n1_; have HB := n2_; have B_d := n3_; have GW137 := n4_; have G_k := n5_; have N_r := n6_; have NB137_135 := n7_; have N_s := n8_; have NB137_136 := n9_; clear n0_ n1_ n2_ n3_ n4_ n5_ n6_ n7_ n8_ n9_; clear hb hbox hg; have hnb14 := NB137_135.out; have hnc14 := N_r.out; have hnb15 := NB137_136.out; have hnc15 := N_s.out; have hcz16_0 : w13.cell? ⟨g_g, 0, none⟩ = some (.int .i64 0) := (blk_cell B_d.out 0).trans rfl; have hcz16_1 : w13.cell? ⟨g_g, 1, none⟩ = some (.int .i64 0) := (blk_cell B_d.out 1).trans rfl; have hfz16_0 := blk_frozen B_d.out 0; have hfz16_1 := blk_frozen B_d.out 1) | ((with_reducible refine gate_dst (N := 9) rfl ?_); refine box_event ?hg (N := 9) ?hd (cs := #[.int .i64 0, .int .i64 0]) (t := 23) ?hr ?_; (case hd => rfl); (case hg => rfl); (case hr => first | (go_simp; done) | (go_simp; rfl)); intro g_h hg w17 hbox hb; have n0_ := Aside0.mk (blk_below (g := g_e) (o := .cells #[.int .i64 (wrap64 (tmod a0 3)), .int .i64 (((tdiv a0 3) % 256) % 3)] 23 (0, 0)) (by (with_reducible repeat (first | refine blk_drewN ?_ _ | refine blk_drew ?_ | refine blk_alloc ?_ _)); refine blk_far ?_ N_r.out _; (with_reducible repeat (first | refine blk_drewN ?_ _ | refine blk_drew ?_ | refine blk_alloc ?_ _)); refine blk_far ?_ N_r.out _; (with_reducible repeat (first | refine blk_drewN ?_ _ | refine blk_drew ?_ | refine blk_alloc ?_ _)); exact B_a.out) hb); have n1_ := Aside0.mk (blk_below (g := g_f) (o := .cells #[.int .i64 (wrap64 (tmod a1 3)), .int .i64 (((tdiv a1 3) % 256) % 3)] 23 (0, 0)) (by (with_reducible repeat (first | refine blk_drewN ?_ _ | refine blk_drew ?_ | refine blk_alloc ?_ _)); refine blk_far ?_ N_s.out _; (with_reducible repeat (first | refine blk_drewN ?_ _ | refine blk_drew ?_ | refine blk_alloc ?_ _)); refine blk_far ?_ N_s.out _; (with_reducible repeat (first | refine blk_drewN ?_ _ | refine blk_drew ?_ | refine blk_alloc ?_ _)); exact B_b.out) hb); have n2_ := Aside0.mk (blk_below (g := g_g) (o := .cells #[.int .i64 (wrap64 (tmod a1 3)), .int .i64 ji5] 23 (0, 0)) (by (with_reducible repeat (first | refine blk_drewN ?_ _ | refine blk_drew ?_ | refine blk_alloc ?_ _)); refine blk_put (cs := #[.int .i64 (wrap64 (tmod a1 3)), .int .i64 0]) ?_ 1 _ rfl; (with_reducible repeat (first | refine blk_drewN ?_ _ | refine blk_drew ?_ | refine blk_alloc ?_ _)); refine blk_put (cs := #[.int .i64 0, .int .i64 0]) ?_ 0 _ rfl; (with_reducible repeat (first | refine blk_drewN ?_ _ | refine blk_drew ?_ | refine blk_alloc ?_ _)); exact B_d.out) hb); have n3_ := Aside0.mk (below_step (by repeat (first | (with_reducible first | exact HB.out | apply below_alloc | apply pw_below_drewN | apply below_drew1 | refine below_set ?_ G_i.out | refine below_set ?_ G_j.out | refine below_set ?_ G_k.out) | exact HB.out)) hb); have n4_ := Aside0.mk (hbox); have n5_ := Aside0.mk ((by rw [hg]; exact (below_size (by repeat (first | (with_reducible first | exact HB.out | apply below_alloc | apply pw_below_drewN | apply below_drew1 | refine below_set ?_ G_i.out | refine below_set ?_ G_j.out | refine below_set ?_ G_k.out) | exact HB.out))) : w.heap.size ≤ g_h)); have n6_ := Aside0.mk ((by rw [hg]; exact (below_size (by repeat (first | (with_reducible first | exact HB.out | apply below_alloc | apply pw_below_drewN | apply below_drew1 | refine below_set ?_ G_i.out | refine below_set ?_ G_j.out | refine below_set ?_ G_k.out) | exact HB.out))) : w.heap.size ≤ g_h)); have n7_ := Aside0.mk ((by rw [hg]; exact Nat.ne_of_lt (blk_lt (g := g_e) (o := .cells #[.int .i64 (wrap64 (tmod a0 3)), .int .i64 (((tdiv a0 3) % 256) % 3)] 23 (0, 0)) (by (with_reducible repeat (first | refine blk_drewN ?_ _ | refine blk_drew ?_ | refine blk_alloc ?_ _)); refine blk_far ?_ N_r.out _; (with_reducible repeat (first | refine blk_drewN ?_ _ | refine blk_drew ?_ | refine blk_alloc ?_ _)); refine blk_far ?_ N_r.out _; (with_reducible repeat (first | refine blk_drewN ?_ _ | refine blk_drew ?_ | refine blk_alloc ?_ _)); exact B_a.out)) : g_e ≠ g_h)); have n8_ := Aside0.mk ((by rw [hg]; exact Nat.ne_of_gt (blk_lt (g := g_e) (o := .cells #[.int .i64 (wrap64 (tmod a0 3)), .int .i64 (((tdiv a0 3) % 256) % 3)] 23 (0, 0)) (by (with_reducible repeat (first | refine blk_drewN ?_ _ | refine blk_drew ?_ | refine blk_alloc ?_ _)); refine blk_far ?_ N_r.out _; (with_reducible repeat (first | refine blk_drewN ?_ _ | refine blk_drew ?_ | refine blk_alloc ?_ _)); refine blk_far ?_ N_r.out _; (with_reducible repeat (first | refine blk_drewN ?_ _ | refine blk_drew ?_ | refine blk_alloc ?_ _)); exact B_a.out)) : g_h ≠ g_e)); have n9_ := Aside0.mk ((by rw [hg]; exact Nat.ne_of_lt (blk_lt (g := g_f) (o := .cells #[.int .i64 (wrap64 (tmod a1 3)), .int .i64 (((tdiv a1 3) % 256) % 3)] 23 (0, 0)) (by (with_reducible repeat (first | refine blk_drewN ?_ _ | refine blk_drew ?_ | refine blk_alloc ?_ _)); refine blk_far ?_ N_s.out _; (with_reducible repeat (first | refine blk_drewN ?_ _ | refine blk_drew ?_ | refine blk_alloc ?_ _)); refine blk_far ?_ N_s.out _; (with_reducible repeat (first | refine blk_drewN ?_ _ | refine blk_drew ?_ | refine blk_alloc ?_ _)); exact B_b.out)) : g_f ≠ g_h)); have n10_ := Aside0.mk ((by rw [hg]; exact Nat.ne_of_gt (blk_lt (g := g_f) (o := .cells #[.int .i64 (wrap64 (tmod a1 3)), .int .i64 (((tdiv a1 3) % 256) % 3)] 23 (0, 0)) (by (with_reducible repeat (first | refine blk_drewN ?_ _ | refine blk_drew ?_ | refine blk_alloc ?_ _)); refine blk_far ?_ N_s.out _; (with_reducible repeat (first | refine blk_drewN ?_ _ | refine blk_drew ?_ | refine blk_alloc ?_ _)); refine blk_far ?_ N_s.out _; (with_reducible repeat (first | refine blk_drewN ?_ _ | refine blk_drew ?_ | refine blk_alloc ?_ _)); exact B_b.out)) : g_h ≠ g_f)); have n11_ := Aside0.mk ((by rw [hg]; exact Nat.ne_of_lt (blk_lt (g := g_g) (o := .cells #[.int .i64 (wrap64 (tmod a1 3)), .int .i64 ji5] 23 (0, 0)) (by (with_reducible repeat (first | refine blk_drewN ?_ _ | refine blk_drew ?_ | refine blk_alloc ?_ _)); refine blk_put (cs := #[.int .i64 (wrap64 (tmod a1 3)), .int .i64 0]) ?_ 1 _ rfl; (with_reducible repeat (first | refine blk_drewN ?_ _ | refine blk_drew ?_ | refine blk_alloc ?_ _)); refine blk_put (cs := #[.int .i64 0, .int .i64 0]) ?_ 0 _ rfl; (with_reducible repeat (first | refine blk_drewN ?_ _ | refine blk_drew ?_ | refine blk_alloc ?_ _)); exact B_d.out)) : g_g ≠ g_h)); have n12_ := Aside0.mk ((by rw [hg]; exact Nat.ne_of_gt (blk_lt (g := g_g) (o := .cells #[.int .i64 (wrap64 (tmod a1 3)), .int .i64 ji5] 23 (0, 0)) (by (with_reducible repeat (first | refine blk_drewN ?_ _ | refine blk_drew ?_ | refine blk_alloc ?_ _)); refine blk_put (cs := #[.int .i64 (wrap64 (tmod a1 3)), .int .i64 0]) ?_ 1 _ rfl; (with_reducible repeat (first | refine blk_drewN ?_ _ | refine blk_drew ?_ | refine blk_alloc ?_ _)); refine blk_put (cs := #[.int .i64 0, .int .i64 0]) ?_ 0 _ rfl; (with_reducible repeat (first | refine blk_drewN ?_ _ | refine blk_drew ?_ | refine blk_alloc ?_ _)); exact B_d.out)) : g_h ≠ g_g)); clear B_a; clear B_b; clear B_d; clear HB; have B_a := n0_; have B_b := n1_; have B_d := n2_; have HB := n3_; have B_c := n4_; have GW138 := n5_; have G_l := n6_; have N_t := n7_; have NB138_135 := n8_; have NB136_138 := n9_; have NB138_136 := n10_; have NB137_138 := n11_; have NB138_137 := n12_; clear n0_ n1_ n2_ n3_ n4_ n5_ n6_ n7_ n8_ n9_ n10_ n11_ n12_; clear hb hbox hg; have hnb18 := NB138_135.out; have hnc18 := N_t.out; have hnb19 := NB138_136.out; have hnc19 := NB136_138.out; have hnb20 := NB138_137.out; have hnc20 := NB137_138.out; have hcz21_0 : w17.cell? ⟨g_h, 0, none⟩ = some (.int .i64 0) := (blk_cell B_c.out 0).trans rfl; have hcz21_1 : w17.cell? ⟨g_h, 1, none⟩ = some (.int .i64 0) := (blk_cell B_c.out 1).trans rfl; have hfz21_0 := blk_frozen B_c.out 0; have hfz21_1 := blk_frozen B_c.out 1))
  (try simp only [Act.put, setIfInBounds_toArray, set_cons_zero, set_cons_succ])
  go_cut [10] (fun v10 wc => ∃ (kq : Nat) (x10_5 : Bool), v10 = .bool x10_5 ∧ Aside0 (law07_RulePunch.j0 kq x10_5 (wrap64 (tmod a0 3)) (((tdiv a0 3) % 256) % 3) (wrap64 (tmod a1 3)) (((tdiv a1 3) % 256) % 3) (wrap64 (tmod a1 3)) ji5 2 2 = some r) ∧ Aside0 (kq ≤ k) ∧ Aside0 (wc.heap[g_e]? = some (.cells #[.int .i64 (wrap64 (tmod a0 3)), .int .i64 (((tdiv a0 3) % 256) % 3)] 23 (0, 0))) ∧ Aside0 (wc.heap[g_f]? = some (.cells #[.int .i64 (wrap64 (tmod a1 3)), .int .i64 (((tdiv a1 3) % 256) % 3)] 23 (0, 0))) ∧ Aside0 (wc.heap[g_g]? = some (.cells #[.int .i64 (wrap64 (tmod a1 3)), .int .i64 ji5] 23 (0, 0))) ∧ Aside0 (wc.heap[g_h]? = some (.cells #[.int .i64 2, .int .i64 2] 23 (0, 0))) ∧ Aside0 (Below w.heap.size w wc))
  case first =>
   have H := HC6.out
   clear HC6
   by_cases c22 : (wrap64 (tmod a0 3)) = 0
   ·rw [if_pos c22] at H
    have c22b0 : ((wrap64 (tmod a0 3)) == 0) = true := beq_iff_eq.mpr c22
    have c22b1 : ((wrap64 (tmod a0 3)) != 0) = false := bne_eq_false_iff_eq.mpr c22
    clear c22
    (first | rw [c22b0] | (simp only [i64_w, i32_w]; rw [c22b0]) | skip)
    have H' := Aside0.mk H
    clear H
    have hnb23 := N_q.out
    have hnc23 := NB136_135.out
    have hnb24 := N_r.out
    have hnc24 := NB137_135.out
    have hnb25 := N_t.out
    have hnc25 := NB138_135.out
    have hcz26_0 : w17.cell? ⟨g_e, 0, none⟩ = some (.int .i64 (wrap64 (tmod a0 3))) := (blk_cell B_a.out 0).trans rfl
    have hcz26_1 : w17.cell? ⟨g_e, 1, none⟩ = some (.int .i64 (((tdiv a0 3) % 256) % 3)) := (blk_cell B_a.out 1).trans rfl
    have hfz26_0 := blk_frozen B_a.out 0
    have hfz26_1 := blk_frozen B_a.out 1
    go_wp2
    go_meet
    case rel => exact ⟨_, (((((tdiv a0 3) % 256) % 3) != 2)), (by first | rfl | (simp; done) | (simp [*]; done)), H', ⟨by first | omega | exact Nat.le_refl _⟩, ⟨by (with_reducible repeat (first | refine blk_drewN ?_ _ | refine blk_drew ?_ | refine blk_alloc ?_ _)); refine blk_far ?_ N_t.out _; (with_reducible repeat (first | refine blk_drewN ?_ _ | refine blk_drew ?_ | refine blk_alloc ?_ _)); refine blk_far ?_ N_t.out _; (with_reducible repeat (first | refine blk_drewN ?_ _ | refine blk_drew ?_ | refine blk_alloc ?_ _)); exact B_a.out⟩, ⟨by (with_reducible repeat (first | refine blk_drewN ?_ _ | refine blk_drew ?_ | refine blk_alloc ?_ _)); refine blk_far ?_ NB136_138.out _; (with_reducible repeat (first | refine blk_drewN ?_ _ | refine blk_drew ?_ | refine blk_alloc ?_ _)); refine blk_far ?_ NB136_138.out _; (with_reducible repeat (first | refine blk_drewN ?_ _ | refine blk_drew ?_ | refine blk_alloc ?_ _)); exact B_b.out⟩, ⟨by (with_reducible repeat (first | refine blk_drewN ?_ _ | refine blk_drew ?_ | refine blk_alloc ?_ _)); refine blk_far ?_ NB137_138.out _; (with_reducible repeat (first | refine blk_drewN ?_ _ | refine blk_drew ?_ | refine blk_alloc ?_ _)); refine blk_far ?_ NB137_138.out _; (with_reducible repeat (first | refine blk_drewN ?_ _ | refine blk_drew ?_ | refine blk_alloc ?_ _)); exact B_d.out⟩, ⟨by (with_reducible repeat (first | refine blk_drewN ?_ _ | refine blk_drew ?_ | refine blk_alloc ?_ _)); refine blk_put (cs := #[.int .i64 2, .int .i64 0]) ?_ 1 _ rfl; (with_reducible repeat (first | refine blk_drewN ?_ _ | refine blk_drew ?_ | refine blk_alloc ?_ _)); refine blk_put (cs := #[.int .i64 0, .int .i64 0]) ?_ 0 _ rfl; (with_reducible repeat (first | refine blk_drewN ?_ _ | refine blk_drew ?_ | refine blk_alloc ?_ _)); exact B_c.out⟩, ⟨by repeat (first | (with_reducible first | exact HB.out | apply below_alloc | apply pw_below_drewN | apply below_drew1 | refine below_set ?_ G_i.out | refine below_set ?_ G_j.out | refine below_set ?_ G_k.out | refine below_set ?_ G_l.out) | exact HB.out)⟩⟩
   ·(first | rw [if_neg c22] at H | exact absurd rfl c22)
    have c22b0 : ((wrap64 (tmod a0 3)) == 0) = false := beq_eq_false_iff_ne.mpr c22
    have c22b1 : ((wrap64 (tmod a0 3)) != 0) = true := bne_iff_ne.mpr c22
    (first | rw [c22b0] | (simp only [i64_w, i32_w]; rw [c22b0]) | skip)
    have H' := Aside0.mk H
    clear H
    have hnb27 := N_q.out
    have hnc27 := NB136_135.out
    have hnb28 := N_r.out
    have hnc28 := NB137_135.out
    have hnb29 := N_t.out
    have hnc29 := NB138_135.out
    have hcz30_0 : w17.cell? ⟨g_e, 0, none⟩ = some (.int .i64 (wrap64 (tmod a0 3))) := (blk_cell B_a.out 0).trans rfl
    have hcz30_1 : w17.cell? ⟨g_e, 1, none⟩ = some (.int .i64 (((tdiv a0 3) % 256) % 3)) := (blk_cell B_a.out 1).trans rfl
    have hfz30_0 := blk_frozen B_a.out 0
    have hfz30_1 := blk_frozen B_a.out 1
    go_wp2
    go_meet
    case rel => exact ⟨_, (false), (by first | rfl | (simp; done) | (simp [*]; done)), H', ⟨by first | omega | exact Nat.le_refl _⟩, ⟨by (with_reducible repeat (first | refine blk_drewN ?_ _ | refine blk_drew ?_ | refine blk_alloc ?_ _)); refine blk_far ?_ N_t.out _; (with_reducible repeat (first | refine blk_drewN ?_ _ | refine blk_drew ?_ | refine blk_alloc ?_ _)); refine blk_far ?_ N_t.out _; (with_reducible repeat (first | refine blk_drewN ?_ _ | refine blk_drew ?_ | refine blk_alloc ?_ _)); exact B_a.out⟩, ⟨by (with_reducible repeat (first | refine blk_drewN ?_ _ | refine blk_drew ?_ | refine blk_alloc ?_ _)); refine blk_far ?_ NB136_138.out _; (with_reducible repeat (first | refine blk_drewN ?_ _ | refine blk_drew ?_ | refine blk_alloc ?_ _)); refine blk_far ?_ NB136_138.out _; (with_reducible repeat (first | refine blk_drewN ?_ _ | refine blk_drew ?_ | refine blk_alloc ?_ _)); exact B_b.out⟩, ⟨by (with_reducible repeat (first | refine blk_drewN ?_ _ | refine blk_drew ?_ | refine blk_alloc ?_ _)); refine blk_far ?_ NB137_138.out _; (with_reducible repeat (first | refine blk_drewN ?_ _ | refine blk_drew ?_ | refine blk_alloc ?_ _)); refine blk_far ?_ NB137_138.out _; (with_reducible repeat (first | refine blk_drewN ?_ _ | refine blk_drew ?_ | refine blk_alloc ?_ _)); exact B_d.out⟩, ⟨by (with_reducible repeat (first | refine blk_drewN ?_ _ | refine blk_drew ?_ | refine blk_alloc ?_ _)); refine blk_put (cs := #[.int .i64 2, .int .i64 0]) ?_ 1 _ rfl; (with_reducible repeat (first | refine blk_drewN ?_ _ | refine blk_drew ?_ | refine blk_alloc ?_ _)); refine blk_put (cs := #[.int .i64 0, .int .i64 0]) ?_ 0 _ rfl; (with_reducible repeat (first | refine blk_drewN ?_ _ | refine blk_drew ?_ | refine blk_alloc ?_ _)); exact B_c.out⟩, ⟨by repeat (first | (with_reducible first | exact HB.out | apply below_alloc | apply pw_below_drewN | apply below_drew1 | refine below_set ?_ G_i.out | refine below_set ?_ G_j.out | refine below_set ?_ G_k.out | refine below_set ?_ G_l.out) | exact HB.out)⟩⟩
  case rest =>
   clear HC6
   try clear c1
   try clear c2
   try clear p2
   try clear c4
   try clear p6
   try clear c8
   try clear c11
   try clear c14
   try clear c15
   try clear c18
   try clear c19
   try clear c20
   try clear c22
   try clear c22b0
   try clear c22b1
   try clear c23
   try clear c24
   try clear c25
   try clear c27
   try clear c28
   try clear c29
   try clear hcz12_0
   try clear hcz12_1
   try clear hcz16_0
   try clear hcz16_1
   try clear hcz21_0
   try clear hcz21_1
   try clear hcz26_0
   try clear hcz26_1
   try clear hcz30_0
   try clear hcz30_1
   try clear hcz9_0
   try clear hcz9_1
   try clear hfz12_0
   try clear hfz12_1
   try clear hfz16_0
   try clear hfz16_1
   try clear hfz21_0
   try clear hfz21_1
   try clear hfz26_0
   try clear hfz26_1
   try clear hfz30_0
   try clear hfz30_1
   try clear hfz9_0
   try clear hfz9_1
   obtain ⟨kq, x10_5, rfl, HA, HJ5, B_a, B_b, B_d, B_c, HB⟩ := hcut
   cases kq with
   | zero => exact absurd HA.out (by simp [law07_RulePunch.j0])
   | succ kj5 =>
    have H := HA.out
    clear HA
    simp only [law07_RulePunch.j0] at H
    replace H := Option.bind_eq_some_iff.mp H
    obtain ⟨t139, A310, H⟩ := H
    replace H : ((rule_Punch.f kj5 (wrap64 (tmod a1 3)) (((tdiv a1 3) % 256) % 3) (wrap64 (tmod a0 3)) (((tdiv a0 3) % 256) % 3)).bind fun t140 => (if t139 = true then (if t140 = true then (if x10_5 = true then ((rule_Punch.f kj5 (wrap64 (tmod a0 3)) (((tdiv a0 3) % 256) % 3) (wrap64 (tmod a1 3)) (((tdiv a1 3) % 256) % 3)).bind fun t141 => (if t141 = true then ((rule_Punch.f kj5 2 2 2 2).bind fun t142 => (if t142 = true then (none) else ((rule_Punch.f kj5 (wrap64 (tmod a0 3)) (((tdiv a0 3) % 256) % 3) (wrap64 (tmod a1 3)) (((tdiv a1 3) % 256) % 3)).bind fun t143 => (if t143 = true then ((rule_Punch.f kj5 (wrap64 (tmod a0 3)) (((tdiv a0 3) % 256) % 3) (wrap64 (tmod a1 3)) ji5).bind fun t144 => (if t144 = true then ((rule_Punch.f kj5 (wrap64 (tmod a0 3)) (((tdiv a0 3) % 256) % 3) (wrap64 (tmod a1 3)) (((tdiv a1 3) % 256) % 3)).bind fun t145 => (if t145 = true then ((rule_Through.f kj5 (wrap64 (tmod a0 3)) (((tdiv a0 3) % 256) % 3) (wrap64 (tmod a1 3)) (((tdiv a1 3) % 256) % 3)).bind fun t146 => (if t146 = true then (some true) else ((rule_Through.f kj5 (wrap64 (tmod a1 3)) (((tdiv a1 3) % 256) % 3) (wrap64 (tmod a0 3)) (((tdiv a0 3) % 256) % 3)).bind fun t147 => (some t147)))) else (none))) else (none))) else (none))))) else (none))) else ((rule_Punch.f kj5 2 2 2 2).bind fun t148 => (if t148 = true then (none) else ((rule_Punch.f kj5 (wrap64 (tmod a0 3)) (((tdiv a0 3) % 256) % 3) (wrap64 (tmod a1 3)) (((tdiv a1 3) % 256) % 3)).bind fun t149 => (if t149 = true then ((rule_Punch.f kj5 (wrap64 (tmod a0 3)) (((tdiv a0 3) % 256) % 3) (wrap64 (tmod a1 3)) ji5).bind fun t150 => (if t150 = true then ((rule_Punch.f kj5 (wrap64 (tmod a0 3)) (((tdiv a0 3) % 256) % 3) (wrap64 (tmod a1 3)) (((tdiv a1 3) % 256) % 3)).bind fun t151 => (if t151 = true then ((rule_Through.f kj5 (wrap64 (tmod a0 3)) (((tdiv a0 3) % 256) % 3) (wrap64 (tmod a1 3)) (((tdiv a1 3) % 256) % 3)).bind fun t152 => (if t152 = true then (some true) else ((rule_Through.f kj5 (wrap64 (tmod a1 3)) (((tdiv a1 3) % 256) % 3) (wrap64 (tmod a0 3)) (((tdiv a0 3) % 256) % 3)).bind fun t153 => (some t153)))) else (none))) else (none))) else (none)))))) else (none)) else (if t140 = true then (none) else (if x10_5 = true then ((rule_Punch.f kj5 (wrap64 (tmod a0 3)) (((tdiv a0 3) % 256) % 3) (wrap64 (tmod a1 3)) (((tdiv a1 3) % 256) % 3)).bind fun t154 => (if t154 = true then (none) else (none))) else ((rule_Punch.f kj5 2 2 2 2).bind fun t155 => (if t155 = true then (none) else ((rule_Punch.f kj5 (wrap64 (tmod a0 3)) (((tdiv a0 3) % 256) % 3) (wrap64 (tmod a1 3)) (((tdiv a1 3) % 256) % 3)).bind fun t156 => (if t156 = true then (none) else ((rule_Punch.f kj5 (wrap64 (tmod a0 3)) (((tdiv a0 3) % 256) % 3) (wrap64 (tmod a1 3)) (((tdiv a1 3) % 256) % 3)).bind fun t157 => (if t157 = true then (none) else (some true))))))))))) = some r := H
    have A31 := Aside0.mk A310
    clear A310
    replace H := Option.bind_eq_some_iff.mp H
    obtain ⟨t140, A320, H⟩ := H
    replace H : (if t139 = true then (if t140 = true then (if x10_5 = true then ((rule_Punch.f kj5 (wrap64 (tmod a0 3)) (((tdiv a0 3) % 256) % 3) (wrap64 (tmod a1 3)) (((tdiv a1 3) % 256) % 3)).bind fun t141 => (if t141 = true then ((rule_Punch.f kj5 2 2 2 2).bind fun t142 => (if t142 = true then (none) else ((rule_Punch.f kj5 (wrap64 (tmod a0 3)) (((tdiv a0 3) % 256) % 3) (wrap64 (tmod a1 3)) (((tdiv a1 3) % 256) % 3)).bind fun t143 => (if t143 = true then ((rule_Punch.f kj5 (wrap64 (tmod a0 3)) (((tdiv a0 3) % 256) % 3) (wrap64 (tmod a1 3)) ji5).bind fun t144 => (if t144 = true then ((rule_Punch.f kj5 (wrap64 (tmod a0 3)) (((tdiv a0 3) % 256) % 3) (wrap64 (tmod a1 3)) (((tdiv a1 3) % 256) % 3)).bind fun t145 => (if t145 = true then ((rule_Through.f kj5 (wrap64 (tmod a0 3)) (((tdiv a0 3) % 256) % 3) (wrap64 (tmod a1 3)) (((tdiv a1 3) % 256) % 3)).bind fun t146 => (if t146 = true then (some true) else ((rule_Through.f kj5 (wrap64 (tmod a1 3)) (((tdiv a1 3) % 256) % 3) (wrap64 (tmod a0 3)) (((tdiv a0 3) % 256) % 3)).bind fun t147 => (some t147)))) else (none))) else (none))) else (none))))) else (none))) else ((rule_Punch.f kj5 2 2 2 2).bind fun t148 => (if t148 = true then (none) else ((rule_Punch.f kj5 (wrap64 (tmod a0 3)) (((tdiv a0 3) % 256) % 3) (wrap64 (tmod a1 3)) (((tdiv a1 3) % 256) % 3)).bind fun t149 => (if t149 = true then ((rule_Punch.f kj5 (wrap64 (tmod a0 3)) (((tdiv a0 3) % 256) % 3) (wrap64 (tmod a1 3)) ji5).bind fun t150 => (if t150 = true then ((rule_Punch.f kj5 (wrap64 (tmod a0 3)) (((tdiv a0 3) % 256) % 3) (wrap64 (tmod a1 3)) (((tdiv a1 3) % 256) % 3)).bind fun t151 => (if t151 = true then ((rule_Through.f kj5 (wrap64 (tmod a0 3)) (((tdiv a0 3) % 256) % 3) (wrap64 (tmod a1 3)) (((tdiv a1 3) % 256) % 3)).bind fun t152 => (if t152 = true then (some true) else ((rule_Through.f kj5 (wrap64 (tmod a1 3)) (((tdiv a1 3) % 256) % 3) (wrap64 (tmod a0 3)) (((tdiv a0 3) % 256) % 3)).bind fun t153 => (some t153)))) else (none))) else (none))) else (none)))))) else (none)) else (if t140 = true then (none) else (if x10_5 = true then ((rule_Punch.f kj5 (wrap64 (tmod a0 3)) (((tdiv a0 3) % 256) % 3) (wrap64 (tmod a1 3)) (((tdiv a1 3) % 256) % 3)).bind fun t154 => (if t154 = true then (none) else (none))) else ((rule_Punch.f kj5 2 2 2 2).bind fun t155 => (if t155 = true then (none) else ((rule_Punch.f kj5 (wrap64 (tmod a0 3)) (((tdiv a0 3) % 256) % 3) (wrap64 (tmod a1 3)) (((tdiv a1 3) % 256) % 3)).bind fun t156 => (if t156 = true then (none) else ((rule_Punch.f kj5 (wrap64 (tmod a0 3)) (((tdiv a0 3) % 256) % 3) (wrap64 (tmod a1 3)) (((tdiv a1 3) % 256) % 3)).bind fun t157 => (if t157 = true then (none) else (some true)))))))))) = some r := H
    have A32 := Aside0.mk A320
    clear A320
    by_cases c33 : t139 = true
    ·(first | subst c33 | clear c33)
     have H1 : (if t140 = true then (if x10_5 = true then ((rule_Punch.f kj5 (wrap64 (tmod a0 3)) (((tdiv a0 3) % 256) % 3) (wrap64 (tmod a1 3)) (((tdiv a1 3) % 256) % 3)).bind fun t141 => (if t141 = true then ((rule_Punch.f kj5 2 2 2 2).bind fun t142 => (if t142 = true then (none) else ((rule_Punch.f kj5 (wrap64 (tmod a0 3)) (((tdiv a0 3) % 256) % 3) (wrap64 (tmod a1 3)) (((tdiv a1 3) % 256) % 3)).bind fun t143 => (if t143 = true then ((rule_Punch.f kj5 (wrap64 (tmod a0 3)) (((tdiv a0 3) % 256) % 3) (wrap64 (tmod a1 3)) ji5).bind fun t144 => (if t144 = true then ((rule_Punch.f kj5 (wrap64 (tmod a0 3)) (((tdiv a0 3) % 256) % 3) (wrap64 (tmod a1 3)) (((tdiv a1 3) % 256) % 3)).bind fun t145 => (if t145 = true then ((rule_Through.f kj5 (wrap64 (tmod a0 3)) (((tdiv a0 3) % 256) % 3) (wrap64 (tmod a1 3)) (((tdiv a1 3) % 256) % 3)).bind fun t146 => (if t146 = true then (some true) else ((rule_Through.f kj5 (wrap64 (tmod a1 3)) (((tdiv a1 3) % 256) % 3) (wrap64 (tmod a0 3)) (((tdiv a0 3) % 256) % 3)).bind fun t147 => (some t147)))) else (none))) else (none))) else (none))))) else (none))) else ((rule_Punch.f kj5 2 2 2 2).bind fun t148 => (if t148 = true then (none) else ((rule_Punch.f kj5 (wrap64 (tmod a0 3)) (((tdiv a0 3) % 256) % 3) (wrap64 (tmod a1 3)) (((tdiv a1 3) % 256) % 3)).bind fun t149 => (if t149 = true then ((rule_Punch.f kj5 (wrap64 (tmod a0 3)) (((tdiv a0 3) % 256) % 3) (wrap64 (tmod a1 3)) ji5).bind fun t150 => (if t150 = true then ((rule_Punch.f kj5 (wrap64 (tmod a0 3)) (((tdiv a0 3) % 256) % 3) (wrap64 (tmod a1 3)) (((tdiv a1 3) % 256) % 3)).bind fun t151 => (if t151 = true then ((rule_Through.f kj5 (wrap64 (tmod a0 3)) (((tdiv a0 3) % 256) % 3) (wrap64 (tmod a1 3)) (((tdiv a1 3) % 256) % 3)).bind fun t152 => (if t152 = true then (some true) else ((rule_Through.f kj5 (wrap64 (tmod a1 3)) (((tdiv a1 3) % 256) % 3) (wrap64 (tmod a0 3)) (((tdiv a0 3) % 256) % 3)).bind fun t153 => (some t153)))) else (none))) else (none))) else (none)))))) else (none)) = some r := by first | (rw [if_pos rfl] at H; exact H) | (rw [if_pos trivial] at H; exact H)
     clear H
     have H := H1
     clear H1
     by_cases c34 : t140 = true
     ·(first | subst c34 | clear c34)
      have H1 : (if x10_5 = true then ((rule_Punch.f kj5 (wrap64 (tmod a0 3)) (((tdiv a0 3) % 256) % 3) (wrap64 (tmod a1 3)) (((tdiv a1 3) % 256) % 3)).bind fun t141 => (if t141 = true then ((rule_Punch.f kj5 2 2 2 2).bind fun t142 => (if t142 = true then (none) else ((rule_Punch.f kj5 (wrap64 (tmod a0 3)) (((tdiv a0 3) % 256) % 3) (wrap64 (tmod a1 3)) (((tdiv a1 3) % 256) % 3)).bind fun t143 => (if t143 = true then ((rule_Punch.f kj5 (wrap64 (tmod a0 3)) (((tdiv a0 3) % 256) % 3) (wrap64 (tmod a1 3)) ji5).bind fun t144 => (if t144 = true then ((rule_Punch.f kj5 (wrap64 (tmod a0 3)) (((tdiv a0 3) % 256) % 3) (wrap64 (tmod a1 3)) (((tdiv a1 3) % 256) % 3)).bind fun t145 => (if t145 = true then ((rule_Through.f kj5 (wrap64 (tmod a0 3)) (((tdiv a0 3) % 256) % 3) (wrap64 (tmod a1 3)) (((tdiv a1 3) % 256) % 3)).bind fun t146 => (if t146 = true then (some true) else ((rule_Through.f kj5 (wrap64 (tmod a1 3)) (((tdiv a1 3) % 256) % 3) (wrap64 (tmod a0 3)) (((tdiv a0 3) % 256) % 3)).bind fun t147 => (some t147)))) else (none))) else (none))) else (none))))) else (none))) else ((rule_Punch.f kj5 2 2 2 2).bind fun t148 => (if t148 = true then (none) else ((rule_Punch.f kj5 (wrap64 (tmod a0 3)) (((tdiv a0 3) % 256) % 3) (wrap64 (tmod a1 3)) (((tdiv a1 3) % 256) % 3)).bind fun t149 => (if t149 = true then ((rule_Punch.f kj5 (wrap64 (tmod a0 3)) (((tdiv a0 3) % 256) % 3) (wrap64 (tmod a1 3)) ji5).bind fun t150 => (if t150 = true then ((rule_Punch.f kj5 (wrap64 (tmod a0 3)) (((tdiv a0 3) % 256) % 3) (wrap64 (tmod a1 3)) (((tdiv a1 3) % 256) % 3)).bind fun t151 => (if t151 = true then ((rule_Through.f kj5 (wrap64 (tmod a0 3)) (((tdiv a0 3) % 256) % 3) (wrap64 (tmod a1 3)) (((tdiv a1 3) % 256) % 3)).bind fun t152 => (if t152 = true then (some true) else ((rule_Through.f kj5 (wrap64 (tmod a1 3)) (((tdiv a1 3) % 256) % 3) (wrap64 (tmod a0 3)) (((tdiv a0 3) % 256) % 3)).bind fun t153 => (some t153)))) else (none))) else (none))) else (none)))))) = some r := by first | (rw [if_pos rfl] at H; exact H) | (rw [if_pos trivial] at H; exact H)
      clear H
      have H := H1
      clear H1
      by_cases c35 : x10_5 = true
      ·(first | subst c35 | clear c35)
       have H1 : ((rule_Punch.f kj5 (wrap64 (tmod a0 3)) (((tdiv a0 3) % 256) % 3) (wrap64 (tmod a1 3)) (((tdiv a1 3) % 256) % 3)).bind fun t141 => (if t141 = true then ((rule_Punch.f kj5 2 2 2 2).bind fun t142 => (if t142 = true then (none) else ((rule_Punch.f kj5 (wrap64 (tmod a0 3)) (((tdiv a0 3) % 256) % 3) (wrap64 (tmod a1 3)) (((tdiv a1 3) % 256) % 3)).bind fun t143 => (if t143 = true then ((rule_Punch.f kj5 (wrap64 (tmod a0 3)) (((tdiv a0 3) % 256) % 3) (wrap64 (tmod a1 3)) ji5).bind fun t144 => (if t144 = true then ((rule_Punch.f kj5 (wrap64 (tmod a0 3)) (((tdiv a0 3) % 256) % 3) (wrap64 (tmod a1 3)) (((tdiv a1 3) % 256) % 3)).bind fun t145 => (if t145 = true then ((rule_Through.f kj5 (wrap64 (tmod a0 3)) (((tdiv a0 3) % 256) % 3) (wrap64 (tmod a1 3)) (((tdiv a1 3) % 256) % 3)).bind fun t146 => (if t146 = true then (some true) else ((rule_Through.f kj5 (wrap64 (tmod a1 3)) (((tdiv a1 3) % 256) % 3) (wrap64 (tmod a0 3)) (((tdiv a0 3) % 256) % 3)).bind fun t147 => (some t147)))) else (none))) else (none))) else (none))))) else (none))) = some r := by first | (rw [if_pos rfl] at H; exact H) | (rw [if_pos trivial] at H; exact H)
       clear H
       have H := H1
       clear H1
       replace H := Option.bind_eq_some_iff.mp H
       obtain ⟨t141, A360, H⟩ := H
       replace H : (if t141 = true then ((rule_Punch.f kj5 2 2 2 2).bind fun t142 => (if t142 = true then (none) else ((rule_Punch.f kj5 (wrap64 (tmod a0 3)) (((tdiv a0 3) % 256) % 3) (wrap64 (tmod a1 3)) (((tdiv a1 3) % 256) % 3)).bind fun t143 => (if t143 = true then ((rule_Punch.f kj5 (wrap64 (tmod a0 3)) (((tdiv a0 3) % 256) % 3) (wrap64 (tmod a1 3)) ji5).bind fun t144 => (if t144 = true then ((rule_Punch.f kj5 (wrap64 (tmod a0 3)) (((tdiv a0 3) % 256) % 3) (wrap64 (tmod a1 3)) (((tdiv a1 3) % 256) % 3)).bind fun t145 => (if t145 = true then ((rule_Through.f kj5 (wrap64 (tmod a0 3)) (((tdiv a0 3) % 256) % 3) (wrap64 (tmod a1 3)) (((tdiv a1 3) % 256) % 3)).bind fun t146 => (if t146 = true then (some true) else ((rule_Through.f kj5 (wrap64 (tmod a1 3)) (((tdiv a1 3) % 256) % 3) (wrap64 (tmod a0 3)) (((tdiv a0 3) % 256) % 3)).bind fun t147 => (some t147)))) else (none))) else (none))) else (none))))) else (none)) = some r := H
       have A36 := Aside0.mk A360
       clear A360
       by_cases c37 : t141 = true
       ·(first | subst c37 | clear c37)
        have H1 : ((rule_Punch.f kj5 2 2 2 2).bind fun t142 => (if t142 = true then (none) else ((rule_Punch.f kj5 (wrap64 (tmod a0 3)) (((tdiv a0 3) % 256) % 3) (wrap64 (tmod a1 3)) (((tdiv a1 3) % 256) % 3)).bind fun t143 => (if t143 = true then ((rule_Punch.f kj5 (wrap64 (tmod a0 3)) (((tdiv a0 3) % 256) % 3) (wrap64 (tmod a1 3)) ji5).bind fun t144 => (if t144 = true then ((rule_Punch.f kj5 (wrap64 (tmod a0 3)) (((tdiv a0 3) % 256) % 3) (wrap64 (tmod a1 3)) (((tdiv a1 3) % 256) % 3)).bind fun t145 => (if t145 = true then ((rule_Through.f kj5 (wrap64 (tmod a0 3)) (((tdiv a0 3) % 256) % 3) (wrap64 (tmod a1 3)) (((tdiv a1 3) % 256) % 3)).bind fun t146 => (if t146 = true then (some true) else ((rule_Through.f kj5 (wrap64 (tmod a1 3)) (((tdiv a1 3) % 256) % 3) (wrap64 (tmod a0 3)) (((tdiv a0 3) % 256) % 3)).bind fun t147 => (some t147)))) else (none))) else (none))) else (none))))) = some r := by first | (rw [if_pos rfl] at H; exact H) | (rw [if_pos trivial] at H; exact H)
        clear H
        have H := H1
        clear H1
        replace H := Option.bind_eq_some_iff.mp H
        obtain ⟨t142, A380, H⟩ := H
        replace H : (if t142 = true then (none) else ((rule_Punch.f kj5 (wrap64 (tmod a0 3)) (((tdiv a0 3) % 256) % 3) (wrap64 (tmod a1 3)) (((tdiv a1 3) % 256) % 3)).bind fun t143 => (if t143 = true then ((rule_Punch.f kj5 (wrap64 (tmod a0 3)) (((tdiv a0 3) % 256) % 3) (wrap64 (tmod a1 3)) ji5).bind fun t144 => (if t144 = true then ((rule_Punch.f kj5 (wrap64 (tmod a0 3)) (((tdiv a0 3) % 256) % 3) (wrap64 (tmod a1 3)) (((tdiv a1 3) % 256) % 3)).bind fun t145 => (if t145 = true then ((rule_Through.f kj5 (wrap64 (tmod a0 3)) (((tdiv a0 3) % 256) % 3) (wrap64 (tmod a1 3)) (((tdiv a1 3) % 256) % 3)).bind fun t146 => (if t146 = true then (some true) else ((rule_Through.f kj5 (wrap64 (tmod a1 3)) (((tdiv a1 3) % 256) % 3) (wrap64 (tmod a0 3)) (((tdiv a0 3) % 256) % 3)).bind fun t147 => (some t147)))) else (none))) else (none))) else (none)))) = some r := H
        have A38 := Aside0.mk A380
        clear A380
        by_cases c39 : t142 = true
        ·(first | subst c39 | clear c39)
         have H1 : (none) = some r := by first | (rw [if_pos rfl] at H; exact H) | (rw [if_pos trivial] at H; exact H)
         clear H
         have H := H1
         clear H1
         exact absurd H (by simp)
        ·replace c39 := Bool.eq_false_iff.mpr c39
         (first | subst c39 | clear c39)
         have H1 : ((rule_Punch.f kj5 (wrap64 (tmod a0 3)) (((tdiv a0 3) % 256) % 3) (wrap64 (tmod a1 3)) (((tdiv a1 3) % 256) % 3)).bind fun t143 => (if t143 = true then ((rule_Punch.f kj5 (wrap64 (tmod a0 3)) (((tdiv a0 3) % 256) % 3) (wrap64 (tmod a1 3)) ji5).bind fun t144 => (if t144 = true then ((rule_Punch.f kj5 (wrap64 (tmod a0 3)) (((tdiv a0 3) % 256) % 3) (wrap64 (tmod a1 3)) (((tdiv a1 3) % 256) % 3)).bind fun t145 => (if t145 = true then ((rule_Through.f kj5 (wrap64 (tmod a0 3)) (((tdiv a0 3) % 256) % 3) (wrap64 (tmod a1 3)) (((tdiv a1 3) % 256) % 3)).bind fun t146 => (if t146 = true then (some true) else ((rule_Through.f kj5 (wrap64 (tmod a1 3)) (((tdiv a1 3) % 256) % 3) (wrap64 (tmod a0 3)) (((tdiv a0 3) % 256) % 3)).bind fun t147 => (some t147)))) else (none))) else (none))) else (none))) = some r := by rw [if_neg (show ¬ (false = true) by decide)] at H; exact H
         clear H
         have H := H1
         clear H1
         replace H := Option.bind_eq_some_iff.mp H
         obtain ⟨t143, A400, H⟩ := H
         replace H : (if t143 = true then ((rule_Punch.f kj5 (wrap64 (tmod a0 3)) (((tdiv a0 3) % 256) % 3) (wrap64 (tmod a1 3)) ji5).bind fun t144 => (if t144 = true then ((rule_Punch.f kj5 (wrap64 (tmod a0 3)) (((tdiv a0 3) % 256) % 3) (wrap64 (tmod a1 3)) (((tdiv a1 3) % 256) % 3)).bind fun t145 => (if t145 = true then ((rule_Through.f kj5 (wrap64 (tmod a0 3)) (((tdiv a0 3) % 256) % 3) (wrap64 (tmod a1 3)) (((tdiv a1 3) % 256) % 3)).bind fun t146 => (if t146 = true then (some true) else ((rule_Through.f kj5 (wrap64 (tmod a1 3)) (((tdiv a1 3) % 256) % 3) (wrap64 (tmod a0 3)) (((tdiv a0 3) % 256) % 3)).bind fun t147 => (some t147)))) else (none))) else (none))) else (none)) = some r := H
         have A40 := Aside0.mk A400
         clear A400
         by_cases c41 : t143 = true
         ·(first | subst c41 | clear c41)
          have H1 : ((rule_Punch.f kj5 (wrap64 (tmod a0 3)) (((tdiv a0 3) % 256) % 3) (wrap64 (tmod a1 3)) ji5).bind fun t144 => (if t144 = true then ((rule_Punch.f kj5 (wrap64 (tmod a0 3)) (((tdiv a0 3) % 256) % 3) (wrap64 (tmod a1 3)) (((tdiv a1 3) % 256) % 3)).bind fun t145 => (if t145 = true then ((rule_Through.f kj5 (wrap64 (tmod a0 3)) (((tdiv a0 3) % 256) % 3) (wrap64 (tmod a1 3)) (((tdiv a1 3) % 256) % 3)).bind fun t146 => (if t146 = true then (some true) else ((rule_Through.f kj5 (wrap64 (tmod a1 3)) (((tdiv a1 3) % 256) % 3) (wrap64 (tmod a0 3)) (((tdiv a0 3) % 256) % 3)).bind fun t147 => (some t147)))) else (none))) else (none))) = some r := by first | (rw [if_pos rfl] at H; exact H) | (rw [if_pos trivial] at H; exact H)
          clear H
          have H := H1
          clear H1
          replace H := Option.bind_eq_some_iff.mp H
          obtain ⟨t144, A420, H⟩ := H
          replace H : (if t144 = true then ((rule_Punch.f kj5 (wrap64 (tmod a0 3)) (((tdiv a0 3) % 256) % 3) (wrap64 (tmod a1 3)) (((tdiv a1 3) % 256) % 3)).bind fun t145 => (if t145 = true then ((rule_Through.f kj5 (wrap64 (tmod a0 3)) (((tdiv a0 3) % 256) % 3) (wrap64 (tmod a1 3)) (((tdiv a1 3) % 256) % 3)).bind fun t146 => (if t146 = true then (some true) else ((rule_Through.f kj5 (wrap64 (tmod a1 3)) (((tdiv a1 3) % 256) % 3) (wrap64 (tmod a0 3)) (((tdiv a0 3) % 256) % 3)).bind fun t147 => (some t147)))) else (none))) else (none)) = some r := H
          have A42 := Aside0.mk A420
          clear A420
          by_cases c43 : t144 = true
          ·(first | subst c43 | clear c43)
           have H1 : ((rule_Punch.f kj5 (wrap64 (tmod a0 3)) (((tdiv a0 3) % 256) % 3) (wrap64 (tmod a1 3)) (((tdiv a1 3) % 256) % 3)).bind fun t145 => (if t145 = true then ((rule_Through.f kj5 (wrap64 (tmod a0 3)) (((tdiv a0 3) % 256) % 3) (wrap64 (tmod a1 3)) (((tdiv a1 3) % 256) % 3)).bind fun t146 => (if t146 = true then (some true) else ((rule_Through.f kj5 (wrap64 (tmod a1 3)) (((tdiv a1 3) % 256) % 3) (wrap64 (tmod a0 3)) (((tdiv a0 3) % 256) % 3)).bind fun t147 => (some t147)))) else (none))) = some r := by first | (rw [if_pos rfl] at H; exact H) | (rw [if_pos trivial] at H; exact H)
           clear H
           have H := H1
           clear H1
           replace H := Option.bind_eq_some_iff.mp H
           obtain ⟨t145, A440, H⟩ := H
           replace H : (if t145 = true then ((rule_Through.f kj5 (wrap64 (tmod a0 3)) (((tdiv a0 3) % 256) % 3) (wrap64 (tmod a1 3)) (((tdiv a1 3) % 256) % 3)).bind fun t146 => (if t146 = true then (some true) else ((rule_Through.f kj5 (wrap64 (tmod a1 3)) (((tdiv a1 3) % 256) % 3) (wrap64 (tmod a0 3)) (((tdiv a0 3) % 256) % 3)).bind fun t147 => (some t147)))) else (none)) = some r := H
           have A44 := Aside0.mk A440
           clear A440
           by_cases c45 : t145 = true
           ·(first | subst c45 | clear c45)
            have H1 : ((rule_Through.f kj5 (wrap64 (tmod a0 3)) (((tdiv a0 3) % 256) % 3) (wrap64 (tmod a1 3)) (((tdiv a1 3) % 256) % 3)).bind fun t146 => (if t146 = true then (some true) else ((rule_Through.f kj5 (wrap64 (tmod a1 3)) (((tdiv a1 3) % 256) % 3) (wrap64 (tmod a0 3)) (((tdiv a0 3) % 256) % 3)).bind fun t147 => (some t147)))) = some r := by first | (rw [if_pos rfl] at H; exact H) | (rw [if_pos trivial] at H; exact H)
            clear H
            have H := H1
            clear H1
            replace H := Option.bind_eq_some_iff.mp H
            obtain ⟨t146, A460, H⟩ := H
            replace H : (if t146 = true then (some true) else ((rule_Through.f kj5 (wrap64 (tmod a1 3)) (((tdiv a1 3) % 256) % 3) (wrap64 (tmod a0 3)) (((tdiv a0 3) % 256) % 3)).bind fun t147 => (some t147))) = some r := H
            have A46 := Aside0.mk A460
            clear A460
            by_cases c47 : t146 = true
            ·(first | subst c47 | clear c47)
             have H1 : (some true) = some r := by first | (rw [if_pos rfl] at H; exact H) | (rw [if_pos trivial] at H; exact H)
             clear H
             have H := H1
             clear H1
             obtain rfl := Option.some.inj H
             try go_wp2
             have n0_ := Aside0.mk (blk_drew B_a.out)
             have n1_ := Aside0.mk (blk_drew B_b.out)
             have n2_ := Aside0.mk (blk_drew B_d.out)
             have n3_ := Aside0.mk (blk_drew B_c.out)
             have n4_ := Aside0.mk (below_drew1 HB.out)
             clear B_a
             clear B_b
             clear B_d
             clear B_c
             clear HB
             have B_a := n0_
             have B_b := n1_
             have B_d := n2_
             have B_c := n3_
             have HB := n4_
             clear n0_ n1_ n2_ n3_ n4_
             refine start_ (n := 53) (S := fun w' => w'.cell? ⟨g_e, 0, none⟩ = some (.int .i64 (wrap64 (tmod a0 3))) ∧ w'.cell? ⟨g_e, 1, none⟩ = some (.int .i64 (((tdiv a0 3) % 256) % 3)) ∧ w'.cell? ⟨g_f, 0, none⟩ = some (.int .i64 (wrap64 (tmod a1 3))) ∧ w'.cell? ⟨g_f, 1, none⟩ = some (.int .i64 (((tdiv a1 3) % 256) % 3)) ∧ w'.cell? ⟨g_h, 0, none⟩ = some (.int .i64 2) ∧ w'.cell? ⟨g_h, 1, none⟩ = some (.int .i64 2) ∧ w'.cell? ⟨g_g, 0, none⟩ = some (.int .i64 (wrap64 (tmod a1 3))) ∧ w'.cell? ⟨g_g, 1, none⟩ = some (.int .i64 ji5)) (ds := []) (bm 53 0) (by kernel_rfl) rfl rfl ⟨(blk_cell B_a.out 0).trans rfl, (blk_cell B_a.out 1).trans rfl, (blk_cell B_b.out 0).trans rfl, (blk_cell B_b.out 1).trans rfl, (blk_cell B_c.out 0).trans rfl, (blk_cell B_c.out 1).trans rfl, (blk_cell B_d.out 0).trans rfl, (blk_cell B_d.out 1).trans rfl⟩ (fun hHeld => ?_); refine with_tabW law07_RulePunch.tab9 law07_RulePunch.bits9 (fun HT_ HW_ => ?_)
             generalize wc.drew = w48 at B_a B_b B_d B_c HB hHeld ⊢
             refine pure_ (i := 0) (N := some 46) (v := ?_) (a' := ?_) (bm 53 1) rfl rfl (any_of HT_.out (by kernel_rfl)) (fun _ _ _ h => h) (Or.inl ⟨by rfl, ?_⟩) ?_ ?_
             rotate_left
             ·intro w'
              go_simp
              with_reducible rfl
             rotate_left
             ·simp only [Act.put, setIfInBounds_toArray, set_cons_zero, set_cons_succ, i64_w, i32_w]
              rfl
             refine pure_ (i := 1) (N := some 47) (v := ?_) (a' := ?_) (bm 53 3) rfl rfl (any_of HT_.out (by kernel_rfl)) (fun _ _ _ h => h) (Or.inl ⟨by rfl, ?_⟩) ?_ ?_
             rotate_left
             ·intro w'
              go_simp
              with_reducible rfl
             rotate_left
             ·simp only [Act.put, setIfInBounds_toArray, set_cons_zero, set_cons_succ, i64_w, i32_w]
              rfl
             refine take_ (i := 2) (N := some 48) (v := ?_) (a' := ?_) (bm 53 7) rfl rfl (take_ofW HT_.out HW_.out (by kernel_rfl)) (fun _ _ _ h => h) (Or.inl ⟨by rfl, ?_⟩) hHeld ?_ ?_
             rotate_left
             ·rintro w' ⟨s0, s1, s2, s3, s4, s5, s6, s7⟩
              go_simp
              with_reducible rfl
             rotate_left
             ·simp only [Act.put, setIfInBounds_toArray, set_cons_zero, set_cons_succ, i64_w, i32_w]
              rfl
             refine take_ (i := 3) (N := some 49) (v := ?_) (a' := ?_) (bm 53 15) rfl rfl (take_ofW HT_.out HW_.out (by kernel_rfl)) (fun _ _ _ h => h) (Or.inl ⟨by rfl, ?_⟩) hHeld ?_ ?_
             rotate_left
             ·rintro w' ⟨s0, s1, s2, s3, s4, s5, s6, s7⟩
              go_simp
              with_reducible rfl
             rotate_left
             ·simp only [Act.put, setIfInBounds_toArray, set_cons_zero, set_cons_succ, i64_w, i32_w]
              rfl
             refine take_ (i := 5) (N := some 51) (v := ?_) (a' := ?_) (bm 53 47) rfl rfl (take_ofW HT_.out HW_.out (by kernel_rfl)) (fun _ _ _ h => h) (Or.inl ⟨by rfl, ?_⟩) hHeld ?_ ?_
             rotate_left
             ·rintro w' ⟨s0, s1, s2, s3, s4, s5, s6, s7⟩
              go_simp
              with_reducible rfl
             rotate_left
             ·simp only [Act.put, setIfInBounds_toArray, set_cons_zero, set_cons_succ, i64_w, i32_w]
              rfl
             refine take_ (i := 6) (N := some 52) (v := ?_) (a' := ?_) (bm 53 111) rfl rfl (take_ofW HT_.out HW_.out (by kernel_rfl)) (fun _ _ _ h => h) (Or.inl ⟨by rfl, ?_⟩) hHeld ?_ ?_
             rotate_left
             ·rintro w' ⟨s0, s1, s2, s3, s4, s5, s6, s7⟩
              go_simp
              with_reducible rfl
             rotate_left
             ·simp only [Act.put, setIfInBounds_toArray, set_cons_zero, set_cons_succ, i64_w, i32_w]
              rfl
             refine one_ (i := 4) (N := some 50) (bm 53 127) rfl rfl (one_of HT_.out (by kernel_rfl)) (by decide) (fun K hK => ?_)
             refine goes_ Try.func18 (by kernel_rfl) rfl #[.agg #[.int .i64 (wrap64 (tmod a0 3)), .int .i64 (((tdiv a0 3) % 256) % 3)], .agg #[.int .i64 (wrap64 (tmod a1 3)), .int .i64 (((tdiv a1 3) % 256) % 3)]] (by rfl) rfl rfl (by (try simp only [List.map_toArray, List.map_cons, List.map_nil]); first | done | rfl | (simp only [List.length_drop, List.length_take]; rfl)) ?_
             with_reducible refine (rule_Punch.calls kj5 (wrap64 (tmod a0 3)) (((tdiv a0 3) % 256) % 3) (wrap64 (tmod a1 3)) (((tdiv a1 3) % 256) % 3) true _ A31.out).mono ?_
             rintro e w49 ⟨rfl, hb⟩
             refine ⟨_, rfl, ?_⟩
             have n0_ := Aside0.mk (blk_below (g := g_e) (o := .cells #[.int .i64 (wrap64 (tmod a0 3)), .int .i64 (((tdiv a0 3) % 256) % 3)] 23 (0, 0)) (by (with_reducible repeat (first | refine blk_drewN ?_ _ | refine blk_drew ?_ | refine blk_alloc ?_ _)); exact B_a.out) hb)
             have n1_ := Aside0.mk (blk_below (g := g_f) (o := .cells #[.int .i64 (wrap64 (tmod a1 3)), .int .i64 (((tdiv a1 3) % 256) % 3)] 23 (0, 0)) (by (with_reducible repeat (first | refine blk_drewN ?_ _ | refine blk_drew ?_ | refine blk_alloc ?_ _)); exact B_b.out) hb)
             have n2_ := Aside0.mk (blk_below (g := g_g) (o := .cells #[.int .i64 (wrap64 (tmod a1 3)), .int .i64 ji5] 23 (0, 0)) (by (with_reducible repeat (first | refine blk_drewN ?_ _ | refine blk_drew ?_ | refine blk_alloc ?_ _)); exact B_d.out) hb)
             have n3_ := Aside0.mk (blk_below (g := g_h) (o := .cells #[.int .i64 2, .int .i64 2] 23 (0, 0)) (by (with_reducible repeat (first | refine blk_drewN ?_ _ | refine blk_drew ?_ | refine blk_alloc ?_ _)); exact B_c.out) hb)
             have n4_ := Aside0.mk (below_step (by repeat (first | (with_reducible first | exact HB.out | apply below_alloc | apply pw_below_drewN | apply below_drew1 | refine below_set ?_ G_i.out | refine below_set ?_ G_j.out | refine below_set ?_ G_k.out | refine below_set ?_ G_l.out) | exact HB.out)) hb)
             clear B_a
             clear B_b
             clear B_d
             clear B_c
             clear HB
             have B_a := n0_
             have B_b := n1_
             have B_d := n2_
             have B_c := n3_
             have HB := n4_
             clear n0_ n1_ n2_ n3_ n4_
             (try clear hb)
             (try clear hb2)
             (try clear hk)
             (try clear hi)
             refine hK.out _ _ ⟨(blk_cell B_a.out 0).trans rfl, (blk_cell B_a.out 1).trans rfl, (blk_cell B_b.out 0).trans rfl, (blk_cell B_b.out 1).trans rfl, (blk_cell B_c.out 0).trans rfl, (blk_cell B_c.out 1).trans rfl, (blk_cell B_d.out 0).trans rfl, (blk_cell B_d.out 1).trans rfl⟩ (fun hHeld => ?_)
             clear hK K
             refine norm_ (a' := ?_) ?_ ?_
             rotate_left
             ·show Act.put _ (some 50) _ = _
              simp only [Act.put, setIfInBounds_toArray, set_cons_zero, set_cons_succ, i64_w, i32_w]
              rfl
             refine one_ (i := 7) (N := some 53) (bm 53 255) rfl rfl (one_of HT_.out (by kernel_rfl)) (by decide) (fun K hK => ?_)
             refine goes_ Try.func18 (by kernel_rfl) rfl #[.agg #[.int .i64 (wrap64 (tmod a1 3)), .int .i64 (((tdiv a1 3) % 256) % 3)], .agg #[.int .i64 (wrap64 (tmod a0 3)), .int .i64 (((tdiv a0 3) % 256) % 3)]] (by rfl) rfl rfl (by (try simp only [List.map_toArray, List.map_cons, List.map_nil]); first | done | rfl | (simp only [List.length_drop, List.length_take]; rfl)) ?_
             with_reducible refine (rule_Punch.calls kj5 (wrap64 (tmod a1 3)) (((tdiv a1 3) % 256) % 3) (wrap64 (tmod a0 3)) (((tdiv a0 3) % 256) % 3) true _ A32.out).mono ?_
             rintro e w50 ⟨rfl, hb⟩
             refine ⟨_, rfl, ?_⟩
             have n0_ := Aside0.mk (blk_below (g := g_e) (o := .cells #[.int .i64 (wrap64 (tmod a0 3)), .int .i64 (((tdiv a0 3) % 256) % 3)] 23 (0, 0)) (by (with_reducible repeat (first | refine blk_drewN ?_ _ | refine blk_drew ?_ | refine blk_alloc ?_ _)); exact B_a.out) hb)
             have n1_ := Aside0.mk (blk_below (g := g_f) (o := .cells #[.int .i64 (wrap64 (tmod a1 3)), .int .i64 (((tdiv a1 3) % 256) % 3)] 23 (0, 0)) (by (with_reducible repeat (first | refine blk_drewN ?_ _ | refine blk_drew ?_ | refine blk_alloc ?_ _)); exact B_b.out) hb)
             have n2_ := Aside0.mk (blk_below (g := g_g) (o := .cells #[.int .i64 (wrap64 (tmod a1 3)), .int .i64 ji5] 23 (0, 0)) (by (with_reducible repeat (first | refine blk_drewN ?_ _ | refine blk_drew ?_ | refine blk_alloc ?_ _)); exact B_d.out) hb)
             have n3_ := Aside0.mk (blk_below (g := g_h) (o := .cells #[.int .i64 2, .int .i64 2] 23 (0, 0)) (by (with_reducible repeat (first | refine blk_drewN ?_ _ | refine blk_drew ?_ | refine blk_alloc ?_ _)); exact B_c.out) hb)
             have n4_ := Aside0.mk (below_step (by repeat (first | (with_reducible first | exact HB.out | apply below_alloc | apply pw_below_drewN | apply below_drew1 | refine below_set ?_ G_i.out | refine below_set ?_ G_j.out | refine below_set ?_ G_k.out | refine below_set ?_ G_l.out) | exact HB.out)) hb)
             clear B_a
             clear B_b
             clear B_d
             clear B_c
             clear HB
             have B_a := n0_
             have B_b := n1_
             have B_d := n2_
             have B_c := n3_
             have HB := n4_
             clear n0_ n1_ n2_ n3_ n4_
             (try clear hb)
             (try clear hb2)
             (try clear hk)
             (try clear hi)
             refine hK.out _ _ ⟨(blk_cell B_a.out 0).trans rfl, (blk_cell B_a.out 1).trans rfl, (blk_cell B_b.out 0).trans rfl, (blk_cell B_b.out 1).trans rfl, (blk_cell B_c.out 0).trans rfl, (blk_cell B_c.out 1).trans rfl, (blk_cell B_d.out 0).trans rfl, (blk_cell B_d.out 1).trans rfl⟩ (fun hHeld => ?_)
             clear hK K
             refine norm_ (a' := ?_) ?_ ?_
             rotate_left
             ·show Act.put _ (some 53) _ = _
              simp only [Act.put, setIfInBounds_toArray, set_cons_zero, set_cons_succ, i64_w, i32_w]
              rfl
             refine pure_ (i := 8) (N := some 54) (v := ?_) (a' := ?_) (bm 53 511) rfl rfl (any_of HT_.out (by kernel_rfl)) (fun _ _ _ h => h) (Or.inl ⟨by rfl, ?_⟩) ?_ ?_
             rotate_left
             ·intro w'
              go_simp
              with_reducible rfl
             rotate_left
             ·simp only [Act.put, setIfInBounds_toArray, set_cons_zero, set_cons_succ, i64_w, i32_w]
              rfl
             refine pure_ (i := 9) (N := some 55) (v := ?_) (a' := ?_) (bm 53 1023) rfl rfl (any_of HT_.out (by kernel_rfl)) (fun _ _ _ h => h) (Or.inl ⟨by rfl, ?_⟩) ?_ ?_
             rotate_left
             ·intro w'
              go_simp
              with_reducible rfl
             rotate_left
             ·simp only [Act.put, setIfInBounds_toArray, set_cons_zero, set_cons_succ, i64_w, i32_w]
              rfl
             refine pure_ (i := 10) (N := some 56) (v := ?_) (a' := ?_) (bm 53 2047) rfl rfl (any_of HT_.out (by kernel_rfl)) (fun _ _ _ h => h) (Or.inl ⟨by rfl, ?_⟩) ?_ ?_
             rotate_left
             ·intro w'
              go_simp
              with_reducible rfl
             rotate_left
             ·simp only [Act.put, setIfInBounds_toArray, set_cons_zero, set_cons_succ, i64_w, i32_w]
              rfl
             refine pure_ (i := 11) (N := some 57) (v := ?_) (a' := ?_) (bm 53 4095) rfl rfl (any_of HT_.out (by kernel_rfl)) (fun _ _ _ h => h) (Or.inl ⟨by rfl, ?_⟩) ?_ ?_
             rotate_left
             ·intro w'
              go_simp
              with_reducible rfl
             rotate_left
             ·simp only [Act.put, setIfInBounds_toArray, set_cons_zero, set_cons_succ, i64_w, i32_w]
              rfl
             refine pure_ (i := 12) (N := some 58) (v := ?_) (a' := ?_) (bm 53 8191) rfl rfl (any_of HT_.out (by kernel_rfl)) (fun _ _ _ h => h) (Or.inl ⟨by rfl, ?_⟩) ?_ ?_
             rotate_left
             ·intro w'
              go_simp
              with_reducible rfl
             rotate_left
             ·simp only [Act.put, setIfInBounds_toArray, set_cons_zero, set_cons_succ, i64_w, i32_w]
              rfl
             refine pure_ (i := 13) (N := some 59) (v := ?_) (a' := ?_) (bm 53 16383) rfl rfl (any_of HT_.out (by kernel_rfl)) (fun _ _ _ h => h) (Or.inl ⟨by rfl, ?_⟩) ?_ ?_
             rotate_left
             ·intro w'
              go_simp
              with_reducible rfl
             rotate_left
             ·simp only [Act.put, setIfInBounds_toArray, set_cons_zero, set_cons_succ, i64_w, i32_w]
              rfl
             refine take_ (i := 14) (N := some 60) (v := ?_) (a' := ?_) (bm 53 32767) rfl rfl (take_ofW HT_.out HW_.out (by kernel_rfl)) (fun _ _ _ h => h) (Or.inl ⟨by rfl, ?_⟩) hHeld ?_ ?_
             rotate_left
             ·rintro w' ⟨s0, s1, s2, s3, s4, s5, s6, s7⟩
              go_simp
              with_reducible rfl
             rotate_left
             ·simp only [Act.put, setIfInBounds_toArray, set_cons_zero, set_cons_succ, i64_w, i32_w]
              rfl
             refine take_ (i := 15) (N := some 61) (v := ?_) (a' := ?_) (bm 53 65535) rfl rfl (take_ofW HT_.out HW_.out (by kernel_rfl)) (fun _ _ _ h => h) (Or.inl ⟨by rfl, ?_⟩) hHeld ?_ ?_
             rotate_left
             ·rintro w' ⟨s0, s1, s2, s3, s4, s5, s6, s7⟩
              go_simp
              with_reducible rfl
             rotate_left
             ·simp only [Act.put, setIfInBounds_toArray, set_cons_zero, set_cons_succ, i64_w, i32_w]
              rfl
             refine one_ (i := 16) (N := some 62) (bm 53 131071) rfl rfl (one_of HT_.out (by kernel_rfl)) (by decide) (fun K hK => ?_)
             refine goes_ Try.func18 (by kernel_rfl) rfl #[.agg #[.int .i64 (wrap64 (tmod a0 3)), .int .i64 (((tdiv a0 3) % 256) % 3)], .agg #[.int .i64 (wrap64 (tmod a1 3)), .int .i64 (((tdiv a1 3) % 256) % 3)]] (by rfl) rfl rfl (by (try simp only [List.map_toArray, List.map_cons, List.map_nil]); first | done | rfl | (simp only [List.length_drop, List.length_take]; rfl)) ?_
             with_reducible refine (rule_Punch.calls kj5 (wrap64 (tmod a0 3)) (((tdiv a0 3) % 256) % 3) (wrap64 (tmod a1 3)) (((tdiv a1 3) % 256) % 3) true _ A36.out).mono ?_
             rintro e w51 ⟨rfl, hb⟩
             refine ⟨_, rfl, ?_⟩
             have n0_ := Aside0.mk (blk_below (g := g_e) (o := .cells #[.int .i64 (wrap64 (tmod a0 3)), .int .i64 (((tdiv a0 3) % 256) % 3)] 23 (0, 0)) (by (with_reducible repeat (first | refine blk_drewN ?_ _ | refine blk_drew ?_ | refine blk_alloc ?_ _)); exact B_a.out) hb)
             have n1_ := Aside0.mk (blk_below (g := g_f) (o := .cells #[.int .i64 (wrap64 (tmod a1 3)), .int .i64 (((tdiv a1 3) % 256) % 3)] 23 (0, 0)) (by (with_reducible repeat (first | refine blk_drewN ?_ _ | refine blk_drew ?_ | refine blk_alloc ?_ _)); exact B_b.out) hb)
             have n2_ := Aside0.mk (blk_below (g := g_g) (o := .cells #[.int .i64 (wrap64 (tmod a1 3)), .int .i64 ji5] 23 (0, 0)) (by (with_reducible repeat (first | refine blk_drewN ?_ _ | refine blk_drew ?_ | refine blk_alloc ?_ _)); exact B_d.out) hb)
             have n3_ := Aside0.mk (blk_below (g := g_h) (o := .cells #[.int .i64 2, .int .i64 2] 23 (0, 0)) (by (with_reducible repeat (first | refine blk_drewN ?_ _ | refine blk_drew ?_ | refine blk_alloc ?_ _)); exact B_c.out) hb)
             have n4_ := Aside0.mk (below_step (by repeat (first | (with_reducible first | exact HB.out | apply below_alloc | apply pw_below_drewN | apply below_drew1 | refine below_set ?_ G_i.out | refine below_set ?_ G_j.out | refine below_set ?_ G_k.out | refine below_set ?_ G_l.out) | exact HB.out)) hb)
             clear B_a
             clear B_b
             clear B_d
             clear B_c
             clear HB
             have B_a := n0_
             have B_b := n1_
             have B_d := n2_
             have B_c := n3_
             have HB := n4_
             clear n0_ n1_ n2_ n3_ n4_
             (try clear hb)
             (try clear hb2)
             (try clear hk)
             (try clear hi)
             refine hK.out _ _ ⟨(blk_cell B_a.out 0).trans rfl, (blk_cell B_a.out 1).trans rfl, (blk_cell B_b.out 0).trans rfl, (blk_cell B_b.out 1).trans rfl, (blk_cell B_c.out 0).trans rfl, (blk_cell B_c.out 1).trans rfl, (blk_cell B_d.out 0).trans rfl, (blk_cell B_d.out 1).trans rfl⟩ (fun hHeld => ?_)
             clear hK K
             refine norm_ (a' := ?_) ?_ ?_
             rotate_left
             ·show Act.put _ (some 62) _ = _
              simp only [Act.put, setIfInBounds_toArray, set_cons_zero, set_cons_succ, i64_w, i32_w]
              rfl
             refine pure_ (i := 17) (N := some 63) (v := ?_) (a' := ?_) (bm 53 262143) rfl rfl (any_of HT_.out (by kernel_rfl)) (fun _ _ _ h => h) (Or.inl ⟨by rfl, ?_⟩) ?_ ?_
             rotate_left
             ·intro w'
              go_simp
              with_reducible rfl
             rotate_left
             ·simp only [Act.put, setIfInBounds_toArray, set_cons_zero, set_cons_succ, i64_w, i32_w]
              rfl
             refine pure_ (i := 18) (N := some 64) (v := ?_) (a' := ?_) (bm 53 524287) rfl rfl (any_of HT_.out (by kernel_rfl)) (fun _ _ _ h => h) (Or.inl ⟨by rfl, ?_⟩) ?_ ?_
             rotate_left
             ·intro w'
              go_simp
              with_reducible rfl
             rotate_left
             ·simp only [Act.put, setIfInBounds_toArray, set_cons_zero, set_cons_succ, i64_w, i32_w]
              rfl
             refine pure_ (i := 19) (N := some 65) (v := ?_) (a' := ?_) (bm 53 1048575) rfl rfl (any_of HT_.out (by kernel_rfl)) (fun _ _ _ h => h) (Or.inl ⟨by rfl, ?_⟩) ?_ ?_
             rotate_left
             ·intro w'
              go_simp
              with_reducible rfl
             rotate_left
             ·simp only [Act.put, setIfInBounds_toArray, set_cons_zero, set_cons_succ, i64_w, i32_w]
              rfl
             refine take_ (i := 20) (N := some 66) (v := ?_) (a' := ?_) (bm 53 2097151) rfl rfl (take_ofW HT_.out HW_.out (by kernel_rfl)) (fun _ _ _ h => h) (Or.inl ⟨by rfl, ?_⟩) hHeld ?_ ?_
             rotate_left
             ·rintro w' ⟨s0, s1, s2, s3, s4, s5, s6, s7⟩
              go_simp
              with_reducible rfl
             rotate_left
             ·simp only [Act.put, setIfInBounds_toArray, set_cons_zero, set_cons_succ, i64_w, i32_w]
              rfl
             refine take_ (i := 21) (N := some 67) (v := ?_) (a' := ?_) (bm 53 4194303) rfl rfl (take_ofW HT_.out HW_.out (by kernel_rfl)) (fun _ _ _ h => h) (Or.inl ⟨by rfl, ?_⟩) hHeld ?_ ?_
             rotate_left
             ·rintro w' ⟨s0, s1, s2, s3, s4, s5, s6, s7⟩
              go_simp
              with_reducible rfl
             rotate_left
             ·simp only [Act.put, setIfInBounds_toArray, set_cons_zero, set_cons_succ, i64_w, i32_w]
              rfl
             refine one_ (i := 22) (N := some 68) (bm 53 8388607) rfl rfl (one_of HT_.out (by kernel_rfl)) (by decide) (fun K hK => ?_)
             refine goes_ Try.func18 (by kernel_rfl) rfl #[.agg #[.int .i64 2, .int .i64 2], .agg #[.int .i64 2, .int .i64 2]] (by rfl) rfl rfl (by (try simp only [List.map_toArray, List.map_cons, List.map_nil]); first | done | rfl | (simp only [List.length_drop, List.length_take]; rfl)) ?_
             with_reducible refine (rule_Punch.calls kj5 2 2 2 2 false _ A38.out).mono ?_
             rintro e w52 ⟨rfl, hb⟩
             refine ⟨_, rfl, ?_⟩
             have n0_ := Aside0.mk (blk_below (g := g_e) (o := .cells #[.int .i64 (wrap64 (tmod a0 3)), .int .i64 (((tdiv a0 3) % 256) % 3)] 23 (0, 0)) (by (with_reducible repeat (first | refine blk_drewN ?_ _ | refine blk_drew ?_ | refine blk_alloc ?_ _)); exact B_a.out) hb)
             have n1_ := Aside0.mk (blk_below (g := g_f) (o := .cells #[.int .i64 (wrap64 (tmod a1 3)), .int .i64 (((tdiv a1 3) % 256) % 3)] 23 (0, 0)) (by (with_reducible repeat (first | refine blk_drewN ?_ _ | refine blk_drew ?_ | refine blk_alloc ?_ _)); exact B_b.out) hb)
             have n2_ := Aside0.mk (blk_below (g := g_g) (o := .cells #[.int .i64 (wrap64 (tmod a1 3)), .int .i64 ji5] 23 (0, 0)) (by (with_reducible repeat (first | refine blk_drewN ?_ _ | refine blk_drew ?_ | refine blk_alloc ?_ _)); exact B_d.out) hb)
             have n3_ := Aside0.mk (blk_below (g := g_h) (o := .cells #[.int .i64 2, .int .i64 2] 23 (0, 0)) (by (with_reducible repeat (first | refine blk_drewN ?_ _ | refine blk_drew ?_ | refine blk_alloc ?_ _)); exact B_c.out) hb)
             have n4_ := Aside0.mk (below_step (by repeat (first | (with_reducible first | exact HB.out | apply below_alloc | apply pw_below_drewN | apply below_drew1 | refine below_set ?_ G_i.out | refine below_set ?_ G_j.out | refine below_set ?_ G_k.out | refine below_set ?_ G_l.out) | exact HB.out)) hb)
             clear B_a
             clear B_b
             clear B_d
             clear B_c
             clear HB
             have B_a := n0_
             have B_b := n1_
             have B_d := n2_
             have B_c := n3_
             have HB := n4_
             clear n0_ n1_ n2_ n3_ n4_
             (try clear hb)
             (try clear hb2)
             (try clear hk)
             (try clear hi)
             refine hK.out _ _ ⟨(blk_cell B_a.out 0).trans rfl, (blk_cell B_a.out 1).trans rfl, (blk_cell B_b.out 0).trans rfl, (blk_cell B_b.out 1).trans rfl, (blk_cell B_c.out 0).trans rfl, (blk_cell B_c.out 1).trans rfl, (blk_cell B_d.out 0).trans rfl, (blk_cell B_d.out 1).trans rfl⟩ (fun hHeld => ?_)
             clear hK K
             refine norm_ (a' := ?_) ?_ ?_
             rotate_left
             ·show Act.put _ (some 68) _ = _
              simp only [Act.put, setIfInBounds_toArray, set_cons_zero, set_cons_succ, i64_w, i32_w]
              rfl
             refine pure_ (i := 23) (N := some 69) (v := ?_) (a' := ?_) (bm 53 16777215) rfl rfl (any_of HT_.out (by kernel_rfl)) (fun _ _ _ h => h) (Or.inl ⟨by rfl, ?_⟩) ?_ ?_
             rotate_left
             ·intro w'
              go_simp
              with_reducible rfl
             rotate_left
             ·simp only [Act.put, setIfInBounds_toArray, set_cons_zero, set_cons_succ, i64_w, i32_w]
              rfl
             refine pure_ (i := 24) (N := some 70) (v := ?_) (a' := ?_) (bm 53 33554431) rfl rfl (any_of HT_.out (by kernel_rfl)) (fun _ _ _ h => h) (Or.inl ⟨by rfl, ?_⟩) ?_ ?_
             rotate_left
             ·intro w'
              go_simp
              with_reducible rfl
             rotate_left
             ·simp only [Act.put, setIfInBounds_toArray, set_cons_zero, set_cons_succ, i64_w, i32_w]
              rfl
             refine pure_ (i := 25) (N := some 71) (v := ?_) (a' := ?_) (bm 53 67108863) rfl rfl (any_of HT_.out (by kernel_rfl)) (fun _ _ _ h => h) (Or.inl ⟨by rfl, ?_⟩) ?_ ?_
             rotate_left
             ·intro w'
              go_simp
              with_reducible rfl
             rotate_left
             ·simp only [Act.put, setIfInBounds_toArray, set_cons_zero, set_cons_succ, i64_w, i32_w]
              rfl
             refine take_ (i := 26) (N := some 72) (v := ?_) (a' := ?_) (bm 53 134217727) rfl rfl (take_ofW HT_.out HW_.out (by kernel_rfl)) (fun _ _ _ h => h) (Or.inl ⟨by rfl, ?_⟩) hHeld ?_ ?_
             rotate_left
             ·rintro w' ⟨s0, s1, s2, s3, s4, s5, s6, s7⟩
              go_simp
              with_reducible rfl
             rotate_left
             ·simp only [Act.put, setIfInBounds_toArray, set_cons_zero, set_cons_succ, i64_w, i32_w]
              rfl
             refine take_ (i := 27) (N := some 73) (v := ?_) (a' := ?_) (bm 53 268435455) rfl rfl (take_ofW HT_.out HW_.out (by kernel_rfl)) (fun _ _ _ h => h) (Or.inl ⟨by rfl, ?_⟩) hHeld ?_ ?_
             rotate_left
             ·rintro w' ⟨s0, s1, s2, s3, s4, s5, s6, s7⟩
              go_simp
              with_reducible rfl
             rotate_left
             ·simp only [Act.put, setIfInBounds_toArray, set_cons_zero, set_cons_succ, i64_w, i32_w]
              rfl
             refine one_ (i := 28) (N := some 74) (bm 53 536870911) rfl rfl (one_of HT_.out (by kernel_rfl)) (by decide) (fun K hK => ?_)
             refine goes_ Try.func18 (by kernel_rfl) rfl #[.agg #[.int .i64 (wrap64 (tmod a0 3)), .int .i64 (((tdiv a0 3) % 256) % 3)], .agg #[.int .i64 (wrap64 (tmod a1 3)), .int .i64 (((tdiv a1 3) % 256) % 3)]] (by rfl) rfl rfl (by (try simp only [List.map_toArray, List.map_cons, List.map_nil]); first | done | rfl | (simp only [List.length_drop, List.length_take]; rfl)) ?_
             with_reducible refine (rule_Punch.calls kj5 (wrap64 (tmod a0 3)) (((tdiv a0 3) % 256) % 3) (wrap64 (tmod a1 3)) (((tdiv a1 3) % 256) % 3) true _ A40.out).mono ?_
             rintro e w53 ⟨rfl, hb⟩
             refine ⟨_, rfl, ?_⟩
             have n0_ := Aside0.mk (blk_below (g := g_e) (o := .cells #[.int .i64 (wrap64 (tmod a0 3)), .int .i64 (((tdiv a0 3) % 256) % 3)] 23 (0, 0)) (by (with_reducible repeat (first | refine blk_drewN ?_ _ | refine blk_drew ?_ | refine blk_alloc ?_ _)); exact B_a.out) hb)
             have n1_ := Aside0.mk (blk_below (g := g_f) (o := .cells #[.int .i64 (wrap64 (tmod a1 3)), .int .i64 (((tdiv a1 3) % 256) % 3)] 23 (0, 0)) (by (with_reducible repeat (first | refine blk_drewN ?_ _ | refine blk_drew ?_ | refine blk_alloc ?_ _)); exact B_b.out) hb)
             have n2_ := Aside0.mk (blk_below (g := g_g) (o := .cells #[.int .i64 (wrap64 (tmod a1 3)), .int .i64 ji5] 23 (0, 0)) (by (with_reducible repeat (first | refine blk_drewN ?_ _ | refine blk_drew ?_ | refine blk_alloc ?_ _)); exact B_d.out) hb)
             have n3_ := Aside0.mk (blk_below (g := g_h) (o := .cells #[.int .i64 2, .int .i64 2] 23 (0, 0)) (by (with_reducible repeat (first | refine blk_drewN ?_ _ | refine blk_drew ?_ | refine blk_alloc ?_ _)); exact B_c.out) hb)
             have n4_ := Aside0.mk (below_step (by repeat (first | (with_reducible first | exact HB.out | apply below_alloc | apply pw_below_drewN | apply below_drew1 | refine below_set ?_ G_i.out | refine below_set ?_ G_j.out | refine below_set ?_ G_k.out | refine below_set ?_ G_l.out) | exact HB.out)) hb)
             clear B_a
             clear B_b
             clear B_d
             clear B_c
             clear HB
             have B_a := n0_
             have B_b := n1_
             have B_d := n2_
             have B_c := n3_
             have HB := n4_
             clear n0_ n1_ n2_ n3_ n4_
             (try clear hb)
             (try clear hb2)
             (try clear hk)
             (try clear hi)
             refine hK.out _ _ ⟨(blk_cell B_a.out 0).trans rfl, (blk_cell B_a.out 1).trans rfl, (blk_cell B_b.out 0).trans rfl, (blk_cell B_b.out 1).trans rfl, (blk_cell B_c.out 0).trans rfl, (blk_cell B_c.out 1).trans rfl, (blk_cell B_d.out 0).trans rfl, (blk_cell B_d.out 1).trans rfl⟩ (fun hHeld => ?_)
             clear hK K
             refine norm_ (a' := ?_) ?_ ?_
             rotate_left
             ·show Act.put _ (some 74) _ = _
              simp only [Act.put, setIfInBounds_toArray, set_cons_zero, set_cons_succ, i64_w, i32_w]
              rfl
             refine pure_ (i := 29) (N := some 75) (v := ?_) (a' := ?_) (bm 53 1073741823) rfl rfl (any_of HT_.out (by kernel_rfl)) (fun _ _ _ h => h) (Or.inl ⟨by rfl, ?_⟩) ?_ ?_
             rotate_left
             ·intro w'
              go_simp
              with_reducible rfl
             rotate_left
             ·simp only [Act.put, setIfInBounds_toArray, set_cons_zero, set_cons_succ, i64_w, i32_w]
              rfl
             refine pure_ (i := 30) (N := some 76) (v := ?_) (a' := ?_) (bm 53 2147483647) rfl rfl (any_of HT_.out (by kernel_rfl)) (fun _ _ _ h => h) (Or.inl ⟨by rfl, ?_⟩) ?_ ?_
             rotate_left
             ·intro w'
              go_simp
              with_reducible rfl
             rotate_left
             ·simp only [Act.put, setIfInBounds_toArray, set_cons_zero, set_cons_succ, i64_w, i32_w]
              rfl
             refine take_ (i := 31) (N := some 77) (v := ?_) (a' := ?_) (bm 53 4294967295) rfl rfl (take_ofW HT_.out HW_.out (by kernel_rfl)) (fun _ _ _ h => h) (Or.inl ⟨by rfl, ?_⟩) hHeld ?_ ?_
             rotate_left
             ·rintro w' ⟨s0, s1, s2, s3, s4, s5, s6, s7⟩
              go_simp
              with_reducible rfl
             rotate_left
             ·simp only [Act.put, setIfInBounds_toArray, set_cons_zero, set_cons_succ, i64_w, i32_w]
              rfl
             refine take_ (i := 32) (N := some 78) (v := ?_) (a' := ?_) (bm 53 8589934591) rfl rfl (take_ofW HT_.out HW_.out (by kernel_rfl)) (fun _ _ _ h => h) (Or.inl ⟨by rfl, ?_⟩) hHeld ?_ ?_
             rotate_left
             ·rintro w' ⟨s0, s1, s2, s3, s4, s5, s6, s7⟩
              go_simp
              with_reducible rfl
             rotate_left
             ·simp only [Act.put, setIfInBounds_toArray, set_cons_zero, set_cons_succ, i64_w, i32_w]
              rfl
             refine one_ (i := 33) (N := some 79) (bm 53 17179869183) rfl rfl (one_of HT_.out (by kernel_rfl)) (by decide) (fun K hK => ?_)
             refine goes_ Try.func18 (by kernel_rfl) rfl #[.agg #[.int .i64 (wrap64 (tmod a0 3)), .int .i64 (((tdiv a0 3) % 256) % 3)], .agg #[.int .i64 (wrap64 (tmod a1 3)), .int .i64 ji5]] (by rfl) rfl rfl (by (try simp only [List.map_toArray, List.map_cons, List.map_nil]); first | done | (simp only [hji5]; rfl) | rfl | (simp only [List.length_drop, List.length_take]; rfl)) ?_
             with_reducible refine (rule_Punch.calls kj5 (wrap64 (tmod a0 3)) (((tdiv a0 3) % 256) % 3) (wrap64 (tmod a1 3)) ji5 true _ A42.out).mono ?_
             rintro e w54 ⟨rfl, hb⟩
             refine ⟨_, rfl, ?_⟩
             have n0_ := Aside0.mk (blk_below (g := g_e) (o := .cells #[.int .i64 (wrap64 (tmod a0 3)), .int .i64 (((tdiv a0 3) % 256) % 3)] 23 (0, 0)) (by (with_reducible repeat (first | refine blk_drewN ?_ _ | refine blk_drew ?_ | refine blk_alloc ?_ _)); exact B_a.out) hb)
             have n1_ := Aside0.mk (blk_below (g := g_f) (o := .cells #[.int .i64 (wrap64 (tmod a1 3)), .int .i64 (((tdiv a1 3) % 256) % 3)] 23 (0, 0)) (by (with_reducible repeat (first | refine blk_drewN ?_ _ | refine blk_drew ?_ | refine blk_alloc ?_ _)); exact B_b.out) hb)
             have n2_ := Aside0.mk (blk_below (g := g_g) (o := .cells #[.int .i64 (wrap64 (tmod a1 3)), .int .i64 ji5] 23 (0, 0)) (by (with_reducible repeat (first | refine blk_drewN ?_ _ | refine blk_drew ?_ | refine blk_alloc ?_ _)); exact B_d.out) hb)
             have n3_ := Aside0.mk (blk_below (g := g_h) (o := .cells #[.int .i64 2, .int .i64 2] 23 (0, 0)) (by (with_reducible repeat (first | refine blk_drewN ?_ _ | refine blk_drew ?_ | refine blk_alloc ?_ _)); exact B_c.out) hb)
             have n4_ := Aside0.mk (below_step (by repeat (first | (with_reducible first | exact HB.out | apply below_alloc | apply pw_below_drewN | apply below_drew1 | refine below_set ?_ G_i.out | refine below_set ?_ G_j.out | refine below_set ?_ G_k.out | refine below_set ?_ G_l.out) | exact HB.out)) hb)
             clear B_a
             clear B_b
             clear B_d
             clear B_c
             clear HB
             have B_a := n0_
             have B_b := n1_
             have B_d := n2_
             have B_c := n3_
             have HB := n4_
             clear n0_ n1_ n2_ n3_ n4_
             (try clear hb)
             (try clear hb2)
             (try clear hk)
             (try clear hi)
             refine hK.out _ _ ⟨(blk_cell B_a.out 0).trans rfl, (blk_cell B_a.out 1).trans rfl, (blk_cell B_b.out 0).trans rfl, (blk_cell B_b.out 1).trans rfl, (blk_cell B_c.out 0).trans rfl, (blk_cell B_c.out 1).trans rfl, (blk_cell B_d.out 0).trans rfl, (blk_cell B_d.out 1).trans rfl⟩ (fun hHeld => ?_)
             clear hK K
             refine norm_ (a' := ?_) ?_ ?_
             rotate_left
             ·show Act.put _ (some 79) _ = _
              simp only [Act.put, setIfInBounds_toArray, set_cons_zero, set_cons_succ, i64_w, i32_w]
              rfl
             refine pure_ (i := 34) (N := some 80) (v := ?_) (a' := ?_) (bm 53 34359738367) rfl rfl (any_of HT_.out (by kernel_rfl)) (fun _ _ _ h => h) (Or.inl ⟨by rfl, ?_⟩) ?_ ?_
             rotate_left
             ·intro w'
              go_simp
              with_reducible rfl
             rotate_left
             ·simp only [Act.put, setIfInBounds_toArray, set_cons_zero, set_cons_succ, i64_w, i32_w]
              rfl
             refine pure_ (i := 35) (N := some 81) (v := ?_) (a' := ?_) (bm 53 68719476735) rfl rfl (any_of HT_.out (by kernel_rfl)) (fun _ _ _ h => h) (Or.inl ⟨by rfl, ?_⟩) ?_ ?_
             rotate_left
             ·intro w'
              go_simp
              with_reducible rfl
             rotate_left
             ·simp only [Act.put, setIfInBounds_toArray, set_cons_zero, set_cons_succ, i64_w, i32_w]
              rfl
             refine pure_ (i := 36) (N := some 82) (v := ?_) (a' := ?_) (bm 53 137438953471) rfl rfl (any_of HT_.out (by kernel_rfl)) (fun _ _ _ h => h) (Or.inl ⟨by rfl, ?_⟩) ?_ ?_
             rotate_left
             ·intro w'
              go_simp
              with_reducible rfl
             rotate_left
             ·simp only [Act.put, setIfInBounds_toArray, set_cons_zero, set_cons_succ, i64_w, i32_w]
              rfl
             refine take_ (i := 37) (N := some 83) (v := ?_) (a' := ?_) (bm 53 274877906943) rfl rfl (take_ofW HT_.out HW_.out (by kernel_rfl)) (fun _ _ _ h => h) (Or.inl ⟨by rfl, ?_⟩) hHeld ?_ ?_
             rotate_left
             ·rintro w' ⟨s0, s1, s2, s3, s4, s5, s6, s7⟩
              go_simp
              with_reducible rfl
             rotate_left
             ·simp only [Act.put, setIfInBounds_toArray, set_cons_zero, set_cons_succ, i64_w, i32_w]
              rfl
             refine take_ (i := 38) (N := some 84) (v := ?_) (a' := ?_) (bm 53 549755813887) rfl rfl (take_ofW HT_.out HW_.out (by kernel_rfl)) (fun _ _ _ h => h) (Or.inl ⟨by rfl, ?_⟩) hHeld ?_ ?_
             rotate_left
             ·rintro w' ⟨s0, s1, s2, s3, s4, s5, s6, s7⟩
              go_simp
              with_reducible rfl
             rotate_left
             ·simp only [Act.put, setIfInBounds_toArray, set_cons_zero, set_cons_succ, i64_w, i32_w]
              rfl
             refine one_ (i := 39) (N := some 85) (bm 53 1099511627775) rfl rfl (one_of HT_.out (by kernel_rfl)) (by decide) (fun K hK => ?_)
             refine goes_ Try.func18 (by kernel_rfl) rfl #[.agg #[.int .i64 (wrap64 (tmod a0 3)), .int .i64 (((tdiv a0 3) % 256) % 3)], .agg #[.int .i64 (wrap64 (tmod a1 3)), .int .i64 (((tdiv a1 3) % 256) % 3)]] (by rfl) rfl rfl (by (try simp only [List.map_toArray, List.map_cons, List.map_nil]); first | done | rfl | (simp only [List.length_drop, List.length_take]; rfl)) ?_
             with_reducible refine (rule_Punch.calls kj5 (wrap64 (tmod a0 3)) (((tdiv a0 3) % 256) % 3) (wrap64 (tmod a1 3)) (((tdiv a1 3) % 256) % 3) true _ A44.out).mono ?_
             rintro e w55 ⟨rfl, hb⟩
             refine ⟨_, rfl, ?_⟩
             have n0_ := Aside0.mk (blk_below (g := g_e) (o := .cells #[.int .i64 (wrap64 (tmod a0 3)), .int .i64 (((tdiv a0 3) % 256) % 3)] 23 (0, 0)) (by (with_reducible repeat (first | refine blk_drewN ?_ _ | refine blk_drew ?_ | refine blk_alloc ?_ _)); exact B_a.out) hb)
             have n1_ := Aside0.mk (blk_below (g := g_f) (o := .cells #[.int .i64 (wrap64 (tmod a1 3)), .int .i64 (((tdiv a1 3) % 256) % 3)] 23 (0, 0)) (by (with_reducible repeat (first | refine blk_drewN ?_ _ | refine blk_drew ?_ | refine blk_alloc ?_ _)); exact B_b.out) hb)
             have n2_ := Aside0.mk (blk_below (g := g_g) (o := .cells #[.int .i64 (wrap64 (tmod a1 3)), .int .i64 ji5] 23 (0, 0)) (by (with_reducible repeat (first | refine blk_drewN ?_ _ | refine blk_drew ?_ | refine blk_alloc ?_ _)); exact B_d.out) hb)
             have n3_ := Aside0.mk (blk_below (g := g_h) (o := .cells #[.int .i64 2, .int .i64 2] 23 (0, 0)) (by (with_reducible repeat (first | refine blk_drewN ?_ _ | refine blk_drew ?_ | refine blk_alloc ?_ _)); exact B_c.out) hb)
             have n4_ := Aside0.mk (below_step (by repeat (first | (with_reducible first | exact HB.out | apply below_alloc | apply pw_below_drewN | apply below_drew1 | refine below_set ?_ G_i.out | refine below_set ?_ G_j.out | refine below_set ?_ G_k.out | refine below_set ?_ G_l.out) | exact HB.out)) hb)
             clear B_a
             clear B_b
             clear B_d
             clear B_c
             clear HB
             have B_a := n0_
             have B_b := n1_
             have B_d := n2_
             have B_c := n3_
             have HB := n4_
             clear n0_ n1_ n2_ n3_ n4_
             (try clear hb)
             (try clear hb2)
             (try clear hk)
             (try clear hi)
             refine hK.out _ _ ⟨(blk_cell B_a.out 0).trans rfl, (blk_cell B_a.out 1).trans rfl, (blk_cell B_b.out 0).trans rfl, (blk_cell B_b.out 1).trans rfl, (blk_cell B_c.out 0).trans rfl, (blk_cell B_c.out 1).trans rfl, (blk_cell B_d.out 0).trans rfl, (blk_cell B_d.out 1).trans rfl⟩ (fun hHeld => ?_)
             clear hK K
             refine norm_ (a' := ?_) ?_ ?_
             rotate_left
             ·show Act.put _ (some 85) _ = _
              simp only [Act.put, setIfInBounds_toArray, set_cons_zero, set_cons_succ, i64_w, i32_w]
              rfl
             refine pure_ (i := 40) (N := some 86) (v := ?_) (a' := ?_) (bm 53 2199023255551) rfl rfl (any_of HT_.out (by kernel_rfl)) (fun _ _ _ h => h) (Or.inl ⟨by rfl, ?_⟩) ?_ ?_
             rotate_left
             ·intro w'
              go_simp
              with_reducible rfl
             rotate_left
             ·simp only [Act.put, setIfInBounds_toArray, set_cons_zero, set_cons_succ, i64_w, i32_w]
              rfl
             refine pure_ (i := 41) (N := some 87) (v := ?_) (a' := ?_) (bm 53 4398046511103) rfl rfl (any_of HT_.out (by kernel_rfl)) (fun _ _ _ h => h) (Or.inl ⟨by rfl, ?_⟩) ?_ ?_
             rotate_left
             ·intro w'
              go_simp
              with_reducible rfl
             rotate_left
             ·simp only [Act.put, setIfInBounds_toArray, set_cons_zero, set_cons_succ, i64_w, i32_w]
              rfl
             refine take_ (i := 42) (N := some 88) (v := ?_) (a' := ?_) (bm 53 8796093022207) rfl rfl (take_ofW HT_.out HW_.out (by kernel_rfl)) (fun _ _ _ h => h) (Or.inl ⟨by rfl, ?_⟩) hHeld ?_ ?_
             rotate_left
             ·rintro w' ⟨s0, s1, s2, s3, s4, s5, s6, s7⟩
              go_simp
              with_reducible rfl
             rotate_left
             ·simp only [Act.put, setIfInBounds_toArray, set_cons_zero, set_cons_succ, i64_w, i32_w]
              rfl
             refine take_ (i := 43) (N := some 89) (v := ?_) (a' := ?_) (bm 53 17592186044415) rfl rfl (take_ofW HT_.out HW_.out (by kernel_rfl)) (fun _ _ _ h => h) (Or.inl ⟨by rfl, ?_⟩) hHeld ?_ ?_
             rotate_left
             ·rintro w' ⟨s0, s1, s2, s3, s4, s5, s6, s7⟩
              go_simp
              with_reducible rfl
             rotate_left
             ·simp only [Act.put, setIfInBounds_toArray, set_cons_zero, set_cons_succ, i64_w, i32_w]
              rfl
             refine one_ (i := 44) (N := some 90) (bm 53 35184372088831) rfl rfl (one_of HT_.out (by kernel_rfl)) (by decide) (fun K hK => ?_)
             refine goes_ Try.func16 (by kernel_rfl) rfl #[.agg #[.int .i64 (wrap64 (tmod a0 3)), .int .i64 (((tdiv a0 3) % 256) % 3)], .agg #[.int .i64 (wrap64 (tmod a1 3)), .int .i64 (((tdiv a1 3) % 256) % 3)]] (by rfl) rfl rfl (by (try simp only [List.map_toArray, List.map_cons, List.map_nil]); first | done | rfl | (simp only [List.length_drop, List.length_take]; rfl)) ?_
             with_reducible refine (rule_Through.calls kj5 (wrap64 (tmod a0 3)) (((tdiv a0 3) % 256) % 3) (wrap64 (tmod a1 3)) (((tdiv a1 3) % 256) % 3) true _ A46.out).mono ?_
             rintro e w56 ⟨rfl, hb⟩
             refine ⟨_, rfl, ?_⟩
             have n0_ := Aside0.mk (blk_below (g := g_e) (o := .cells #[.int .i64 (wrap64 (tmod a0 3)), .int .i64 (((tdiv a0 3) % 256) % 3)] 23 (0, 0)) (by (with_reducible repeat (first | refine blk_drewN ?_ _ | refine blk_drew ?_ | refine blk_alloc ?_ _)); exact B_a.out) hb)
             have n1_ := Aside0.mk (blk_below (g := g_f) (o := .cells #[.int .i64 (wrap64 (tmod a1 3)), .int .i64 (((tdiv a1 3) % 256) % 3)] 23 (0, 0)) (by (with_reducible repeat (first | refine blk_drewN ?_ _ | refine blk_drew ?_ | refine blk_alloc ?_ _)); exact B_b.out) hb)
             have n2_ := Aside0.mk (blk_below (g := g_g) (o := .cells #[.int .i64 (wrap64 (tmod a1 3)), .int .i64 ji5] 23 (0, 0)) (by (with_reducible repeat (first | refine blk_drewN ?_ _ | refine blk_drew ?_ | refine blk_alloc ?_ _)); exact B_d.out) hb)
             have n3_ := Aside0.mk (blk_below (g := g_h) (o := .cells #[.int .i64 2, .int .i64 2] 23 (0, 0)) (by (with_reducible repeat (first | refine blk_drewN ?_ _ | refine blk_drew ?_ | refine blk_alloc ?_ _)); exact B_c.out) hb)
             have n4_ := Aside0.mk (below_step (by repeat (first | (with_reducible first | exact HB.out | apply below_alloc | apply pw_below_drewN | apply below_drew1 | refine below_set ?_ G_i.out | refine below_set ?_ G_j.out | refine below_set ?_ G_k.out | refine below_set ?_ G_l.out) | exact HB.out)) hb)
             clear B_a
             clear B_b
             clear B_d
             clear B_c
             clear HB
             have B_a := n0_
             have B_b := n1_
             have B_d := n2_
             have B_c := n3_
             have HB := n4_
             clear n0_ n1_ n2_ n3_ n4_
             (try clear hb)
             (try clear hb2)
             (try clear hk)
             (try clear hi)
             refine hK.out _ _ ⟨(blk_cell B_a.out 0).trans rfl, (blk_cell B_a.out 1).trans rfl, (blk_cell B_b.out 0).trans rfl, (blk_cell B_b.out 1).trans rfl, (blk_cell B_c.out 0).trans rfl, (blk_cell B_c.out 1).trans rfl, (blk_cell B_d.out 0).trans rfl, (blk_cell B_d.out 1).trans rfl⟩ (fun hHeld => ?_)
             clear hK K
             refine norm_ (a' := ?_) ?_ ?_
             rotate_left
             ·show Act.put _ (some 90) _ = _
              simp only [Act.put, setIfInBounds_toArray, set_cons_zero, set_cons_succ, i64_w, i32_w]
              rfl
             refine pure_ (i := 45) (N := some 91) (v := ?_) (a' := ?_) (bm 53 70368744177663) rfl rfl (any_of HT_.out (by kernel_rfl)) (fun _ _ _ h => h) (Or.inl ⟨by rfl, ?_⟩) ?_ ?_
             rotate_left
             ·intro w'
              go_simp
              with_reducible rfl
             rotate_left
             ·simp only [Act.put, setIfInBounds_toArray, set_cons_zero, set_cons_succ, i64_w, i32_w]
              rfl
             refine pure_ (i := 46) (N := some 92) (v := ?_) (a' := ?_) (bm 53 140737488355327) rfl rfl (any_of HT_.out (by kernel_rfl)) (fun _ _ _ h => h) (Or.inl ⟨by rfl, ?_⟩) ?_ ?_
             rotate_left
             ·intro w'
              go_simp
              with_reducible rfl
             rotate_left
             ·simp only [Act.put, setIfInBounds_toArray, set_cons_zero, set_cons_succ, i64_w, i32_w]
              rfl
             refine pure_ (i := 47) (N := some 93) (v := undef) (a' := ?_) (bm 53 281474976710655) rfl rfl (any_of HT_.out (by kernel_rfl)) (fun _ _ _ h => h) (Or.inr ⟨by rfl, rfl⟩) ?_ ?_
             rotate_left
             ·simp only [Act.put, setIfInBounds_toArray, set_cons_zero, set_cons_succ, i64_w, i32_w]
              rfl
             refine pure_ (i := 48) (N := some 94) (v := undef) (a' := ?_) (bm 53 562949953421311) rfl rfl (any_of HT_.out (by kernel_rfl)) (fun _ _ _ h => h) (Or.inr ⟨by rfl, rfl⟩) ?_ ?_
             rotate_left
             ·simp only [Act.put, setIfInBounds_toArray, set_cons_zero, set_cons_succ, i64_w, i32_w]
              rfl
             refine pure_ (i := 49) (N := some 95) (v := undef) (a' := ?_) (bm 53 1125899906842623) rfl rfl (any_of HT_.out (by kernel_rfl)) (fun _ _ _ h => h) (Or.inr ⟨by rfl, rfl⟩) ?_ ?_
             rotate_left
             ·simp only [Act.put, setIfInBounds_toArray, set_cons_zero, set_cons_succ, i64_w, i32_w]
              rfl
             refine pure_ (i := 50) (N := some 96) (v := ?_) (a' := ?_) (bm 53 2251799813685247) rfl rfl (any_of HT_.out (by kernel_rfl)) (fun _ _ _ h => h) (Or.inl ⟨by rfl, ?_⟩) ?_ ?_
             rotate_left
             ·intro w'
              go_simp
              with_reducible rfl
             rotate_left
             ·simp only [Act.put, setIfInBounds_toArray, set_cons_zero, set_cons_succ, i64_w, i32_w]
              rfl
             refine pure_ (i := 51) (N := some 97) (v := ?_) (a' := ?_) (bm 53 4503599627370495) rfl rfl (any_of HT_.out (by kernel_rfl)) (fun _ _ _ h => h) (Or.inl ⟨by rfl, ?_⟩) ?_ ?_
             rotate_left
             ·intro w'
              go_simp
              with_reducible rfl
             rotate_left
             ·simp only [Act.put, setIfInBounds_toArray, set_cons_zero, set_cons_succ, i64_w, i32_w]
              rfl
             refine pure_ (i := 52) (N := some 4) (v := ?_) (a' := ?_) (bm 53 9007199254740991) rfl rfl (any_of HT_.out (by kernel_rfl)) (fun _ _ _ h => h) (Or.inl ⟨by rfl, ?_⟩) ?_ ?_
             rotate_left
             ·intro w'
              go_simp
              with_reducible rfl
             rotate_left
             ·simp only [Act.put, setIfInBounds_toArray, set_cons_zero, set_cons_succ, i64_w, i32_w]
              rfl
             refine done_ (done_of HT_.out (by kernel_rfl)) ?_
             try go_wp2
             go_ret
             exact ⟨by first | rfl | (simp [errW_none, errW_some] <;> rfl) | (simp only [← hji5]; first | rfl | (simp [errW_none, errW_some] <;> rfl)) | (simp [*, errW_none, errW_some] <;> rfl), by repeat (first | (with_reducible first | exact HB.out | apply below_alloc | apply pw_below_drewN | apply below_drew1 | refine below_set ?_ G_i.out | refine below_set ?_ G_j.out | refine below_set ?_ G_k.out | refine below_set ?_ G_l.out) | exact HB.out)⟩
            ·replace c47 := Bool.eq_false_iff.mpr c47
             (first | subst c47 | clear c47)
             have H1 : ((rule_Through.f kj5 (wrap64 (tmod a1 3)) (((tdiv a1 3) % 256) % 3) (wrap64 (tmod a0 3)) (((tdiv a0 3) % 256) % 3)).bind fun t147 => (some t147)) = some r := by rw [if_neg (show ¬ (false = true) by decide)] at H; exact H
             clear H
             have H := H1
             clear H1
             replace H := Option.bind_eq_some_iff.mp H
             obtain ⟨t147, A570, H⟩ := H
             replace H : (some t147) = some r := H
             have A57 := Aside0.mk A570
             clear A570
             obtain rfl := Option.some.inj H
             try go_wp2
             have n0_ := Aside0.mk (blk_drew B_a.out)
             have n1_ := Aside0.mk (blk_drew B_b.out)
             have n2_ := Aside0.mk (blk_drew B_d.out)
             have n3_ := Aside0.mk (blk_drew B_c.out)
             have n4_ := Aside0.mk (below_drew1 HB.out)
             clear B_a
             clear B_b
             clear B_d
             clear B_c
             clear HB
             have B_a := n0_
             have B_b := n1_
             have B_d := n2_
             have B_c := n3_
             have HB := n4_
             clear n0_ n1_ n2_ n3_ n4_
             refine start_ (n := 53) (S := fun w' => w'.cell? ⟨g_e, 0, none⟩ = some (.int .i64 (wrap64 (tmod a0 3))) ∧ w'.cell? ⟨g_e, 1, none⟩ = some (.int .i64 (((tdiv a0 3) % 256) % 3)) ∧ w'.cell? ⟨g_f, 0, none⟩ = some (.int .i64 (wrap64 (tmod a1 3))) ∧ w'.cell? ⟨g_f, 1, none⟩ = some (.int .i64 (((tdiv a1 3) % 256) % 3)) ∧ w'.cell? ⟨g_h, 0, none⟩ = some (.int .i64 2) ∧ w'.cell? ⟨g_h, 1, none⟩ = some (.int .i64 2) ∧ w'.cell? ⟨g_g, 0, none⟩ = some (.int .i64 (wrap64 (tmod a1 3))) ∧ w'.cell? ⟨g_g, 1, none⟩ = some (.int .i64 ji5)) (ds := []) (bm 53 0) (by kernel_rfl) rfl rfl ⟨(blk_cell B_a.out 0).trans rfl, (blk_cell B_a.out 1).trans rfl, (blk_cell B_b.out 0).trans rfl, (blk_cell B_b.out 1).trans rfl, (blk_cell B_c.out 0).trans rfl, (blk_cell B_c.out 1).trans rfl, (blk_cell B_d.out 0).trans rfl, (blk_cell B_d.out 1).trans rfl⟩ (fun hHeld => ?_); refine with_tabW law07_RulePunch.tab9 law07_RulePunch.bits9 (fun HT_ HW_ => ?_)
             generalize wc.drew = w58 at B_a B_b B_d B_c HB hHeld ⊢
             refine pure_ (i := 0) (N := some 46) (v := ?_) (a' := ?_) (bm 53 1) rfl rfl (any_of HT_.out (by kernel_rfl)) (fun _ _ _ h => h) (Or.inl ⟨by rfl, ?_⟩) ?_ ?_
             rotate_left
             ·intro w'
              go_simp
              with_reducible rfl
             rotate_left
             ·simp only [Act.put, setIfInBounds_toArray, set_cons_zero, set_cons_succ, i64_w, i32_w]
              rfl
             refine pure_ (i := 1) (N := some 47) (v := ?_) (a' := ?_) (bm 53 3) rfl rfl (any_of HT_.out (by kernel_rfl)) (fun _ _ _ h => h) (Or.inl ⟨by rfl, ?_⟩) ?_ ?_
             rotate_left
             ·intro w'
              go_simp
              with_reducible rfl
             rotate_left
             ·simp only [Act.put, setIfInBounds_toArray, set_cons_zero, set_cons_succ, i64_w, i32_w]
              rfl
             refine take_ (i := 2) (N := some 48) (v := ?_) (a' := ?_) (bm 53 7) rfl rfl (take_ofW HT_.out HW_.out (by kernel_rfl)) (fun _ _ _ h => h) (Or.inl ⟨by rfl, ?_⟩) hHeld ?_ ?_
             rotate_left
             ·rintro w' ⟨s0, s1, s2, s3, s4, s5, s6, s7⟩
              go_simp
              with_reducible rfl
             rotate_left
             ·simp only [Act.put, setIfInBounds_toArray, set_cons_zero, set_cons_succ, i64_w, i32_w]
              rfl
             refine take_ (i := 3) (N := some 49) (v := ?_) (a' := ?_) (bm 53 15) rfl rfl (take_ofW HT_.out HW_.out (by kernel_rfl)) (fun _ _ _ h => h) (Or.inl ⟨by rfl, ?_⟩) hHeld ?_ ?_
             rotate_left
             ·rintro w' ⟨s0, s1, s2, s3, s4, s5, s6, s7⟩
              go_simp
              with_reducible rfl
             rotate_left
             ·simp only [Act.put, setIfInBounds_toArray, set_cons_zero, set_cons_succ, i64_w, i32_w]
              rfl
             refine take_ (i := 5) (N := some 51) (v := ?_) (a' := ?_) (bm 53 47) rfl rfl (take_ofW HT_.out HW_.out (by kernel_rfl)) (fun _ _ _ h => h) (Or.inl ⟨by rfl, ?_⟩) hHeld ?_ ?_
             rotate_left
             ·rintro w' ⟨s0, s1, s2, s3, s4, s5, s6, s7⟩
              go_simp
              with_reducible rfl
             rotate_left
             ·simp only [Act.put, setIfInBounds_toArray, set_cons_zero, set_cons_succ, i64_w, i32_w]
              rfl
             refine take_ (i := 6) (N := some 52) (v := ?_) (a' := ?_) (bm 53 111) rfl rfl (take_ofW HT_.out HW_.out (by kernel_rfl)) (fun _ _ _ h => h) (Or.inl ⟨by rfl, ?_⟩) hHeld ?_ ?_
             rotate_left
             ·rintro w' ⟨s0, s1, s2, s3, s4, s5, s6, s7⟩
              go_simp
              with_reducible rfl
             rotate_left
             ·simp only [Act.put, setIfInBounds_toArray, set_cons_zero, set_cons_succ, i64_w, i32_w]
              rfl
             refine one_ (i := 4) (N := some 50) (bm 53 127) rfl rfl (one_of HT_.out (by kernel_rfl)) (by decide) (fun K hK => ?_)
             refine goes_ Try.func18 (by kernel_rfl) rfl #[.agg #[.int .i64 (wrap64 (tmod a0 3)), .int .i64 (((tdiv a0 3) % 256) % 3)], .agg #[.int .i64 (wrap64 (tmod a1 3)), .int .i64 (((tdiv a1 3) % 256) % 3)]] (by rfl) rfl rfl (by (try simp only [List.map_toArray, List.map_cons, List.map_nil]); first | done | rfl | (simp only [List.length_drop, List.length_take]; rfl)) ?_
             with_reducible refine (rule_Punch.calls kj5 (wrap64 (tmod a0 3)) (((tdiv a0 3) % 256) % 3) (wrap64 (tmod a1 3)) (((tdiv a1 3) % 256) % 3) true _ A31.out).mono ?_
             rintro e w59 ⟨rfl, hb⟩
             refine ⟨_, rfl, ?_⟩
             have n0_ := Aside0.mk (blk_below (g := g_e) (o := .cells #[.int .i64 (wrap64 (tmod a0 3)), .int .i64 (((tdiv a0 3) % 256) % 3)] 23 (0, 0)) (by (with_reducible repeat (first | refine blk_drewN ?_ _ | refine blk_drew ?_ | refine blk_alloc ?_ _)); exact B_a.out) hb)
             have n1_ := Aside0.mk (blk_below (g := g_f) (o := .cells #[.int .i64 (wrap64 (tmod a1 3)), .int .i64 (((tdiv a1 3) % 256) % 3)] 23 (0, 0)) (by (with_reducible repeat (first | refine blk_drewN ?_ _ | refine blk_drew ?_ | refine blk_alloc ?_ _)); exact B_b.out) hb)
             have n2_ := Aside0.mk (blk_below (g := g_g) (o := .cells #[.int .i64 (wrap64 (tmod a1 3)), .int .i64 ji5] 23 (0, 0)) (by (with_reducible repeat (first | refine blk_drewN ?_ _ | refine blk_drew ?_ | refine blk_alloc ?_ _)); exact B_d.out) hb)
             have n3_ := Aside0.mk (blk_below (g := g_h) (o := .cells #[.int .i64 2, .int .i64 2] 23 (0, 0)) (by (with_reducible repeat (first | refine blk_drewN ?_ _ | refine blk_drew ?_ | refine blk_alloc ?_ _)); exact B_c.out) hb)
             have n4_ := Aside0.mk (below_step (by repeat (first | (with_reducible first | exact HB.out | apply below_alloc | apply pw_below_drewN | apply below_drew1 | refine below_set ?_ G_i.out | refine below_set ?_ G_j.out | refine below_set ?_ G_k.out | refine below_set ?_ G_l.out) | exact HB.out)) hb)
             clear B_a
             clear B_b
             clear B_d
             clear B_c
             clear HB
             have B_a := n0_
             have B_b := n1_
             have B_d := n2_
             have B_c := n3_
             have HB := n4_
             clear n0_ n1_ n2_ n3_ n4_
             (try clear hb)
             (try clear hb2)
             (try clear hk)
             (try clear hi)
             refine hK.out _ _ ⟨(blk_cell B_a.out 0).trans rfl, (blk_cell B_a.out 1).trans rfl, (blk_cell B_b.out 0).trans rfl, (blk_cell B_b.out 1).trans rfl, (blk_cell B_c.out 0).trans rfl, (blk_cell B_c.out 1).trans rfl, (blk_cell B_d.out 0).trans rfl, (blk_cell B_d.out 1).trans rfl⟩ (fun hHeld => ?_)
             clear hK K
             refine norm_ (a' := ?_) ?_ ?_
             rotate_left
             ·show Act.put _ (some 50) _ = _
              simp only [Act.put, setIfInBounds_toArray, set_cons_zero, set_cons_succ, i64_w, i32_w]
              rfl
             refine one_ (i := 7) (N := some 53) (bm 53 255) rfl rfl (one_of HT_.out (by kernel_rfl)) (by decide) (fun K hK => ?_)
             refine goes_ Try.func18 (by kernel_rfl) rfl #[.agg #[.int .i64 (wrap64 (tmod a1 3)), .int .i64 (((tdiv a1 3) % 256) % 3)], .agg #[.int .i64 (wrap64 (tmod a0 3)), .int .i64 (((tdiv a0 3) % 256) % 3)]] (by rfl) rfl rfl (by (try simp only [List.map_toArray, List.map_cons, List.map_nil]); first | done | rfl | (simp only [List.length_drop, List.length_take]; rfl)) ?_
             with_reducible refine (rule_Punch.calls kj5 (wrap64 (tmod a1 3)) (((tdiv a1 3) % 256) % 3) (wrap64 (tmod a0 3)) (((tdiv a0 3) % 256) % 3) true _ A32.out).mono ?_
             rintro e w60 ⟨rfl, hb⟩
             refine ⟨_, rfl, ?_⟩
             have n0_ := Aside0.mk (blk_below (g := g_e) (o := .cells #[.int .i64 (wrap64 (tmod a0 3)), .int .i64 (((tdiv a0 3) % 256) % 3)] 23 (0, 0)) (by (with_reducible repeat (first | refine blk_drewN ?_ _ | refine blk_drew ?_ | refine blk_alloc ?_ _)); exact B_a.out) hb)
             have n1_ := Aside0.mk (blk_below (g := g_f) (o := .cells #[.int .i64 (wrap64 (tmod a1 3)), .int .i64 (((tdiv a1 3) % 256) % 3)] 23 (0, 0)) (by (with_reducible repeat (first | refine blk_drewN ?_ _ | refine blk_drew ?_ | refine blk_alloc ?_ _)); exact B_b.out) hb)
             have n2_ := Aside0.mk (blk_below (g := g_g) (o := .cells #[.int .i64 (wrap64 (tmod a1 3)), .int .i64 ji5] 23 (0, 0)) (by (with_reducible repeat (first | refine blk_drewN ?_ _ | refine blk_drew ?_ | refine blk_alloc ?_ _)); exact B_d.out) hb)
             have n3_ := Aside0.mk (blk_below (g := g_h) (o := .cells #[.int .i64 2, .int .i64 2] 23 (0, 0)) (by (with_reducible repeat (first | refine blk_drewN ?_ _ | refine blk_drew ?_ | refine blk_alloc ?_ _)); exact B_c.out) hb)
             have n4_ := Aside0.mk (below_step (by repeat (first | (with_reducible first | exact HB.out | apply below_alloc | apply pw_below_drewN | apply below_drew1 | refine below_set ?_ G_i.out | refine below_set ?_ G_j.out | refine below_set ?_ G_k.out | refine below_set ?_ G_l.out) | exact HB.out)) hb)
             clear B_a
             clear B_b
             clear B_d
             clear B_c
             clear HB
             have B_a := n0_
             have B_b := n1_
             have B_d := n2_
             have B_c := n3_
             have HB := n4_
             clear n0_ n1_ n2_ n3_ n4_
             (try clear hb)
             (try clear hb2)
             (try clear hk)
             (try clear hi)
             refine hK.out _ _ ⟨(blk_cell B_a.out 0).trans rfl, (blk_cell B_a.out 1).trans rfl, (blk_cell B_b.out 0).trans rfl, (blk_cell B_b.out 1).trans rfl, (blk_cell B_c.out 0).trans rfl, (blk_cell B_c.out 1).trans rfl, (blk_cell B_d.out 0).trans rfl, (blk_cell B_d.out 1).trans rfl⟩ (fun hHeld => ?_)
             clear hK K
             refine norm_ (a' := ?_) ?_ ?_
             rotate_left
             ·show Act.put _ (some 53) _ = _
              simp only [Act.put, setIfInBounds_toArray, set_cons_zero, set_cons_succ, i64_w, i32_w]
              rfl
             refine pure_ (i := 8) (N := some 54) (v := ?_) (a' := ?_) (bm 53 511) rfl rfl (any_of HT_.out (by kernel_rfl)) (fun _ _ _ h => h) (Or.inl ⟨by rfl, ?_⟩) ?_ ?_
             rotate_left
             ·intro w'
              go_simp
              with_reducible rfl
             rotate_left
             ·simp only [Act.put, setIfInBounds_toArray, set_cons_zero, set_cons_succ, i64_w, i32_w]
              rfl
             refine pure_ (i := 9) (N := some 55) (v := ?_) (a' := ?_) (bm 53 1023) rfl rfl (any_of HT_.out (by kernel_rfl)) (fun _ _ _ h => h) (Or.inl ⟨by rfl, ?_⟩) ?_ ?_
             rotate_left
             ·intro w'
              go_simp
              with_reducible rfl
             rotate_left
             ·simp only [Act.put, setIfInBounds_toArray, set_cons_zero, set_cons_succ, i64_w, i32_w]
              rfl
             refine pure_ (i := 10) (N := some 56) (v := ?_) (a' := ?_) (bm 53 2047) rfl rfl (any_of HT_.out (by kernel_rfl)) (fun _ _ _ h => h) (Or.inl ⟨by rfl, ?_⟩) ?_ ?_
             rotate_left
             ·intro w'
              go_simp
              with_reducible rfl
             rotate_left
             ·simp only [Act.put, setIfInBounds_toArray, set_cons_zero, set_cons_succ, i64_w, i32_w]
              rfl
             refine pure_ (i := 11) (N := some 57) (v := ?_) (a' := ?_) (bm 53 4095) rfl rfl (any_of HT_.out (by kernel_rfl)) (fun _ _ _ h => h) (Or.inl ⟨by rfl, ?_⟩) ?_ ?_
             rotate_left
             ·intro w'
              go_simp
              with_reducible rfl
             rotate_left
             ·simp only [Act.put, setIfInBounds_toArray, set_cons_zero, set_cons_succ, i64_w, i32_w]
              rfl
             refine pure_ (i := 12) (N := some 58) (v := ?_) (a' := ?_) (bm 53 8191) rfl rfl (any_of HT_.out (by kernel_rfl)) (fun _ _ _ h => h) (Or.inl ⟨by rfl, ?_⟩) ?_ ?_
             rotate_left
             ·intro w'
              go_simp
              with_reducible rfl
             rotate_left
             ·simp only [Act.put, setIfInBounds_toArray, set_cons_zero, set_cons_succ, i64_w, i32_w]
              rfl
             refine pure_ (i := 13) (N := some 59) (v := ?_) (a' := ?_) (bm 53 16383) rfl rfl (any_of HT_.out (by kernel_rfl)) (fun _ _ _ h => h) (Or.inl ⟨by rfl, ?_⟩) ?_ ?_
             rotate_left
             ·intro w'
              go_simp
              with_reducible rfl
             rotate_left
             ·simp only [Act.put, setIfInBounds_toArray, set_cons_zero, set_cons_succ, i64_w, i32_w]
              rfl
             refine take_ (i := 14) (N := some 60) (v := ?_) (a' := ?_) (bm 53 32767) rfl rfl (take_ofW HT_.out HW_.out (by kernel_rfl)) (fun _ _ _ h => h) (Or.inl ⟨by rfl, ?_⟩) hHeld ?_ ?_
             rotate_left
             ·rintro w' ⟨s0, s1, s2, s3, s4, s5, s6, s7⟩
              go_simp
              with_reducible rfl
             rotate_left
             ·simp only [Act.put, setIfInBounds_toArray, set_cons_zero, set_cons_succ, i64_w, i32_w]
              rfl
             refine take_ (i := 15) (N := some 61) (v := ?_) (a' := ?_) (bm 53 65535) rfl rfl (take_ofW HT_.out HW_.out (by kernel_rfl)) (fun _ _ _ h => h) (Or.inl ⟨by rfl, ?_⟩) hHeld ?_ ?_
             rotate_left
             ·rintro w' ⟨s0, s1, s2, s3, s4, s5, s6, s7⟩
              go_simp
              with_reducible rfl
             rotate_left
             ·simp only [Act.put, setIfInBounds_toArray, set_cons_zero, set_cons_succ, i64_w, i32_w]
              rfl
             refine one_ (i := 16) (N := some 62) (bm 53 131071) rfl rfl (one_of HT_.out (by kernel_rfl)) (by decide) (fun K hK => ?_)
             refine goes_ Try.func18 (by kernel_rfl) rfl #[.agg #[.int .i64 (wrap64 (tmod a0 3)), .int .i64 (((tdiv a0 3) % 256) % 3)], .agg #[.int .i64 (wrap64 (tmod a1 3)), .int .i64 (((tdiv a1 3) % 256) % 3)]] (by rfl) rfl rfl (by (try simp only [List.map_toArray, List.map_cons, List.map_nil]); first | done | rfl | (simp only [List.length_drop, List.length_take]; rfl)) ?_
             with_reducible refine (rule_Punch.calls kj5 (wrap64 (tmod a0 3)) (((tdiv a0 3) % 256) % 3) (wrap64 (tmod a1 3)) (((tdiv a1 3) % 256) % 3) true _ A36.out).mono ?_
             rintro e w61 ⟨rfl, hb⟩
             refine ⟨_, rfl, ?_⟩
             have n0_ := Aside0.mk (blk_below (g := g_e) (o := .cells #[.int .i64 (wrap64 (tmod a0 3)), .int .i64 (((tdiv a0 3) % 256) % 3)] 23 (0, 0)) (by (with_reducible repeat (first | refine blk_drewN ?_ _ | refine blk_drew ?_ | refine blk_alloc ?_ _)); exact B_a.out) hb)
             have n1_ := Aside0.mk (blk_below (g := g_f) (o := .cells #[.int .i64 (wrap64 (tmod a1 3)), .int .i64 (((tdiv a1 3) % 256) % 3)] 23 (0, 0)) (by (with_reducible repeat (first | refine blk_drewN ?_ _ | refine blk_drew ?_ | refine blk_alloc ?_ _)); exact B_b.out) hb)
             have n2_ := Aside0.mk (blk_below (g := g_g) (o := .cells #[.int .i64 (wrap64 (tmod a1 3)), .int .i64 ji5] 23 (0, 0)) (by (with_reducible repeat (first | refine blk_drewN ?_ _ | refine blk_drew ?_ | refine blk_alloc ?_ _)); exact B_d.out) hb)
             have n3_ := Aside0.mk (blk_below (g := g_h) (o := .cells #[.int .i64 2, .int .i64 2] 23 (0, 0)) (by (with_reducible repeat (first | refine blk_drewN ?_ _ | refine blk_drew ?_ | refine blk_alloc ?_ _)); exact B_c.out) hb)
             have n4_ := Aside0.mk (below_step (by repeat (first | (with_reducible first | exact HB.out | apply below_alloc | apply pw_below_drewN | apply below_drew1 | refine below_set ?_ G_i.out | refine below_set ?_ G_j.out | refine below_set ?_ G_k.out | refine below_set ?_ G_l.out) | exact HB.out)) hb)
             clear B_a
             clear B_b
             clear B_d
             clear B_c
             clear HB
             have B_a := n0_
             have B_b := n1_
             have B_d := n2_
             have B_c := n3_
             have HB := n4_
             clear n0_ n1_ n2_ n3_ n4_
             (try clear hb)
             (try clear hb2)
             (try clear hk)
             (try clear hi)
             refine hK.out _ _ ⟨(blk_cell B_a.out 0).trans rfl, (blk_cell B_a.out 1).trans rfl, (blk_cell B_b.out 0).trans rfl, (blk_cell B_b.out 1).trans rfl, (blk_cell B_c.out 0).trans rfl, (blk_cell B_c.out 1).trans rfl, (blk_cell B_d.out 0).trans rfl, (blk_cell B_d.out 1).trans rfl⟩ (fun hHeld => ?_)
             clear hK K
             refine norm_ (a' := ?_) ?_ ?_
             rotate_left
             ·show Act.put _ (some 62) _ = _
              simp only [Act.put, setIfInBounds_toArray, set_cons_zero, set_cons_succ, i64_w, i32_w]
              rfl
             refine pure_ (i := 17) (N := some 63) (v := ?_) (a' := ?_) (bm 53 262143) rfl rfl (any_of HT_.out (by kernel_rfl)) (fun _ _ _ h => h) (Or.inl ⟨by rfl, ?_⟩) ?_ ?_
             rotate_left
             ·intro w'
              go_simp
              with_reducible rfl
             rotate_left
             ·simp only [Act.put, setIfInBounds_toArray, set_cons_zero, set_cons_succ, i64_w, i32_w]
              rfl
             refine pure_ (i := 18) (N := some 64) (v := ?_) (a' := ?_) (bm 53 524287) rfl rfl (any_of HT_.out (by kernel_rfl)) (fun _ _ _ h => h) (Or.inl ⟨by rfl, ?_⟩) ?_ ?_
             rotate_left
             ·intro w'
              go_simp
              with_reducible rfl
             rotate_left
             ·simp only [Act.put, setIfInBounds_toArray, set_cons_zero, set_cons_succ, i64_w, i32_w]
              rfl
             refine pure_ (i := 19) (N := some 65) (v := ?_) (a' := ?_) (bm 53 1048575) rfl rfl (any_of HT_.out (by kernel_rfl)) (fun _ _ _ h => h) (Or.inl ⟨by rfl, ?_⟩) ?_ ?_
             rotate_left
             ·intro w'
              go_simp
              with_reducible rfl
             rotate_left
             ·simp only [Act.put, setIfInBounds_toArray, set_cons_zero, set_cons_succ, i64_w, i32_w]
              rfl
             refine take_ (i := 20) (N := some 66) (v := ?_) (a' := ?_) (bm 53 2097151) rfl rfl (take_ofW HT_.out HW_.out (by kernel_rfl)) (fun _ _ _ h => h) (Or.inl ⟨by rfl, ?_⟩) hHeld ?_ ?_
             rotate_left
             ·rintro w' ⟨s0, s1, s2, s3, s4, s5, s6, s7⟩
              go_simp
              with_reducible rfl
             rotate_left
             ·simp only [Act.put, setIfInBounds_toArray, set_cons_zero, set_cons_succ, i64_w, i32_w]
              rfl
             refine take_ (i := 21) (N := some 67) (v := ?_) (a' := ?_) (bm 53 4194303) rfl rfl (take_ofW HT_.out HW_.out (by kernel_rfl)) (fun _ _ _ h => h) (Or.inl ⟨by rfl, ?_⟩) hHeld ?_ ?_
             rotate_left
             ·rintro w' ⟨s0, s1, s2, s3, s4, s5, s6, s7⟩
              go_simp
              with_reducible rfl
             rotate_left
             ·simp only [Act.put, setIfInBounds_toArray, set_cons_zero, set_cons_succ, i64_w, i32_w]
              rfl
             refine one_ (i := 22) (N := some 68) (bm 53 8388607) rfl rfl (one_of HT_.out (by kernel_rfl)) (by decide) (fun K hK => ?_)
             refine goes_ Try.func18 (by kernel_rfl) rfl #[.agg #[.int .i64 2, .int .i64 2], .agg #[.int .i64 2, .int .i64 2]] (by rfl) rfl rfl (by (try simp only [List.map_toArray, List.map_cons, List.map_nil]); first | done | rfl | (simp only [List.length_drop, List.length_take]; rfl)) ?_
             with_reducible refine (rule_Punch.calls kj5 2 2 2 2 false _ A38.out).mono ?_
             rintro e w62 ⟨rfl, hb⟩
             refine ⟨_, rfl, ?_⟩
             have n0_ := Aside0.mk (blk_below (g := g_e) (o := .cells #[.int .i64 (wrap64 (tmod a0 3)), .int .i64 (((tdiv a0 3) % 256) % 3)] 23 (0, 0)) (by (with_reducible repeat (first | refine blk_drewN ?_ _ | refine blk_drew ?_ | refine blk_alloc ?_ _)); exact B_a.out) hb)
             have n1_ := Aside0.mk (blk_below (g := g_f) (o := .cells #[.int .i64 (wrap64 (tmod a1 3)), .int .i64 (((tdiv a1 3) % 256) % 3)] 23 (0, 0)) (by (with_reducible repeat (first | refine blk_drewN ?_ _ | refine blk_drew ?_ | refine blk_alloc ?_ _)); exact B_b.out) hb)
             have n2_ := Aside0.mk (blk_below (g := g_g) (o := .cells #[.int .i64 (wrap64 (tmod a1 3)), .int .i64 ji5] 23 (0, 0)) (by (with_reducible repeat (first | refine blk_drewN ?_ _ | refine blk_drew ?_ | refine blk_alloc ?_ _)); exact B_d.out) hb)
             have n3_ := Aside0.mk (blk_below (g := g_h) (o := .cells #[.int .i64 2, .int .i64 2] 23 (0, 0)) (by (with_reducible repeat (first | refine blk_drewN ?_ _ | refine blk_drew ?_ | refine blk_alloc ?_ _)); exact B_c.out) hb)
             have n4_ := Aside0.mk (below_step (by repeat (first | (with_reducible first | exact HB.out | apply below_alloc | apply pw_below_drewN | apply below_drew1 | refine below_set ?_ G_i.out | refine below_set ?_ G_j.out | refine below_set ?_ G_k.out | refine below_set ?_ G_l.out) | exact HB.out)) hb)
             clear B_a
             clear B_b
             clear B_d
             clear B_c
             clear HB
             have B_a := n0_
             have B_b := n1_
             have B_d := n2_
             have B_c := n3_
             have HB := n4_
             clear n0_ n1_ n2_ n3_ n4_
             (try clear hb)
             (try clear hb2)
             (try clear hk)
             (try clear hi)
             refine hK.out _ _ ⟨(blk_cell B_a.out 0).trans rfl, (blk_cell B_a.out 1).trans rfl, (blk_cell B_b.out 0).trans rfl, (blk_cell B_b.out 1).trans rfl, (blk_cell B_c.out 0).trans rfl, (blk_cell B_c.out 1).trans rfl, (blk_cell B_d.out 0).trans rfl, (blk_cell B_d.out 1).trans rfl⟩ (fun hHeld => ?_)
             clear hK K
             refine norm_ (a' := ?_) ?_ ?_
             rotate_left
             ·show Act.put _ (some 68) _ = _
              simp only [Act.put, setIfInBounds_toArray, set_cons_zero, set_cons_succ, i64_w, i32_w]
              rfl
             refine pure_ (i := 23) (N := some 69) (v := ?_) (a' := ?_) (bm 53 16777215) rfl rfl (any_of HT_.out (by kernel_rfl)) (fun _ _ _ h => h) (Or.inl ⟨by rfl, ?_⟩) ?_ ?_
             rotate_left
             ·intro w'
              go_simp
              with_reducible rfl
             rotate_left
             ·simp only [Act.put, setIfInBounds_toArray, set_cons_zero, set_cons_succ, i64_w, i32_w]
              rfl
             refine pure_ (i := 24) (N := some 70) (v := ?_) (a' := ?_) (bm 53 33554431) rfl rfl (any_of HT_.out (by kernel_rfl)) (fun _ _ _ h => h) (Or.inl ⟨by rfl, ?_⟩) ?_ ?_
             rotate_left
             ·intro w'
              go_simp
              with_reducible rfl
             rotate_left
             ·simp only [Act.put, setIfInBounds_toArray, set_cons_zero, set_cons_succ, i64_w, i32_w]
              rfl
             refine pure_ (i := 25) (N := some 71) (v := ?_) (a' := ?_) (bm 53 67108863) rfl rfl (any_of HT_.out (by kernel_rfl)) (fun _ _ _ h => h) (Or.inl ⟨by rfl, ?_⟩) ?_ ?_
             rotate_left
             ·intro w'
              go_simp
              with_reducible rfl
             rotate_left
             ·simp only [Act.put, setIfInBounds_toArray, set_cons_zero, set_cons_succ, i64_w, i32_w]
              rfl
             refine take_ (i := 26) (N := some 72) (v := ?_) (a' := ?_) (bm 53 134217727) rfl rfl (take_ofW HT_.out HW_.out (by kernel_rfl)) (fun _ _ _ h => h) (Or.inl ⟨by rfl, ?_⟩) hHeld ?_ ?_
             rotate_left
             ·rintro w' ⟨s0, s1, s2, s3, s4, s5, s6, s7⟩
              go_simp
              with_reducible rfl
             rotate_left
             ·simp only [Act.put, setIfInBounds_toArray, set_cons_zero, set_cons_succ, i64_w, i32_w]
              rfl
             refine take_ (i := 27) (N := some 73) (v := ?_) (a' := ?_) (bm 53 268435455) rfl rfl (take_ofW HT_.out HW_.out (by kernel_rfl)) (fun _ _ _ h => h) (Or.inl ⟨by rfl, ?_⟩) hHeld ?_ ?_
             rotate_left
             ·rintro w' ⟨s0, s1, s2, s3, s4, s5, s6, s7⟩
              go_simp
              with_reducible rfl
             rotate_left
             ·simp only [Act.put, setIfInBounds_toArray, set_cons_zero, set_cons_succ, i64_w, i32_w]
              rfl
             refine one_ (i := 28) (N := some 74) (bm 53 536870911) rfl rfl (one_of HT_.out (by kernel_rfl)) (by decide) (fun K hK => ?_)
             refine goes_ Try.func18 (by kernel_rfl) rfl #[.agg #[.int .i64 (wrap64 (tmod a0 3)), .int .i64 (((tdiv a0 3) % 256) % 3)], .agg #[.int .i64 (wrap64 (tmod a1 3)), .int .i64 (((tdiv a1 3) % 256) % 3)]] (by rfl) rfl rfl (by (try simp only [List.map_toArray, List.map_cons, List.map_nil]); first | done | rfl | (simp only [List.length_drop, List.length_take]; rfl)) ?_
             with_reducible refine (rule_Punch.calls kj5 (wrap64 (tmod a0 3)) (((tdiv a0 3) % 256) % 3) (wrap64 (tmod a1 3)) (((tdiv a1 3) % 256) % 3) true _ A40.out).mono ?_
             rintro e w63 ⟨rfl, hb⟩
             refine ⟨_, rfl, ?_⟩
             have n0_ := Aside0.mk (blk_below (g := g_e) (o := .cells #[.int .i64 (wrap64 (tmod a0 3)), .int .i64 (((tdiv a0 3) % 256) % 3)] 23 (0, 0)) (by (with_reducible repeat (first | refine blk_drewN ?_ _ | refine blk_drew ?_ | refine blk_alloc ?_ _)); exact B_a.out) hb)
             have n1_ := Aside0.mk (blk_below (g := g_f) (o := .cells #[.int .i64 (wrap64 (tmod a1 3)), .int .i64 (((tdiv a1 3) % 256) % 3)] 23 (0, 0)) (by (with_reducible repeat (first | refine blk_drewN ?_ _ | refine blk_drew ?_ | refine blk_alloc ?_ _)); exact B_b.out) hb)
             have n2_ := Aside0.mk (blk_below (g := g_g) (o := .cells #[.int .i64 (wrap64 (tmod a1 3)), .int .i64 ji5] 23 (0, 0)) (by (with_reducible repeat (first | refine blk_drewN ?_ _ | refine blk_drew ?_ | refine blk_alloc ?_ _)); exact B_d.out) hb)
             have n3_ := Aside0.mk (blk_below (g := g_h) (o := .cells #[.int .i64 2, .int .i64 2] 23 (0, 0)) (by (with_reducible repeat (first | refine blk_drewN ?_ _ | refine blk_drew ?_ | refine blk_alloc ?_ _)); exact B_c.out) hb)
             have n4_ := Aside0.mk (below_step (by repeat (first | (with_reducible first | exact HB.out | apply below_alloc | apply pw_below_drewN | apply below_drew1 | refine below_set ?_ G_i.out | refine below_set ?_ G_j.out | refine below_set ?_ G_k.out | refine below_set ?_ G_l.out) | exact HB.out)) hb)
             clear B_a
             clear B_b
             clear B_d
             clear B_c
             clear HB
             have B_a := n0_
             have B_b := n1_
             have B_d := n2_
             have B_c := n3_
             have HB := n4_
             clear n0_ n1_ n2_ n3_ n4_
             (try clear hb)
             (try clear hb2)
             (try clear hk)
             (try clear hi)
             refine hK.out _ _ ⟨(blk_cell B_a.out 0).trans rfl, (blk_cell B_a.out 1).trans rfl, (blk_cell B_b.out 0).trans rfl, (blk_cell B_b.out 1).trans rfl, (blk_cell B_c.out 0).trans rfl, (blk_cell B_c.out 1).trans rfl, (blk_cell B_d.out 0).trans rfl, (blk_cell B_d.out 1).trans rfl⟩ (fun hHeld => ?_)
             clear hK K
             refine norm_ (a' := ?_) ?_ ?_
             rotate_left
             ·show Act.put _ (some 74) _ = _
              simp only [Act.put, setIfInBounds_toArray, set_cons_zero, set_cons_succ, i64_w, i32_w]
              rfl
             refine pure_ (i := 29) (N := some 75) (v := ?_) (a' := ?_) (bm 53 1073741823) rfl rfl (any_of HT_.out (by kernel_rfl)) (fun _ _ _ h => h) (Or.inl ⟨by rfl, ?_⟩) ?_ ?_
             rotate_left
             ·intro w'
              go_simp
              with_reducible rfl
             rotate_left
             ·simp only [Act.put, setIfInBounds_toArray, set_cons_zero, set_cons_succ, i64_w, i32_w]
              rfl
             refine pure_ (i := 30) (N := some 76) (v := ?_) (a' := ?_) (bm 53 2147483647) rfl rfl (any_of HT_.out (by kernel_rfl)) (fun _ _ _ h => h) (Or.inl ⟨by rfl, ?_⟩) ?_ ?_
             rotate_left
             ·intro w'
              go_simp
              with_reducible rfl
             rotate_left
             ·simp only [Act.put, setIfInBounds_toArray, set_cons_zero, set_cons_succ, i64_w, i32_w]
              rfl
             refine take_ (i := 31) (N := some 77) (v := ?_) (a' := ?_) (bm 53 4294967295) rfl rfl (take_ofW HT_.out HW_.out (by kernel_rfl)) (fun _ _ _ h => h) (Or.inl ⟨by rfl, ?_⟩) hHeld ?_ ?_
             rotate_left
             ·rintro w' ⟨s0, s1, s2, s3, s4, s5, s6, s7⟩
              go_simp
              with_reducible rfl
             rotate_left
             ·simp only [Act.put, setIfInBounds_toArray, set_cons_zero, set_cons_succ, i64_w, i32_w]
              rfl
             refine take_ (i := 32) (N := some 78) (v := ?_) (a' := ?_) (bm 53 8589934591) rfl rfl (take_ofW HT_.out HW_.out (by kernel_rfl)) (fun _ _ _ h => h) (Or.inl ⟨by rfl, ?_⟩) hHeld ?_ ?_
             rotate_left
             ·rintro w' ⟨s0, s1, s2, s3, s4, s5, s6, s7⟩
              go_simp
              with_reducible rfl
             rotate_left
             ·simp only [Act.put, setIfInBounds_toArray, set_cons_zero, set_cons_succ, i64_w, i32_w]
              rfl
             refine one_ (i := 33) (N := some 79) (bm 53 17179869183) rfl rfl (one_of HT_.out (by kernel_rfl)) (by decide) (fun K hK => ?_)
             refine goes_ Try.func18 (by kernel_rfl) rfl #[.agg #[.int .i64 (wrap64 (tmod a0 3)), .int .i64 (((tdiv a0 3) % 256) % 3)], .agg #[.int .i64 (wrap64 (tmod a1 3)), .int .i64 ji5]] (by rfl) rfl rfl (by (try simp only [List.map_toArray, List.map_cons, List.map_nil]); first | done | (simp only [hji5]; rfl) | rfl | (simp only [List.length_drop, List.length_take]; rfl)) ?_
             with_reducible refine (rule_Punch.calls kj5 (wrap64 (tmod a0 3)) (((tdiv a0 3) % 256) % 3) (wrap64 (tmod a1 3)) ji5 true _ A42.out).mono ?_
             rintro e w64 ⟨rfl, hb⟩
             refine ⟨_, rfl, ?_⟩
             have n0_ := Aside0.mk (blk_below (g := g_e) (o := .cells #[.int .i64 (wrap64 (tmod a0 3)), .int .i64 (((tdiv a0 3) % 256) % 3)] 23 (0, 0)) (by (with_reducible repeat (first | refine blk_drewN ?_ _ | refine blk_drew ?_ | refine blk_alloc ?_ _)); exact B_a.out) hb)
             have n1_ := Aside0.mk (blk_below (g := g_f) (o := .cells #[.int .i64 (wrap64 (tmod a1 3)), .int .i64 (((tdiv a1 3) % 256) % 3)] 23 (0, 0)) (by (with_reducible repeat (first | refine blk_drewN ?_ _ | refine blk_drew ?_ | refine blk_alloc ?_ _)); exact B_b.out) hb)
             have n2_ := Aside0.mk (blk_below (g := g_g) (o := .cells #[.int .i64 (wrap64 (tmod a1 3)), .int .i64 ji5] 23 (0, 0)) (by (with_reducible repeat (first | refine blk_drewN ?_ _ | refine blk_drew ?_ | refine blk_alloc ?_ _)); exact B_d.out) hb)
             have n3_ := Aside0.mk (blk_below (g := g_h) (o := .cells #[.int .i64 2, .int .i64 2] 23 (0, 0)) (by (with_reducible repeat (first | refine blk_drewN ?_ _ | refine blk_drew ?_ | refine blk_alloc ?_ _)); exact B_c.out) hb)
             have n4_ := Aside0.mk (below_step (by repeat (first | (with_reducible first | exact HB.out | apply below_alloc | apply pw_below_drewN | apply below_drew1 | refine below_set ?_ G_i.out | refine below_set ?_ G_j.out | refine below_set ?_ G_k.out | refine below_set ?_ G_l.out) | exact HB.out)) hb)
             clear B_a
             clear B_b
             clear B_d
             clear B_c
             clear HB
             have B_a := n0_
             have B_b := n1_
             have B_d := n2_
             have B_c := n3_
             have HB := n4_
             clear n0_ n1_ n2_ n3_ n4_
             (try clear hb)
             (try clear hb2)
             (try clear hk)
             (try clear hi)
             refine hK.out _ _ ⟨(blk_cell B_a.out 0).trans rfl, (blk_cell B_a.out 1).trans rfl, (blk_cell B_b.out 0).trans rfl, (blk_cell B_b.out 1).trans rfl, (blk_cell B_c.out 0).trans rfl, (blk_cell B_c.out 1).trans rfl, (blk_cell B_d.out 0).trans rfl, (blk_cell B_d.out 1).trans rfl⟩ (fun hHeld => ?_)
             clear hK K
             refine norm_ (a' := ?_) ?_ ?_
             rotate_left
             ·show Act.put _ (some 79) _ = _
              simp only [Act.put, setIfInBounds_toArray, set_cons_zero, set_cons_succ, i64_w, i32_w]
              rfl
             refine pure_ (i := 34) (N := some 80) (v := ?_) (a' := ?_) (bm 53 34359738367) rfl rfl (any_of HT_.out (by kernel_rfl)) (fun _ _ _ h => h) (Or.inl ⟨by rfl, ?_⟩) ?_ ?_
             rotate_left
             ·intro w'
              go_simp
              with_reducible rfl
             rotate_left
             ·simp only [Act.put, setIfInBounds_toArray, set_cons_zero, set_cons_succ, i64_w, i32_w]
              rfl
             refine pure_ (i := 35) (N := some 81) (v := ?_) (a' := ?_) (bm 53 68719476735) rfl rfl (any_of HT_.out (by kernel_rfl)) (fun _ _ _ h => h) (Or.inl ⟨by rfl, ?_⟩) ?_ ?_
             rotate_left
             ·intro w'
              go_simp
              with_reducible rfl
             rotate_left
             ·simp only [Act.put, setIfInBounds_toArray, set_cons_zero, set_cons_succ, i64_w, i32_w]
              rfl
             refine pure_ (i := 36) (N := some 82) (v := ?_) (a' := ?_) (bm 53 137438953471) rfl rfl (any_of HT_.out (by kernel_rfl)) (fun _ _ _ h => h) (Or.inl ⟨by rfl, ?_⟩) ?_ ?_
             rotate_left
             ·intro w'
              go_simp
              with_reducible rfl
             rotate_left
             ·simp only [Act.put, setIfInBounds_toArray, set_cons_zero, set_cons_succ, i64_w, i32_w]
              rfl
             refine take_ (i := 37) (N := some 83) (v := ?_) (a' := ?_) (bm 53 274877906943) rfl rfl (take_ofW HT_.out HW_.out (by kernel_rfl)) (fun _ _ _ h => h) (Or.inl ⟨by rfl, ?_⟩) hHeld ?_ ?_
             rotate_left
             ·rintro w' ⟨s0, s1, s2, s3, s4, s5, s6, s7⟩
              go_simp
              with_reducible rfl
             rotate_left
             ·simp only [Act.put, setIfInBounds_toArray, set_cons_zero, set_cons_succ, i64_w, i32_w]
              rfl
             refine take_ (i := 38) (N := some 84) (v := ?_) (a' := ?_) (bm 53 549755813887) rfl rfl (take_ofW HT_.out HW_.out (by kernel_rfl)) (fun _ _ _ h => h) (Or.inl ⟨by rfl, ?_⟩) hHeld ?_ ?_
             rotate_left
             ·rintro w' ⟨s0, s1, s2, s3, s4, s5, s6, s7⟩
              go_simp
              with_reducible rfl
             rotate_left
             ·simp only [Act.put, setIfInBounds_toArray, set_cons_zero, set_cons_succ, i64_w, i32_w]
              rfl
             refine one_ (i := 39) (N := some 85) (bm 53 1099511627775) rfl rfl (one_of HT_.out (by kernel_rfl)) (by decide) (fun K hK => ?_)
             refine goes_ Try.func18 (by kernel_rfl) rfl #[.agg #[.int .i64 (wrap64 (tmod a0 3)), .int .i64 (((tdiv a0 3) % 256) % 3)], .agg #[.int .i64 (wrap64 (tmod a1 3)), .int .i64 (((tdiv a1 3) % 256) % 3)]] (by rfl) rfl rfl (by (try simp only [List.map_toArray, List.map_cons, List.map_nil]); first | done | rfl | (simp only [List.length_drop, List.length_take]; rfl)) ?_
             with_reducible refine (rule_Punch.calls kj5 (wrap64 (tmod a0 3)) (((tdiv a0 3) % 256) % 3) (wrap64 (tmod a1 3)) (((tdiv a1 3) % 256) % 3) true _ A44.out).mono ?_
             rintro e w65 ⟨rfl, hb⟩
             refine ⟨_, rfl, ?_⟩
             have n0_ := Aside0.mk (blk_below (g := g_e) (o := .cells #[.int .i64 (wrap64 (tmod a0 3)), .int .i64 (((tdiv a0 3) % 256) % 3)] 23 (0, 0)) (by (with_reducible repeat (first | refine blk_drewN ?_ _ | refine blk_drew ?_ | refine blk_alloc ?_ _)); exact B_a.out) hb)
             have n1_ := Aside0.mk (blk_below (g := g_f) (o := .cells #[.int .i64 (wrap64 (tmod a1 3)), .int .i64 (((tdiv a1 3) % 256) % 3)] 23 (0, 0)) (by (with_reducible repeat (first | refine blk_drewN ?_ _ | refine blk_drew ?_ | refine blk_alloc ?_ _)); exact B_b.out) hb)
             have n2_ := Aside0.mk (blk_below (g := g_g) (o := .cells #[.int .i64 (wrap64 (tmod a1 3)), .int .i64 ji5] 23 (0, 0)) (by (with_reducible repeat (first | refine blk_drewN ?_ _ | refine blk_drew ?_ | refine blk_alloc ?_ _)); exact B_d.out) hb)
             have n3_ := Aside0.mk (blk_below (g := g_h) (o := .cells #[.int .i64 2, .int .i64 2] 23 (0, 0)) (by (with_reducible repeat (first | refine blk_drewN ?_ _ | refine blk_drew ?_ | refine blk_alloc ?_ _)); exact B_c.out) hb)
             have n4_ := Aside0.mk (below_step (by repeat (first | (with_reducible first | exact HB.out | apply below_alloc | apply pw_below_drewN | apply below_drew1 | refine below_set ?_ G_i.out | refine below_set ?_ G_j.out | refine below_set ?_ G_k.out | refine below_set ?_ G_l.out) | exact HB.out)) hb)
             clear B_a
             clear B_b
             clear B_d
             clear B_c
             clear HB
             have B_a := n0_
             have B_b := n1_
             have B_d := n2_
             have B_c := n3_
             have HB := n4_
             clear n0_ n1_ n2_ n3_ n4_
             (try clear hb)
             (try clear hb2)
             (try clear hk)
             (try clear hi)
             refine hK.out _ _ ⟨(blk_cell B_a.out 0).trans rfl, (blk_cell B_a.out 1).trans rfl, (blk_cell B_b.out 0).trans rfl, (blk_cell B_b.out 1).trans rfl, (blk_cell B_c.out 0).trans rfl, (blk_cell B_c.out 1).trans rfl, (blk_cell B_d.out 0).trans rfl, (blk_cell B_d.out 1).trans rfl⟩ (fun hHeld => ?_)
             clear hK K
             refine norm_ (a' := ?_) ?_ ?_
             rotate_left
             ·show Act.put _ (some 85) _ = _
              simp only [Act.put, setIfInBounds_toArray, set_cons_zero, set_cons_succ, i64_w, i32_w]
              rfl
             refine pure_ (i := 40) (N := some 86) (v := ?_) (a' := ?_) (bm 53 2199023255551) rfl rfl (any_of HT_.out (by kernel_rfl)) (fun _ _ _ h => h) (Or.inl ⟨by rfl, ?_⟩) ?_ ?_
             rotate_left
             ·intro w'
              go_simp
              with_reducible rfl
             rotate_left
             ·simp only [Act.put, setIfInBounds_toArray, set_cons_zero, set_cons_succ, i64_w, i32_w]
              rfl
             refine pure_ (i := 41) (N := some 87) (v := ?_) (a' := ?_) (bm 53 4398046511103) rfl rfl (any_of HT_.out (by kernel_rfl)) (fun _ _ _ h => h) (Or.inl ⟨by rfl, ?_⟩) ?_ ?_
             rotate_left
             ·intro w'
              go_simp
              with_reducible rfl
             rotate_left
             ·simp only [Act.put, setIfInBounds_toArray, set_cons_zero, set_cons_succ, i64_w, i32_w]
              rfl
             refine take_ (i := 42) (N := some 88) (v := ?_) (a' := ?_) (bm 53 8796093022207) rfl rfl (take_ofW HT_.out HW_.out (by kernel_rfl)) (fun _ _ _ h => h) (Or.inl ⟨by rfl, ?_⟩) hHeld ?_ ?_
             rotate_left
             ·rintro w' ⟨s0, s1, s2, s3, s4, s5, s6, s7⟩
              go_simp
              with_reducible rfl
             rotate_left
             ·simp only [Act.put, setIfInBounds_toArray, set_cons_zero, set_cons_succ, i64_w, i32_w]
              rfl
             refine take_ (i := 43) (N := some 89) (v := ?_) (a' := ?_) (bm 53 17592186044415) rfl rfl (take_ofW HT_.out HW_.out (by kernel_rfl)) (fun _ _ _ h => h) (Or.inl ⟨by rfl, ?_⟩) hHeld ?_ ?_
             rotate_left
             ·rintro w' ⟨s0, s1, s2, s3, s4, s5, s6, s7⟩
              go_simp
              with_reducible rfl
             rotate_left
             ·simp only [Act.put, setIfInBounds_toArray, set_cons_zero, set_cons_succ, i64_w, i32_w]
              rfl
             refine one_ (i := 44) (N := some 90) (bm 53 35184372088831) rfl rfl (one_of HT_.out (by kernel_rfl)) (by decide) (fun K hK => ?_)
             refine goes_ Try.func16 (by kernel_rfl) rfl #[.agg #[.int .i64 (wrap64 (tmod a0 3)), .int .i64 (((tdiv a0 3) % 256) % 3)], .agg #[.int .i64 (wrap64 (tmod a1 3)), .int .i64 (((tdiv a1 3) % 256) % 3)]] (by rfl) rfl rfl (by (try simp only [List.map_toArray, List.map_cons, List.map_nil]); first | done | rfl | (simp only [List.length_drop, List.length_take]; rfl)) ?_
             with_reducible refine (rule_Through.calls kj5 (wrap64 (tmod a0 3)) (((tdiv a0 3) % 256) % 3) (wrap64 (tmod a1 3)) (((tdiv a1 3) % 256) % 3) false _ A46.out).mono ?_
             rintro e w66 ⟨rfl, hb⟩
             refine ⟨_, rfl, ?_⟩
             have n0_ := Aside0.mk (blk_below (g := g_e) (o := .cells #[.int .i64 (wrap64 (tmod a0 3)), .int .i64 (((tdiv a0 3) % 256) % 3)] 23 (0, 0)) (by (with_reducible repeat (first | refine blk_drewN ?_ _ | refine blk_drew ?_ | refine blk_alloc ?_ _)); exact B_a.out) hb)
             have n1_ := Aside0.mk (blk_below (g := g_f) (o := .cells #[.int .i64 (wrap64 (tmod a1 3)), .int .i64 (((tdiv a1 3) % 256) % 3)] 23 (0, 0)) (by (with_reducible repeat (first | refine blk_drewN ?_ _ | refine blk_drew ?_ | refine blk_alloc ?_ _)); exact B_b.out) hb)
             have n2_ := Aside0.mk (blk_below (g := g_g) (o := .cells #[.int .i64 (wrap64 (tmod a1 3)), .int .i64 ji5] 23 (0, 0)) (by (with_reducible repeat (first | refine blk_drewN ?_ _ | refine blk_drew ?_ | refine blk_alloc ?_ _)); exact B_d.out) hb)
             have n3_ := Aside0.mk (blk_below (g := g_h) (o := .cells #[.int .i64 2, .int .i64 2] 23 (0, 0)) (by (with_reducible repeat (first | refine blk_drewN ?_ _ | refine blk_drew ?_ | refine blk_alloc ?_ _)); exact B_c.out) hb)
             have n4_ := Aside0.mk (below_step (by repeat (first | (with_reducible first | exact HB.out | apply below_alloc | apply pw_below_drewN | apply below_drew1 | refine below_set ?_ G_i.out | refine below_set ?_ G_j.out | refine below_set ?_ G_k.out | refine below_set ?_ G_l.out) | exact HB.out)) hb)
             clear B_a
             clear B_b
             clear B_d
             clear B_c
             clear HB
             have B_a := n0_
             have B_b := n1_
             have B_d := n2_
             have B_c := n3_
             have HB := n4_
             clear n0_ n1_ n2_ n3_ n4_
             (try clear hb)
             (try clear hb2)
             (try clear hk)
             (try clear hi)
             refine hK.out _ _ ⟨(blk_cell B_a.out 0).trans rfl, (blk_cell B_a.out 1).trans rfl, (blk_cell B_b.out 0).trans rfl, (blk_cell B_b.out 1).trans rfl, (blk_cell B_c.out 0).trans rfl, (blk_cell B_c.out 1).trans rfl, (blk_cell B_d.out 0).trans rfl, (blk_cell B_d.out 1).trans rfl⟩ (fun hHeld => ?_)
             clear hK K
             refine norm_ (a' := ?_) ?_ ?_
             rotate_left
             ·show Act.put _ (some 90) _ = _
              simp only [Act.put, setIfInBounds_toArray, set_cons_zero, set_cons_succ, i64_w, i32_w]
              rfl
             refine pure_ (i := 45) (N := some 91) (v := ?_) (a' := ?_) (bm 53 70368744177663) rfl rfl (any_of HT_.out (by kernel_rfl)) (fun _ _ _ h => h) (Or.inl ⟨by rfl, ?_⟩) ?_ ?_
             rotate_left
             ·intro w'
              go_simp
              with_reducible rfl
             rotate_left
             ·simp only [Act.put, setIfInBounds_toArray, set_cons_zero, set_cons_succ, i64_w, i32_w]
              rfl
             refine pure_ (i := 46) (N := some 92) (v := ?_) (a' := ?_) (bm 53 140737488355327) rfl rfl (any_of HT_.out (by kernel_rfl)) (fun _ _ _ h => h) (Or.inl ⟨by rfl, ?_⟩) ?_ ?_
             rotate_left
             ·intro w'
              go_simp
              with_reducible rfl
             rotate_left
             ·simp only [Act.put, setIfInBounds_toArray, set_cons_zero, set_cons_succ, i64_w, i32_w]
              rfl
             refine take_ (i := 47) (N := some 93) (v := ?_) (a' := ?_) (bm 53 281474976710655) rfl rfl (take_ofW HT_.out HW_.out (by kernel_rfl)) (fun _ _ _ h => h) (Or.inl ⟨by rfl, ?_⟩) hHeld ?_ ?_
             rotate_left
             ·rintro w' ⟨s0, s1, s2, s3, s4, s5, s6, s7⟩
              go_simp
              with_reducible rfl
             rotate_left
             ·simp only [Act.put, setIfInBounds_toArray, set_cons_zero, set_cons_succ, i64_w, i32_w]
              rfl
             refine take_ (i := 48) (N := some 94) (v := ?_) (a' := ?_) (bm 53 562949953421311) rfl rfl (take_ofW HT_.out HW_.out (by kernel_rfl)) (fun _ _ _ h => h) (Or.inl ⟨by rfl, ?_⟩) hHeld ?_ ?_
             rotate_left
             ·rintro w' ⟨s0, s1, s2, s3, s4, s5, s6, s7⟩
              go_simp
              with_reducible rfl
             rotate_left
             ·simp only [Act.put, setIfInBounds_toArray, set_cons_zero, set_cons_succ, i64_w, i32_w]
              rfl
             refine one_ (i := 49) (N := some 95) (bm 53 1125899906842623) rfl rfl (one_of HT_.out (by kernel_rfl)) (by decide) (fun K hK => ?_)
             refine goes_ Try.func16 (by kernel_rfl) rfl #[.agg #[.int .i64 (wrap64 (tmod a1 3)), .int .i64 (((tdiv a1 3) % 256) % 3)], .agg #[.int .i64 (wrap64 (tmod a0 3)), .int .i64 (((tdiv a0 3) % 256) % 3)]] (by rfl) rfl rfl (by (try simp only [List.map_toArray, List.map_cons, List.map_nil]); first | done | rfl | (simp only [List.length_drop, List.length_take]; rfl)) ?_
             with_reducible refine (rule_Through.calls kj5 (wrap64 (tmod a1 3)) (((tdiv a1 3) % 256) % 3) (wrap64 (tmod a0 3)) (((tdiv a0 3) % 256) % 3) t147 _ A57.out).mono ?_
             rintro e w67 ⟨rfl, hb⟩
             refine ⟨_, rfl, ?_⟩
             have n0_ := Aside0.mk (blk_below (g := g_e) (o := .cells #[.int .i64 (wrap64 (tmod a0 3)), .int .i64 (((tdiv a0 3) % 256) % 3)] 23 (0, 0)) (by (with_reducible repeat (first | refine blk_drewN ?_ _ | refine blk_drew ?_ | refine blk_alloc ?_ _)); exact B_a.out) hb)
             have n1_ := Aside0.mk (blk_below (g := g_f) (o := .cells #[.int .i64 (wrap64 (tmod a1 3)), .int .i64 (((tdiv a1 3) % 256) % 3)] 23 (0, 0)) (by (with_reducible repeat (first | refine blk_drewN ?_ _ | refine blk_drew ?_ | refine blk_alloc ?_ _)); exact B_b.out) hb)
             have n2_ := Aside0.mk (blk_below (g := g_g) (o := .cells #[.int .i64 (wrap64 (tmod a1 3)), .int .i64 ji5] 23 (0, 0)) (by (with_reducible repeat (first | refine blk_drewN ?_ _ | refine blk_drew ?_ | refine blk_alloc ?_ _)); exact B_d.out) hb)
             have n3_ := Aside0.mk (blk_below (g := g_h) (o := .cells #[.int .i64 2, .int .i64 2] 23 (0, 0)) (by (with_reducible repeat (first | refine blk_drewN ?_ _ | refine blk_drew ?_ | refine blk_alloc ?_ _)); exact B_c.out) hb)
             have n4_ := Aside0.mk (below_step (by repeat (first | (with_reducible first | exact HB.out | apply below_alloc | apply pw_below_drewN | apply below_drew1 | refine below_set ?_ G_i.out | refine below_set ?_ G_j.out | refine below_set ?_ G_k.out | refine below_set ?_ G_l.out) | exact HB.out)) hb)
             clear B_a
             clear B_b
             clear B_d
             clear B_c
             clear HB
             have B_a := n0_
             have B_b := n1_
             have B_d := n2_
             have B_c := n3_
             have HB := n4_
             clear n0_ n1_ n2_ n3_ n4_
             (try clear hb)
             (try clear hb2)
             (try clear hk)
             (try clear hi)
             refine hK.out _ _ ⟨(blk_cell B_a.out 0).trans rfl, (blk_cell B_a.out 1).trans rfl, (blk_cell B_b.out 0).trans rfl, (blk_cell B_b.out 1).trans rfl, (blk_cell B_c.out 0).trans rfl, (blk_cell B_c.out 1).trans rfl, (blk_cell B_d.out 0).trans rfl, (blk_cell B_d.out 1).trans rfl⟩ (fun hHeld => ?_)
             clear hK K
             refine norm_ (a' := ?_) ?_ ?_
             rotate_left
             ·show Act.put _ (some 95) _ = _
              simp only [Act.put, setIfInBounds_toArray, set_cons_zero, set_cons_succ, i64_w, i32_w]
              rfl
             refine pure_ (i := 50) (N := some 96) (v := ?_) (a' := ?_) (bm 53 2251799813685247) rfl rfl (any_of HT_.out (by kernel_rfl)) (fun _ _ _ h => h) (Or.inl ⟨by rfl, ?_⟩) ?_ ?_
             rotate_left
             ·intro w'
              go_simp
              with_reducible rfl
             rotate_left
             ·simp only [Act.put, setIfInBounds_toArray, set_cons_zero, set_cons_succ, i64_w, i32_w]
              rfl
             refine pure_ (i := 51) (N := some 97) (v := ?_) (a' := ?_) (bm 53 4503599627370495) rfl rfl (any_of HT_.out (by kernel_rfl)) (fun _ _ _ h => h) (Or.inl ⟨by rfl, ?_⟩) ?_ ?_
             rotate_left
             ·intro w'
              go_simp
              with_reducible rfl
             rotate_left
             ·simp only [Act.put, setIfInBounds_toArray, set_cons_zero, set_cons_succ, i64_w, i32_w]
              rfl
             refine pure_ (i := 52) (N := some 4) (v := ?_) (a' := ?_) (bm 53 9007199254740991) rfl rfl (any_of HT_.out (by kernel_rfl)) (fun _ _ _ h => h) (Or.inl ⟨by rfl, ?_⟩) ?_ ?_
             rotate_left
             ·intro w'
              go_simp
              with_reducible rfl
             rotate_left
             ·simp only [Act.put, setIfInBounds_toArray, set_cons_zero, set_cons_succ, i64_w, i32_w]
              rfl
             refine done_ (done_of HT_.out (by kernel_rfl)) ?_
             try go_wp2
             go_ret
             exact ⟨by first | rfl | (simp [errW_none, errW_some] <;> rfl) | (simp only [← hji5]; first | rfl | (simp [errW_none, errW_some] <;> rfl)) | (simp [*, errW_none, errW_some] <;> rfl), by repeat (first | (with_reducible first | exact HB.out | apply below_alloc | apply pw_below_drewN | apply below_drew1 | refine below_set ?_ G_i.out | refine below_set ?_ G_j.out | refine below_set ?_ G_k.out | refine below_set ?_ G_l.out) | exact HB.out)⟩
           ·replace c45 := Bool.eq_false_iff.mpr c45
            (first | subst c45 | clear c45)
            have H1 : (none) = some r := by rw [if_neg (show ¬ (false = true) by decide)] at H; exact H
            clear H
            have H := H1
            clear H1
            exact absurd H (by simp)
          ·replace c43 := Bool.eq_false_iff.mpr c43
           (first | subst c43 | clear c43)
           have H1 : (none) = some r := by rw [if_neg (show ¬ (false = true) by decide)] at H; exact H
           clear H
           have H := H1
           clear H1
           exact absurd H (by simp)
         ·replace c41 := Bool.eq_false_iff.mpr c41
          (first | subst c41 | clear c41)
          have H1 : (none) = some r := by rw [if_neg (show ¬ (false = true) by decide)] at H; exact H
          clear H
          have H := H1
          clear H1
          exact absurd H (by simp)
       ·replace c37 := Bool.eq_false_iff.mpr c37
        (first | subst c37 | clear c37)
        have H1 : (none) = some r := by rw [if_neg (show ¬ (false = true) by decide)] at H; exact H
        clear H
        have H := H1
        clear H1
        exact absurd H (by simp)
      ·replace c35 := Bool.eq_false_iff.mpr c35
       (first | subst c35 | clear c35)
       have H1 : ((rule_Punch.f kj5 2 2 2 2).bind fun t148 => (if t148 = true then (none) else ((rule_Punch.f kj5 (wrap64 (tmod a0 3)) (((tdiv a0 3) % 256) % 3) (wrap64 (tmod a1 3)) (((tdiv a1 3) % 256) % 3)).bind fun t149 => (if t149 = true then ((rule_Punch.f kj5 (wrap64 (tmod a0 3)) (((tdiv a0 3) % 256) % 3) (wrap64 (tmod a1 3)) ji5).bind fun t150 => (if t150 = true then ((rule_Punch.f kj5 (wrap64 (tmod a0 3)) (((tdiv a0 3) % 256) % 3) (wrap64 (tmod a1 3)) (((tdiv a1 3) % 256) % 3)).bind fun t151 => (if t151 = true then ((rule_Through.f kj5 (wrap64 (tmod a0 3)) (((tdiv a0 3) % 256) % 3) (wrap64 (tmod a1 3)) (((tdiv a1 3) % 256) % 3)).bind fun t152 => (if t152 = true then (some true) else ((rule_Through.f kj5 (wrap64 (tmod a1 3)) (((tdiv a1 3) % 256) % 3) (wrap64 (tmod a0 3)) (((tdiv a0 3) % 256) % 3)).bind fun t153 => (some t153)))) else (none))) else (none))) else (none))))) = some r := by rw [if_neg (show ¬ (false = true) by decide)] at H; exact H
       clear H
       have H := H1
       clear H1
       replace H := Option.bind_eq_some_iff.mp H
       obtain ⟨t148, A680, H⟩ := H
       replace H : (if t148 = true then (none) else ((rule_Punch.f kj5 (wrap64 (tmod a0 3)) (((tdiv a0 3) % 256) % 3) (wrap64 (tmod a1 3)) (((tdiv a1 3) % 256) % 3)).bind fun t149 => (if t149 = true then ((rule_Punch.f kj5 (wrap64 (tmod a0 3)) (((tdiv a0 3) % 256) % 3) (wrap64 (tmod a1 3)) ji5).bind fun t150 => (if t150 = true then ((rule_Punch.f kj5 (wrap64 (tmod a0 3)) (((tdiv a0 3) % 256) % 3) (wrap64 (tmod a1 3)) (((tdiv a1 3) % 256) % 3)).bind fun t151 => (if t151 = true then ((rule_Through.f kj5 (wrap64 (tmod a0 3)) (((tdiv a0 3) % 256) % 3) (wrap64 (tmod a1 3)) (((tdiv a1 3) % 256) % 3)).bind fun t152 => (if t152 = true then (some true) else ((rule_Through.f kj5 (wrap64 (tmod a1 3)) (((tdiv a1 3) % 256) % 3) (wrap64 (tmod a0 3)) (((tdiv a0 3) % 256) % 3)).bind fun t153 => (some t153)))) else (none))) else (none))) else (none)))) = some r := H
       have A68 := Aside0.mk A680
       clear A680
       by_cases c69 : t148 = true
       ·(first | subst c69 | clear c69)
        have H1 : (none) = some r := by first | (rw [if_pos rfl] at H; exact H) | (rw [if_pos trivial] at H; exact H)
        clear H
        have H := H1
        clear H1
        exact absurd H (by simp)
       ·replace c69 := Bool.eq_false_iff.mpr c69
        (first | subst c69 | clear c69)
        have H1 : ((rule_Punch.f kj5 (wrap64 (tmod a0 3)) (((tdiv a0 3) % 256) % 3) (wrap64 (tmod a1 3)) (((tdiv a1 3) % 256) % 3)).bind fun t149 => (if t149 = true then ((rule_Punch.f kj5 (wrap64 (tmod a0 3)) (((tdiv a0 3) % 256) % 3) (wrap64 (tmod a1 3)) ji5).bind fun t150 => (if t150 = true then ((rule_Punch.f kj5 (wrap64 (tmod a0 3)) (((tdiv a0 3) % 256) % 3) (wrap64 (tmod a1 3)) (((tdiv a1 3) % 256) % 3)).bind fun t151 => (if t151 = true then ((rule_Through.f kj5 (wrap64 (tmod a0 3)) (((tdiv a0 3) % 256) % 3) (wrap64 (tmod a1 3)) (((tdiv a1 3) % 256) % 3)).bind fun t152 => (if t152 = true then (some true) else ((rule_Through.f kj5 (wrap64 (tmod a1 3)) (((tdiv a1 3) % 256) % 3) (wrap64 (tmod a0 3)) (((tdiv a0 3) % 256) % 3)).bind fun t153 => (some t153)))) else (none))) else (none))) else (none))) = some r := by rw [if_neg (show ¬ (false = true) by decide)] at H; exact H
        clear H
        have H := H1
        clear H1
        replace H := Option.bind_eq_some_iff.mp H
        obtain ⟨t149, A700, H⟩ := H
        replace H : (if t149 = true then ((rule_Punch.f kj5 (wrap64 (tmod a0 3)) (((tdiv a0 3) % 256) % 3) (wrap64 (tmod a1 3)) ji5).bind fun t150 => (if t150 = true then ((rule_Punch.f kj5 (wrap64 (tmod a0 3)) (((tdiv a0 3) % 256) % 3) (wrap64 (tmod a1 3)) (((tdiv a1 3) % 256) % 3)).bind fun t151 => (if t151 = true then ((rule_Through.f kj5 (wrap64 (tmod a0 3)) (((tdiv a0 3) % 256) % 3) (wrap64 (tmod a1 3)) (((tdiv a1 3) % 256) % 3)).bind fun t152 => (if t152 = true then (some true) else ((rule_Through.f kj5 (wrap64 (tmod a1 3)) (((tdiv a1 3) % 256) % 3) (wrap64 (tmod a0 3)) (((tdiv a0 3) % 256) % 3)).bind fun t153 => (some t153)))) else (none))) else (none))) else (none)) = some r := H
        have A70 := Aside0.mk A700
        clear A700
        by_cases c71 : t149 = true
        ·(first | subst c71 | clear c71)
         have H1 : ((rule_Punch.f kj5 (wrap64 (tmod a0 3)) (((tdiv a0 3) % 256) % 3) (wrap64 (tmod a1 3)) ji5).bind fun t150 => (if t150 = true then ((rule_Punch.f kj5 (wrap64 (tmod a0 3)) (((tdiv a0 3) % 256) % 3) (wrap64 (tmod a1 3)) (((tdiv a1 3) % 256) % 3)).bind fun t151 => (if t151 = true then ((rule_Through.f kj5 (wrap64 (tmod a0 3)) (((tdiv a0 3) % 256) % 3) (wrap64 (tmod a1 3)) (((tdiv a1 3) % 256) % 3)).bind fun t152 => (if t152 = true then (some true) else ((rule_Through.f kj5 (wrap64 (tmod a1 3)) (((tdiv a1 3) % 256) % 3) (wrap64 (tmod a0 3)) (((tdiv a0 3) % 256) % 3)).bind fun t153 => (some t153)))) else (none))) else (none))) = some r := by first | (rw [if_pos rfl] at H; exact H) | (rw [if_pos trivial] at H; exact H)
         clear H
         have H := H1
         clear H1
         replace H := Option.bind_eq_some_iff.mp H
         obtain ⟨t150, A720, H⟩ := H
         replace H : (if t150 = true then ((rule_Punch.f kj5 (wrap64 (tmod a0 3)) (((tdiv a0 3) % 256) % 3) (wrap64 (tmod a1 3)) (((tdiv a1 3) % 256) % 3)).bind fun t151 => (if t151 = true then ((rule_Through.f kj5 (wrap64 (tmod a0 3)) (((tdiv a0 3) % 256) % 3) (wrap64 (tmod a1 3)) (((tdiv a1 3) % 256) % 3)).bind fun t152 => (if t152 = true then (some true) else ((rule_Through.f kj5 (wrap64 (tmod a1 3)) (((tdiv a1 3) % 256) % 3) (wrap64 (tmod a0 3)) (((tdiv a0 3) % 256) % 3)).bind fun t153 => (some t153)))) else (none))) else (none)) = some r := H
         have A72 := Aside0.mk A720
         clear A720
         by_cases c73 : t150 = true
         ·(first | subst c73 | clear c73)
          have H1 : ((rule_Punch.f kj5 (wrap64 (tmod a0 3)) (((tdiv a0 3) % 256) % 3) (wrap64 (tmod a1 3)) (((tdiv a1 3) % 256) % 3)).bind fun t151 => (if t151 = true then ((rule_Through.f kj5 (wrap64 (tmod a0 3)) (((tdiv a0 3) % 256) % 3) (wrap64 (tmod a1 3)) (((tdiv a1 3) % 256) % 3)).bind fun t152 => (if t152 = true then (some true) else ((rule_Through.f kj5 (wrap64 (tmod a1 3)) (((tdiv a1 3) % 256) % 3) (wrap64 (tmod a0 3)) (((tdiv a0 3) % 256) % 3)).bind fun t153 => (some t153)))) else (none))) = some r := by first | (rw [if_pos rfl] at H; exact H) | (rw [if_pos trivial] at H; exact H)
          clear H
          have H := H1
          clear H1
          replace H := Option.bind_eq_some_iff.mp H
          obtain ⟨t151, A740, H⟩ := H
          replace H : (if t151 = true then ((rule_Through.f kj5 (wrap64 (tmod a0 3)) (((tdiv a0 3) % 256) % 3) (wrap64 (tmod a1 3)) (((tdiv a1 3) % 256) % 3)).bind fun t152 => (if t152 = true then (some true) else ((rule_Through.f kj5 (wrap64 (tmod a1 3)) (((tdiv a1 3) % 256) % 3) (wrap64 (tmod a0 3)) (((tdiv a0 3) % 256) % 3)).bind fun t153 => (some t153)))) else (none)) = some r := H
          have A74 := Aside0.mk A740
          clear A740
          by_cases c75 : t151 = true
          ·(first | subst c75 | clear c75)
           have H1 : ((rule_Through.f kj5 (wrap64 (tmod a0 3)) (((tdiv a0 3) % 256) % 3) (wrap64 (tmod a1 3)) (((tdiv a1 3) % 256) % 3)).bind fun t152 => (if t152 = true then (some true) else ((rule_Through.f kj5 (wrap64 (tmod a1 3)) (((tdiv a1 3) % 256) % 3) (wrap64 (tmod a0 3)) (((tdiv a0 3) % 256) % 3)).bind fun t153 => (some t153)))) = some r := by first | (rw [if_pos rfl] at H; exact H) | (rw [if_pos trivial] at H; exact H)
           clear H
           have H := H1
           clear H1
           replace H := Option.bind_eq_some_iff.mp H
           obtain ⟨t152, A760, H⟩ := H
           replace H : (if t152 = true then (some true) else ((rule_Through.f kj5 (wrap64 (tmod a1 3)) (((tdiv a1 3) % 256) % 3) (wrap64 (tmod a0 3)) (((tdiv a0 3) % 256) % 3)).bind fun t153 => (some t153))) = some r := H
           have A76 := Aside0.mk A760
           clear A760
           by_cases c77 : t152 = true
           ·(first | subst c77 | clear c77)
            have H1 : (some true) = some r := by first | (rw [if_pos rfl] at H; exact H) | (rw [if_pos trivial] at H; exact H)
            clear H
            have H := H1
            clear H1
            obtain rfl := Option.some.inj H
            try go_wp2
            have n0_ := Aside0.mk (blk_drew B_a.out)
            have n1_ := Aside0.mk (blk_drew B_b.out)
            have n2_ := Aside0.mk (blk_drew B_d.out)
            have n3_ := Aside0.mk (blk_drew B_c.out)
            have n4_ := Aside0.mk (below_drew1 HB.out)
            clear B_a
            clear B_b
            clear B_d
            clear B_c
            clear HB
            have B_a := n0_
            have B_b := n1_
            have B_d := n2_
            have B_c := n3_
            have HB := n4_
            clear n0_ n1_ n2_ n3_ n4_
            refine start_ (n := 53) (S := fun w' => w'.cell? ⟨g_e, 0, none⟩ = some (.int .i64 (wrap64 (tmod a0 3))) ∧ w'.cell? ⟨g_e, 1, none⟩ = some (.int .i64 (((tdiv a0 3) % 256) % 3)) ∧ w'.cell? ⟨g_f, 0, none⟩ = some (.int .i64 (wrap64 (tmod a1 3))) ∧ w'.cell? ⟨g_f, 1, none⟩ = some (.int .i64 (((tdiv a1 3) % 256) % 3)) ∧ w'.cell? ⟨g_h, 0, none⟩ = some (.int .i64 2) ∧ w'.cell? ⟨g_h, 1, none⟩ = some (.int .i64 2) ∧ w'.cell? ⟨g_g, 0, none⟩ = some (.int .i64 (wrap64 (tmod a1 3))) ∧ w'.cell? ⟨g_g, 1, none⟩ = some (.int .i64 ji5)) (ds := []) (bm 53 0) (by kernel_rfl) rfl rfl ⟨(blk_cell B_a.out 0).trans rfl, (blk_cell B_a.out 1).trans rfl, (blk_cell B_b.out 0).trans rfl, (blk_cell B_b.out 1).trans rfl, (blk_cell B_c.out 0).trans rfl, (blk_cell B_c.out 1).trans rfl, (blk_cell B_d.out 0).trans rfl, (blk_cell B_d.out 1).trans rfl⟩ (fun hHeld => ?_); refine with_tabW law07_RulePunch.tab9 law07_RulePunch.bits9 (fun HT_ HW_ => ?_)
            generalize wc.drew = w78 at B_a B_b B_d B_c HB hHeld ⊢
            refine pure_ (i := 0) (N := some 46) (v := ?_) (a' := ?_) (bm 53 1) rfl rfl (any_of HT_.out (by kernel_rfl)) (fun _ _ _ h => h) (Or.inl ⟨by rfl, ?_⟩) ?_ ?_
            rotate_left
            ·intro w'
             go_simp
             with_reducible rfl
            rotate_left
            ·simp only [Act.put, setIfInBounds_toArray, set_cons_zero, set_cons_succ, i64_w, i32_w]
             rfl
            refine pure_ (i := 1) (N := some 47) (v := ?_) (a' := ?_) (bm 53 3) rfl rfl (any_of HT_.out (by kernel_rfl)) (fun _ _ _ h => h) (Or.inl ⟨by rfl, ?_⟩) ?_ ?_
            rotate_left
            ·intro w'
             go_simp
             with_reducible rfl
            rotate_left
            ·simp only [Act.put, setIfInBounds_toArray, set_cons_zero, set_cons_succ, i64_w, i32_w]
             rfl
            refine take_ (i := 2) (N := some 48) (v := ?_) (a' := ?_) (bm 53 7) rfl rfl (take_ofW HT_.out HW_.out (by kernel_rfl)) (fun _ _ _ h => h) (Or.inl ⟨by rfl, ?_⟩) hHeld ?_ ?_
            rotate_left
            ·rintro w' ⟨s0, s1, s2, s3, s4, s5, s6, s7⟩
             go_simp
             with_reducible rfl
            rotate_left
            ·simp only [Act.put, setIfInBounds_toArray, set_cons_zero, set_cons_succ, i64_w, i32_w]
             rfl
            refine take_ (i := 3) (N := some 49) (v := ?_) (a' := ?_) (bm 53 15) rfl rfl (take_ofW HT_.out HW_.out (by kernel_rfl)) (fun _ _ _ h => h) (Or.inl ⟨by rfl, ?_⟩) hHeld ?_ ?_
            rotate_left
            ·rintro w' ⟨s0, s1, s2, s3, s4, s5, s6, s7⟩
             go_simp
             with_reducible rfl
            rotate_left
            ·simp only [Act.put, setIfInBounds_toArray, set_cons_zero, set_cons_succ, i64_w, i32_w]
             rfl
            refine take_ (i := 5) (N := some 51) (v := ?_) (a' := ?_) (bm 53 47) rfl rfl (take_ofW HT_.out HW_.out (by kernel_rfl)) (fun _ _ _ h => h) (Or.inl ⟨by rfl, ?_⟩) hHeld ?_ ?_
            rotate_left
            ·rintro w' ⟨s0, s1, s2, s3, s4, s5, s6, s7⟩
             go_simp
             with_reducible rfl
            rotate_left
            ·simp only [Act.put, setIfInBounds_toArray, set_cons_zero, set_cons_succ, i64_w, i32_w]
             rfl
            refine take_ (i := 6) (N := some 52) (v := ?_) (a' := ?_) (bm 53 111) rfl rfl (take_ofW HT_.out HW_.out (by kernel_rfl)) (fun _ _ _ h => h) (Or.inl ⟨by rfl, ?_⟩) hHeld ?_ ?_
            rotate_left
            ·rintro w' ⟨s0, s1, s2, s3, s4, s5, s6, s7⟩
             go_simp
             with_reducible rfl
            rotate_left
            ·simp only [Act.put, setIfInBounds_toArray, set_cons_zero, set_cons_succ, i64_w, i32_w]
             rfl
            refine one_ (i := 4) (N := some 50) (bm 53 127) rfl rfl (one_of HT_.out (by kernel_rfl)) (by decide) (fun K hK => ?_)
            refine goes_ Try.func18 (by kernel_rfl) rfl #[.agg #[.int .i64 (wrap64 (tmod a0 3)), .int .i64 (((tdiv a0 3) % 256) % 3)], .agg #[.int .i64 (wrap64 (tmod a1 3)), .int .i64 (((tdiv a1 3) % 256) % 3)]] (by rfl) rfl rfl (by (try simp only [List.map_toArray, List.map_cons, List.map_nil]); first | done | rfl | (simp only [List.length_drop, List.length_take]; rfl)) ?_
            with_reducible refine (rule_Punch.calls kj5 (wrap64 (tmod a0 3)) (((tdiv a0 3) % 256) % 3) (wrap64 (tmod a1 3)) (((tdiv a1 3) % 256) % 3) true _ A31.out).mono ?_
            rintro e w79 ⟨rfl, hb⟩
            refine ⟨_, rfl, ?_⟩
            have n0_ := Aside0.mk (blk_below (g := g_e) (o := .cells #[.int .i64 (wrap64 (tmod a0 3)), .int .i64 (((tdiv a0 3) % 256) % 3)] 23 (0, 0)) (by (with_reducible repeat (first | refine blk_drewN ?_ _ | refine blk_drew ?_ | refine blk_alloc ?_ _)); exact B_a.out) hb)
            have n1_ := Aside0.mk (blk_below (g := g_f) (o := .cells #[.int .i64 (wrap64 (tmod a1 3)), .int .i64 (((tdiv a1 3) % 256) % 3)] 23 (0, 0)) (by (with_reducible repeat (first | refine blk_drewN ?_ _ | refine blk_drew ?_ | refine blk_alloc ?_ _)); exact B_b.out) hb)
            have n2_ := Aside0.mk (blk_below (g := g_g) (o := .cells #[.int .i64 (wrap64 (tmod a1 3)), .int .i64 ji5] 23 (0, 0)) (by (with_reducible repeat (first | refine blk_drewN ?_ _ | refine blk_drew ?_ | refine blk_alloc ?_ _)); exact B_d.out) hb)
            have n3_ := Aside0.mk (blk_below (g := g_h) (o := .cells #[.int .i64 2, .int .i64 2] 23 (0, 0)) (by (with_reducible repeat (first | refine blk_drewN ?_ _ | refine blk_drew ?_ | refine blk_alloc ?_ _)); exact B_c.out) hb)
            have n4_ := Aside0.mk (below_step (by repeat (first | (with_reducible first | exact HB.out | apply below_alloc | apply pw_below_drewN | apply below_drew1 | refine below_set ?_ G_i.out | refine below_set ?_ G_j.out | refine below_set ?_ G_k.out | refine below_set ?_ G_l.out) | exact HB.out)) hb)
            clear B_a
            clear B_b
            clear B_d
            clear B_c
            clear HB
            have B_a := n0_
            have B_b := n1_
            have B_d := n2_
            have B_c := n3_
            have HB := n4_
            clear n0_ n1_ n2_ n3_ n4_
            (try clear hb)
            (try clear hb2)
            (try clear hk)
            (try clear hi)
            refine hK.out _ _ ⟨(blk_cell B_a.out 0).trans rfl, (blk_cell B_a.out 1).trans rfl, (blk_cell B_b.out 0).trans rfl, (blk_cell B_b.out 1).trans rfl, (blk_cell B_c.out 0).trans rfl, (blk_cell B_c.out 1).trans rfl, (blk_cell B_d.out 0).trans rfl, (blk_cell B_d.out 1).trans rfl⟩ (fun hHeld => ?_)
            clear hK K
            refine norm_ (a' := ?_) ?_ ?_
            rotate_left
            ·show Act.put _ (some 50) _ = _
             simp only [Act.put, setIfInBounds_toArray, set_cons_zero, set_cons_succ, i64_w, i32_w]
             rfl
            refine one_ (i := 7) (N := some 53) (bm 53 255) rfl rfl (one_of HT_.out (by kernel_rfl)) (by decide) (fun K hK => ?_)
            refine goes_ Try.func18 (by kernel_rfl) rfl #[.agg #[.int .i64 (wrap64 (tmod a1 3)), .int .i64 (((tdiv a1 3) % 256) % 3)], .agg #[.int .i64 (wrap64 (tmod a0 3)), .int .i64 (((tdiv a0 3) % 256) % 3)]] (by rfl) rfl rfl (by (try simp only [List.map_toArray, List.map_cons, List.map_nil]); first | done | rfl | (simp only [List.length_drop, List.length_take]; rfl)) ?_
            with_reducible refine (rule_Punch.calls kj5 (wrap64 (tmod a1 3)) (((tdiv a1 3) % 256) % 3) (wrap64 (tmod a0 3)) (((tdiv a0 3) % 256) % 3) true _ A32.out).mono ?_
            rintro e w80 ⟨rfl, hb⟩
            refine ⟨_, rfl, ?_⟩
            have n0_ := Aside0.mk (blk_below (g := g_e) (o := .cells #[.int .i64 (wrap64 (tmod a0 3)), .int .i64 (((tdiv a0 3) % 256) % 3)] 23 (0, 0)) (by (with_reducible repeat (first | refine blk_drewN ?_ _ | refine blk_drew ?_ | refine blk_alloc ?_ _)); exact B_a.out) hb)
            have n1_ := Aside0.mk (blk_below (g := g_f) (o := .cells #[.int .i64 (wrap64 (tmod a1 3)), .int .i64 (((tdiv a1 3) % 256) % 3)] 23 (0, 0)) (by (with_reducible repeat (first | refine blk_drewN ?_ _ | refine blk_drew ?_ | refine blk_alloc ?_ _)); exact B_b.out) hb)
            have n2_ := Aside0.mk (blk_below (g := g_g) (o := .cells #[.int .i64 (wrap64 (tmod a1 3)), .int .i64 ji5] 23 (0, 0)) (by (with_reducible repeat (first | refine blk_drewN ?_ _ | refine blk_drew ?_ | refine blk_alloc ?_ _)); exact B_d.out) hb)
            have n3_ := Aside0.mk (blk_below (g := g_h) (o := .cells #[.int .i64 2, .int .i64 2] 23 (0, 0)) (by (with_reducible repeat (first | refine blk_drewN ?_ _ | refine blk_drew ?_ | refine blk_alloc ?_ _)); exact B_c.out) hb)
            have n4_ := Aside0.mk (below_step (by repeat (first | (with_reducible first | exact HB.out | apply below_alloc | apply pw_below_drewN | apply below_drew1 | refine below_set ?_ G_i.out | refine below_set ?_ G_j.out | refine below_set ?_ G_k.out | refine below_set ?_ G_l.out) | exact HB.out)) hb)
            clear B_a
            clear B_b
            clear B_d
            clear B_c
            clear HB
            have B_a := n0_
            have B_b := n1_
            have B_d := n2_
            have B_c := n3_
            have HB := n4_
            clear n0_ n1_ n2_ n3_ n4_
            (try clear hb)
            (try clear hb2)
            (try clear hk)
            (try clear hi)
            refine hK.out _ _ ⟨(blk_cell B_a.out 0).trans rfl, (blk_cell B_a.out 1).trans rfl, (blk_cell B_b.out 0).trans rfl, (blk_cell B_b.out 1).trans rfl, (blk_cell B_c.out 0).trans rfl, (blk_cell B_c.out 1).trans rfl, (blk_cell B_d.out 0).trans rfl, (blk_cell B_d.out 1).trans rfl⟩ (fun hHeld => ?_)
            clear hK K
            refine norm_ (a' := ?_) ?_ ?_
            rotate_left
            ·show Act.put _ (some 53) _ = _
             simp only [Act.put, setIfInBounds_toArray, set_cons_zero, set_cons_succ, i64_w, i32_w]
             rfl
            refine pure_ (i := 8) (N := some 54) (v := ?_) (a' := ?_) (bm 53 511) rfl rfl (any_of HT_.out (by kernel_rfl)) (fun _ _ _ h => h) (Or.inl ⟨by rfl, ?_⟩) ?_ ?_
            rotate_left
            ·intro w'
             go_simp
             with_reducible rfl
            rotate_left
            ·simp only [Act.put, setIfInBounds_toArray, set_cons_zero, set_cons_succ, i64_w, i32_w]
             rfl
            refine pure_ (i := 9) (N := some 55) (v := ?_) (a' := ?_) (bm 53 1023) rfl rfl (any_of HT_.out (by kernel_rfl)) (fun _ _ _ h => h) (Or.inl ⟨by rfl, ?_⟩) ?_ ?_
            rotate_left
            ·intro w'
             go_simp
             with_reducible rfl
            rotate_left
            ·simp only [Act.put, setIfInBounds_toArray, set_cons_zero, set_cons_succ, i64_w, i32_w]
             rfl
            refine pure_ (i := 10) (N := some 56) (v := ?_) (a' := ?_) (bm 53 2047) rfl rfl (any_of HT_.out (by kernel_rfl)) (fun _ _ _ h => h) (Or.inl ⟨by rfl, ?_⟩) ?_ ?_
            rotate_left
            ·intro w'
             go_simp
             with_reducible rfl
            rotate_left
            ·simp only [Act.put, setIfInBounds_toArray, set_cons_zero, set_cons_succ, i64_w, i32_w]
             rfl
            refine pure_ (i := 11) (N := some 57) (v := ?_) (a' := ?_) (bm 53 4095) rfl rfl (any_of HT_.out (by kernel_rfl)) (fun _ _ _ h => h) (Or.inl ⟨by rfl, ?_⟩) ?_ ?_
            rotate_left
            ·intro w'
             go_simp
             with_reducible rfl
            rotate_left
            ·simp only [Act.put, setIfInBounds_toArray, set_cons_zero, set_cons_succ, i64_w, i32_w]
             rfl
            refine pure_ (i := 12) (N := some 58) (v := ?_) (a' := ?_) (bm 53 8191) rfl rfl (any_of HT_.out (by kernel_rfl)) (fun _ _ _ h => h) (Or.inl ⟨by rfl, ?_⟩) ?_ ?_
            rotate_left
            ·intro w'
             go_simp
             with_reducible rfl
            rotate_left
            ·simp only [Act.put, setIfInBounds_toArray, set_cons_zero, set_cons_succ, i64_w, i32_w]
             rfl
            refine pure_ (i := 13) (N := some 59) (v := ?_) (a' := ?_) (bm 53 16383) rfl rfl (any_of HT_.out (by kernel_rfl)) (fun _ _ _ h => h) (Or.inl ⟨by rfl, ?_⟩) ?_ ?_
            rotate_left
            ·intro w'
             go_simp
             with_reducible rfl
            rotate_left
            ·simp only [Act.put, setIfInBounds_toArray, set_cons_zero, set_cons_succ, i64_w, i32_w]
             rfl
            refine pure_ (i := 14) (N := some 60) (v := undef) (a' := ?_) (bm 53 32767) rfl rfl (any_of HT_.out (by kernel_rfl)) (fun _ _ _ h => h) (Or.inr ⟨by rfl, rfl⟩) ?_ ?_
            rotate_left
            ·simp only [Act.put, setIfInBounds_toArray, set_cons_zero, set_cons_succ, i64_w, i32_w]
             rfl
            refine pure_ (i := 15) (N := some 61) (v := undef) (a' := ?_) (bm 53 65535) rfl rfl (any_of HT_.out (by kernel_rfl)) (fun _ _ _ h => h) (Or.inr ⟨by rfl, rfl⟩) ?_ ?_
            rotate_left
            ·simp only [Act.put, setIfInBounds_toArray, set_cons_zero, set_cons_succ, i64_w, i32_w]
             rfl
            refine pure_ (i := 16) (N := some 62) (v := undef) (a' := ?_) (bm 53 131071) rfl rfl (any_of HT_.out (by kernel_rfl)) (fun _ _ _ h => h) (Or.inr ⟨by rfl, rfl⟩) ?_ ?_
            rotate_left
            ·simp only [Act.put, setIfInBounds_toArray, set_cons_zero, set_cons_succ, i64_w, i32_w]
             rfl
            refine pure_ (i := 17) (N := some 63) (v := ?_) (a' := ?_) (bm 53 262143) rfl rfl (any_of HT_.out (by kernel_rfl)) (fun _ _ _ h => h) (Or.inl ⟨by rfl, ?_⟩) ?_ ?_
            rotate_left
            ·intro w'
             go_simp
             with_reducible rfl
            rotate_left
            ·simp only [Act.put, setIfInBounds_toArray, set_cons_zero, set_cons_succ, i64_w, i32_w]
             rfl
            refine pure_ (i := 18) (N := some 64) (v := ?_) (a' := ?_) (bm 53 524287) rfl rfl (any_of HT_.out (by kernel_rfl)) (fun _ _ _ h => h) (Or.inl ⟨by rfl, ?_⟩) ?_ ?_
            rotate_left
            ·intro w'
             go_simp
             with_reducible rfl
            rotate_left
            ·simp only [Act.put, setIfInBounds_toArray, set_cons_zero, set_cons_succ, i64_w, i32_w]
             rfl
            refine pure_ (i := 19) (N := some 65) (v := ?_) (a' := ?_) (bm 53 1048575) rfl rfl (any_of HT_.out (by kernel_rfl)) (fun _ _ _ h => h) (Or.inl ⟨by rfl, ?_⟩) ?_ ?_
            rotate_left
            ·intro w'
             go_simp
             with_reducible rfl
            rotate_left
            ·simp only [Act.put, setIfInBounds_toArray, set_cons_zero, set_cons_succ, i64_w, i32_w]
             rfl
            refine take_ (i := 20) (N := some 66) (v := ?_) (a' := ?_) (bm 53 2097151) rfl rfl (take_ofW HT_.out HW_.out (by kernel_rfl)) (fun _ _ _ h => h) (Or.inl ⟨by rfl, ?_⟩) hHeld ?_ ?_
            rotate_left
            ·rintro w' ⟨s0, s1, s2, s3, s4, s5, s6, s7⟩
             go_simp
             with_reducible rfl
            rotate_left
            ·simp only [Act.put, setIfInBounds_toArray, set_cons_zero, set_cons_succ, i64_w, i32_w]
             rfl
            refine take_ (i := 21) (N := some 67) (v := ?_) (a' := ?_) (bm 53 4194303) rfl rfl (take_ofW HT_.out HW_.out (by kernel_rfl)) (fun _ _ _ h => h) (Or.inl ⟨by rfl, ?_⟩) hHeld ?_ ?_
            rotate_left
            ·rintro w' ⟨s0, s1, s2, s3, s4, s5, s6, s7⟩
             go_simp
             with_reducible rfl
            rotate_left
            ·simp only [Act.put, setIfInBounds_toArray, set_cons_zero, set_cons_succ, i64_w, i32_w]
             rfl
            refine one_ (i := 22) (N := some 68) (bm 53 8388607) rfl rfl (one_of HT_.out (by kernel_rfl)) (by decide) (fun K hK => ?_)
            refine goes_ Try.func18 (by kernel_rfl) rfl #[.agg #[.int .i64 2, .int .i64 2], .agg #[.int .i64 2, .int .i64 2]] (by rfl) rfl rfl (by (try simp only [List.map_toArray, List.map_cons, List.map_nil]); first | done | rfl | (simp only [List.length_drop, List.length_take]; rfl)) ?_
            with_reducible refine (rule_Punch.calls kj5 2 2 2 2 false _ A68.out).mono ?_
            rintro e w81 ⟨rfl, hb⟩
            refine ⟨_, rfl, ?_⟩
            have n0_ := Aside0.mk (blk_below (g := g_e) (o := .cells #[.int .i64 (wrap64 (tmod a0 3)), .int .i64 (((tdiv a0 3) % 256) % 3)] 23 (0, 0)) (by (with_reducible repeat (first | refine blk_drewN ?_ _ | refine blk_drew ?_ | refine blk_alloc ?_ _)); exact B_a.out) hb)
            have n1_ := Aside0.mk (blk_below (g := g_f) (o := .cells #[.int .i64 (wrap64 (tmod a1 3)), .int .i64 (((tdiv a1 3) % 256) % 3)] 23 (0, 0)) (by (with_reducible repeat (first | refine blk_drewN ?_ _ | refine blk_drew ?_ | refine blk_alloc ?_ _)); exact B_b.out) hb)
            have n2_ := Aside0.mk (blk_below (g := g_g) (o := .cells #[.int .i64 (wrap64 (tmod a1 3)), .int .i64 ji5] 23 (0, 0)) (by (with_reducible repeat (first | refine blk_drewN ?_ _ | refine blk_drew ?_ | refine blk_alloc ?_ _)); exact B_d.out) hb)
            have n3_ := Aside0.mk (blk_below (g := g_h) (o := .cells #[.int .i64 2, .int .i64 2] 23 (0, 0)) (by (with_reducible repeat (first | refine blk_drewN ?_ _ | refine blk_drew ?_ | refine blk_alloc ?_ _)); exact B_c.out) hb)
            have n4_ := Aside0.mk (below_step (by repeat (first | (with_reducible first | exact HB.out | apply below_alloc | apply pw_below_drewN | apply below_drew1 | refine below_set ?_ G_i.out | refine below_set ?_ G_j.out | refine below_set ?_ G_k.out | refine below_set ?_ G_l.out) | exact HB.out)) hb)
            clear B_a
            clear B_b
            clear B_d
            clear B_c
            clear HB
            have B_a := n0_
            have B_b := n1_
            have B_d := n2_
            have B_c := n3_
            have HB := n4_
            clear n0_ n1_ n2_ n3_ n4_
            (try clear hb)
            (try clear hb2)
            (try clear hk)
            (try clear hi)
            refine hK.out _ _ ⟨(blk_cell B_a.out 0).trans rfl, (blk_cell B_a.out 1).trans rfl, (blk_cell B_b.out 0).trans rfl, (blk_cell B_b.out 1).trans rfl, (blk_cell B_c.out 0).trans rfl, (blk_cell B_c.out 1).trans rfl, (blk_cell B_d.out 0).trans rfl, (blk_cell B_d.out 1).trans rfl⟩ (fun hHeld => ?_)
            clear hK K
            refine norm_ (a' := ?_) ?_ ?_
            rotate_left
            ·show Act.put _ (some 68) _ = _
             simp only [Act.put, setIfInBounds_toArray, set_cons_zero, set_cons_succ, i64_w, i32_w]
             rfl
            refine pure_ (i := 23) (N := some 69) (v := ?_) (a' := ?_) (bm 53 16777215) rfl rfl (any_of HT_.out (by kernel_rfl)) (fun _ _ _ h => h) (Or.inl ⟨by rfl, ?_⟩) ?_ ?_
            rotate_left
            ·intro w'
             go_simp
             with_reducible rfl
            rotate_left
            ·simp only [Act.put, setIfInBounds_toArray, set_cons_zero, set_cons_succ, i64_w, i32_w]
             rfl
            refine pure_ (i := 24) (N := some 70) (v := ?_) (a' := ?_) (bm 53 33554431) rfl rfl (any_of HT_.out (by kernel_rfl)) (fun _ _ _ h => h) (Or.inl ⟨by rfl, ?_⟩) ?_ ?_
            rotate_left
            ·intro w'
             go_simp
             with_reducible rfl
            rotate_left
            ·simp only [Act.put, setIfInBounds_toArray, set_cons_zero, set_cons_succ, i64_w, i32_w]
             rfl
            refine pure_ (i := 25) (N := some 71) (v := ?_) (a' := ?_) (bm 53 67108863) rfl rfl (any_of HT_.out (by kernel_rfl)) (fun _ _ _ h => h) (Or.inl ⟨by rfl, ?_⟩) ?_ ?_
            rotate_left
            ·intro w'
             go_simp
             with_reducible rfl
            rotate_left
            ·simp only [Act.put, setIfInBounds_toArray, set_cons_zero, set_cons_succ, i64_w, i32_w]
             rfl
            refine take_ (i := 26) (N := some 72) (v := ?_) (a' := ?_) (bm 53 134217727) rfl rfl (take_ofW HT_.out HW_.out (by kernel_rfl)) (fun _ _ _ h => h) (Or.inl ⟨by rfl, ?_⟩) hHeld ?_ ?_
            rotate_left
            ·rintro w' ⟨s0, s1, s2, s3, s4, s5, s6, s7⟩
             go_simp
             with_reducible rfl
            rotate_left
            ·simp only [Act.put, setIfInBounds_toArray, set_cons_zero, set_cons_succ, i64_w, i32_w]
             rfl
            refine take_ (i := 27) (N := some 73) (v := ?_) (a' := ?_) (bm 53 268435455) rfl rfl (take_ofW HT_.out HW_.out (by kernel_rfl)) (fun _ _ _ h => h) (Or.inl ⟨by rfl, ?_⟩) hHeld ?_ ?_
            rotate_left
            ·rintro w' ⟨s0, s1, s2, s3, s4, s5, s6, s7⟩
             go_simp
             with_reducible rfl
            rotate_left
            ·simp only [Act.put, setIfInBounds_toArray, set_cons_zero, set_cons_succ, i64_w, i32_w]
             rfl
            refine one_ (i := 28) (N := some 74) (bm 53 536870911) rfl rfl (one_of HT_.out (by kernel_rfl)) (by decide) (fun K hK => ?_)
            refine goes_ Try.func18 (by kernel_rfl) rfl #[.agg #[.int .i64 (wrap64 (tmod a0 3)), .int .i64 (((tdiv a0 3) % 256) % 3)], .agg #[.int .i64 (wrap64 (tmod a1 3)), .int .i64 (((tdiv a1 3) % 256) % 3)]] (by rfl) rfl rfl (by (try simp only [List.map_toArray, List.map_cons, List.map_nil]); first | done | rfl | (simp only [List.length_drop, List.length_take]; rfl)) ?_
            with_reducible refine (rule_Punch.calls kj5 (wrap64 (tmod a0 3)) (((tdiv a0 3) % 256) % 3) (wrap64 (tmod a1 3)) (((tdiv a1 3) % 256) % 3) true _ A70.out).mono ?_
            rintro e w82 ⟨rfl, hb⟩
            refine ⟨_, rfl, ?_⟩
            have n0_ := Aside0.mk (blk_below (g := g_e) (o := .cells #[.int .i64 (wrap64 (tmod a0 3)), .int .i64 (((tdiv a0 3) % 256) % 3)] 23 (0, 0)) (by (with_reducible repeat (first | refine blk_drewN ?_ _ | refine blk_drew ?_ | refine blk_alloc ?_ _)); exact B_a.out) hb)
            have n1_ := Aside0.mk (blk_below (g := g_f) (o := .cells #[.int .i64 (wrap64 (tmod a1 3)), .int .i64 (((tdiv a1 3) % 256) % 3)] 23 (0, 0)) (by (with_reducible repeat (first | refine blk_drewN ?_ _ | refine blk_drew ?_ | refine blk_alloc ?_ _)); exact B_b.out) hb)
            have n2_ := Aside0.mk (blk_below (g := g_g) (o := .cells #[.int .i64 (wrap64 (tmod a1 3)), .int .i64 ji5] 23 (0, 0)) (by (with_reducible repeat (first | refine blk_drewN ?_ _ | refine blk_drew ?_ | refine blk_alloc ?_ _)); exact B_d.out) hb)
            have n3_ := Aside0.mk (blk_below (g := g_h) (o := .cells #[.int .i64 2, .int .i64 2] 23 (0, 0)) (by (with_reducible repeat (first | refine blk_drewN ?_ _ | refine blk_drew ?_ | refine blk_alloc ?_ _)); exact B_c.out) hb)
            have n4_ := Aside0.mk (below_step (by repeat (first | (with_reducible first | exact HB.out | apply below_alloc | apply pw_below_drewN | apply below_drew1 | refine below_set ?_ G_i.out | refine below_set ?_ G_j.out | refine below_set ?_ G_k.out | refine below_set ?_ G_l.out) | exact HB.out)) hb)
            clear B_a
            clear B_b
            clear B_d
            clear B_c
            clear HB
            have B_a := n0_
            have B_b := n1_
            have B_d := n2_
            have B_c := n3_
            have HB := n4_
            clear n0_ n1_ n2_ n3_ n4_
            (try clear hb)
            (try clear hb2)
            (try clear hk)
            (try clear hi)
            refine hK.out _ _ ⟨(blk_cell B_a.out 0).trans rfl, (blk_cell B_a.out 1).trans rfl, (blk_cell B_b.out 0).trans rfl, (blk_cell B_b.out 1).trans rfl, (blk_cell B_c.out 0).trans rfl, (blk_cell B_c.out 1).trans rfl, (blk_cell B_d.out 0).trans rfl, (blk_cell B_d.out 1).trans rfl⟩ (fun hHeld => ?_)
            clear hK K
            refine norm_ (a' := ?_) ?_ ?_
            rotate_left
            ·show Act.put _ (some 74) _ = _
             simp only [Act.put, setIfInBounds_toArray, set_cons_zero, set_cons_succ, i64_w, i32_w]
             rfl
            refine pure_ (i := 29) (N := some 75) (v := ?_) (a' := ?_) (bm 53 1073741823) rfl rfl (any_of HT_.out (by kernel_rfl)) (fun _ _ _ h => h) (Or.inl ⟨by rfl, ?_⟩) ?_ ?_
            rotate_left
            ·intro w'
             go_simp
             with_reducible rfl
            rotate_left
            ·simp only [Act.put, setIfInBounds_toArray, set_cons_zero, set_cons_succ, i64_w, i32_w]
             rfl
            refine pure_ (i := 30) (N := some 76) (v := ?_) (a' := ?_) (bm 53 2147483647) rfl rfl (any_of HT_.out (by kernel_rfl)) (fun _ _ _ h => h) (Or.inl ⟨by rfl, ?_⟩) ?_ ?_
            rotate_left
            ·intro w'
             go_simp
             with_reducible rfl
            rotate_left
            ·simp only [Act.put, setIfInBounds_toArray, set_cons_zero, set_cons_succ, i64_w, i32_w]
             rfl
            refine take_ (i := 31) (N := some 77) (v := ?_) (a' := ?_) (bm 53 4294967295) rfl rfl (take_ofW HT_.out HW_.out (by kernel_rfl)) (fun _ _ _ h => h) (Or.inl ⟨by rfl, ?_⟩) hHeld ?_ ?_
            rotate_left
            ·rintro w' ⟨s0, s1, s2, s3, s4, s5, s6, s7⟩
             go_simp
             with_reducible rfl
            rotate_left
            ·simp only [Act.put, setIfInBounds_toArray, set_cons_zero, set_cons_succ, i64_w, i32_w]
             rfl
            refine take_ (i := 32) (N := some 78) (v := ?_) (a' := ?_) (bm 53 8589934591) rfl rfl (take_ofW HT_.out HW_.out (by kernel_rfl)) (fun _ _ _ h => h) (Or.inl ⟨by rfl, ?_⟩) hHeld ?_ ?_
            rotate_left
            ·rintro w' ⟨s0, s1, s2, s3, s4, s5, s6, s7⟩
             go_simp
             with_reducible rfl
            rotate_left
            ·simp only [Act.put, setIfInBounds_toArray, set_cons_zero, set_cons_succ, i64_w, i32_w]
             rfl
            refine one_ (i := 33) (N := some 79) (bm 53 17179869183) rfl rfl (one_of HT_.out (by kernel_rfl)) (by decide) (fun K hK => ?_)
            refine goes_ Try.func18 (by kernel_rfl) rfl #[.agg #[.int .i64 (wrap64 (tmod a0 3)), .int .i64 (((tdiv a0 3) % 256) % 3)], .agg #[.int .i64 (wrap64 (tmod a1 3)), .int .i64 ji5]] (by rfl) rfl rfl (by (try simp only [List.map_toArray, List.map_cons, List.map_nil]); first | done | (simp only [hji5]; rfl) | rfl | (simp only [List.length_drop, List.length_take]; rfl)) ?_
            with_reducible refine (rule_Punch.calls kj5 (wrap64 (tmod a0 3)) (((tdiv a0 3) % 256) % 3) (wrap64 (tmod a1 3)) ji5 true _ A72.out).mono ?_
            rintro e w83 ⟨rfl, hb⟩
            refine ⟨_, rfl, ?_⟩
            have n0_ := Aside0.mk (blk_below (g := g_e) (o := .cells #[.int .i64 (wrap64 (tmod a0 3)), .int .i64 (((tdiv a0 3) % 256) % 3)] 23 (0, 0)) (by (with_reducible repeat (first | refine blk_drewN ?_ _ | refine blk_drew ?_ | refine blk_alloc ?_ _)); exact B_a.out) hb)
            have n1_ := Aside0.mk (blk_below (g := g_f) (o := .cells #[.int .i64 (wrap64 (tmod a1 3)), .int .i64 (((tdiv a1 3) % 256) % 3)] 23 (0, 0)) (by (with_reducible repeat (first | refine blk_drewN ?_ _ | refine blk_drew ?_ | refine blk_alloc ?_ _)); exact B_b.out) hb)
            have n2_ := Aside0.mk (blk_below (g := g_g) (o := .cells #[.int .i64 (wrap64 (tmod a1 3)), .int .i64 ji5] 23 (0, 0)) (by (with_reducible repeat (first | refine blk_drewN ?_ _ | refine blk_drew ?_ | refine blk_alloc ?_ _)); exact B_d.out) hb)
            have n3_ := Aside0.mk (blk_below (g := g_h) (o := .cells #[.int .i64 2, .int .i64 2] 23 (0, 0)) (by (with_reducible repeat (first | refine blk_drewN ?_ _ | refine blk_drew ?_ | refine blk_alloc ?_ _)); exact B_c.out) hb)
            have n4_ := Aside0.mk (below_step (by repeat (first | (with_reducible first | exact HB.out | apply below_alloc | apply pw_below_drewN | apply below_drew1 | refine below_set ?_ G_i.out | refine below_set ?_ G_j.out | refine below_set ?_ G_k.out | refine below_set ?_ G_l.out) | exact HB.out)) hb)
            clear B_a
            clear B_b
            clear B_d
            clear B_c
            clear HB
            have B_a := n0_
            have B_b := n1_
            have B_d := n2_
            have B_c := n3_
            have HB := n4_
            clear n0_ n1_ n2_ n3_ n4_
            (try clear hb)
            (try clear hb2)
            (try clear hk)
            (try clear hi)
            refine hK.out _ _ ⟨(blk_cell B_a.out 0).trans rfl, (blk_cell B_a.out 1).trans rfl, (blk_cell B_b.out 0).trans rfl, (blk_cell B_b.out 1).trans rfl, (blk_cell B_c.out 0).trans rfl, (blk_cell B_c.out 1).trans rfl, (blk_cell B_d.out 0).trans rfl, (blk_cell B_d.out 1).trans rfl⟩ (fun hHeld => ?_)
            clear hK K
            refine norm_ (a' := ?_) ?_ ?_
            rotate_left
            ·show Act.put _ (some 79) _ = _
             simp only [Act.put, setIfInBounds_toArray, set_cons_zero, set_cons_succ, i64_w, i32_w]
             rfl
            refine pure_ (i := 34) (N := some 80) (v := ?_) (a' := ?_) (bm 53 34359738367) rfl rfl (any_of HT_.out (by kernel_rfl)) (fun _ _ _ h => h) (Or.inl ⟨by rfl, ?_⟩) ?_ ?_
            rotate_left
            ·intro w'
             go_simp
             with_reducible rfl
            rotate_left
            ·simp only [Act.put, setIfInBounds_toArray, set_cons_zero, set_cons_succ, i64_w, i32_w]
             rfl
            refine pure_ (i := 35) (N := some 81) (v := ?_) (a' := ?_) (bm 53 68719476735) rfl rfl (any_of HT_.out (by kernel_rfl)) (fun _ _ _ h => h) (Or.inl ⟨by rfl, ?_⟩) ?_ ?_
            rotate_left
            ·intro w'
             go_simp
             with_reducible rfl
            rotate_left
            ·simp only [Act.put, setIfInBounds_toArray, set_cons_zero, set_cons_succ, i64_w, i32_w]
             rfl
            refine pure_ (i := 36) (N := some 82) (v := ?_) (a' := ?_) (bm 53 137438953471) rfl rfl (any_of HT_.out (by kernel_rfl)) (fun _ _ _ h => h) (Or.inl ⟨by rfl, ?_⟩) ?_ ?_
            rotate_left
            ·intro w'
             go_simp
             with_reducible rfl
            rotate_left
            ·simp only [Act.put, setIfInBounds_toArray, set_cons_zero, set_cons_succ, i64_w, i32_w]
             rfl
            refine take_ (i := 37) (N := some 83) (v := ?_) (a' := ?_) (bm 53 274877906943) rfl rfl (take_ofW HT_.out HW_.out (by kernel_rfl)) (fun _ _ _ h => h) (Or.inl ⟨by rfl, ?_⟩) hHeld ?_ ?_
            rotate_left
            ·rintro w' ⟨s0, s1, s2, s3, s4, s5, s6, s7⟩
             go_simp
             with_reducible rfl
            rotate_left
            ·simp only [Act.put, setIfInBounds_toArray, set_cons_zero, set_cons_succ, i64_w, i32_w]
             rfl
            refine take_ (i := 38) (N := some 84) (v := ?_) (a' := ?_) (bm 53 549755813887) rfl rfl (take_ofW HT_.out HW_.out (by kernel_rfl)) (fun _ _ _ h => h) (Or.inl ⟨by rfl, ?_⟩) hHeld ?_ ?_
            rotate_left
            ·rintro w' ⟨s0, s1, s2, s3, s4, s5, s6, s7⟩
             go_simp
             with_reducible rfl
            rotate_left
            ·simp only [Act.put, setIfInBounds_toArray, set_cons_zero, set_cons_succ, i64_w, i32_w]
             rfl
            refine one_ (i := 39) (N := some 85) (bm 53 1099511627775) rfl rfl (one_of HT_.out (by kernel_rfl)) (by decide) (fun K hK => ?_)
            refine goes_ Try.func18 (by kernel_rfl) rfl #[.agg #[.int .i64 (wrap64 (tmod a0 3)), .int .i64 (((tdiv a0 3) % 256) % 3)], .agg #[.int .i64 (wrap64 (tmod a1 3)), .int .i64 (((tdiv a1 3) % 256) % 3)]] (by rfl) rfl rfl (by (try simp only [List.map_toArray, List.map_cons, List.map_nil]); first | done | rfl | (simp only [List.length_drop, List.length_take]; rfl)) ?_
            with_reducible refine (rule_Punch.calls kj5 (wrap64 (tmod a0 3)) (((tdiv a0 3) % 256) % 3) (wrap64 (tmod a1 3)) (((tdiv a1 3) % 256) % 3) true _ A74.out).mono ?_
            rintro e w84 ⟨rfl, hb⟩
            refine ⟨_, rfl, ?_⟩
            have n0_ := Aside0.mk (blk_below (g := g_e) (o := .cells #[.int .i64 (wrap64 (tmod a0 3)), .int .i64 (((tdiv a0 3) % 256) % 3)] 23 (0, 0)) (by (with_reducible repeat (first | refine blk_drewN ?_ _ | refine blk_drew ?_ | refine blk_alloc ?_ _)); exact B_a.out) hb)
            have n1_ := Aside0.mk (blk_below (g := g_f) (o := .cells #[.int .i64 (wrap64 (tmod a1 3)), .int .i64 (((tdiv a1 3) % 256) % 3)] 23 (0, 0)) (by (with_reducible repeat (first | refine blk_drewN ?_ _ | refine blk_drew ?_ | refine blk_alloc ?_ _)); exact B_b.out) hb)
            have n2_ := Aside0.mk (blk_below (g := g_g) (o := .cells #[.int .i64 (wrap64 (tmod a1 3)), .int .i64 ji5] 23 (0, 0)) (by (with_reducible repeat (first | refine blk_drewN ?_ _ | refine blk_drew ?_ | refine blk_alloc ?_ _)); exact B_d.out) hb)
            have n3_ := Aside0.mk (blk_below (g := g_h) (o := .cells #[.int .i64 2, .int .i64 2] 23 (0, 0)) (by (with_reducible repeat (first | refine blk_drewN ?_ _ | refine blk_drew ?_ | refine blk_alloc ?_ _)); exact B_c.out) hb)
            have n4_ := Aside0.mk (below_step (by repeat (first | (with_reducible first | exact HB.out | apply below_alloc | apply pw_below_drewN | apply below_drew1 | refine below_set ?_ G_i.out | refine below_set ?_ G_j.out | refine below_set ?_ G_k.out | refine below_set ?_ G_l.out) | exact HB.out)) hb)
            clear B_a
            clear B_b
            clear B_d
            clear B_c
            clear HB
            have B_a := n0_
            have B_b := n1_
            have B_d := n2_
            have B_c := n3_
            have HB := n4_
            clear n0_ n1_ n2_ n3_ n4_
            (try clear hb)
            (try clear hb2)
            (try clear hk)
            (try clear hi)
            refine hK.out _ _ ⟨(blk_cell B_a.out 0).trans rfl, (blk_cell B_a.out 1).trans rfl, (blk_cell B_b.out 0).trans rfl, (blk_cell B_b.out 1).trans rfl, (blk_cell B_c.out 0).trans rfl, (blk_cell B_c.out 1).trans rfl, (blk_cell B_d.out 0).trans rfl, (blk_cell B_d.out 1).trans rfl⟩ (fun hHeld => ?_)
            clear hK K
            refine norm_ (a' := ?_) ?_ ?_
            rotate_left
            ·show Act.put _ (some 85) _ = _
             simp only [Act.put, setIfInBounds_toArray, set_cons_zero, set_cons_succ, i64_w, i32_w]
             rfl
            refine pure_ (i := 40) (N := some 86) (v := ?_) (a' := ?_) (bm 53 2199023255551) rfl rfl (any_of HT_.out (by kernel_rfl)) (fun _ _ _ h => h) (Or.inl ⟨by rfl, ?_⟩) ?_ ?_
            rotate_left
            ·intro w'
             go_simp
             with_reducible rfl
            rotate_left
            ·simp only [Act.put, setIfInBounds_toArray, set_cons_zero, set_cons_succ, i64_w, i32_w]
             rfl
            refine pure_ (i := 41) (N := some 87) (v := ?_) (a' := ?_) (bm 53 4398046511103) rfl rfl (any_of HT_.out (by kernel_rfl)) (fun _ _ _ h => h) (Or.inl ⟨by rfl, ?_⟩) ?_ ?_
            rotate_left
            ·intro w'
             go_simp
             with_reducible rfl
            rotate_left
            ·simp only [Act.put, setIfInBounds_toArray, set_cons_zero, set_cons_succ, i64_w, i32_w]
             rfl
            refine take_ (i := 42) (N := some 88) (v := ?_) (a' := ?_) (bm 53 8796093022207) rfl rfl (take_ofW HT_.out HW_.out (by kernel_rfl)) (fun _ _ _ h => h) (Or.inl ⟨by rfl, ?_⟩) hHeld ?_ ?_
            rotate_left
            ·rintro w' ⟨s0, s1, s2, s3, s4, s5, s6, s7⟩
             go_simp
             with_reducible rfl
            rotate_left
            ·simp only [Act.put, setIfInBounds_toArray, set_cons_zero, set_cons_succ, i64_w, i32_w]
             rfl
            refine take_ (i := 43) (N := some 89) (v := ?_) (a' := ?_) (bm 53 17592186044415) rfl rfl (take_ofW HT_.out HW_.out (by kernel_rfl)) (fun _ _ _ h => h) (Or.inl ⟨by rfl, ?_⟩) hHeld ?_ ?_
            rotate_left
            ·rintro w' ⟨s0, s1, s2, s3, s4, s5, s6, s7⟩
             go_simp
             with_reducible rfl
            rotate_left
            ·simp only [Act.put, setIfInBounds_toArray, set_cons_zero, set_cons_succ, i64_w, i32_w]
             rfl
            refine one_ (i := 44) (N := some 90) (bm 53 35184372088831) rfl rfl (one_of HT_.out (by kernel_rfl)) (by decide) (fun K hK => ?_)
            refine goes_ Try.func16 (by kernel_rfl) rfl #[.agg #[.int .i64 (wrap64 (tmod a0 3)), .int .i64 (((tdiv a0 3) % 256) % 3)], .agg #[.int .i64 (wrap64 (tmod a1 3)), .int .i64 (((tdiv a1 3) % 256) % 3)]] (by rfl) rfl rfl (by (try simp only [List.map_toArray, List.map_cons, List.map_nil]); first | done | rfl | (simp only [List.length_drop, List.length_take]; rfl)) ?_
            with_reducible refine (rule_Through.calls kj5 (wrap64 (tmod a0 3)) (((tdiv a0 3) % 256) % 3) (wrap64 (tmod a1 3)) (((tdiv a1 3) % 256) % 3) true _ A76.out).mono ?_
            rintro e w85 ⟨rfl, hb⟩
            refine ⟨_, rfl, ?_⟩
            have n0_ := Aside0.mk (blk_below (g := g_e) (o := .cells #[.int .i64 (wrap64 (tmod a0 3)), .int .i64 (((tdiv a0 3) % 256) % 3)] 23 (0, 0)) (by (with_reducible repeat (first | refine blk_drewN ?_ _ | refine blk_drew ?_ | refine blk_alloc ?_ _)); exact B_a.out) hb)
            have n1_ := Aside0.mk (blk_below (g := g_f) (o := .cells #[.int .i64 (wrap64 (tmod a1 3)), .int .i64 (((tdiv a1 3) % 256) % 3)] 23 (0, 0)) (by (with_reducible repeat (first | refine blk_drewN ?_ _ | refine blk_drew ?_ | refine blk_alloc ?_ _)); exact B_b.out) hb)
            have n2_ := Aside0.mk (blk_below (g := g_g) (o := .cells #[.int .i64 (wrap64 (tmod a1 3)), .int .i64 ji5] 23 (0, 0)) (by (with_reducible repeat (first | refine blk_drewN ?_ _ | refine blk_drew ?_ | refine blk_alloc ?_ _)); exact B_d.out) hb)
            have n3_ := Aside0.mk (blk_below (g := g_h) (o := .cells #[.int .i64 2, .int .i64 2] 23 (0, 0)) (by (with_reducible repeat (first | refine blk_drewN ?_ _ | refine blk_drew ?_ | refine blk_alloc ?_ _)); exact B_c.out) hb)
            have n4_ := Aside0.mk (below_step (by repeat (first | (with_reducible first | exact HB.out | apply below_alloc | apply pw_below_drewN | apply below_drew1 | refine below_set ?_ G_i.out | refine below_set ?_ G_j.out | refine below_set ?_ G_k.out | refine below_set ?_ G_l.out) | exact HB.out)) hb)
            clear B_a
            clear B_b
            clear B_d
            clear B_c
            clear HB
            have B_a := n0_
            have B_b := n1_
            have B_d := n2_
            have B_c := n3_
            have HB := n4_
            clear n0_ n1_ n2_ n3_ n4_
            (try clear hb)
            (try clear hb2)
            (try clear hk)
            (try clear hi)
            refine hK.out _ _ ⟨(blk_cell B_a.out 0).trans rfl, (blk_cell B_a.out 1).trans rfl, (blk_cell B_b.out 0).trans rfl, (blk_cell B_b.out 1).trans rfl, (blk_cell B_c.out 0).trans rfl, (blk_cell B_c.out 1).trans rfl, (blk_cell B_d.out 0).trans rfl, (blk_cell B_d.out 1).trans rfl⟩ (fun hHeld => ?_)
            clear hK K
            refine norm_ (a' := ?_) ?_ ?_
            rotate_left
            ·show Act.put _ (some 90) _ = _
             simp only [Act.put, setIfInBounds_toArray, set_cons_zero, set_cons_succ, i64_w, i32_w]
             rfl
            refine pure_ (i := 45) (N := some 91) (v := ?_) (a' := ?_) (bm 53 70368744177663) rfl rfl (any_of HT_.out (by kernel_rfl)) (fun _ _ _ h => h) (Or.inl ⟨by rfl, ?_⟩) ?_ ?_
            rotate_left
            ·intro w'
             go_simp
             with_reducible rfl
            rotate_left
            ·simp only [Act.put, setIfInBounds_toArray, set_cons_zero, set_cons_succ, i64_w, i32_w]
             rfl
            refine pure_ (i := 46) (N := some 92) (v := ?_) (a' := ?_) (bm 53 140737488355327) rfl rfl (any_of HT_.out (by kernel_rfl)) (fun _ _ _ h => h) (Or.inl ⟨by rfl, ?_⟩) ?_ ?_
            rotate_left
            ·intro w'
             go_simp
             with_reducible rfl
            rotate_left
            ·simp only [Act.put, setIfInBounds_toArray, set_cons_zero, set_cons_succ, i64_w, i32_w]
             rfl
            refine pure_ (i := 47) (N := some 93) (v := undef) (a' := ?_) (bm 53 281474976710655) rfl rfl (any_of HT_.out (by kernel_rfl)) (fun _ _ _ h => h) (Or.inr ⟨by rfl, rfl⟩) ?_ ?_
            rotate_left
            ·simp only [Act.put, setIfInBounds_toArray, set_cons_zero, set_cons_succ, i64_w, i32_w]
             rfl
            refine pure_ (i := 48) (N := some 94) (v := undef) (a' := ?_) (bm 53 562949953421311) rfl rfl (any_of HT_.out (by kernel_rfl)) (fun _ _ _ h => h) (Or.inr ⟨by rfl, rfl⟩) ?_ ?_
            rotate_left
            ·simp only [Act.put, setIfInBounds_toArray, set_cons_zero, set_cons_succ, i64_w, i32_w]
             rfl
            refine pure_ (i := 49) (N := some 95) (v := undef) (a' := ?_) (bm 53 1125899906842623) rfl rfl (any_of HT_.out (by kernel_rfl)) (fun _ _ _ h => h) (Or.inr ⟨by rfl, rfl⟩) ?_ ?_
            rotate_left
            ·simp only [Act.put, setIfInBounds_toArray, set_cons_zero, set_cons_succ, i64_w, i32_w]
             rfl
            refine pure_ (i := 50) (N := some 96) (v := ?_) (a' := ?_) (bm 53 2251799813685247) rfl rfl (any_of HT_.out (by kernel_rfl)) (fun _ _ _ h => h) (Or.inl ⟨by rfl, ?_⟩) ?_ ?_
            rotate_left
            ·intro w'
             go_simp
             with_reducible rfl
            rotate_left
            ·simp only [Act.put, setIfInBounds_toArray, set_cons_zero, set_cons_succ, i64_w, i32_w]
             rfl
            refine pure_ (i := 51) (N := some 97) (v := ?_) (a' := ?_) (bm 53 4503599627370495) rfl rfl (any_of HT_.out (by kernel_rfl)) (fun _ _ _ h => h) (Or.inl ⟨by rfl, ?_⟩) ?_ ?_
            rotate_left
            ·intro w'
             go_simp
             with_reducible rfl
            rotate_left
            ·simp only [Act.put, setIfInBounds_toArray, set_cons_zero, set_cons_succ, i64_w, i32_w]
             rfl
            refine pure_ (i := 52) (N := some 4) (v := ?_) (a' := ?_) (bm 53 9007199254740991) rfl rfl (any_of HT_.out (by kernel_rfl)) (fun _ _ _ h => h) (Or.inl ⟨by rfl, ?_⟩) ?_ ?_
            rotate_left
            ·intro w'
             go_simp
             with_reducible rfl
            rotate_left
            ·simp only [Act.put, setIfInBounds_toArray, set_cons_zero, set_cons_succ, i64_w, i32_w]
             rfl
            refine done_ (done_of HT_.out (by kernel_rfl)) ?_
            try go_wp2
            go_ret
            exact ⟨by first | rfl | (simp [errW_none, errW_some] <;> rfl) | (simp only [← hji5]; first | rfl | (simp [errW_none, errW_some] <;> rfl)) | (simp [*, errW_none, errW_some] <;> rfl), by repeat (first | (with_reducible first | exact HB.out | apply below_alloc | apply pw_below_drewN | apply below_drew1 | refine below_set ?_ G_i.out | refine below_set ?_ G_j.out | refine below_set ?_ G_k.out | refine below_set ?_ G_l.out) | exact HB.out)⟩
           ·replace c77 := Bool.eq_false_iff.mpr c77
            (first | subst c77 | clear c77)
            have H1 : ((rule_Through.f kj5 (wrap64 (tmod a1 3)) (((tdiv a1 3) % 256) % 3) (wrap64 (tmod a0 3)) (((tdiv a0 3) % 256) % 3)).bind fun t153 => (some t153)) = some r := by rw [if_neg (show ¬ (false = true) by decide)] at H; exact H
            clear H
            have H := H1
            clear H1
            replace H := Option.bind_eq_some_iff.mp H
            obtain ⟨t153, A860, H⟩ := H
            replace H : (some t153) = some r := H
            have A86 := Aside0.mk A860
            clear A860
            obtain rfl := Option.some.inj H
            try go_wp2
            have n0_ := Aside0.mk (blk_drew B_a.out)
            have n1_ := Aside0.mk (blk_drew B_b.out)
            have n2_ := Aside0.mk (blk_drew B_d.out)
            have n3_ := Aside0.mk (blk_drew B_c.out)
            have n4_ := Aside0.mk (below_drew1 HB.out)
            clear B_a
            clear B_b
            clear B_d
            clear B_c
            clear HB
            have B_a := n0_
            have B_b := n1_
            have B_d := n2_
            have B_c := n3_
            have HB := n4_
            clear n0_ n1_ n2_ n3_ n4_
            refine start_ (n := 53) (S := fun w' => w'.cell? ⟨g_e, 0, none⟩ = some (.int .i64 (wrap64 (tmod a0 3))) ∧ w'.cell? ⟨g_e, 1, none⟩ = some (.int .i64 (((tdiv a0 3) % 256) % 3)) ∧ w'.cell? ⟨g_f, 0, none⟩ = some (.int .i64 (wrap64 (tmod a1 3))) ∧ w'.cell? ⟨g_f, 1, none⟩ = some (.int .i64 (((tdiv a1 3) % 256) % 3)) ∧ w'.cell? ⟨g_h, 0, none⟩ = some (.int .i64 2) ∧ w'.cell? ⟨g_h, 1, none⟩ = some (.int .i64 2) ∧ w'.cell? ⟨g_g, 0, none⟩ = some (.int .i64 (wrap64 (tmod a1 3))) ∧ w'.cell? ⟨g_g, 1, none⟩ = some (.int .i64 ji5)) (ds := []) (bm 53 0) (by kernel_rfl) rfl rfl ⟨(blk_cell B_a.out 0).trans rfl, (blk_cell B_a.out 1).trans rfl, (blk_cell B_b.out 0).trans rfl, (blk_cell B_b.out 1).trans rfl, (blk_cell B_c.out 0).trans rfl, (blk_cell B_c.out 1).trans rfl, (blk_cell B_d.out 0).trans rfl, (blk_cell B_d.out 1).trans rfl⟩ (fun hHeld => ?_); refine with_tabW law07_RulePunch.tab9 law07_RulePunch.bits9 (fun HT_ HW_ => ?_)
            generalize wc.drew = w87 at B_a B_b B_d B_c HB hHeld ⊢
            refine pure_ (i := 0) (N := some 46) (v := ?_) (a' := ?_) (bm 53 1) rfl rfl (any_of HT_.out (by kernel_rfl)) (fun _ _ _ h => h) (Or.inl ⟨by rfl, ?_⟩) ?_ ?_
            rotate_left
            ·intro w'
             go_simp
             with_reducible rfl
            rotate_left
            ·simp only [Act.put, setIfInBounds_toArray, set_cons_zero, set_cons_succ, i64_w, i32_w]
             rfl
            refine pure_ (i := 1) (N := some 47) (v := ?_) (a' := ?_) (bm 53 3) rfl rfl (any_of HT_.out (by kernel_rfl)) (fun _ _ _ h => h) (Or.inl ⟨by rfl, ?_⟩) ?_ ?_
            rotate_left
            ·intro w'
             go_simp
             with_reducible rfl
            rotate_left
            ·simp only [Act.put, setIfInBounds_toArray, set_cons_zero, set_cons_succ, i64_w, i32_w]
             rfl
            refine take_ (i := 2) (N := some 48) (v := ?_) (a' := ?_) (bm 53 7) rfl rfl (take_ofW HT_.out HW_.out (by kernel_rfl)) (fun _ _ _ h => h) (Or.inl ⟨by rfl, ?_⟩) hHeld ?_ ?_
            rotate_left
            ·rintro w' ⟨s0, s1, s2, s3, s4, s5, s6, s7⟩
             go_simp
             with_reducible rfl
            rotate_left
            ·simp only [Act.put, setIfInBounds_toArray, set_cons_zero, set_cons_succ, i64_w, i32_w]
             rfl
            refine take_ (i := 3) (N := some 49) (v := ?_) (a' := ?_) (bm 53 15) rfl rfl (take_ofW HT_.out HW_.out (by kernel_rfl)) (fun _ _ _ h => h) (Or.inl ⟨by rfl, ?_⟩) hHeld ?_ ?_
            rotate_left
            ·rintro w' ⟨s0, s1, s2, s3, s4, s5, s6, s7⟩
             go_simp
             with_reducible rfl
            rotate_left
            ·simp only [Act.put, setIfInBounds_toArray, set_cons_zero, set_cons_succ, i64_w, i32_w]
             rfl
            refine take_ (i := 5) (N := some 51) (v := ?_) (a' := ?_) (bm 53 47) rfl rfl (take_ofW HT_.out HW_.out (by kernel_rfl)) (fun _ _ _ h => h) (Or.inl ⟨by rfl, ?_⟩) hHeld ?_ ?_
            rotate_left
            ·rintro w' ⟨s0, s1, s2, s3, s4, s5, s6, s7⟩
             go_simp
             with_reducible rfl
            rotate_left
            ·simp only [Act.put, setIfInBounds_toArray, set_cons_zero, set_cons_succ, i64_w, i32_w]
             rfl
            refine take_ (i := 6) (N := some 52) (v := ?_) (a' := ?_) (bm 53 111) rfl rfl (take_ofW HT_.out HW_.out (by kernel_rfl)) (fun _ _ _ h => h) (Or.inl ⟨by rfl, ?_⟩) hHeld ?_ ?_
            rotate_left
            ·rintro w' ⟨s0, s1, s2, s3, s4, s5, s6, s7⟩
             go_simp
             with_reducible rfl
            rotate_left
            ·simp only [Act.put, setIfInBounds_toArray, set_cons_zero, set_cons_succ, i64_w, i32_w]
             rfl
            refine one_ (i := 4) (N := some 50) (bm 53 127) rfl rfl (one_of HT_.out (by kernel_rfl)) (by decide) (fun K hK => ?_)
            refine goes_ Try.func18 (by kernel_rfl) rfl #[.agg #[.int .i64 (wrap64 (tmod a0 3)), .int .i64 (((tdiv a0 3) % 256) % 3)], .agg #[.int .i64 (wrap64 (tmod a1 3)), .int .i64 (((tdiv a1 3) % 256) % 3)]] (by rfl) rfl rfl (by (try simp only [List.map_toArray, List.map_cons, List.map_nil]); first | done | rfl | (simp only [List.length_drop, List.length_take]; rfl)) ?_
            with_reducible refine (rule_Punch.calls kj5 (wrap64 (tmod a0 3)) (((tdiv a0 3) % 256) % 3) (wrap64 (tmod a1 3)) (((tdiv a1 3) % 256) % 3) true _ A31.out).mono ?_
            rintro e w88 ⟨rfl, hb⟩
            refine ⟨_, rfl, ?_⟩
            have n0_ := Aside0.mk (blk_below (g := g_e) (o := .cells #[.int .i64 (wrap64 (tmod a0 3)), .int .i64 (((tdiv a0 3) % 256) % 3)] 23 (0, 0)) (by (with_reducible repeat (first | refine blk_drewN ?_ _ | refine blk_drew ?_ | refine blk_alloc ?_ _)); exact B_a.out) hb)
            have n1_ := Aside0.mk (blk_below (g := g_f) (o := .cells #[.int .i64 (wrap64 (tmod a1 3)), .int .i64 (((tdiv a1 3) % 256) % 3)] 23 (0, 0)) (by (with_reducible repeat (first | refine blk_drewN ?_ _ | refine blk_drew ?_ | refine blk_alloc ?_ _)); exact B_b.out) hb)
            have n2_ := Aside0.mk (blk_below (g := g_g) (o := .cells #[.int .i64 (wrap64 (tmod a1 3)), .int .i64 ji5] 23 (0, 0)) (by (with_reducible repeat (first | refine blk_drewN ?_ _ | refine blk_drew ?_ | refine blk_alloc ?_ _)); exact B_d.out) hb)
            have n3_ := Aside0.mk (blk_below (g := g_h) (o := .cells #[.int .i64 2, .int .i64 2] 23 (0, 0)) (by (with_reducible repeat (first | refine blk_drewN ?_ _ | refine blk_drew ?_ | refine blk_alloc ?_ _)); exact B_c.out) hb)
            have n4_ := Aside0.mk (below_step (by repeat (first | (with_reducible first | exact HB.out | apply below_alloc | apply pw_below_drewN | apply below_drew1 | refine below_set ?_ G_i.out | refine below_set ?_ G_j.out | refine below_set ?_ G_k.out | refine below_set ?_ G_l.out) | exact HB.out)) hb)
            clear B_a
            clear B_b
            clear B_d
            clear B_c
            clear HB
            have B_a := n0_
            have B_b := n1_
            have B_d := n2_
            have B_c := n3_
            have HB := n4_
            clear n0_ n1_ n2_ n3_ n4_
            (try clear hb)
            (try clear hb2)
            (try clear hk)
            (try clear hi)
            refine hK.out _ _ ⟨(blk_cell B_a.out 0).trans rfl, (blk_cell B_a.out 1).trans rfl, (blk_cell B_b.out 0).trans rfl, (blk_cell B_b.out 1).trans rfl, (blk_cell B_c.out 0).trans rfl, (blk_cell B_c.out 1).trans rfl, (blk_cell B_d.out 0).trans rfl, (blk_cell B_d.out 1).trans rfl⟩ (fun hHeld => ?_)
            clear hK K
            refine norm_ (a' := ?_) ?_ ?_
            rotate_left
            ·show Act.put _ (some 50) _ = _
             simp only [Act.put, setIfInBounds_toArray, set_cons_zero, set_cons_succ, i64_w, i32_w]
             rfl
            refine one_ (i := 7) (N := some 53) (bm 53 255) rfl rfl (one_of HT_.out (by kernel_rfl)) (by decide) (fun K hK => ?_)
            refine goes_ Try.func18 (by kernel_rfl) rfl #[.agg #[.int .i64 (wrap64 (tmod a1 3)), .int .i64 (((tdiv a1 3) % 256) % 3)], .agg #[.int .i64 (wrap64 (tmod a0 3)), .int .i64 (((tdiv a0 3) % 256) % 3)]] (by rfl) rfl rfl (by (try simp only [List.map_toArray, List.map_cons, List.map_nil]); first | done | rfl | (simp only [List.length_drop, List.length_take]; rfl)) ?_
            with_reducible refine (rule_Punch.calls kj5 (wrap64 (tmod a1 3)) (((tdiv a1 3) % 256) % 3) (wrap64 (tmod a0 3)) (((tdiv a0 3) % 256) % 3) true _ A32.out).mono ?_
            rintro e w89 ⟨rfl, hb⟩
            refine ⟨_, rfl, ?_⟩
            have n0_ := Aside0.mk (blk_below (g := g_e) (o := .cells #[.int .i64 (wrap64 (tmod a0 3)), .int .i64 (((tdiv a0 3) % 256) % 3)] 23 (0, 0)) (by (with_reducible repeat (first | refine blk_drewN ?_ _ | refine blk_drew ?_ | refine blk_alloc ?_ _)); exact B_a.out) hb)
            have n1_ := Aside0.mk (blk_below (g := g_f) (o := .cells #[.int .i64 (wrap64 (tmod a1 3)), .int .i64 (((tdiv a1 3) % 256) % 3)] 23 (0, 0)) (by (with_reducible repeat (first | refine blk_drewN ?_ _ | refine blk_drew ?_ | refine blk_alloc ?_ _)); exact B_b.out) hb)
            have n2_ := Aside0.mk (blk_below (g := g_g) (o := .cells #[.int .i64 (wrap64 (tmod a1 3)), .int .i64 ji5] 23 (0, 0)) (by (with_reducible repeat (first | refine blk_drewN ?_ _ | refine blk_drew ?_ | refine blk_alloc ?_ _)); exact B_d.out) hb)
            have n3_ := Aside0.mk (blk_below (g := g_h) (o := .cells #[.int .i64 2, .int .i64 2] 23 (0, 0)) (by (with_reducible repeat (first | refine blk_drewN ?_ _ | refine blk_drew ?_ | refine blk_alloc ?_ _)); exact B_c.out) hb)
            have n4_ := Aside0.mk (below_step (by repeat (first | (with_reducible first | exact HB.out | apply below_alloc | apply pw_below_drewN | apply below_drew1 | refine below_set ?_ G_i.out | refine below_set ?_ G_j.out | refine below_set ?_ G_k.out | refine below_set ?_ G_l.out) | exact HB.out)) hb)
            clear B_a
            clear B_b
            clear B_d
            clear B_c
            clear HB
            have B_a := n0_
            have B_b := n1_
            have B_d := n2_
            have B_c := n3_
            have HB := n4_
            clear n0_ n1_ n2_ n3_ n4_
            (try clear hb)
            (try clear hb2)
            (try clear hk)
            (try clear hi)
            refine hK.out _ _ ⟨(blk_cell B_a.out 0).trans rfl, (blk_cell B_a.out 1).trans rfl, (blk_cell B_b.out 0).trans rfl, (blk_cell B_b.out 1).trans rfl, (blk_cell B_c.out 0).trans rfl, (blk_cell B_c.out 1).trans rfl, (blk_cell B_d.out 0).trans rfl, (blk_cell B_d.out 1).trans rfl⟩ (fun hHeld => ?_)
            clear hK K
            refine norm_ (a' := ?_) ?_ ?_
            rotate_left
            ·show Act.put _ (some 53) _ = _
             simp only [Act.put, setIfInBounds_toArray, set_cons_zero, set_cons_succ, i64_w, i32_w]
             rfl
            refine pure_ (i := 8) (N := some 54) (v := ?_) (a' := ?_) (bm 53 511) rfl rfl (any_of HT_.out (by kernel_rfl)) (fun _ _ _ h => h) (Or.inl ⟨by rfl, ?_⟩) ?_ ?_
            rotate_left
            ·intro w'
             go_simp
             with_reducible rfl
            rotate_left
            ·simp only [Act.put, setIfInBounds_toArray, set_cons_zero, set_cons_succ, i64_w, i32_w]
             rfl
            refine pure_ (i := 9) (N := some 55) (v := ?_) (a' := ?_) (bm 53 1023) rfl rfl (any_of HT_.out (by kernel_rfl)) (fun _ _ _ h => h) (Or.inl ⟨by rfl, ?_⟩) ?_ ?_
            rotate_left
            ·intro w'
             go_simp
             with_reducible rfl
            rotate_left
            ·simp only [Act.put, setIfInBounds_toArray, set_cons_zero, set_cons_succ, i64_w, i32_w]
             rfl
            refine pure_ (i := 10) (N := some 56) (v := ?_) (a' := ?_) (bm 53 2047) rfl rfl (any_of HT_.out (by kernel_rfl)) (fun _ _ _ h => h) (Or.inl ⟨by rfl, ?_⟩) ?_ ?_
            rotate_left
            ·intro w'
             go_simp
             with_reducible rfl
            rotate_left
            ·simp only [Act.put, setIfInBounds_toArray, set_cons_zero, set_cons_succ, i64_w, i32_w]
             rfl
            refine pure_ (i := 11) (N := some 57) (v := ?_) (a' := ?_) (bm 53 4095) rfl rfl (any_of HT_.out (by kernel_rfl)) (fun _ _ _ h => h) (Or.inl ⟨by rfl, ?_⟩) ?_ ?_
            rotate_left
            ·intro w'
             go_simp
             with_reducible rfl
            rotate_left
            ·simp only [Act.put, setIfInBounds_toArray, set_cons_zero, set_cons_succ, i64_w, i32_w]
             rfl
            refine pure_ (i := 12) (N := some 58) (v := ?_) (a' := ?_) (bm 53 8191) rfl rfl (any_of HT_.out (by kernel_rfl)) (fun _ _ _ h => h) (Or.inl ⟨by rfl, ?_⟩) ?_ ?_
            rotate_left
            ·intro w'
             go_simp
             with_reducible rfl
            rotate_left
            ·simp only [Act.put, setIfInBounds_toArray, set_cons_zero, set_cons_succ, i64_w, i32_w]
             rfl
            refine pure_ (i := 13) (N := some 59) (v := ?_) (a' := ?_) (bm 53 16383) rfl rfl (any_of HT_.out (by kernel_rfl)) (fun _ _ _ h => h) (Or.inl ⟨by rfl, ?_⟩) ?_ ?_
            rotate_left
            ·intro w'
             go_simp
             with_reducible rfl
            rotate_left
            ·simp only [Act.put, setIfInBounds_toArray, set_cons_zero, set_cons_succ, i64_w, i32_w]
             rfl
            refine pure_ (i := 14) (N := some 60) (v := undef) (a' := ?_) (bm 53 32767) rfl rfl (any_of HT_.out (by kernel_rfl)) (fun _ _ _ h => h) (Or.inr ⟨by rfl, rfl⟩) ?_ ?_
            rotate_left
            ·simp only [Act.put, setIfInBounds_toArray, set_cons_zero, set_cons_succ, i64_w, i32_w]
             rfl
            refine pure_ (i := 15) (N := some 61) (v := undef) (a' := ?_) (bm 53 65535) rfl rfl (any_of HT_.out (by kernel_rfl)) (fun _ _ _ h => h) (Or.inr ⟨by rfl, rfl⟩) ?_ ?_
            rotate_left
            ·simp only [Act.put, setIfInBounds_toArray, set_cons_zero, set_cons_succ, i64_w, i32_w]
             rfl
            refine pure_ (i := 16) (N := some 62) (v := undef) (a' := ?_) (bm 53 131071) rfl rfl (any_of HT_.out (by kernel_rfl)) (fun _ _ _ h => h) (Or.inr ⟨by rfl, rfl⟩) ?_ ?_
            rotate_left
            ·simp only [Act.put, setIfInBounds_toArray, set_cons_zero, set_cons_succ, i64_w, i32_w]
             rfl
            refine pure_ (i := 17) (N := some 63) (v := ?_) (a' := ?_) (bm 53 262143) rfl rfl (any_of HT_.out (by kernel_rfl)) (fun _ _ _ h => h) (Or.inl ⟨by rfl, ?_⟩) ?_ ?_
            rotate_left
            ·intro w'
             go_simp
             with_reducible rfl
            rotate_left
            ·simp only [Act.put, setIfInBounds_toArray, set_cons_zero, set_cons_succ, i64_w, i32_w]
             rfl
            refine pure_ (i := 18) (N := some 64) (v := ?_) (a' := ?_) (bm 53 524287) rfl rfl (any_of HT_.out (by kernel_rfl)) (fun _ _ _ h => h) (Or.inl ⟨by rfl, ?_⟩) ?_ ?_
            rotate_left
            ·intro w'
             go_simp
             with_reducible rfl
            rotate_left
            ·simp only [Act.put, setIfInBounds_toArray, set_cons_zero, set_cons_succ, i64_w, i32_w]
             rfl
            refine pure_ (i := 19) (N := some 65) (v := ?_) (a' := ?_) (bm 53 1048575) rfl rfl (any_of HT_.out (by kernel_rfl)) (fun _ _ _ h => h) (Or.inl ⟨by rfl, ?_⟩) ?_ ?_
            rotate_left
            ·intro w'
             go_simp
             with_reducible rfl
            rotate_left
            ·simp only [Act.put, setIfInBounds_toArray, set_cons_zero, set_cons_succ, i64_w, i32_w]
             rfl
            refine take_ (i := 20) (N := some 66) (v := ?_) (a' := ?_) (bm 53 2097151) rfl rfl (take_ofW HT_.out HW_.out (by kernel_rfl)) (fun _ _ _ h => h) (Or.inl ⟨by rfl, ?_⟩) hHeld ?_ ?_
            rotate_left
            ·rintro w' ⟨s0, s1, s2, s3, s4, s5, s6, s7⟩
             go_simp
             with_reducible rfl
            rotate_left
            ·simp only [Act.put, setIfInBounds_toArray, set_cons_zero, set_cons_succ, i64_w, i32_w]
             rfl
            refine take_ (i := 21) (N := some 67) (v := ?_) (a' := ?_) (bm 53 4194303) rfl rfl (take_ofW HT_.out HW_.out (by kernel_rfl)) (fun _ _ _ h => h) (Or.inl ⟨by rfl, ?_⟩) hHeld ?_ ?_
            rotate_left
            ·rintro w' ⟨s0, s1, s2, s3, s4, s5, s6, s7⟩
             go_simp
             with_reducible rfl
            rotate_left
            ·simp only [Act.put, setIfInBounds_toArray, set_cons_zero, set_cons_succ, i64_w, i32_w]
             rfl
            refine one_ (i := 22) (N := some 68) (bm 53 8388607) rfl rfl (one_of HT_.out (by kernel_rfl)) (by decide) (fun K hK => ?_)
            refine goes_ Try.func18 (by kernel_rfl) rfl #[.agg #[.int .i64 2, .int .i64 2], .agg #[.int .i64 2, .int .i64 2]] (by rfl) rfl rfl (by (try simp only [List.map_toArray, List.map_cons, List.map_nil]); first | done | rfl | (simp only [List.length_drop, List.length_take]; rfl)) ?_
            with_reducible refine (rule_Punch.calls kj5 2 2 2 2 false _ A68.out).mono ?_
            rintro e w90 ⟨rfl, hb⟩
            refine ⟨_, rfl, ?_⟩
            have n0_ := Aside0.mk (blk_below (g := g_e) (o := .cells #[.int .i64 (wrap64 (tmod a0 3)), .int .i64 (((tdiv a0 3) % 256) % 3)] 23 (0, 0)) (by (with_reducible repeat (first | refine blk_drewN ?_ _ | refine blk_drew ?_ | refine blk_alloc ?_ _)); exact B_a.out) hb)
            have n1_ := Aside0.mk (blk_below (g := g_f) (o := .cells #[.int .i64 (wrap64 (tmod a1 3)), .int .i64 (((tdiv a1 3) % 256) % 3)] 23 (0, 0)) (by (with_reducible repeat (first | refine blk_drewN ?_ _ | refine blk_drew ?_ | refine blk_alloc ?_ _)); exact B_b.out) hb)
            have n2_ := Aside0.mk (blk_below (g := g_g) (o := .cells #[.int .i64 (wrap64 (tmod a1 3)), .int .i64 ji5] 23 (0, 0)) (by (with_reducible repeat (first | refine blk_drewN ?_ _ | refine blk_drew ?_ | refine blk_alloc ?_ _)); exact B_d.out) hb)
            have n3_ := Aside0.mk (blk_below (g := g_h) (o := .cells #[.int .i64 2, .int .i64 2] 23 (0, 0)) (by (with_reducible repeat (first | refine blk_drewN ?_ _ | refine blk_drew ?_ | refine blk_alloc ?_ _)); exact B_c.out) hb)
            have n4_ := Aside0.mk (below_step (by repeat (first | (with_reducible first | exact HB.out | apply below_alloc | apply pw_below_drewN | apply below_drew1 | refine below_set ?_ G_i.out | refine below_set ?_ G_j.out | refine below_set ?_ G_k.out | refine below_set ?_ G_l.out) | exact HB.out)) hb)
            clear B_a
            clear B_b
            clear B_d
            clear B_c
            clear HB
            have B_a := n0_
            have B_b := n1_
            have B_d := n2_
            have B_c := n3_
            have HB := n4_
            clear n0_ n1_ n2_ n3_ n4_
            (try clear hb)
            (try clear hb2)
            (try clear hk)
            (try clear hi)
            refine hK.out _ _ ⟨(blk_cell B_a.out 0).trans rfl, (blk_cell B_a.out 1).trans rfl, (blk_cell B_b.out 0).trans rfl, (blk_cell B_b.out 1).trans rfl, (blk_cell B_c.out 0).trans rfl, (blk_cell B_c.out 1).trans rfl, (blk_cell B_d.out 0).trans rfl, (blk_cell B_d.out 1).trans rfl⟩ (fun hHeld => ?_)
            clear hK K
            refine norm_ (a' := ?_) ?_ ?_
            rotate_left
            ·show Act.put _ (some 68) _ = _
             simp only [Act.put, setIfInBounds_toArray, set_cons_zero, set_cons_succ, i64_w, i32_w]
             rfl
            refine pure_ (i := 23) (N := some 69) (v := ?_) (a' := ?_) (bm 53 16777215) rfl rfl (any_of HT_.out (by kernel_rfl)) (fun _ _ _ h => h) (Or.inl ⟨by rfl, ?_⟩) ?_ ?_
            rotate_left
            ·intro w'
             go_simp
             with_reducible rfl
            rotate_left
            ·simp only [Act.put, setIfInBounds_toArray, set_cons_zero, set_cons_succ, i64_w, i32_w]
             rfl
            refine pure_ (i := 24) (N := some 70) (v := ?_) (a' := ?_) (bm 53 33554431) rfl rfl (any_of HT_.out (by kernel_rfl)) (fun _ _ _ h => h) (Or.inl ⟨by rfl, ?_⟩) ?_ ?_
            rotate_left
            ·intro w'
             go_simp
             with_reducible rfl
            rotate_left
            ·simp only [Act.put, setIfInBounds_toArray, set_cons_zero, set_cons_succ, i64_w, i32_w]
             rfl
            refine pure_ (i := 25) (N := some 71) (v := ?_) (a' := ?_) (bm 53 67108863) rfl rfl (any_of HT_.out (by kernel_rfl)) (fun _ _ _ h => h) (Or.inl ⟨by rfl, ?_⟩) ?_ ?_
            rotate_left
            ·intro w'
             go_simp
             with_reducible rfl
            rotate_left
            ·simp only [Act.put, setIfInBounds_toArray, set_cons_zero, set_cons_succ, i64_w, i32_w]
             rfl
            refine take_ (i := 26) (N := some 72) (v := ?_) (a' := ?_) (bm 53 134217727) rfl rfl (take_ofW HT_.out HW_.out (by kernel_rfl)) (fun _ _ _ h => h) (Or.inl ⟨by rfl, ?_⟩) hHeld ?_ ?_
            rotate_left
            ·rintro w' ⟨s0, s1, s2, s3, s4, s5, s6, s7⟩
             go_simp
             with_reducible rfl
            rotate_left
            ·simp only [Act.put, setIfInBounds_toArray, set_cons_zero, set_cons_succ, i64_w, i32_w]
             rfl
            refine take_ (i := 27) (N := some 73) (v := ?_) (a' := ?_) (bm 53 268435455) rfl rfl (take_ofW HT_.out HW_.out (by kernel_rfl)) (fun _ _ _ h => h) (Or.inl ⟨by rfl, ?_⟩) hHeld ?_ ?_
            rotate_left
            ·rintro w' ⟨s0, s1, s2, s3, s4, s5, s6, s7⟩
             go_simp
             with_reducible rfl
            rotate_left
            ·simp only [Act.put, setIfInBounds_toArray, set_cons_zero, set_cons_succ, i64_w, i32_w]
             rfl
            refine one_ (i := 28) (N := some 74) (bm 53 536870911) rfl rfl (one_of HT_.out (by kernel_rfl)) (by decide) (fun K hK => ?_)
            refine goes_ Try.func18 (by kernel_rfl) rfl #[.agg #[.int .i64 (wrap64 (tmod a0 3)), .int .i64 (((tdiv a0 3) % 256) % 3)], .agg #[.int .i64 (wrap64 (tmod a1 3)), .int .i64 (((tdiv a1 3) % 256) % 3)]] (by rfl) rfl rfl (by (try simp only [List.map_toArray, List.map_cons, List.map_nil]); first | done | rfl | (simp only [List.length_drop, List.length_take]; rfl)) ?_
            with_reducible refine (rule_Punch.calls kj5 (wrap64 (tmod a0 3)) (((tdiv a0 3) % 256) % 3) (wrap64 (tmod a1 3)) (((tdiv a1 3) % 256) % 3) true _ A70.out).mono ?_
            rintro e w91 ⟨rfl, hb⟩
            refine ⟨_, rfl, ?_⟩
            have n0_ := Aside0.mk (blk_below (g := g_e) (o := .cells #[.int .i64 (wrap64 (tmod a0 3)), .int .i64 (((tdiv a0 3) % 256) % 3)] 23 (0, 0)) (by (with_reducible repeat (first | refine blk_drewN ?_ _ | refine blk_drew ?_ | refine blk_alloc ?_ _)); exact B_a.out) hb)
            have n1_ := Aside0.mk (blk_below (g := g_f) (o := .cells #[.int .i64 (wrap64 (tmod a1 3)), .int .i64 (((tdiv a1 3) % 256) % 3)] 23 (0, 0)) (by (with_reducible repeat (first | refine blk_drewN ?_ _ | refine blk_drew ?_ | refine blk_alloc ?_ _)); exact B_b.out) hb)
            have n2_ := Aside0.mk (blk_below (g := g_g) (o := .cells #[.int .i64 (wrap64 (tmod a1 3)), .int .i64 ji5] 23 (0, 0)) (by (with_reducible repeat (first | refine blk_drewN ?_ _ | refine blk_drew ?_ | refine blk_alloc ?_ _)); exact B_d.out) hb)
            have n3_ := Aside0.mk (blk_below (g := g_h) (o := .cells #[.int .i64 2, .int .i64 2] 23 (0, 0)) (by (with_reducible repeat (first | refine blk_drewN ?_ _ | refine blk_drew ?_ | refine blk_alloc ?_ _)); exact B_c.out) hb)
            have n4_ := Aside0.mk (below_step (by repeat (first | (with_reducible first | exact HB.out | apply below_alloc | apply pw_below_drewN | apply below_drew1 | refine below_set ?_ G_i.out | refine below_set ?_ G_j.out | refine below_set ?_ G_k.out | refine below_set ?_ G_l.out) | exact HB.out)) hb)
            clear B_a
            clear B_b
            clear B_d
            clear B_c
            clear HB
            have B_a := n0_
            have B_b := n1_
            have B_d := n2_
            have B_c := n3_
            have HB := n4_
            clear n0_ n1_ n2_ n3_ n4_
            (try clear hb)
            (try clear hb2)
            (try clear hk)
            (try clear hi)
            refine hK.out _ _ ⟨(blk_cell B_a.out 0).trans rfl, (blk_cell B_a.out 1).trans rfl, (blk_cell B_b.out 0).trans rfl, (blk_cell B_b.out 1).trans rfl, (blk_cell B_c.out 0).trans rfl, (blk_cell B_c.out 1).trans rfl, (blk_cell B_d.out 0).trans rfl, (blk_cell B_d.out 1).trans rfl⟩ (fun hHeld => ?_)
            clear hK K
            refine norm_ (a' := ?_) ?_ ?_
            rotate_left
            ·show Act.put _ (some 74) _ = _
             simp only [Act.put, setIfInBounds_toArray, set_cons_zero, set_cons_succ, i64_w, i32_w]
             rfl
            refine pure_ (i := 29) (N := some 75) (v := ?_) (a' := ?_) (bm 53 1073741823) rfl rfl (any_of HT_.out (by kernel_rfl)) (fun _ _ _ h => h) (Or.inl ⟨by rfl, ?_⟩) ?_ ?_
            rotate_left
            ·intro w'
             go_simp
             with_reducible rfl
            rotate_left
            ·simp only [Act.put, setIfInBounds_toArray, set_cons_zero, set_cons_succ, i64_w, i32_w]
             rfl
            refine pure_ (i := 30) (N := some 76) (v := ?_) (a' := ?_) (bm 53 2147483647) rfl rfl (any_of HT_.out (by kernel_rfl)) (fun _ _ _ h => h) (Or.inl ⟨by rfl, ?_⟩) ?_ ?_
            rotate_left
            ·intro w'
             go_simp
             with_reducible rfl
            rotate_left
            ·simp only [Act.put, setIfInBounds_toArray, set_cons_zero, set_cons_succ, i64_w, i32_w]
             rfl
            refine take_ (i := 31) (N := some 77) (v := ?_) (a' := ?_) (bm 53 4294967295) rfl rfl (take_ofW HT_.out HW_.out (by kernel_rfl)) (fun _ _ _ h => h) (Or.inl ⟨by rfl, ?_⟩) hHeld ?_ ?_
            rotate_left
            ·rintro w' ⟨s0, s1, s2, s3, s4, s5, s6, s7⟩
             go_simp
             with_reducible rfl
            rotate_left
            ·simp only [Act.put, setIfInBounds_toArray, set_cons_zero, set_cons_succ, i64_w, i32_w]
             rfl
            refine take_ (i := 32) (N := some 78) (v := ?_) (a' := ?_) (bm 53 8589934591) rfl rfl (take_ofW HT_.out HW_.out (by kernel_rfl)) (fun _ _ _ h => h) (Or.inl ⟨by rfl, ?_⟩) hHeld ?_ ?_
            rotate_left
            ·rintro w' ⟨s0, s1, s2, s3, s4, s5, s6, s7⟩
             go_simp
             with_reducible rfl
            rotate_left
            ·simp only [Act.put, setIfInBounds_toArray, set_cons_zero, set_cons_succ, i64_w, i32_w]
             rfl
            refine one_ (i := 33) (N := some 79) (bm 53 17179869183) rfl rfl (one_of HT_.out (by kernel_rfl)) (by decide) (fun K hK => ?_)
            refine goes_ Try.func18 (by kernel_rfl) rfl #[.agg #[.int .i64 (wrap64 (tmod a0 3)), .int .i64 (((tdiv a0 3) % 256) % 3)], .agg #[.int .i64 (wrap64 (tmod a1 3)), .int .i64 ji5]] (by rfl) rfl rfl (by (try simp only [List.map_toArray, List.map_cons, List.map_nil]); first | done | (simp only [hji5]; rfl) | rfl | (simp only [List.length_drop, List.length_take]; rfl)) ?_
            with_reducible refine (rule_Punch.calls kj5 (wrap64 (tmod a0 3)) (((tdiv a0 3) % 256) % 3) (wrap64 (tmod a1 3)) ji5 true _ A72.out).mono ?_
            rintro e w92 ⟨rfl, hb⟩
            refine ⟨_, rfl, ?_⟩
            have n0_ := Aside0.mk (blk_below (g := g_e) (o := .cells #[.int .i64 (wrap64 (tmod a0 3)), .int .i64 (((tdiv a0 3) % 256) % 3)] 23 (0, 0)) (by (with_reducible repeat (first | refine blk_drewN ?_ _ | refine blk_drew ?_ | refine blk_alloc ?_ _)); exact B_a.out) hb)
            have n1_ := Aside0.mk (blk_below (g := g_f) (o := .cells #[.int .i64 (wrap64 (tmod a1 3)), .int .i64 (((tdiv a1 3) % 256) % 3)] 23 (0, 0)) (by (with_reducible repeat (first | refine blk_drewN ?_ _ | refine blk_drew ?_ | refine blk_alloc ?_ _)); exact B_b.out) hb)
            have n2_ := Aside0.mk (blk_below (g := g_g) (o := .cells #[.int .i64 (wrap64 (tmod a1 3)), .int .i64 ji5] 23 (0, 0)) (by (with_reducible repeat (first | refine blk_drewN ?_ _ | refine blk_drew ?_ | refine blk_alloc ?_ _)); exact B_d.out) hb)
            have n3_ := Aside0.mk (blk_below (g := g_h) (o := .cells #[.int .i64 2, .int .i64 2] 23 (0, 0)) (by (with_reducible repeat (first | refine blk_drewN ?_ _ | refine blk_drew ?_ | refine blk_alloc ?_ _)); exact B_c.out) hb)
            have n4_ := Aside0.mk (below_step (by repeat (first | (with_reducible first | exact HB.out | apply below_alloc | apply pw_below_drewN | apply below_drew1 | refine below_set ?_ G_i.out | refine below_set ?_ G_j.out | refine below_set ?_ G_k.out | refine below_set ?_ G_l.out) | exact HB.out)) hb)
            clear B_a
            clear B_b
            clear B_d
            clear B_c
            clear HB
            have B_a := n0_
            have B_b := n1_
            have B_d := n2_
            have B_c := n3_
            have HB := n4_
            clear n0_ n1_ n2_ n3_ n4_
            (try clear hb)
            (try clear hb2)
            (try clear hk)
            (try clear hi)
            refine hK.out _ _ ⟨(blk_cell B_a.out 0).trans rfl, (blk_cell B_a.out 1).trans rfl, (blk_cell B_b.out 0).trans rfl, (blk_cell B_b.out 1).trans rfl, (blk_cell B_c.out 0).trans rfl, (blk_cell B_c.out 1).trans rfl, (blk_cell B_d.out 0).trans rfl, (blk_cell B_d.out 1).trans rfl⟩ (fun hHeld => ?_)
            clear hK K
            refine norm_ (a' := ?_) ?_ ?_
            rotate_left
            ·show Act.put _ (some 79) _ = _
             simp only [Act.put, setIfInBounds_toArray, set_cons_zero, set_cons_succ, i64_w, i32_w]
             rfl
            refine pure_ (i := 34) (N := some 80) (v := ?_) (a' := ?_) (bm 53 34359738367) rfl rfl (any_of HT_.out (by kernel_rfl)) (fun _ _ _ h => h) (Or.inl ⟨by rfl, ?_⟩) ?_ ?_
            rotate_left
            ·intro w'
             go_simp
             with_reducible rfl
            rotate_left
            ·simp only [Act.put, setIfInBounds_toArray, set_cons_zero, set_cons_succ, i64_w, i32_w]
             rfl
            refine pure_ (i := 35) (N := some 81) (v := ?_) (a' := ?_) (bm 53 68719476735) rfl rfl (any_of HT_.out (by kernel_rfl)) (fun _ _ _ h => h) (Or.inl ⟨by rfl, ?_⟩) ?_ ?_
            rotate_left
            ·intro w'
             go_simp
             with_reducible rfl
            rotate_left
            ·simp only [Act.put, setIfInBounds_toArray, set_cons_zero, set_cons_succ, i64_w, i32_w]
             rfl
            refine pure_ (i := 36) (N := some 82) (v := ?_) (a' := ?_) (bm 53 137438953471) rfl rfl (any_of HT_.out (by kernel_rfl)) (fun _ _ _ h => h) (Or.inl ⟨by rfl, ?_⟩) ?_ ?_
            rotate_left
            ·intro w'
             go_simp
             with_reducible rfl
            rotate_left
            ·simp only [Act.put, setIfInBounds_toArray, set_cons_zero, set_cons_succ, i64_w, i32_w]
             rfl
            refine take_ (i := 37) (N := some 83) (v := ?_) (a' := ?_) (bm 53 274877906943) rfl rfl (take_ofW HT_.out HW_.out (by kernel_rfl)) (fun _ _ _ h => h) (Or.inl ⟨by rfl, ?_⟩) hHeld ?_ ?_
            rotate_left
            ·rintro w' ⟨s0, s1, s2, s3, s4, s5, s6, s7⟩
             go_simp
             with_reducible rfl
            rotate_left
            ·simp only [Act.put, setIfInBounds_toArray, set_cons_zero, set_cons_succ, i64_w, i32_w]
             rfl
            refine take_ (i := 38) (N := some 84) (v := ?_) (a' := ?_) (bm 53 549755813887) rfl rfl (take_ofW HT_.out HW_.out (by kernel_rfl)) (fun _ _ _ h => h) (Or.inl ⟨by rfl, ?_⟩) hHeld ?_ ?_
            rotate_left
            ·rintro w' ⟨s0, s1, s2, s3, s4, s5, s6, s7⟩
             go_simp
             with_reducible rfl
            rotate_left
            ·simp only [Act.put, setIfInBounds_toArray, set_cons_zero, set_cons_succ, i64_w, i32_w]
             rfl
            refine one_ (i := 39) (N := some 85) (bm 53 1099511627775) rfl rfl (one_of HT_.out (by kernel_rfl)) (by decide) (fun K hK => ?_)
            refine goes_ Try.func18 (by kernel_rfl) rfl #[.agg #[.int .i64 (wrap64 (tmod a0 3)), .int .i64 (((tdiv a0 3) % 256) % 3)], .agg #[.int .i64 (wrap64 (tmod a1 3)), .int .i64 (((tdiv a1 3) % 256) % 3)]] (by rfl) rfl rfl (by (try simp only [List.map_toArray, List.map_cons, List.map_nil]); first | done | rfl | (simp only [List.length_drop, List.length_take]; rfl)) ?_
            with_reducible refine (rule_Punch.calls kj5 (wrap64 (tmod a0 3)) (((tdiv a0 3) % 256) % 3) (wrap64 (tmod a1 3)) (((tdiv a1 3) % 256) % 3) true _ A74.out).mono ?_
            rintro e w93 ⟨rfl, hb⟩
            refine ⟨_, rfl, ?_⟩
            have n0_ := Aside0.mk (blk_below (g := g_e) (o := .cells #[.int .i64 (wrap64 (tmod a0 3)), .int .i64 (((tdiv a0 3) % 256) % 3)] 23 (0, 0)) (by (with_reducible repeat (first | refine blk_drewN ?_ _ | refine blk_drew ?_ | refine blk_alloc ?_ _)); exact B_a.out) hb)
            have n1_ := Aside0.mk (blk_below (g := g_f) (o := .cells #[.int .i64 (wrap64 (tmod a1 3)), .int .i64 (((tdiv a1 3) % 256) % 3)] 23 (0, 0)) (by (with_reducible repeat (first | refine blk_drewN ?_ _ | refine blk_drew ?_ | refine blk_alloc ?_ _)); exact B_b.out) hb)
            have n2_ := Aside0.mk (blk_below (g := g_g) (o := .cells #[.int .i64 (wrap64 (tmod a1 3)), .int .i64 ji5] 23 (0, 0)) (by (with_reducible repeat (first | refine blk_drewN ?_ _ | refine blk_drew ?_ | refine blk_alloc ?_ _)); exact B_d.out) hb)
            have n3_ := Aside0.mk (blk_below (g := g_h) (o := .cells #[.int .i64 2, .int .i64 2] 23 (0, 0)) (by (with_reducible repeat (first | refine blk_drewN ?_ _ | refine blk_drew ?_ | refine blk_alloc ?_ _)); exact B_c.out) hb)
            have n4_ := Aside0.mk (below_step (by repeat (first | (with_reducible first | exact HB.out | apply below_alloc | apply pw_below_drewN | apply below_drew1 | refine below_set ?_ G_i.out | refine below_set ?_ G_j.out | refine below_set ?_ G_k.out | refine below_set ?_ G_l.out) | exact HB.out)) hb)
            clear B_a
            clear B_b
            clear B_d
            clear B_c
            clear HB
            have B_a := n0_
            have B_b := n1_
            have B_d := n2_
            have B_c := n3_
            have HB := n4_
            clear n0_ n1_ n2_ n3_ n4_
            (try clear hb)
            (try clear hb2)
            (try clear hk)
            (try clear hi)
            refine hK.out _ _ ⟨(blk_cell B_a.out 0).trans rfl, (blk_cell B_a.out 1).trans rfl, (blk_cell B_b.out 0).trans rfl, (blk_cell B_b.out 1).trans rfl, (blk_cell B_c.out 0).trans rfl, (blk_cell B_c.out 1).trans rfl, (blk_cell B_d.out 0).trans rfl, (blk_cell B_d.out 1).trans rfl⟩ (fun hHeld => ?_)
            clear hK K
            refine norm_ (a' := ?_) ?_ ?_
            rotate_left
            ·show Act.put _ (some 85) _ = _
             simp only [Act.put, setIfInBounds_toArray, set_cons_zero, set_cons_succ, i64_w, i32_w]
             rfl
            refine pure_ (i := 40) (N := some 86) (v := ?_) (a' := ?_) (bm 53 2199023255551) rfl rfl (any_of HT_.out (by kernel_rfl)) (fun _ _ _ h => h) (Or.inl ⟨by rfl, ?_⟩) ?_ ?_
            rotate_left
            ·intro w'
             go_simp
             with_reducible rfl
            rotate_left
            ·simp only [Act.put, setIfInBounds_toArray, set_cons_zero, set_cons_succ, i64_w, i32_w]
             rfl
            refine pure_ (i := 41) (N := some 87) (v := ?_) (a' := ?_) (bm 53 4398046511103) rfl rfl (any_of HT_.out (by kernel_rfl)) (fun _ _ _ h => h) (Or.inl ⟨by rfl, ?_⟩) ?_ ?_
            rotate_left
            ·intro w'
             go_simp
             with_reducible rfl
            rotate_left
            ·simp only [Act.put, setIfInBounds_toArray, set_cons_zero, set_cons_succ, i64_w, i32_w]
             rfl
            refine take_ (i := 42) (N := some 88) (v := ?_) (a' := ?_) (bm 53 8796093022207) rfl rfl (take_ofW HT_.out HW_.out (by kernel_rfl)) (fun _ _ _ h => h) (Or.inl ⟨by rfl, ?_⟩) hHeld ?_ ?_
            rotate_left
            ·rintro w' ⟨s0, s1, s2, s3, s4, s5, s6, s7⟩
             go_simp
             with_reducible rfl
            rotate_left
            ·simp only [Act.put, setIfInBounds_toArray, set_cons_zero, set_cons_succ, i64_w, i32_w]
             rfl
            refine take_ (i := 43) (N := some 89) (v := ?_) (a' := ?_) (bm 53 17592186044415) rfl rfl (take_ofW HT_.out HW_.out (by kernel_rfl)) (fun _ _ _ h => h) (Or.inl ⟨by rfl, ?_⟩) hHeld ?_ ?_
            rotate_left
            ·rintro w' ⟨s0, s1, s2, s3, s4, s5, s6, s7⟩
             go_simp
             with_reducible rfl
            rotate_left
            ·simp only [Act.put, setIfInBounds_toArray, set_cons_zero, set_cons_succ, i64_w, i32_w]
             rfl
            refine one_ (i := 44) (N := some 90) (bm 53 35184372088831) rfl rfl (one_of HT_.out (by kernel_rfl)) (by decide) (fun K hK => ?_)
            refine goes_ Try.func16 (by kernel_rfl) rfl #[.agg #[.int .i64 (wrap64 (tmod a0 3)), .int .i64 (((tdiv a0 3) % 256) % 3)], .agg #[.int .i64 (wrap64 (tmod a1 3)), .int .i64 (((tdiv a1 3) % 256) % 3)]] (by rfl) rfl rfl (by (try simp only [List.map_toArray, List.map_cons, List.map_nil]); first | done | rfl | (simp only [List.length_drop, List.length_take]; rfl)) ?_
            with_reducible refine (rule_Through.calls kj5 (wrap64 (tmod a0 3)) (((tdiv a0 3) % 256) % 3) (wrap64 (tmod a1 3)) (((tdiv a1 3) % 256) % 3) false _ A76.out).mono ?_
            rintro e w94 ⟨rfl, hb⟩
            refine ⟨_, rfl, ?_⟩
            have n0_ := Aside0.mk (blk_below (g := g_e) (o := .cells #[.int .i64 (wrap64 (tmod a0 3)), .int .i64 (((tdiv a0 3) % 256) % 3)] 23 (0, 0)) (by (with_reducible repeat (first | refine blk_drewN ?_ _ | refine blk_drew ?_ | refine blk_alloc ?_ _)); exact B_a.out) hb)
            have n1_ := Aside0.mk (blk_below (g := g_f) (o := .cells #[.int .i64 (wrap64 (tmod a1 3)), .int .i64 (((tdiv a1 3) % 256) % 3)] 23 (0, 0)) (by (with_reducible repeat (first | refine blk_drewN ?_ _ | refine blk_drew ?_ | refine blk_alloc ?_ _)); exact B_b.out) hb)
            have n2_ := Aside0.mk (blk_below (g := g_g) (o := .cells #[.int .i64 (wrap64 (tmod a1 3)), .int .i64 ji5] 23 (0, 0)) (by (with_reducible repeat (first | refine blk_drewN ?_ _ | refine blk_drew ?_ | refine blk_alloc ?_ _)); exact B_d.out) hb)
            have n3_ := Aside0.mk (blk_below (g := g_h) (o := .cells #[.int .i64 2, .int .i64 2] 23 (0, 0)) (by (with_reducible repeat (first | refine blk_drewN ?_ _ | refine blk_drew ?_ | refine blk_alloc ?_ _)); exact B_c.out) hb)
            have n4_ := Aside0.mk (below_step (by repeat (first | (with_reducible first | exact HB.out | apply below_alloc | apply pw_below_drewN | apply below_drew1 | refine below_set ?_ G_i.out | refine below_set ?_ G_j.out | refine below_set ?_ G_k.out | refine below_set ?_ G_l.out) | exact HB.out)) hb)
            clear B_a
            clear B_b
            clear B_d
            clear B_c
            clear HB
            have B_a := n0_
            have B_b := n1_
            have B_d := n2_
            have B_c := n3_
            have HB := n4_
            clear n0_ n1_ n2_ n3_ n4_
            (try clear hb)
            (try clear hb2)
            (try clear hk)
            (try clear hi)
            refine hK.out _ _ ⟨(blk_cell B_a.out 0).trans rfl, (blk_cell B_a.out 1).trans rfl, (blk_cell B_b.out 0).trans rfl, (blk_cell B_b.out 1).trans rfl, (blk_cell B_c.out 0).trans rfl, (blk_cell B_c.out 1).trans rfl, (blk_cell B_d.out 0).trans rfl, (blk_cell B_d.out 1).trans rfl⟩ (fun hHeld => ?_)
            clear hK K
            refine norm_ (a' := ?_) ?_ ?_
            rotate_left
            ·show Act.put _ (some 90) _ = _
             simp only [Act.put, setIfInBounds_toArray, set_cons_zero, set_cons_succ, i64_w, i32_w]
             rfl
            refine pure_ (i := 45) (N := some 91) (v := ?_) (a' := ?_) (bm 53 70368744177663) rfl rfl (any_of HT_.out (by kernel_rfl)) (fun _ _ _ h => h) (Or.inl ⟨by rfl, ?_⟩) ?_ ?_
            rotate_left
            ·intro w'
             go_simp
             with_reducible rfl
            rotate_left
            ·simp only [Act.put, setIfInBounds_toArray, set_cons_zero, set_cons_succ, i64_w, i32_w]
             rfl
            refine pure_ (i := 46) (N := some 92) (v := ?_) (a' := ?_) (bm 53 140737488355327) rfl rfl (any_of HT_.out (by kernel_rfl)) (fun _ _ _ h => h) (Or.inl ⟨by rfl, ?_⟩) ?_ ?_
            rotate_left
            ·intro w'
             go_simp
             with_reducible rfl
            rotate_left
            ·simp only [Act.put, setIfInBounds_toArray, set_cons_zero, set_cons_succ, i64_w, i32_w]
             rfl
            refine take_ (i := 47) (N := some 93) (v := ?_) (a' := ?_) (bm 53 281474976710655) rfl rfl (take_ofW HT_.out HW_.out (by kernel_rfl)) (fun _ _ _ h => h) (Or.inl ⟨by rfl, ?_⟩) hHeld ?_ ?_
            rotate_left
            ·rintro w' ⟨s0, s1, s2, s3, s4, s5, s6, s7⟩
             go_simp
             with_reducible rfl
            rotate_left
            ·simp only [Act.put, setIfInBounds_toArray, set_cons_zero, set_cons_succ, i64_w, i32_w]
             rfl
            refine take_ (i := 48) (N := some 94) (v := ?_) (a' := ?_) (bm 53 562949953421311) rfl rfl (take_ofW HT_.out HW_.out (by kernel_rfl)) (fun _ _ _ h => h) (Or.inl ⟨by rfl, ?_⟩) hHeld ?_ ?_
            rotate_left
            ·rintro w' ⟨s0, s1, s2, s3, s4, s5, s6, s7⟩
             go_simp
             with_reducible rfl
            rotate_left
            ·simp only [Act.put, setIfInBounds_toArray, set_cons_zero, set_cons_succ, i64_w, i32_w]
             rfl
            refine one_ (i := 49) (N := some 95) (bm 53 1125899906842623) rfl rfl (one_of HT_.out (by kernel_rfl)) (by decide) (fun K hK => ?_)
            refine goes_ Try.func16 (by kernel_rfl) rfl #[.agg #[.int .i64 (wrap64 (tmod a1 3)), .int .i64 (((tdiv a1 3) % 256) % 3)], .agg #[.int .i64 (wrap64 (tmod a0 3)), .int .i64 (((tdiv a0 3) % 256) % 3)]] (by rfl) rfl rfl (by (try simp only [List.map_toArray, List.map_cons, List.map_nil]); first | done | rfl | (simp only [List.length_drop, List.length_take]; rfl)) ?_
            with_reducible refine (rule_Through.calls kj5 (wrap64 (tmod a1 3)) (((tdiv a1 3) % 256) % 3) (wrap64 (tmod a0 3)) (((tdiv a0 3) % 256) % 3) t153 _ A86.out).mono ?_
            rintro e w95 ⟨rfl, hb⟩
            refine ⟨_, rfl, ?_⟩
            have n0_ := Aside0.mk (blk_below (g := g_e) (o := .cells #[.int .i64 (wrap64 (tmod a0 3)), .int .i64 (((tdiv a0 3) % 256) % 3)] 23 (0, 0)) (by (with_reducible repeat (first | refine blk_drewN ?_ _ | refine blk_drew ?_ | refine blk_alloc ?_ _)); exact B_a.out) hb)
            have n1_ := Aside0.mk (blk_below (g := g_f) (o := .cells #[.int .i64 (wrap64 (tmod a1 3)), .int .i64 (((tdiv a1 3) % 256) % 3)] 23 (0, 0)) (by (with_reducible repeat (first | refine blk_drewN ?_ _ | refine blk_drew ?_ | refine blk_alloc ?_ _)); exact B_b.out) hb)
            have n2_ := Aside0.mk (blk_below (g := g_g) (o := .cells #[.int .i64 (wrap64 (tmod a1 3)), .int .i64 ji5] 23 (0, 0)) (by (with_reducible repeat (first | refine blk_drewN ?_ _ | refine blk_drew ?_ | refine blk_alloc ?_ _)); exact B_d.out) hb)
            have n3_ := Aside0.mk (blk_below (g := g_h) (o := .cells #[.int .i64 2, .int .i64 2] 23 (0, 0)) (by (with_reducible repeat (first | refine blk_drewN ?_ _ | refine blk_drew ?_ | refine blk_alloc ?_ _)); exact B_c.out) hb)
            have n4_ := Aside0.mk (below_step (by repeat (first | (with_reducible first | exact HB.out | apply below_alloc | apply pw_below_drewN | apply below_drew1 | refine below_set ?_ G_i.out | refine below_set ?_ G_j.out | refine below_set ?_ G_k.out | refine below_set ?_ G_l.out) | exact HB.out)) hb)
            clear B_a
            clear B_b
            clear B_d
            clear B_c
            clear HB
            have B_a := n0_
            have B_b := n1_
            have B_d := n2_
            have B_c := n3_
            have HB := n4_
            clear n0_ n1_ n2_ n3_ n4_
            (try clear hb)
            (try clear hb2)
            (try clear hk)
            (try clear hi)
            refine hK.out _ _ ⟨(blk_cell B_a.out 0).trans rfl, (blk_cell B_a.out 1).trans rfl, (blk_cell B_b.out 0).trans rfl, (blk_cell B_b.out 1).trans rfl, (blk_cell B_c.out 0).trans rfl, (blk_cell B_c.out 1).trans rfl, (blk_cell B_d.out 0).trans rfl, (blk_cell B_d.out 1).trans rfl⟩ (fun hHeld => ?_)
            clear hK K
            refine norm_ (a' := ?_) ?_ ?_
            rotate_left
            ·show Act.put _ (some 95) _ = _
             simp only [Act.put, setIfInBounds_toArray, set_cons_zero, set_cons_succ, i64_w, i32_w]
             rfl
            refine pure_ (i := 50) (N := some 96) (v := ?_) (a' := ?_) (bm 53 2251799813685247) rfl rfl (any_of HT_.out (by kernel_rfl)) (fun _ _ _ h => h) (Or.inl ⟨by rfl, ?_⟩) ?_ ?_
            rotate_left
            ·intro w'
             go_simp
             with_reducible rfl
            rotate_left
            ·simp only [Act.put, setIfInBounds_toArray, set_cons_zero, set_cons_succ, i64_w, i32_w]
             rfl
            refine pure_ (i := 51) (N := some 97) (v := ?_) (a' := ?_) (bm 53 4503599627370495) rfl rfl (any_of HT_.out (by kernel_rfl)) (fun _ _ _ h => h) (Or.inl ⟨by rfl, ?_⟩) ?_ ?_
            rotate_left
            ·intro w'
             go_simp
             with_reducible rfl
            rotate_left
            ·simp only [Act.put, setIfInBounds_toArray, set_cons_zero, set_cons_succ, i64_w, i32_w]
             rfl
            refine pure_ (i := 52) (N := some 4) (v := ?_) (a' := ?_) (bm 53 9007199254740991) rfl rfl (any_of HT_.out (by kernel_rfl)) (fun _ _ _ h => h) (Or.inl ⟨by rfl, ?_⟩) ?_ ?_
            rotate_left
            ·intro w'
             go_simp
             with_reducible rfl
            rotate_left
            ·simp only [Act.put, setIfInBounds_toArray, set_cons_zero, set_cons_succ, i64_w, i32_w]
             rfl
            refine done_ (done_of HT_.out (by kernel_rfl)) ?_
            try go_wp2
            go_ret
            exact ⟨by first | rfl | (simp [errW_none, errW_some] <;> rfl) | (simp only [← hji5]; first | rfl | (simp [errW_none, errW_some] <;> rfl)) | (simp [*, errW_none, errW_some] <;> rfl), by repeat (first | (with_reducible first | exact HB.out | apply below_alloc | apply pw_below_drewN | apply below_drew1 | refine below_set ?_ G_i.out | refine below_set ?_ G_j.out | refine below_set ?_ G_k.out | refine below_set ?_ G_l.out) | exact HB.out)⟩
          ·replace c75 := Bool.eq_false_iff.mpr c75
           (first | subst c75 | clear c75)
           have H1 : (none) = some r := by rw [if_neg (show ¬ (false = true) by decide)] at H; exact H
           clear H
           have H := H1
           clear H1
           exact absurd H (by simp)
         ·replace c73 := Bool.eq_false_iff.mpr c73
          (first | subst c73 | clear c73)
          have H1 : (none) = some r := by rw [if_neg (show ¬ (false = true) by decide)] at H; exact H
          clear H
          have H := H1
          clear H1
          exact absurd H (by simp)
        ·replace c71 := Bool.eq_false_iff.mpr c71
         (first | subst c71 | clear c71)
         have H1 : (none) = some r := by rw [if_neg (show ¬ (false = true) by decide)] at H; exact H
         clear H
         have H := H1
         clear H1
         exact absurd H (by simp)
     ·replace c34 := Bool.eq_false_iff.mpr c34
      (first | subst c34 | clear c34)
      have H1 : (none) = some r := by rw [if_neg (show ¬ (false = true) by decide)] at H; exact H
      clear H
      have H := H1
      clear H1
      exact absurd H (by simp)
    ·replace c33 := Bool.eq_false_iff.mpr c33
     (first | subst c33 | clear c33)
     have H1 : (if t140 = true then (none) else (if x10_5 = true then ((rule_Punch.f kj5 (wrap64 (tmod a0 3)) (((tdiv a0 3) % 256) % 3) (wrap64 (tmod a1 3)) (((tdiv a1 3) % 256) % 3)).bind fun t154 => (if t154 = true then (none) else (none))) else ((rule_Punch.f kj5 2 2 2 2).bind fun t155 => (if t155 = true then (none) else ((rule_Punch.f kj5 (wrap64 (tmod a0 3)) (((tdiv a0 3) % 256) % 3) (wrap64 (tmod a1 3)) (((tdiv a1 3) % 256) % 3)).bind fun t156 => (if t156 = true then (none) else ((rule_Punch.f kj5 (wrap64 (tmod a0 3)) (((tdiv a0 3) % 256) % 3) (wrap64 (tmod a1 3)) (((tdiv a1 3) % 256) % 3)).bind fun t157 => (if t157 = true then (none) else (some true))))))))) = some r := by rw [if_neg (show ¬ (false = true) by decide)] at H; exact H
     clear H
     have H := H1
     clear H1
     by_cases c96 : t140 = true
     ·(first | subst c96 | clear c96)
      have H1 : (none) = some r := by first | (rw [if_pos rfl] at H; exact H) | (rw [if_pos trivial] at H; exact H)
      clear H
      have H := H1
      clear H1
      exact absurd H (by simp)
     ·replace c96 := Bool.eq_false_iff.mpr c96
      (first | subst c96 | clear c96)
      have H1 : (if x10_5 = true then ((rule_Punch.f kj5 (wrap64 (tmod a0 3)) (((tdiv a0 3) % 256) % 3) (wrap64 (tmod a1 3)) (((tdiv a1 3) % 256) % 3)).bind fun t154 => (if t154 = true then (none) else (none))) else ((rule_Punch.f kj5 2 2 2 2).bind fun t155 => (if t155 = true then (none) else ((rule_Punch.f kj5 (wrap64 (tmod a0 3)) (((tdiv a0 3) % 256) % 3) (wrap64 (tmod a1 3)) (((tdiv a1 3) % 256) % 3)).bind fun t156 => (if t156 = true then (none) else ((rule_Punch.f kj5 (wrap64 (tmod a0 3)) (((tdiv a0 3) % 256) % 3) (wrap64 (tmod a1 3)) (((tdiv a1 3) % 256) % 3)).bind fun t157 => (if t157 = true then (none) else (some true)))))))) = some r := by rw [if_neg (show ¬ (false = true) by decide)] at H; exact H
      clear H
      have H := H1
      clear H1
      by_cases c97 : x10_5 = true
      ·(first | subst c97 | clear c97)
       have H1 : ((rule_Punch.f kj5 (wrap64 (tmod a0 3)) (((tdiv a0 3) % 256) % 3) (wrap64 (tmod a1 3)) (((tdiv a1 3) % 256) % 3)).bind fun t154 => (if t154 = true then (none) else (none))) = some r := by first | (rw [if_pos rfl] at H; exact H) | (rw [if_pos trivial] at H; exact H)
       clear H
       have H := H1
       clear H1
       replace H := Option.bind_eq_some_iff.mp H
       obtain ⟨t154, A980, H⟩ := H
       replace H : (if t154 = true then (none) else (none)) = some r := H
       have A98 := Aside0.mk A980
       clear A980
       by_cases c99 : t154 = true
       ·(first | subst c99 | clear c99)
        have H1 : (none) = some r := by first | (rw [if_pos rfl] at H; exact H) | (rw [if_pos trivial] at H; exact H)
        clear H
        have H := H1
        clear H1
        exact absurd H (by simp)
       ·replace c99 := Bool.eq_false_iff.mpr c99
        (first | subst c99 | clear c99)
        have H1 : (none) = some r := by rw [if_neg (show ¬ (false = true) by decide)] at H; exact H
        clear H
        have H := H1
        clear H1
        exact absurd H (by simp)
      ·replace c97 := Bool.eq_false_iff.mpr c97
       (first | subst c97 | clear c97)
       have H1 : ((rule_Punch.f kj5 2 2 2 2).bind fun t155 => (if t155 = true then (none) else ((rule_Punch.f kj5 (wrap64 (tmod a0 3)) (((tdiv a0 3) % 256) % 3) (wrap64 (tmod a1 3)) (((tdiv a1 3) % 256) % 3)).bind fun t156 => (if t156 = true then (none) else ((rule_Punch.f kj5 (wrap64 (tmod a0 3)) (((tdiv a0 3) % 256) % 3) (wrap64 (tmod a1 3)) (((tdiv a1 3) % 256) % 3)).bind fun t157 => (if t157 = true then (none) else (some true))))))) = some r := by rw [if_neg (show ¬ (false = true) by decide)] at H; exact H
       clear H
       have H := H1
       clear H1
       replace H := Option.bind_eq_some_iff.mp H
       obtain ⟨t155, A1000, H⟩ := H
       replace H : (if t155 = true then (none) else ((rule_Punch.f kj5 (wrap64 (tmod a0 3)) (((tdiv a0 3) % 256) % 3) (wrap64 (tmod a1 3)) (((tdiv a1 3) % 256) % 3)).bind fun t156 => (if t156 = true then (none) else ((rule_Punch.f kj5 (wrap64 (tmod a0 3)) (((tdiv a0 3) % 256) % 3) (wrap64 (tmod a1 3)) (((tdiv a1 3) % 256) % 3)).bind fun t157 => (if t157 = true then (none) else (some true)))))) = some r := H
       have A100 := Aside0.mk A1000
       clear A1000
       by_cases c101 : t155 = true
       ·(first | subst c101 | clear c101)
        have H1 : (none) = some r := by first | (rw [if_pos rfl] at H; exact H) | (rw [if_pos trivial] at H; exact H)
        clear H
        have H := H1
        clear H1
        exact absurd H (by simp)
       ·replace c101 := Bool.eq_false_iff.mpr c101
        (first | subst c101 | clear c101)
        have H1 : ((rule_Punch.f kj5 (wrap64 (tmod a0 3)) (((tdiv a0 3) % 256) % 3) (wrap64 (tmod a1 3)) (((tdiv a1 3) % 256) % 3)).bind fun t156 => (if t156 = true then (none) else ((rule_Punch.f kj5 (wrap64 (tmod a0 3)) (((tdiv a0 3) % 256) % 3) (wrap64 (tmod a1 3)) (((tdiv a1 3) % 256) % 3)).bind fun t157 => (if t157 = true then (none) else (some true))))) = some r := by rw [if_neg (show ¬ (false = true) by decide)] at H; exact H
        clear H
        have H := H1
        clear H1
        replace H := Option.bind_eq_some_iff.mp H
        obtain ⟨t156, A1020, H⟩ := H
        replace H : (if t156 = true then (none) else ((rule_Punch.f kj5 (wrap64 (tmod a0 3)) (((tdiv a0 3) % 256) % 3) (wrap64 (tmod a1 3)) (((tdiv a1 3) % 256) % 3)).bind fun t157 => (if t157 = true then (none) else (some true)))) = some r := H
        have A102 := Aside0.mk A1020
        clear A1020
        by_cases c103 : t156 = true
        ·(first | subst c103 | clear c103)
         have H1 : (none) = some r := by first | (rw [if_pos rfl] at H; exact H) | (rw [if_pos trivial] at H; exact H)
         clear H
         have H := H1
         clear H1
         exact absurd H (by simp)
        ·replace c103 := Bool.eq_false_iff.mpr c103
         (first | subst c103 | clear c103)
         have H1 : ((rule_Punch.f kj5 (wrap64 (tmod a0 3)) (((tdiv a0 3) % 256) % 3) (wrap64 (tmod a1 3)) (((tdiv a1 3) % 256) % 3)).bind fun t157 => (if t157 = true then (none) else (some true))) = some r := by rw [if_neg (show ¬ (false = true) by decide)] at H; exact H
         clear H
         have H := H1
         clear H1
         replace H := Option.bind_eq_some_iff.mp H
         obtain ⟨t157, A1040, H⟩ := H
         replace H : (if t157 = true then (none) else (some true)) = some r := H
         have A104 := Aside0.mk A1040
         clear A1040
         by_cases c105 : t157 = true
         ·(first | subst c105 | clear c105)
          have H1 : (none) = some r := by first | (rw [if_pos rfl] at H; exact H) | (rw [if_pos trivial] at H; exact H)
          clear H
          have H := H1
          clear H1
          exact absurd H (by simp)
         ·replace c105 := Bool.eq_false_iff.mpr c105
          (first | subst c105 | clear c105)
          have H1 : (some true) = some r := by rw [if_neg (show ¬ (false = true) by decide)] at H; exact H
          clear H
          have H := H1
          clear H1
          obtain rfl := Option.some.inj H
          try go_wp2
          have n0_ := Aside0.mk (blk_drew B_a.out)
          have n1_ := Aside0.mk (blk_drew B_b.out)
          have n2_ := Aside0.mk (blk_drew B_d.out)
          have n3_ := Aside0.mk (blk_drew B_c.out)
          have n4_ := Aside0.mk (below_drew1 HB.out)
          clear B_a
          clear B_b
          clear B_d
          clear B_c
          clear HB
          have B_a := n0_
          have B_b := n1_
          have B_d := n2_
          have B_c := n3_
          have HB := n4_
          clear n0_ n1_ n2_ n3_ n4_
          refine start_ (n := 53) (S := fun w' => w'.cell? ⟨g_e, 0, none⟩ = some (.int .i64 (wrap64 (tmod a0 3))) ∧ w'.cell? ⟨g_e, 1, none⟩ = some (.int .i64 (((tdiv a0 3) % 256) % 3)) ∧ w'.cell? ⟨g_f, 0, none⟩ = some (.int .i64 (wrap64 (tmod a1 3))) ∧ w'.cell? ⟨g_f, 1, none⟩ = some (.int .i64 (((tdiv a1 3) % 256) % 3)) ∧ w'.cell? ⟨g_h, 0, none⟩ = some (.int .i64 2) ∧ w'.cell? ⟨g_h, 1, none⟩ = some (.int .i64 2)) (ds := []) (bm 53 0) (by kernel_rfl) rfl rfl ⟨(blk_cell B_a.out 0).trans rfl, (blk_cell B_a.out 1).trans rfl, (blk_cell B_b.out 0).trans rfl, (blk_cell B_b.out 1).trans rfl, (blk_cell B_c.out 0).trans rfl, (blk_cell B_c.out 1).trans rfl⟩ (fun hHeld => ?_); refine with_tabW law07_RulePunch.tab9 law07_RulePunch.bits9 (fun HT_ HW_ => ?_)
          generalize wc.drew = w106 at B_a B_b B_d B_c HB hHeld ⊢
          refine pure_ (i := 0) (N := some 46) (v := ?_) (a' := ?_) (bm 53 1) rfl rfl (any_of HT_.out (by kernel_rfl)) (fun _ _ _ h => h) (Or.inl ⟨by rfl, ?_⟩) ?_ ?_
          rotate_left
          ·intro w'
           go_simp
           with_reducible rfl
          rotate_left
          ·simp only [Act.put, setIfInBounds_toArray, set_cons_zero, set_cons_succ, i64_w, i32_w]
           rfl
          refine pure_ (i := 1) (N := some 47) (v := ?_) (a' := ?_) (bm 53 3) rfl rfl (any_of HT_.out (by kernel_rfl)) (fun _ _ _ h => h) (Or.inl ⟨by rfl, ?_⟩) ?_ ?_
          rotate_left
          ·intro w'
           go_simp
           with_reducible rfl
          rotate_left
          ·simp only [Act.put, setIfInBounds_toArray, set_cons_zero, set_cons_succ, i64_w, i32_w]
           rfl
          refine take_ (i := 2) (N := some 48) (v := ?_) (a' := ?_) (bm 53 7) rfl rfl (take_ofW HT_.out HW_.out (by kernel_rfl)) (fun _ _ _ h => h) (Or.inl ⟨by rfl, ?_⟩) hHeld ?_ ?_
          rotate_left
          ·rintro w' ⟨s0, s1, s2, s3, s4, s5⟩
           go_simp
           with_reducible rfl
          rotate_left
          ·simp only [Act.put, setIfInBounds_toArray, set_cons_zero, set_cons_succ, i64_w, i32_w]
           rfl
          refine take_ (i := 3) (N := some 49) (v := ?_) (a' := ?_) (bm 53 15) rfl rfl (take_ofW HT_.out HW_.out (by kernel_rfl)) (fun _ _ _ h => h) (Or.inl ⟨by rfl, ?_⟩) hHeld ?_ ?_
          rotate_left
          ·rintro w' ⟨s0, s1, s2, s3, s4, s5⟩
           go_simp
           with_reducible rfl
          rotate_left
          ·simp only [Act.put, setIfInBounds_toArray, set_cons_zero, set_cons_succ, i64_w, i32_w]
           rfl
          refine take_ (i := 5) (N := some 51) (v := ?_) (a' := ?_) (bm 53 47) rfl rfl (take_ofW HT_.out HW_.out (by kernel_rfl)) (fun _ _ _ h => h) (Or.inl ⟨by rfl, ?_⟩) hHeld ?_ ?_
          rotate_left
          ·rintro w' ⟨s0, s1, s2, s3, s4, s5⟩
           go_simp
           with_reducible rfl
          rotate_left
          ·simp only [Act.put, setIfInBounds_toArray, set_cons_zero, set_cons_succ, i64_w, i32_w]
           rfl
          refine take_ (i := 6) (N := some 52) (v := ?_) (a' := ?_) (bm 53 111) rfl rfl (take_ofW HT_.out HW_.out (by kernel_rfl)) (fun _ _ _ h => h) (Or.inl ⟨by rfl, ?_⟩) hHeld ?_ ?_
          rotate_left
          ·rintro w' ⟨s0, s1, s2, s3, s4, s5⟩
           go_simp
           with_reducible rfl
          rotate_left
          ·simp only [Act.put, setIfInBounds_toArray, set_cons_zero, set_cons_succ, i64_w, i32_w]
           rfl
          refine one_ (i := 4) (N := some 50) (bm 53 127) rfl rfl (one_of HT_.out (by kernel_rfl)) (by decide) (fun K hK => ?_)
          refine goes_ Try.func18 (by kernel_rfl) rfl #[.agg #[.int .i64 (wrap64 (tmod a0 3)), .int .i64 (((tdiv a0 3) % 256) % 3)], .agg #[.int .i64 (wrap64 (tmod a1 3)), .int .i64 (((tdiv a1 3) % 256) % 3)]] (by rfl) rfl rfl (by (try simp only [List.map_toArray, List.map_cons, List.map_nil]); first | done | rfl | (simp only [List.length_drop, List.length_take]; rfl)) ?_
          with_reducible refine (rule_Punch.calls kj5 (wrap64 (tmod a0 3)) (((tdiv a0 3) % 256) % 3) (wrap64 (tmod a1 3)) (((tdiv a1 3) % 256) % 3) false _ A31.out).mono ?_
          rintro e w107 ⟨rfl, hb⟩
          refine ⟨_, rfl, ?_⟩
          have n0_ := Aside0.mk (blk_below (g := g_e) (o := .cells #[.int .i64 (wrap64 (tmod a0 3)), .int .i64 (((tdiv a0 3) % 256) % 3)] 23 (0, 0)) (by (with_reducible repeat (first | refine blk_drewN ?_ _ | refine blk_drew ?_ | refine blk_alloc ?_ _)); exact B_a.out) hb)
          have n1_ := Aside0.mk (blk_below (g := g_f) (o := .cells #[.int .i64 (wrap64 (tmod a1 3)), .int .i64 (((tdiv a1 3) % 256) % 3)] 23 (0, 0)) (by (with_reducible repeat (first | refine blk_drewN ?_ _ | refine blk_drew ?_ | refine blk_alloc ?_ _)); exact B_b.out) hb)
          have n2_ := Aside0.mk (blk_below (g := g_g) (o := .cells #[.int .i64 (wrap64 (tmod a1 3)), .int .i64 ji5] 23 (0, 0)) (by (with_reducible repeat (first | refine blk_drewN ?_ _ | refine blk_drew ?_ | refine blk_alloc ?_ _)); exact B_d.out) hb)
          have n3_ := Aside0.mk (blk_below (g := g_h) (o := .cells #[.int .i64 2, .int .i64 2] 23 (0, 0)) (by (with_reducible repeat (first | refine blk_drewN ?_ _ | refine blk_drew ?_ | refine blk_alloc ?_ _)); exact B_c.out) hb)
          have n4_ := Aside0.mk (below_step (by repeat (first | (with_reducible first | exact HB.out | apply below_alloc | apply pw_below_drewN | apply below_drew1 | refine below_set ?_ G_i.out | refine below_set ?_ G_j.out | refine below_set ?_ G_k.out | refine below_set ?_ G_l.out) | exact HB.out)) hb)
          clear B_a
          clear B_b
          clear B_d
          clear B_c
          clear HB
          have B_a := n0_
          have B_b := n1_
          have B_d := n2_
          have B_c := n3_
          have HB := n4_
          clear n0_ n1_ n2_ n3_ n4_
          (try clear hb)
          (try clear hb2)
          (try clear hk)
          (try clear hi)
          refine hK.out _ _ ⟨(blk_cell B_a.out 0).trans rfl, (blk_cell B_a.out 1).trans rfl, (blk_cell B_b.out 0).trans rfl, (blk_cell B_b.out 1).trans rfl, (blk_cell B_c.out 0).trans rfl, (blk_cell B_c.out 1).trans rfl⟩ (fun hHeld => ?_)
          clear hK K
          refine norm_ (a' := ?_) ?_ ?_
          rotate_left
          ·show Act.put _ (some 50) _ = _
           simp only [Act.put, setIfInBounds_toArray, set_cons_zero, set_cons_succ, i64_w, i32_w]
           rfl
          refine one_ (i := 7) (N := some 53) (bm 53 255) rfl rfl (one_of HT_.out (by kernel_rfl)) (by decide) (fun K hK => ?_)
          refine goes_ Try.func18 (by kernel_rfl) rfl #[.agg #[.int .i64 (wrap64 (tmod a1 3)), .int .i64 (((tdiv a1 3) % 256) % 3)], .agg #[.int .i64 (wrap64 (tmod a0 3)), .int .i64 (((tdiv a0 3) % 256) % 3)]] (by rfl) rfl rfl (by (try simp only [List.map_toArray, List.map_cons, List.map_nil]); first | done | rfl | (simp only [List.length_drop, List.length_take]; rfl)) ?_
          with_reducible refine (rule_Punch.calls kj5 (wrap64 (tmod a1 3)) (((tdiv a1 3) % 256) % 3) (wrap64 (tmod a0 3)) (((tdiv a0 3) % 256) % 3) false _ A32.out).mono ?_
          rintro e w108 ⟨rfl, hb⟩
          refine ⟨_, rfl, ?_⟩
          have n0_ := Aside0.mk (blk_below (g := g_e) (o := .cells #[.int .i64 (wrap64 (tmod a0 3)), .int .i64 (((tdiv a0 3) % 256) % 3)] 23 (0, 0)) (by (with_reducible repeat (first | refine blk_drewN ?_ _ | refine blk_drew ?_ | refine blk_alloc ?_ _)); exact B_a.out) hb)
          have n1_ := Aside0.mk (blk_below (g := g_f) (o := .cells #[.int .i64 (wrap64 (tmod a1 3)), .int .i64 (((tdiv a1 3) % 256) % 3)] 23 (0, 0)) (by (with_reducible repeat (first | refine blk_drewN ?_ _ | refine blk_drew ?_ | refine blk_alloc ?_ _)); exact B_b.out) hb)
          have n2_ := Aside0.mk (blk_below (g := g_g) (o := .cells #[.int .i64 (wrap64 (tmod a1 3)), .int .i64 ji5] 23 (0, 0)) (by (with_reducible repeat (first | refine blk_drewN ?_ _ | refine blk_drew ?_ | refine blk_alloc ?_ _)); exact B_d.out) hb)
          have n3_ := Aside0.mk (blk_below (g := g_h) (o := .cells #[.int .i64 2, .int .i64 2] 23 (0, 0)) (by (with_reducible repeat (first | refine blk_drewN ?_ _ | refine blk_drew ?_ | refine blk_alloc ?_ _)); exact B_c.out) hb)
          have n4_ := Aside0.mk (below_step (by repeat (first | (with_reducible first | exact HB.out | apply below_alloc | apply pw_below_drewN | apply below_drew1 | refine below_set ?_ G_i.out | refine below_set ?_ G_j.out | refine below_set ?_ G_k.out | refine below_set ?_ G_l.out) | exact HB.out)) hb)
          clear B_a
          clear B_b
          clear B_d
          clear B_c
          clear HB
          have B_a := n0_
          have B_b := n1_
          have B_d := n2_
          have B_c := n3_
          have HB := n4_
          clear n0_ n1_ n2_ n3_ n4_
          (try clear hb)
          (try clear hb2)
          (try clear hk)
          (try clear hi)
          refine hK.out _ _ ⟨(blk_cell B_a.out 0).trans rfl, (blk_cell B_a.out 1).trans rfl, (blk_cell B_b.out 0).trans rfl, (blk_cell B_b.out 1).trans rfl, (blk_cell B_c.out 0).trans rfl, (blk_cell B_c.out 1).trans rfl⟩ (fun hHeld => ?_)
          clear hK K
          refine norm_ (a' := ?_) ?_ ?_
          rotate_left
          ·show Act.put _ (some 53) _ = _
           simp only [Act.put, setIfInBounds_toArray, set_cons_zero, set_cons_succ, i64_w, i32_w]
           rfl
          refine pure_ (i := 8) (N := some 54) (v := ?_) (a' := ?_) (bm 53 511) rfl rfl (any_of HT_.out (by kernel_rfl)) (fun _ _ _ h => h) (Or.inl ⟨by rfl, ?_⟩) ?_ ?_
          rotate_left
          ·intro w'
           go_simp
           with_reducible rfl
          rotate_left
          ·simp only [Act.put, setIfInBounds_toArray, set_cons_zero, set_cons_succ, i64_w, i32_w]
           rfl
          refine pure_ (i := 9) (N := some 55) (v := ?_) (a' := ?_) (bm 53 1023) rfl rfl (any_of HT_.out (by kernel_rfl)) (fun _ _ _ h => h) (Or.inl ⟨by rfl, ?_⟩) ?_ ?_
          rotate_left
          ·intro w'
           go_simp
           with_reducible rfl
          rotate_left
          ·simp only [Act.put, setIfInBounds_toArray, set_cons_zero, set_cons_succ, i64_w, i32_w]
           rfl
          refine pure_ (i := 10) (N := some 56) (v := ?_) (a' := ?_) (bm 53 2047) rfl rfl (any_of HT_.out (by kernel_rfl)) (fun _ _ _ h => h) (Or.inl ⟨by rfl, ?_⟩) ?_ ?_
          rotate_left
          ·intro w'
           go_simp
           with_reducible rfl
          rotate_left
          ·simp only [Act.put, setIfInBounds_toArray, set_cons_zero, set_cons_succ, i64_w, i32_w]
           rfl
          refine pure_ (i := 11) (N := some 57) (v := ?_) (a' := ?_) (bm 53 4095) rfl rfl (any_of HT_.out (by kernel_rfl)) (fun _ _ _ h => h) (Or.inl ⟨by rfl, ?_⟩) ?_ ?_
          rotate_left
          ·intro w'
           go_simp
           with_reducible rfl
          rotate_left
          ·simp only [Act.put, setIfInBounds_toArray, set_cons_zero, set_cons_succ, i64_w, i32_w]
           rfl
          refine pure_ (i := 12) (N := some 58) (v := ?_) (a' := ?_) (bm 53 8191) rfl rfl (any_of HT_.out (by kernel_rfl)) (fun _ _ _ h => h) (Or.inl ⟨by rfl, ?_⟩) ?_ ?_
          rotate_left
          ·intro w'
           go_simp
           with_reducible rfl
          rotate_left
          ·simp only [Act.put, setIfInBounds_toArray, set_cons_zero, set_cons_succ, i64_w, i32_w]
           rfl
          refine pure_ (i := 13) (N := some 59) (v := ?_) (a' := ?_) (bm 53 16383) rfl rfl (any_of HT_.out (by kernel_rfl)) (fun _ _ _ h => h) (Or.inl ⟨by rfl, ?_⟩) ?_ ?_
          rotate_left
          ·intro w'
           go_simp
           with_reducible rfl
          rotate_left
          ·simp only [Act.put, setIfInBounds_toArray, set_cons_zero, set_cons_succ, i64_w, i32_w]
           rfl
          refine pure_ (i := 14) (N := some 60) (v := undef) (a' := ?_) (bm 53 32767) rfl rfl (any_of HT_.out (by kernel_rfl)) (fun _ _ _ h => h) (Or.inr ⟨by rfl, rfl⟩) ?_ ?_
          rotate_left
          ·simp only [Act.put, setIfInBounds_toArray, set_cons_zero, set_cons_succ, i64_w, i32_w]
           rfl
          refine pure_ (i := 15) (N := some 61) (v := undef) (a' := ?_) (bm 53 65535) rfl rfl (any_of HT_.out (by kernel_rfl)) (fun _ _ _ h => h) (Or.inr ⟨by rfl, rfl⟩) ?_ ?_
          rotate_left
          ·simp only [Act.put, setIfInBounds_toArray, set_cons_zero, set_cons_succ, i64_w, i32_w]
           rfl
          refine pure_ (i := 16) (N := some 62) (v := undef) (a' := ?_) (bm 53 131071) rfl rfl (any_of HT_.out (by kernel_rfl)) (fun _ _ _ h => h) (Or.inr ⟨by rfl, rfl⟩) ?_ ?_
          rotate_left
          ·simp only [Act.put, setIfInBounds_toArray, set_cons_zero, set_cons_succ, i64_w, i32_w]
           rfl
          refine pure_ (i := 17) (N := some 63) (v := ?_) (a' := ?_) (bm 53 262143) rfl rfl (any_of HT_.out (by kernel_rfl)) (fun _ _ _ h => h) (Or.inl ⟨by rfl, ?_⟩) ?_ ?_
          rotate_left
          ·intro w'
           go_simp
           with_reducible rfl
          rotate_left
          ·simp only [Act.put, setIfInBounds_toArray, set_cons_zero, set_cons_succ, i64_w, i32_w]
           rfl
          refine pure_ (i := 18) (N := some 64) (v := ?_) (a' := ?_) (bm 53 524287) rfl rfl (any_of HT_.out (by kernel_rfl)) (fun _ _ _ h => h) (Or.inl ⟨by rfl, ?_⟩) ?_ ?_
          rotate_left
          ·intro w'
           go_simp
           with_reducible rfl
          rotate_left
          ·simp only [Act.put, setIfInBounds_toArray, set_cons_zero, set_cons_succ, i64_w, i32_w]
           rfl
          refine pure_ (i := 19) (N := some 65) (v := ?_) (a' := ?_) (bm 53 1048575) rfl rfl (any_of HT_.out (by kernel_rfl)) (fun _ _ _ h => h) (Or.inl ⟨by rfl, ?_⟩) ?_ ?_
          rotate_left
          ·intro w'
           go_simp
           with_reducible rfl
          rotate_left
          ·simp only [Act.put, setIfInBounds_toArray, set_cons_zero, set_cons_succ, i64_w, i32_w]
           rfl
          refine take_ (i := 20) (N := some 66) (v := ?_) (a' := ?_) (bm 53 2097151) rfl rfl (take_ofW HT_.out HW_.out (by kernel_rfl)) (fun _ _ _ h => h) (Or.inl ⟨by rfl, ?_⟩) hHeld ?_ ?_
          rotate_left
          ·rintro w' ⟨s0, s1, s2, s3, s4, s5⟩
           go_simp
           with_reducible rfl
          rotate_left
          ·simp only [Act.put, setIfInBounds_toArray, set_cons_zero, set_cons_succ, i64_w, i32_w]
           rfl
          refine take_ (i := 21) (N := some 67) (v := ?_) (a' := ?_) (bm 53 4194303) rfl rfl (take_ofW HT_.out HW_.out (by kernel_rfl)) (fun _ _ _ h => h) (Or.inl ⟨by rfl, ?_⟩) hHeld ?_ ?_
          rotate_left
          ·rintro w' ⟨s0, s1, s2, s3, s4, s5⟩
           go_simp
           with_reducible rfl
          rotate_left
          ·simp only [Act.put, setIfInBounds_toArray, set_cons_zero, set_cons_succ, i64_w, i32_w]
           rfl
          refine one_ (i := 22) (N := some 68) (bm 53 8388607) rfl rfl (one_of HT_.out (by kernel_rfl)) (by decide) (fun K hK => ?_)
          refine goes_ Try.func18 (by kernel_rfl) rfl #[.agg #[.int .i64 2, .int .i64 2], .agg #[.int .i64 2, .int .i64 2]] (by rfl) rfl rfl (by (try simp only [List.map_toArray, List.map_cons, List.map_nil]); first | done | rfl | (simp only [List.length_drop, List.length_take]; rfl)) ?_
          with_reducible refine (rule_Punch.calls kj5 2 2 2 2 false _ A100.out).mono ?_
          rintro e w109 ⟨rfl, hb⟩
          refine ⟨_, rfl, ?_⟩
          have n0_ := Aside0.mk (blk_below (g := g_e) (o := .cells #[.int .i64 (wrap64 (tmod a0 3)), .int .i64 (((tdiv a0 3) % 256) % 3)] 23 (0, 0)) (by (with_reducible repeat (first | refine blk_drewN ?_ _ | refine blk_drew ?_ | refine blk_alloc ?_ _)); exact B_a.out) hb)
          have n1_ := Aside0.mk (blk_below (g := g_f) (o := .cells #[.int .i64 (wrap64 (tmod a1 3)), .int .i64 (((tdiv a1 3) % 256) % 3)] 23 (0, 0)) (by (with_reducible repeat (first | refine blk_drewN ?_ _ | refine blk_drew ?_ | refine blk_alloc ?_ _)); exact B_b.out) hb)
          have n2_ := Aside0.mk (blk_below (g := g_g) (o := .cells #[.int .i64 (wrap64 (tmod a1 3)), .int .i64 ji5] 23 (0, 0)) (by (with_reducible repeat (first | refine blk_drewN ?_ _ | refine blk_drew ?_ | refine blk_alloc ?_ _)); exact B_d.out) hb)
          have n3_ := Aside0.mk (blk_below (g := g_h) (o := .cells #[.int .i64 2, .int .i64 2] 23 (0, 0)) (by (with_reducible repeat (first | refine blk_drewN ?_ _ | refine blk_drew ?_ | refine blk_alloc ?_ _)); exact B_c.out) hb)
          have n4_ := Aside0.mk (below_step (by repeat (first | (with_reducible first | exact HB.out | apply below_alloc | apply pw_below_drewN | apply below_drew1 | refine below_set ?_ G_i.out | refine below_set ?_ G_j.out | refine below_set ?_ G_k.out | refine below_set ?_ G_l.out) | exact HB.out)) hb)
          clear B_a
          clear B_b
          clear B_d
          clear B_c
          clear HB
          have B_a := n0_
          have B_b := n1_
          have B_d := n2_
          have B_c := n3_
          have HB := n4_
          clear n0_ n1_ n2_ n3_ n4_
          (try clear hb)
          (try clear hb2)
          (try clear hk)
          (try clear hi)
          refine hK.out _ _ ⟨(blk_cell B_a.out 0).trans rfl, (blk_cell B_a.out 1).trans rfl, (blk_cell B_b.out 0).trans rfl, (blk_cell B_b.out 1).trans rfl, (blk_cell B_c.out 0).trans rfl, (blk_cell B_c.out 1).trans rfl⟩ (fun hHeld => ?_)
          clear hK K
          refine norm_ (a' := ?_) ?_ ?_
          rotate_left
          ·show Act.put _ (some 68) _ = _
           simp only [Act.put, setIfInBounds_toArray, set_cons_zero, set_cons_succ, i64_w, i32_w]
           rfl
          refine pure_ (i := 23) (N := some 69) (v := ?_) (a' := ?_) (bm 53 16777215) rfl rfl (any_of HT_.out (by kernel_rfl)) (fun _ _ _ h => h) (Or.inl ⟨by rfl, ?_⟩) ?_ ?_
          rotate_left
          ·intro w'
           go_simp
           with_reducible rfl
          rotate_left
          ·simp only [Act.put, setIfInBounds_toArray, set_cons_zero, set_cons_succ, i64_w, i32_w]
           rfl
          refine pure_ (i := 24) (N := some 70) (v := ?_) (a' := ?_) (bm 53 33554431) rfl rfl (any_of HT_.out (by kernel_rfl)) (fun _ _ _ h => h) (Or.inl ⟨by rfl, ?_⟩) ?_ ?_
          rotate_left
          ·intro w'
           go_simp
           with_reducible rfl
          rotate_left
          ·simp only [Act.put, setIfInBounds_toArray, set_cons_zero, set_cons_succ, i64_w, i32_w]
           rfl
          refine pure_ (i := 25) (N := some 71) (v := ?_) (a' := ?_) (bm 53 67108863) rfl rfl (any_of HT_.out (by kernel_rfl)) (fun _ _ _ h => h) (Or.inl ⟨by rfl, ?_⟩) ?_ ?_
          rotate_left
          ·intro w'
           go_simp
           with_reducible rfl
          rotate_left
          ·simp only [Act.put, setIfInBounds_toArray, set_cons_zero, set_cons_succ, i64_w, i32_w]
           rfl
          refine take_ (i := 26) (N := some 72) (v := ?_) (a' := ?_) (bm 53 134217727) rfl rfl (take_ofW HT_.out HW_.out (by kernel_rfl)) (fun _ _ _ h => h) (Or.inl ⟨by rfl, ?_⟩) hHeld ?_ ?_
          rotate_left
          ·rintro w' ⟨s0, s1, s2, s3, s4, s5⟩
           go_simp
           with_reducible rfl
          rotate_left
          ·simp only [Act.put, setIfInBounds_toArray, set_cons_zero, set_cons_succ, i64_w, i32_w]
           rfl
          refine take_ (i := 27) (N := some 73) (v := ?_) (a' := ?_) (bm 53 268435455) rfl rfl (take_ofW HT_.out HW_.out (by kernel_rfl)) (fun _ _ _ h => h) (Or.inl ⟨by rfl, ?_⟩) hHeld ?_ ?_
          rotate_left
          ·rintro w' ⟨s0, s1, s2, s3, s4, s5⟩
           go_simp
           with_reducible rfl
          rotate_left
          ·simp only [Act.put, setIfInBounds_toArray, set_cons_zero, set_cons_succ, i64_w, i32_w]
           rfl
          refine one_ (i := 28) (N := some 74) (bm 53 536870911) rfl rfl (one_of HT_.out (by kernel_rfl)) (by decide) (fun K hK => ?_)
          refine goes_ Try.func18 (by kernel_rfl) rfl #[.agg #[.int .i64 (wrap64 (tmod a0 3)), .int .i64 (((tdiv a0 3) % 256) % 3)], .agg #[.int .i64 (wrap64 (tmod a1 3)), .int .i64 (((tdiv a1 3) % 256) % 3)]] (by rfl) rfl rfl (by (try simp only [List.map_toArray, List.map_cons, List.map_nil]); first | done | rfl | (simp only [List.length_drop, List.length_take]; rfl)) ?_
          with_reducible refine (rule_Punch.calls kj5 (wrap64 (tmod a0 3)) (((tdiv a0 3) % 256) % 3) (wrap64 (tmod a1 3)) (((tdiv a1 3) % 256) % 3) false _ A102.out).mono ?_
          rintro e w110 ⟨rfl, hb⟩
          refine ⟨_, rfl, ?_⟩
          have n0_ := Aside0.mk (blk_below (g := g_e) (o := .cells #[.int .i64 (wrap64 (tmod a0 3)), .int .i64 (((tdiv a0 3) % 256) % 3)] 23 (0, 0)) (by (with_reducible repeat (first | refine blk_drewN ?_ _ | refine blk_drew ?_ | refine blk_alloc ?_ _)); exact B_a.out) hb)
          have n1_ := Aside0.mk (blk_below (g := g_f) (o := .cells #[.int .i64 (wrap64 (tmod a1 3)), .int .i64 (((tdiv a1 3) % 256) % 3)] 23 (0, 0)) (by (with_reducible repeat (first | refine blk_drewN ?_ _ | refine blk_drew ?_ | refine blk_alloc ?_ _)); exact B_b.out) hb)
          have n2_ := Aside0.mk (blk_below (g := g_g) (o := .cells #[.int .i64 (wrap64 (tmod a1 3)), .int .i64 ji5] 23 (0, 0)) (by (with_reducible repeat (first | refine blk_drewN ?_ _ | refine blk_drew ?_ | refine blk_alloc ?_ _)); exact B_d.out) hb)
          have n3_ := Aside0.mk (blk_below (g := g_h) (o := .cells #[.int .i64 2, .int .i64 2] 23 (0, 0)) (by (with_reducible repeat (first | refine blk_drewN ?_ _ | refine blk_drew ?_ | refine blk_alloc ?_ _)); exact B_c.out) hb)
          have n4_ := Aside0.mk (below_step (by repeat (first | (with_reducible first | exact HB.out | apply below_alloc | apply pw_below_drewN | apply below_drew1 | refine below_set ?_ G_i.out | refine below_set ?_ G_j.out | refine below_set ?_ G_k.out | refine below_set ?_ G_l.out) | exact HB.out)) hb)
          clear B_a
          clear B_b
          clear B_d
          clear B_c
          clear HB
          have B_a := n0_
          have B_b := n1_
          have B_d := n2_
          have B_c := n3_
          have HB := n4_
          clear n0_ n1_ n2_ n3_ n4_
          (try clear hb)
          (try clear hb2)
          (try clear hk)
          (try clear hi)
          refine hK.out _ _ ⟨(blk_cell B_a.out 0).trans rfl, (blk_cell B_a.out 1).trans rfl, (blk_cell B_b.out 0).trans rfl, (blk_cell B_b.out 1).trans rfl, (blk_cell B_c.out 0).trans rfl, (blk_cell B_c.out 1).trans rfl⟩ (fun hHeld => ?_)
          clear hK K
          refine norm_ (a' := ?_) ?_ ?_
          rotate_left
          ·show Act.put _ (some 74) _ = _
           simp only [Act.put, setIfInBounds_toArray, set_cons_zero, set_cons_succ, i64_w, i32_w]
           rfl
          refine pure_ (i := 29) (N := some 75) (v := ?_) (a' := ?_) (bm 53 1073741823) rfl rfl (any_of HT_.out (by kernel_rfl)) (fun _ _ _ h => h) (Or.inl ⟨by rfl, ?_⟩) ?_ ?_
          rotate_left
          ·intro w'
           go_simp
           with_reducible rfl
          rotate_left
          ·simp only [Act.put, setIfInBounds_toArray, set_cons_zero, set_cons_succ, i64_w, i32_w]
           rfl
          refine pure_ (i := 30) (N := some 76) (v := ?_) (a' := ?_) (bm 53 2147483647) rfl rfl (any_of HT_.out (by kernel_rfl)) (fun _ _ _ h => h) (Or.inl ⟨by rfl, ?_⟩) ?_ ?_
          rotate_left
          ·intro w'
           go_simp
           with_reducible rfl
          rotate_left
          ·simp only [Act.put, setIfInBounds_toArray, set_cons_zero, set_cons_succ, i64_w, i32_w]
           rfl
          refine pure_ (i := 31) (N := some 77) (v := undef) (a' := ?_) (bm 53 4294967295) rfl rfl (any_of HT_.out (by kernel_rfl)) (fun _ _ _ h => h) (Or.inr ⟨by rfl, rfl⟩) ?_ ?_
          rotate_left
          ·simp only [Act.put, setIfInBounds_toArray, set_cons_zero, set_cons_succ, i64_w, i32_w]
           rfl
          refine pure_ (i := 32) (N := some 78) (v := undef) (a' := ?_) (bm 53 8589934591) rfl rfl (any_of HT_.out (by kernel_rfl)) (fun _ _ _ h => h) (Or.inr ⟨by rfl, rfl⟩) ?_ ?_
          rotate_left
          ·simp only [Act.put, setIfInBounds_toArray, set_cons_zero, set_cons_succ, i64_w, i32_w]
           rfl
          refine pure_ (i := 33) (N := some 79) (v := undef) (a' := ?_) (bm 53 17179869183) rfl rfl (any_of HT_.out (by kernel_rfl)) (fun _ _ _ h => h) (Or.inr ⟨by rfl, rfl⟩) ?_ ?_
          rotate_left
          ·simp only [Act.put, setIfInBounds_toArray, set_cons_zero, set_cons_succ, i64_w, i32_w]
           rfl
          refine pure_ (i := 34) (N := some 80) (v := ?_) (a' := ?_) (bm 53 34359738367) rfl rfl (any_of HT_.out (by kernel_rfl)) (fun _ _ _ h => h) (Or.inl ⟨by rfl, ?_⟩) ?_ ?_
          rotate_left
          ·intro w'
           go_simp
           with_reducible rfl
          rotate_left
          ·simp only [Act.put, setIfInBounds_toArray, set_cons_zero, set_cons_succ, i64_w, i32_w]
           rfl
          refine pure_ (i := 35) (N := some 81) (v := ?_) (a' := ?_) (bm 53 68719476735) rfl rfl (any_of HT_.out (by kernel_rfl)) (fun _ _ _ h => h) (Or.inl ⟨by rfl, ?_⟩) ?_ ?_
          rotate_left
          ·intro w'
           go_simp
           with_reducible rfl
          rotate_left
          ·simp only [Act.put, setIfInBounds_toArray, set_cons_zero, set_cons_succ, i64_w, i32_w]
           rfl
          refine pure_ (i := 36) (N := some 82) (v := ?_) (a' := ?_) (bm 53 137438953471) rfl rfl (any_of HT_.out (by kernel_rfl)) (fun _ _ _ h => h) (Or.inl ⟨by rfl, ?_⟩) ?_ ?_
          rotate_left
          ·intro w'
           go_simp
           with_reducible rfl
          rotate_left
          ·simp only [Act.put, setIfInBounds_toArray, set_cons_zero, set_cons_succ, i64_w, i32_w]
           rfl
          refine take_ (i := 37) (N := some 83) (v := ?_) (a' := ?_) (bm 53 274877906943) rfl rfl (take_ofW HT_.out HW_.out (by kernel_rfl)) (fun _ _ _ h => h) (Or.inl ⟨by rfl, ?_⟩) hHeld ?_ ?_
          rotate_left
          ·rintro w' ⟨s0, s1, s2, s3, s4, s5⟩
           go_simp
           with_reducible rfl
          rotate_left
          ·simp only [Act.put, setIfInBounds_toArray, set_cons_zero, set_cons_succ, i64_w, i32_w]
           rfl
          refine take_ (i := 38) (N := some 84) (v := ?_) (a' := ?_) (bm 53 549755813887) rfl rfl (take_ofW HT_.out HW_.out (by kernel_rfl)) (fun _ _ _ h => h) (Or.inl ⟨by rfl, ?_⟩) hHeld ?_ ?_
          rotate_left
          ·rintro w' ⟨s0, s1, s2, s3, s4, s5⟩
           go_simp
           with_reducible rfl
          rotate_left
          ·simp only [Act.put, setIfInBounds_toArray, set_cons_zero, set_cons_succ, i64_w, i32_w]
           rfl
          refine one_ (i := 39) (N := some 85) (bm 53 1099511627775) rfl rfl (one_of HT_.out (by kernel_rfl)) (by decide) (fun K hK => ?_)
          refine goes_ Try.func18 (by kernel_rfl) rfl #[.agg #[.int .i64 (wrap64 (tmod a0 3)), .int .i64 (((tdiv a0 3) % 256) % 3)], .agg #[.int .i64 (wrap64 (tmod a1 3)), .int .i64 (((tdiv a1 3) % 256) % 3)]] (by rfl) rfl rfl (by (try simp only [List.map_toArray, List.map_cons, List.map_nil]); first | done | rfl | (simp only [List.length_drop, List.length_take]; rfl)) ?_
          with_reducible refine (rule_Punch.calls kj5 (wrap64 (tmod a0 3)) (((tdiv a0 3) % 256) % 3) (wrap64 (tmod a1 3)) (((tdiv a1 3) % 256) % 3) false _ A104.out).mono ?_
          rintro e w111 ⟨rfl, hb⟩
          refine ⟨_, rfl, ?_⟩
          have n0_ := Aside0.mk (blk_below (g := g_e) (o := .cells #[.int .i64 (wrap64 (tmod a0 3)), .int .i64 (((tdiv a0 3) % 256) % 3)] 23 (0, 0)) (by (with_reducible repeat (first | refine blk_drewN ?_ _ | refine blk_drew ?_ | refine blk_alloc ?_ _)); exact B_a.out) hb)
          have n1_ := Aside0.mk (blk_below (g := g_f) (o := .cells #[.int .i64 (wrap64 (tmod a1 3)), .int .i64 (((tdiv a1 3) % 256) % 3)] 23 (0, 0)) (by (with_reducible repeat (first | refine blk_drewN ?_ _ | refine blk_drew ?_ | refine blk_alloc ?_ _)); exact B_b.out) hb)
          have n2_ := Aside0.mk (blk_below (g := g_g) (o := .cells #[.int .i64 (wrap64 (tmod a1 3)), .int .i64 ji5] 23 (0, 0)) (by (with_reducible repeat (first | refine blk_drewN ?_ _ | refine blk_drew ?_ | refine blk_alloc ?_ _)); exact B_d.out) hb)
          have n3_ := Aside0.mk (blk_below (g := g_h) (o := .cells #[.int .i64 2, .int .i64 2] 23 (0, 0)) (by (with_reducible repeat (first | refine blk_drewN ?_ _ | refine blk_drew ?_ | refine blk_alloc ?_ _)); exact B_c.out) hb)
          have n4_ := Aside0.mk (below_step (by repeat (first | (with_reducible first | exact HB.out | apply below_alloc | apply pw_below_drewN | apply below_drew1 | refine below_set ?_ G_i.out | refine below_set ?_ G_j.out | refine below_set ?_ G_k.out | refine below_set ?_ G_l.out) | exact HB.out)) hb)
          clear B_a
          clear B_b
          clear B_d
          clear B_c
          clear HB
          have B_a := n0_
          have B_b := n1_
          have B_d := n2_
          have B_c := n3_
          have HB := n4_
          clear n0_ n1_ n2_ n3_ n4_
          (try clear hb)
          (try clear hb2)
          (try clear hk)
          (try clear hi)
          refine hK.out _ _ ⟨(blk_cell B_a.out 0).trans rfl, (blk_cell B_a.out 1).trans rfl, (blk_cell B_b.out 0).trans rfl, (blk_cell B_b.out 1).trans rfl, (blk_cell B_c.out 0).trans rfl, (blk_cell B_c.out 1).trans rfl⟩ (fun hHeld => ?_)
          clear hK K
          refine norm_ (a' := ?_) ?_ ?_
          rotate_left
          ·show Act.put _ (some 85) _ = _
           simp only [Act.put, setIfInBounds_toArray, set_cons_zero, set_cons_succ, i64_w, i32_w]
           rfl
          refine pure_ (i := 40) (N := some 86) (v := ?_) (a' := ?_) (bm 53 2199023255551) rfl rfl (any_of HT_.out (by kernel_rfl)) (fun _ _ _ h => h) (Or.inl ⟨by rfl, ?_⟩) ?_ ?_
          rotate_left
          ·intro w'
           go_simp
           with_reducible rfl
          rotate_left
          ·simp only [Act.put, setIfInBounds_toArray, set_cons_zero, set_cons_succ, i64_w, i32_w]
           rfl
          refine pure_ (i := 41) (N := some 87) (v := ?_) (a' := ?_) (bm 53 4398046511103) rfl rfl (any_of HT_.out (by kernel_rfl)) (fun _ _ _ h => h) (Or.inl ⟨by rfl, ?_⟩) ?_ ?_
          rotate_left
          ·intro w'
           go_simp
           with_reducible rfl
          rotate_left
          ·simp only [Act.put, setIfInBounds_toArray, set_cons_zero, set_cons_succ, i64_w, i32_w]
           rfl
          refine pure_ (i := 42) (N := some 88) (v := undef) (a' := ?_) (bm 53 8796093022207) rfl rfl (any_of HT_.out (by kernel_rfl)) (fun _ _ _ h => h) (Or.inr ⟨by rfl, rfl⟩) ?_ ?_
          rotate_left
          ·simp only [Act.put, setIfInBounds_toArray, set_cons_zero, set_cons_succ, i64_w, i32_w]
           rfl
          refine pure_ (i := 43) (N := some 89) (v := undef) (a' := ?_) (bm 53 17592186044415) rfl rfl (any_of HT_.out (by kernel_rfl)) (fun _ _ _ h => h) (Or.inr ⟨by rfl, rfl⟩) ?_ ?_
          rotate_left
          ·simp only [Act.put, setIfInBounds_toArray, set_cons_zero, set_cons_succ, i64_w, i32_w]
           rfl
          refine pure_ (i := 44) (N := some 90) (v := undef) (a' := ?_) (bm 53 35184372088831) rfl rfl (any_of HT_.out (by kernel_rfl)) (fun _ _ _ h => h) (Or.inr ⟨by rfl, rfl⟩) ?_ ?_
          rotate_left
          ·simp only [Act.put, setIfInBounds_toArray, set_cons_zero, set_cons_succ, i64_w, i32_w]
           rfl
          refine pure_ (i := 45) (N := some 91) (v := ?_) (a' := ?_) (bm 53 70368744177663) rfl rfl (any_of HT_.out (by kernel_rfl)) (fun _ _ _ h => h) (Or.inl ⟨by rfl, ?_⟩) ?_ ?_
          rotate_left
          ·intro w'
           go_simp
           with_reducible rfl
          rotate_left
          ·simp only [Act.put, setIfInBounds_toArray, set_cons_zero, set_cons_succ, i64_w, i32_w]
           rfl
          refine pure_ (i := 46) (N := some 92) (v := ?_) (a' := ?_) (bm 53 140737488355327) rfl rfl (any_of HT_.out (by kernel_rfl)) (fun _ _ _ h => h) (Or.inl ⟨by rfl, ?_⟩) ?_ ?_
          rotate_left
          ·intro w'
           go_simp
           with_reducible rfl
          rotate_left
          ·simp only [Act.put, setIfInBounds_toArray, set_cons_zero, set_cons_succ, i64_w, i32_w]
           rfl
          refine pure_ (i := 47) (N := some 93) (v := undef) (a' := ?_) (bm 53 281474976710655) rfl rfl (any_of HT_.out (by kernel_rfl)) (fun _ _ _ h => h) (Or.inr ⟨by rfl, rfl⟩) ?_ ?_
          rotate_left
          ·simp only [Act.put, setIfInBounds_toArray, set_cons_zero, set_cons_succ, i64_w, i32_w]
           rfl
          refine pure_ (i := 48) (N := some 94) (v := undef) (a' := ?_) (bm 53 562949953421311) rfl rfl (any_of HT_.out (by kernel_rfl)) (fun _ _ _ h => h) (Or.inr ⟨by rfl, rfl⟩) ?_ ?_
          rotate_left
          ·simp only [Act.put, setIfInBounds_toArray, set_cons_zero, set_cons_succ, i64_w, i32_w]
           rfl
          refine pure_ (i := 49) (N := some 95) (v := undef) (a' := ?_) (bm 53 1125899906842623) rfl rfl (any_of HT_.out (by kernel_rfl)) (fun _ _ _ h => h) (Or.inr ⟨by rfl, rfl⟩) ?_ ?_
          rotate_left
          ·simp only [Act.put, setIfInBounds_toArray, set_cons_zero, set_cons_succ, i64_w, i32_w]
           rfl
          refine pure_ (i := 50) (N := some 96) (v := ?_) (a' := ?_) (bm 53 2251799813685247) rfl rfl (any_of HT_.out (by kernel_rfl)) (fun _ _ _ h => h) (Or.inl ⟨by rfl, ?_⟩) ?_ ?_
          rotate_left
          ·intro w'
           go_simp
           with_reducible rfl
          rotate_left
          ·simp only [Act.put, setIfInBounds_toArray, set_cons_zero, set_cons_succ, i64_w, i32_w]
           rfl
          refine pure_ (i := 51) (N := some 97) (v := ?_) (a' := ?_) (bm 53 4503599627370495) rfl rfl (any_of HT_.out (by kernel_rfl)) (fun _ _ _ h => h) (Or.inl ⟨by rfl, ?_⟩) ?_ ?_
          rotate_left
          ·intro w'
           go_simp
           with_reducible rfl
          rotate_left
          ·simp only [Act.put, setIfInBounds_toArray, set_cons_zero, set_cons_succ, i64_w, i32_w]
           rfl
          refine pure_ (i := 52) (N := some 4) (v := ?_) (a' := ?_) (bm 53 9007199254740991) rfl rfl (any_of HT_.out (by kernel_rfl)) (fun _ _ _ h => h) (Or.inl ⟨by rfl, ?_⟩) ?_ ?_
          rotate_left
          ·intro w'
           go_simp
           with_reducible rfl
          rotate_left
          ·simp only [Act.put, setIfInBounds_toArray, set_cons_zero, set_cons_succ, i64_w, i32_w]
           rfl
          refine done_ (done_of HT_.out (by kernel_rfl)) ?_
          try go_wp2
          go_ret
          exact ⟨by first | rfl | (simp [errW_none, errW_some] <;> rfl) | (simp only [← hji5]; first | rfl | (simp [errW_none, errW_some] <;> rfl)) | (simp [*, errW_none, errW_some] <;> rfl), by repeat (first | (with_reducible first | exact HB.out | apply below_alloc | apply pw_below_drewN | apply below_drew1 | refine below_set ?_ G_i.out | refine below_set ?_ G_j.out | refine below_set ?_ G_k.out | refine below_set ?_ G_l.out) | exact HB.out)⟩
 ·replace c4 := Bool.eq_false_iff.mpr c4
  (first | subst c4 | clear c4)
  have H1 : (none) = some r := by rw [if_neg (show ¬ (false = true) by decide)] at H; exact H
  clear H
  have H := H1
  clear H1
  exact absurd H (by simp)

/-- THE ONE PURE STATEMENT of law07_RulePunch: yours. -/
def law07_RulePunch.Pure : Prop := ∀ (a0 : Int) (a1 : Int), (Lit.int .u8 a0).wf = true → (Lit.int .u8 a1).wf = true → ∃ k, law07_RulePunch.f k a0 a1 = some true
theorem law07_RulePunch.walk (P : law07_RulePunch.Pure) (a0 : Int) (a1 : Int) (w : World) (w0 : (Lit.int .u8 a0).wf = true) (w1 : (Lit.int .u8 a1).wf = true) :
  Calls Try.prog 4 #[.int .u8 a0, .int .u8 a1] w fun e w' => e = .returned (.bool true) ∧ Below w.heap.size w w' := by
 obtain ⟨k, h⟩ := P a0 a1 w0 w1
 refine (law07_RulePunch.calls k a0 a1 true w h).mono ?_
 rintro e w' ⟨rfl, hd⟩
 exact ⟨rfl, hd⟩

end Go.Proofs.Ytlembbkbmnmnhaa.PA
