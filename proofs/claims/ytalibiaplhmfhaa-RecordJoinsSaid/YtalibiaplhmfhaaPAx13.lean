/- Written by xprint.py, a program of this session: Go functions that the laws reach, each as a plain Lean function, and the proof that the Go code comes to what it says. No condition but those that each theorem names. -/
import Derived.Test.YtalibiaplhmfhaaPAx0
import Derived.Test.YtalibiaplhmfhaaPAx2
import Derived.Test.YtalibiaplhmfhaaPAx7
import Derived.Test.YtalibiaplhmfhaaPAx11
import Derived.Test.YtalibiaplhmfhaaPAx12
import Derived.WalkSpells
import Derived.WalkLawsBesides
import Derived.Test.YtalibiaplhmfhaaXAux
namespace Go.Proofs.Ytalibiaplhmfhaa.PA
open Go.RowKit Go.Proofs.YtalibiaplhmfhaaW.PrintWords Go.Proofs.YtalibiaplhmfhaaW.PrintLast Go.Proofs.YtalibiaplhmfhaaW.PrintMore
open Go.Proofs.YtalibiaplhmfhaaX (ne_nil eq_nil)
open Go.Proofs.YtalibiaplhmfhaaW.PrintLast renaming i64_w → zW, i32_w → zw
open Go.Proofs.YtalibiaplhmfhaaX (bm)
open Go.Proofs.YtalibiaplhmfhaaW.PrintWords renaming blk_cell → bc, blk_drewN → bN, blk_drew → bw, blk_alloc → bA, below_set → bs, blk_below → bb, pw_below_drewN → pN, below_alloc → bl, below_drew1 → b1, blk_far → bf, blk_put → bp, blk_frozen → bz
open Int (tmod tdiv)
open List renaming setIfInBounds_toArray → siA, set_cons_zero → scz, set_cons_succ → scs
attribute [local go_sem] max2_int min2_int max_two min_two max_three min_three max_four min_four   -- for this text's walks alone
set_option linter.unusedVariables false
set_option linter.unusedSimpArgs false

attribute [local go_sem high] eqA27
/-! ### law04_RecordJoins: function 5 -/
def law04_RecordJoins.f (k : Nat) (a0_0 : Int) (a0_1 : Int) (a0_2 : Int) (a0_3 : Int) (a0_4 : Int) (a0_5 : Bool) (a1_0 : Int) (a1_1 : Int) (a1_2 : Int) (a1_3 : Int) (a1_4 : Int) (a1_5 : Bool) (a2_0 : Int) (a2_1 : Int) (a2_2 : Int) (a2_3 : Int) (a2_4 : Int) (a2_5 : Bool) : Option (Bool) := (law04_examples.f k).bind fun t211 => (if t211 = true then ((law04_Thing_thing.f a0_0 a0_1 a0_2 a0_3 a0_4 a0_5).bind fun b_g => ((law04_Thing_thing.f a1_0 a1_1 a1_2 a1_3 a1_4 a1_5).bind fun b_j => ((law04_Thing_thing.f a2_0 a2_1 a2_2 a2_3 a2_4 a2_5).bind fun b_h => ((record_Join.f k 3 b_g.2.1 b_g.2.2.1 b_g.2.2.2.1 b_g.2.2.2.2 3 b_j.2.1 b_j.2.2.1 b_j.2.2.2.1 b_j.2.2.2.2).bind fun b_m => ((record_Join.f k b_m.1 b_m.2.1 b_m.2.2.1 b_m.2.2.2.1 b_m.2.2.2.2 3 b_h.2.1 b_h.2.2.1 b_h.2.2.2.1 b_h.2.2.2.2).bind fun b_a => ((record_Join.f k 3 b_j.2.1 b_j.2.2.1 b_j.2.2.2.1 b_j.2.2.2.2 3 b_g.2.1 b_g.2.2.1 b_g.2.2.2.1 b_g.2.2.2.2).bind fun b_x => (if (b_m.1 == b_x.1 && (b_m.2.1 == b_x.2.1 && (b_m.2.2.1 == b_x.2.2.1 && ((b_m.2.2.2.1 == b_x.2.2.2.1 && (b_m.2.2.2.2 == b_x.2.2.2.2)))))) = true then ((record_Join.f k 3 b_j.2.1 b_j.2.2.1 b_j.2.2.2.1 b_j.2.2.2.2 3 b_h.2.1 b_h.2.2.1 b_h.2.2.2.1 b_h.2.2.2.2).bind fun b_w => ((record_Join.f k 3 b_g.2.1 b_g.2.2.1 b_g.2.2.2.1 b_g.2.2.2.2 b_w.1 b_w.2.1 b_w.2.2.1 b_w.2.2.2.1 b_w.2.2.2.2).bind fun b_s => (if (b_a.1 == b_s.1 && (b_a.2.1 == b_s.2.1 && (b_a.2.2.1 == b_s.2.2.1 && ((b_a.2.2.2.1 == b_s.2.2.2.1 && (b_a.2.2.2.2 == b_s.2.2.2.2)))))) = true then ((record_Join.f k b_a.1 b_a.2.1 b_a.2.2.1 b_a.2.2.2.1 b_a.2.2.2.2 3 b_g.2.1 b_g.2.2.1 b_g.2.2.2.1 b_g.2.2.2.2).bind fun b_p => (if (b_p.1 == b_a.1 && (b_p.2.1 == b_a.2.1 && (b_p.2.2.1 == b_a.2.2.1 && ((b_p.2.2.2.1 == b_a.2.2.2.1 && (b_p.2.2.2.2 == b_a.2.2.2.2)))))) = true then ((record_Join.f k 3 b_g.2.1 b_g.2.2.1 b_g.2.2.2.1 b_g.2.2.2.2 3 b_g.2.1 b_g.2.2.1 b_g.2.2.2.1 b_g.2.2.2.2).bind fun b_l => (if (b_l.1 == 3 && (b_l.2.1 == b_g.2.1 && (b_l.2.2.1 == b_g.2.2.1 && ((b_l.2.2.2.1 == b_g.2.2.2.1 && (b_l.2.2.2.2 == b_g.2.2.2.2)))))) = true then (if (b_a.1 == 3 && (b_a.2.1 == b_g.2.1 && (b_a.2.2.1 == b_g.2.2.1 && ((b_a.2.2.2.1 == b_g.2.2.2.1 && (b_a.2.2.2.2 == b_g.2.2.2.2)))))) = true then ((record_Order.f k b_a.1 b_a.2.1 b_a.2.2.1 b_a.2.2.2.1 b_a.2.2.2.2 3 b_g.2.1 b_g.2.2.1 b_g.2.2.2.1 b_g.2.2.2.2).bind fun t267 => (if t267 ≥ 0 then ((record_Order.f k b_a.1 b_a.2.1 b_a.2.2.1 b_a.2.2.2.1 b_a.2.2.2.2 3 b_h.2.1 b_h.2.2.1 b_h.2.2.2.1 b_h.2.2.2.2).bind fun t268 => (some (decide (t268 ≥ 0)))) else (none))) else (if (b_a.1 == 3 && (b_a.2.1 == b_j.2.1 && (b_a.2.2.1 == b_j.2.2.1 && ((b_a.2.2.2.1 == b_j.2.2.2.1 && (b_a.2.2.2.2 == b_j.2.2.2.2)))))) = true then ((record_Order.f k b_a.1 b_a.2.1 b_a.2.2.1 b_a.2.2.2.1 b_a.2.2.2.2 3 b_g.2.1 b_g.2.2.1 b_g.2.2.2.1 b_g.2.2.2.2).bind fun t269 => (if t269 ≥ 0 then ((record_Order.f k b_a.1 b_a.2.1 b_a.2.2.1 b_a.2.2.2.1 b_a.2.2.2.2 3 b_h.2.1 b_h.2.2.1 b_h.2.2.2.1 b_h.2.2.2.2).bind fun t270 => (some (decide (t270 ≥ 0)))) else (none))) else (if (b_a.1 == 3 && (b_a.2.1 == b_h.2.1 && (b_a.2.2.1 == b_h.2.2.1 && ((b_a.2.2.2.1 == b_h.2.2.2.1 && (b_a.2.2.2.2 == b_h.2.2.2.2)))))) = true then ((record_Order.f k b_a.1 b_a.2.1 b_a.2.2.1 b_a.2.2.2.1 b_a.2.2.2.2 3 b_g.2.1 b_g.2.2.1 b_g.2.2.2.1 b_g.2.2.2.2).bind fun t271 => (if t271 ≥ 0 then ((record_Order.f k b_a.1 b_a.2.1 b_a.2.2.1 b_a.2.2.2.1 b_a.2.2.2.2 3 b_h.2.1 b_h.2.2.1 b_h.2.2.2.1 b_h.2.2.2.2).bind fun t272 => (some (decide (t272 ≥ 0)))) else (none))) else (none)))) else (none))) else (none))) else (none)))) else (none)))))))) else (none))
theorem law04_RecordJoins.mono : ∀ a0 a1 a2 a3 a4 a5 a6 a7 a8 a9 a10 a11 a12 a13 a14 a15 a16 a17 k, LeO (law04_RecordJoins.f k a0 a1 a2 a3 a4 a5 a6 a7 a8 a9 a10 a11 a12 a13 a14 a15 a16 a17) (law04_RecordJoins.f (k + 1) a0 a1 a2 a3 a4 a5 a6 a7 a8 a9 a10 a11 a12 a13 a14 a15 a16 a17) := by
 intro a0 a1 a2 a3 a4 a5 a6 a7 a8 a9 a10 a11 a12 a13 a14 a15 a16 a17 k
 unfold law04_RecordJoins.f
 repeat' first
   | (with_reducible exact record_Join.mono _ _ _ _ _ _ _ _ _ _ _)
   | (with_reducible exact record_Order.mono _ _ _ _ _ _ _ _ _ _ _)
   | (with_reducible exact law04_examples.mono _)
   | (with_reducible exact LeO.refl _)
   | (with_reducible exact LeO.none _)
   | (with_reducible refine LeO.ite ?_ ?_)
   | (with_reducible refine LeO.bind ?_ (fun _ => ?_))
   | exact record_Join.mono _ _ _ _ _ _ _ _ _ _ _
   | exact record_Order.mono _ _ _ _ _ _ _ _ _ _ _
   | exact law04_examples.mono _
   | exact LeO.none _
   | refine LeO.ite ?_ ?_
   | refine LeO.bind ?_ (fun _ => ?_)
def law04_RecordJoins.T12 : Bool × List (List Nat × List Nat) := (true, [([], []), ([0], [0]), ([1], [1]), ([1], [1]), ([1], [1]), ([3, 4, 1, 1], [1, 3, 4]), ([2, 5, 1], [1, 2, 5]), ([1, 6], [1, 6]), ([7, 5], [7]), ([8], [8]), ([8], [8]), ([8], [8]), ([8], [8]), ([11, 12, 8, 8], [8, 11, 12]), ([10, 13, 13, 8], [8, 10, 13]), ([9, 14, 8], [8, 9, 14]), ([8, 15], [8, 15]), ([16, 14], [16]), ([17], [17]), ([17], [17]), ([18, 19, 17, 17], [17, 18, 19]), ([17], [17]), ([20, 21, 17], [17, 20, 21]), ([17, 22], [17, 22]), ([23, 20], [23]), ([24], [24]), ([24], [24]), ([25, 26, 24, 24], [24, 25, 26]), ([24], [24]), ([27, 28, 24], [24, 27, 28]), ([24, 29], [24, 29]), ([30, 27], [30]), ([31], [31]), ([31], [31]), ([32, 33, 31], [31, 32, 33]), ([34, 31, 31], [31, 34]), ([35], [35]), ([35], [35]), ([36, 37, 35], [35, 36, 37]), ([35, 38, 31], [31, 35, 38]), ([39, 35, 31], [31, 39]), ([40], [40]), ([40], [40]), ([41, 42, 40], [40, 41, 42]), ([40, 43, 31], [31, 40, 43]), ([31, 44], [31, 44]), ([45, 40], [45]), ([46], [46]), ([46], [46]), ([47, 48, 46, 46], [46, 47, 48]), ([49, 46], [46, 49]), ([46, 50], [46, 50]), ([51, 49], [51]), ([52], [52]), ([52], [52]), ([53, 54, 52, 52], [52, 53, 54]), ([55, 52], [52, 55]), ([52, 56], [52, 56]), ([57, 55, 0, 1, 2, 3, 4, 5, 6, 7, 8, 9, 10, 11, 12, 13, 14, 15, 16, 17, 18, 19, 20, 21, 22, 23, 24, 25, 26, 27, 28, 29, 30, 31, 32, 33, 34, 35, 36, 37, 38, 39, 40, 41, 42, 43, 44, 45, 46, 47, 48, 49, 50, 51, 52, 53, 54, 55, 56, 57], [57])])
def law04_RecordJoins.B12 : List Nat := [0, 1, 3, 3, 3, 27, 63, 127, 255, 511, 511, 511, 511, 6655, 15871, 32767, 65535, 131071, 262143, 262143, 1048575, 262143, 4194303, 8388607, 16777215, 33554431, 33554431, 134217727, 33554431, 536870911, 1073741823, 2147483647, 4294967295, 4294967295, 17179869183, 34359738367, 68719476735, 68719476735, 274877906943, 549755813887, 1099511627775, 2199023255551, 2199023255551, 8796093022207, 17592186044415, 35184372088831, 70368744177663, 140737488355327, 140737488355327, 562949953421311, 1125899906842623, 2251799813685247, 4503599627370495, 9007199254740991, 9007199254740991, 36028797018963967, 72057594037927935, 144115188075855871, 288230376151711743]
theorem law04_RecordJoins.tab12 : rtab .any (opsOf Try.f5 12) = law04_RecordJoins.T12 := by kernel_rfl
theorem law04_RecordJoins.bits12 : waitsOk law04_RecordJoins.T12.2 law04_RecordJoins.B12 = true := by kernel_rfl
set_option maxHeartbeats 8000000 in
set_option maxRecDepth 100000 in
theorem law04_RecordJoins.calls (k : Nat) (a0_0 : Int) (a0_1 : Int) (a0_2 : Int) (a0_3 : Int) (a0_4 : Int) (a0_5 : Bool) (a1_0 : Int) (a1_1 : Int) (a1_2 : Int) (a1_3 : Int) (a1_4 : Int) (a1_5 : Bool) (a2_0 : Int) (a2_1 : Int) (a2_2 : Int) (a2_3 : Int) (a2_4 : Int) (a2_5 : Bool) (r : Bool) (w : World) (h : law04_RecordJoins.f k a0_0 a0_1 a0_2 a0_3 a0_4 a0_5 a1_0 a1_1 a1_2 a1_3 a1_4 a1_5 a2_0 a2_1 a2_2 a2_3 a2_4 a2_5 = some r) :
  Calls Try.prog 5 #[.agg #[.int .i64 a0_0, .int .i64 a0_1, .int .u32 a0_2, .int .u32 a0_3, .int .u16 a0_4, .bool a0_5], .agg #[.int .i64 a1_0, .int .i64 a1_1, .int .u32 a1_2, .int .u32 a1_3, .int .u16 a1_4, .bool a1_5], .agg #[.int .i64 a2_0, .int .i64 a2_1, .int .u32 a2_2, .int .u32 a2_3, .int .u16 a2_4, .bool a2_5]] w fun e w' => e = .returned (.bool r) ∧ Below w.heap.size w w' := by
 have hu29 := Try.underlying29
 have hu27 := Try.underlying27
 have HB := Aside0.mk (Below.refl w.heap.size w)
 have H : ((law04_examples.f k).bind fun t211 => (if t211 = true then ((law04_Thing_thing.f a0_0 a0_1 a0_2 a0_3 a0_4 a0_5).bind fun b_g => ((law04_Thing_thing.f a1_0 a1_1 a1_2 a1_3 a1_4 a1_5).bind fun b_j => ((law04_Thing_thing.f a2_0 a2_1 a2_2 a2_3 a2_4 a2_5).bind fun b_h => ((record_Join.f k 3 b_g.2.1 b_g.2.2.1 b_g.2.2.2.1 b_g.2.2.2.2 3 b_j.2.1 b_j.2.2.1 b_j.2.2.2.1 b_j.2.2.2.2).bind fun b_m => ((record_Join.f k b_m.1 b_m.2.1 b_m.2.2.1 b_m.2.2.2.1 b_m.2.2.2.2 3 b_h.2.1 b_h.2.2.1 b_h.2.2.2.1 b_h.2.2.2.2).bind fun b_a => ((record_Join.f k 3 b_j.2.1 b_j.2.2.1 b_j.2.2.2.1 b_j.2.2.2.2 3 b_g.2.1 b_g.2.2.1 b_g.2.2.2.1 b_g.2.2.2.2).bind fun b_x => (if (b_m.1 == b_x.1 && (b_m.2.1 == b_x.2.1 && (b_m.2.2.1 == b_x.2.2.1 && ((b_m.2.2.2.1 == b_x.2.2.2.1 && (b_m.2.2.2.2 == b_x.2.2.2.2)))))) = true then ((record_Join.f k 3 b_j.2.1 b_j.2.2.1 b_j.2.2.2.1 b_j.2.2.2.2 3 b_h.2.1 b_h.2.2.1 b_h.2.2.2.1 b_h.2.2.2.2).bind fun b_w => ((record_Join.f k 3 b_g.2.1 b_g.2.2.1 b_g.2.2.2.1 b_g.2.2.2.2 b_w.1 b_w.2.1 b_w.2.2.1 b_w.2.2.2.1 b_w.2.2.2.2).bind fun b_s => (if (b_a.1 == b_s.1 && (b_a.2.1 == b_s.2.1 && (b_a.2.2.1 == b_s.2.2.1 && ((b_a.2.2.2.1 == b_s.2.2.2.1 && (b_a.2.2.2.2 == b_s.2.2.2.2)))))) = true then ((record_Join.f k b_a.1 b_a.2.1 b_a.2.2.1 b_a.2.2.2.1 b_a.2.2.2.2 3 b_g.2.1 b_g.2.2.1 b_g.2.2.2.1 b_g.2.2.2.2).bind fun b_p => (if (b_p.1 == b_a.1 && (b_p.2.1 == b_a.2.1 && (b_p.2.2.1 == b_a.2.2.1 && ((b_p.2.2.2.1 == b_a.2.2.2.1 && (b_p.2.2.2.2 == b_a.2.2.2.2)))))) = true then ((record_Join.f k 3 b_g.2.1 b_g.2.2.1 b_g.2.2.2.1 b_g.2.2.2.2 3 b_g.2.1 b_g.2.2.1 b_g.2.2.2.1 b_g.2.2.2.2).bind fun b_l => (if (b_l.1 == 3 && (b_l.2.1 == b_g.2.1 && (b_l.2.2.1 == b_g.2.2.1 && ((b_l.2.2.2.1 == b_g.2.2.2.1 && (b_l.2.2.2.2 == b_g.2.2.2.2)))))) = true then (if (b_a.1 == 3 && (b_a.2.1 == b_g.2.1 && (b_a.2.2.1 == b_g.2.2.1 && ((b_a.2.2.2.1 == b_g.2.2.2.1 && (b_a.2.2.2.2 == b_g.2.2.2.2)))))) = true then ((record_Order.f k b_a.1 b_a.2.1 b_a.2.2.1 b_a.2.2.2.1 b_a.2.2.2.2 3 b_g.2.1 b_g.2.2.1 b_g.2.2.2.1 b_g.2.2.2.2).bind fun t267 => (if t267 ≥ 0 then ((record_Order.f k b_a.1 b_a.2.1 b_a.2.2.1 b_a.2.2.2.1 b_a.2.2.2.2 3 b_h.2.1 b_h.2.2.1 b_h.2.2.2.1 b_h.2.2.2.2).bind fun t268 => (some (decide (t268 ≥ 0)))) else (none))) else (if (b_a.1 == 3 && (b_a.2.1 == b_j.2.1 && (b_a.2.2.1 == b_j.2.2.1 && ((b_a.2.2.2.1 == b_j.2.2.2.1 && (b_a.2.2.2.2 == b_j.2.2.2.2)))))) = true then ((record_Order.f k b_a.1 b_a.2.1 b_a.2.2.1 b_a.2.2.2.1 b_a.2.2.2.2 3 b_g.2.1 b_g.2.2.1 b_g.2.2.2.1 b_g.2.2.2.2).bind fun t269 => (if t269 ≥ 0 then ((record_Order.f k b_a.1 b_a.2.1 b_a.2.2.1 b_a.2.2.2.1 b_a.2.2.2.2 3 b_h.2.1 b_h.2.2.1 b_h.2.2.2.1 b_h.2.2.2.2).bind fun t270 => (some (decide (t270 ≥ 0)))) else (none))) else (if (b_a.1 == 3 && (b_a.2.1 == b_h.2.1 && (b_a.2.2.1 == b_h.2.2.1 && ((b_a.2.2.2.1 == b_h.2.2.2.1 && (b_a.2.2.2.2 == b_h.2.2.2.2)))))) = true then ((record_Order.f k b_a.1 b_a.2.1 b_a.2.2.1 b_a.2.2.2.1 b_a.2.2.2.2 3 b_g.2.1 b_g.2.2.1 b_g.2.2.2.1 b_g.2.2.2.2).bind fun t271 => (if t271 ≥ 0 then ((record_Order.f k b_a.1 b_a.2.1 b_a.2.2.1 b_a.2.2.2.1 b_a.2.2.2.2 3 b_h.2.1 b_h.2.2.1 b_h.2.2.2.1 b_h.2.2.2.2).bind fun t272 => (some (decide (t272 ≥ 0)))) else (none))) else (none)))) else (none))) else (none))) else (none)))) else (none)))))))) else (none))) = some r := h
 clear h
 replace H := Option.bind_eq_some_iff.mp H
 obtain ⟨t211, A40, H⟩ := H
 replace H : (if t211 = true then ((law04_Thing_thing.f a0_0 a0_1 a0_2 a0_3 a0_4 a0_5).bind fun b_g => ((law04_Thing_thing.f a1_0 a1_1 a1_2 a1_3 a1_4 a1_5).bind fun b_j => ((law04_Thing_thing.f a2_0 a2_1 a2_2 a2_3 a2_4 a2_5).bind fun b_h => ((record_Join.f k 3 b_g.2.1 b_g.2.2.1 b_g.2.2.2.1 b_g.2.2.2.2 3 b_j.2.1 b_j.2.2.1 b_j.2.2.2.1 b_j.2.2.2.2).bind fun b_m => ((record_Join.f k b_m.1 b_m.2.1 b_m.2.2.1 b_m.2.2.2.1 b_m.2.2.2.2 3 b_h.2.1 b_h.2.2.1 b_h.2.2.2.1 b_h.2.2.2.2).bind fun b_a => ((record_Join.f k 3 b_j.2.1 b_j.2.2.1 b_j.2.2.2.1 b_j.2.2.2.2 3 b_g.2.1 b_g.2.2.1 b_g.2.2.2.1 b_g.2.2.2.2).bind fun b_x => (if (b_m.1 == b_x.1 && (b_m.2.1 == b_x.2.1 && (b_m.2.2.1 == b_x.2.2.1 && ((b_m.2.2.2.1 == b_x.2.2.2.1 && (b_m.2.2.2.2 == b_x.2.2.2.2)))))) = true then ((record_Join.f k 3 b_j.2.1 b_j.2.2.1 b_j.2.2.2.1 b_j.2.2.2.2 3 b_h.2.1 b_h.2.2.1 b_h.2.2.2.1 b_h.2.2.2.2).bind fun b_w => ((record_Join.f k 3 b_g.2.1 b_g.2.2.1 b_g.2.2.2.1 b_g.2.2.2.2 b_w.1 b_w.2.1 b_w.2.2.1 b_w.2.2.2.1 b_w.2.2.2.2).bind fun b_s => (if (b_a.1 == b_s.1 && (b_a.2.1 == b_s.2.1 && (b_a.2.2.1 == b_s.2.2.1 && ((b_a.2.2.2.1 == b_s.2.2.2.1 && (b_a.2.2.2.2 == b_s.2.2.2.2)))))) = true then ((record_Join.f k b_a.1 b_a.2.1 b_a.2.2.1 b_a.2.2.2.1 b_a.2.2.2.2 3 b_g.2.1 b_g.2.2.1 b_g.2.2.2.1 b_g.2.2.2.2).bind fun b_p => (if (b_p.1 == b_a.1 && (b_p.2.1 == b_a.2.1 && (b_p.2.2.1 == b_a.2.2.1 && ((b_p.2.2.2.1 == b_a.2.2.2.1 && (b_p.2.2.2.2 == b_a.2.2.2.2)))))) = true then ((record_Join.f k 3 b_g.2.1 b_g.2.2.1 b_g.2.2.2.1 b_g.2.2.2.2 3 b_g.2.1 b_g.2.2.1 b_g.2.2.2.1 b_g.2.2.2.2).bind fun b_l => (if (b_l.1 == 3 && (b_l.2.1 == b_g.2.1 && (b_l.2.2.1 == b_g.2.2.1 && ((b_l.2.2.2.1 == b_g.2.2.2.1 && (b_l.2.2.2.2 == b_g.2.2.2.2)))))) = true then (if (b_a.1 == 3 && (b_a.2.1 == b_g.2.1 && (b_a.2.2.1 == b_g.2.2.1 && ((b_a.2.2.2.1 == b_g.2.2.2.1 && (b_a.2.2.2.2 == b_g.2.2.2.2)))))) = true then ((record_Order.f k b_a.1 b_a.2.1 b_a.2.2.1 b_a.2.2.2.1 b_a.2.2.2.2 3 b_g.2.1 b_g.2.2.1 b_g.2.2.2.1 b_g.2.2.2.2).bind fun t267 => (if t267 ≥ 0 then ((record_Order.f k b_a.1 b_a.2.1 b_a.2.2.1 b_a.2.2.2.1 b_a.2.2.2.2 3 b_h.2.1 b_h.2.2.1 b_h.2.2.2.1 b_h.2.2.2.2).bind fun t268 => (some (decide (t268 ≥ 0)))) else (none))) else (if (b_a.1 == 3 && (b_a.2.1 == b_j.2.1 && (b_a.2.2.1 == b_j.2.2.1 && ((b_a.2.2.2.1 == b_j.2.2.2.1 && (b_a.2.2.2.2 == b_j.2.2.2.2)))))) = true then ((record_Order.f k b_a.1 b_a.2.1 b_a.2.2.1 b_a.2.2.2.1 b_a.2.2.2.2 3 b_g.2.1 b_g.2.2.1 b_g.2.2.2.1 b_g.2.2.2.2).bind fun t269 => (if t269 ≥ 0 then ((record_Order.f k b_a.1 b_a.2.1 b_a.2.2.1 b_a.2.2.2.1 b_a.2.2.2.2 3 b_h.2.1 b_h.2.2.1 b_h.2.2.2.1 b_h.2.2.2.2).bind fun t270 => (some (decide (t270 ≥ 0)))) else (none))) else (if (b_a.1 == 3 && (b_a.2.1 == b_h.2.1 && (b_a.2.2.1 == b_h.2.2.1 && ((b_a.2.2.2.1 == b_h.2.2.2.1 && (b_a.2.2.2.2 == b_h.2.2.2.2)))))) = true then ((record_Order.f k b_a.1 b_a.2.1 b_a.2.2.1 b_a.2.2.2.1 b_a.2.2.2.2 3 b_g.2.1 b_g.2.2.1 b_g.2.2.2.1 b_g.2.2.2.2).bind fun t271 => (if t271 ≥ 0 then ((record_Order.f k b_a.1 b_a.2.1 b_a.2.2.1 b_a.2.2.2.1 b_a.2.2.2.2 3 b_h.2.1 b_h.2.2.1 b_h.2.2.2.1 b_h.2.2.2.2).bind fun t272 => (some (decide (t272 ≥ 0)))) else (none))) else (none)))) else (none))) else (none))) else (none)))) else (none)))))))) else (none)) = some r := H
 have A4 := Aside0.mk A40
 clear A40
 by_cases c5 : t211 = true
 ·(first | subst c5 | clear c5)
  have H1 : ((law04_Thing_thing.f a0_0 a0_1 a0_2 a0_3 a0_4 a0_5).bind fun b_g => ((law04_Thing_thing.f a1_0 a1_1 a1_2 a1_3 a1_4 a1_5).bind fun b_j => ((law04_Thing_thing.f a2_0 a2_1 a2_2 a2_3 a2_4 a2_5).bind fun b_h => ((record_Join.f k 3 b_g.2.1 b_g.2.2.1 b_g.2.2.2.1 b_g.2.2.2.2 3 b_j.2.1 b_j.2.2.1 b_j.2.2.2.1 b_j.2.2.2.2).bind fun b_m => ((record_Join.f k b_m.1 b_m.2.1 b_m.2.2.1 b_m.2.2.2.1 b_m.2.2.2.2 3 b_h.2.1 b_h.2.2.1 b_h.2.2.2.1 b_h.2.2.2.2).bind fun b_a => ((record_Join.f k 3 b_j.2.1 b_j.2.2.1 b_j.2.2.2.1 b_j.2.2.2.2 3 b_g.2.1 b_g.2.2.1 b_g.2.2.2.1 b_g.2.2.2.2).bind fun b_x => (if (b_m.1 == b_x.1 && (b_m.2.1 == b_x.2.1 && (b_m.2.2.1 == b_x.2.2.1 && ((b_m.2.2.2.1 == b_x.2.2.2.1 && (b_m.2.2.2.2 == b_x.2.2.2.2)))))) = true then ((record_Join.f k 3 b_j.2.1 b_j.2.2.1 b_j.2.2.2.1 b_j.2.2.2.2 3 b_h.2.1 b_h.2.2.1 b_h.2.2.2.1 b_h.2.2.2.2).bind fun b_w => ((record_Join.f k 3 b_g.2.1 b_g.2.2.1 b_g.2.2.2.1 b_g.2.2.2.2 b_w.1 b_w.2.1 b_w.2.2.1 b_w.2.2.2.1 b_w.2.2.2.2).bind fun b_s => (if (b_a.1 == b_s.1 && (b_a.2.1 == b_s.2.1 && (b_a.2.2.1 == b_s.2.2.1 && ((b_a.2.2.2.1 == b_s.2.2.2.1 && (b_a.2.2.2.2 == b_s.2.2.2.2)))))) = true then ((record_Join.f k b_a.1 b_a.2.1 b_a.2.2.1 b_a.2.2.2.1 b_a.2.2.2.2 3 b_g.2.1 b_g.2.2.1 b_g.2.2.2.1 b_g.2.2.2.2).bind fun b_p => (if (b_p.1 == b_a.1 && (b_p.2.1 == b_a.2.1 && (b_p.2.2.1 == b_a.2.2.1 && ((b_p.2.2.2.1 == b_a.2.2.2.1 && (b_p.2.2.2.2 == b_a.2.2.2.2)))))) = true then ((record_Join.f k 3 b_g.2.1 b_g.2.2.1 b_g.2.2.2.1 b_g.2.2.2.2 3 b_g.2.1 b_g.2.2.1 b_g.2.2.2.1 b_g.2.2.2.2).bind fun b_l => (if (b_l.1 == 3 && (b_l.2.1 == b_g.2.1 && (b_l.2.2.1 == b_g.2.2.1 && ((b_l.2.2.2.1 == b_g.2.2.2.1 && (b_l.2.2.2.2 == b_g.2.2.2.2)))))) = true then (if (b_a.1 == 3 && (b_a.2.1 == b_g.2.1 && (b_a.2.2.1 == b_g.2.2.1 && ((b_a.2.2.2.1 == b_g.2.2.2.1 && (b_a.2.2.2.2 == b_g.2.2.2.2)))))) = true then ((record_Order.f k b_a.1 b_a.2.1 b_a.2.2.1 b_a.2.2.2.1 b_a.2.2.2.2 3 b_g.2.1 b_g.2.2.1 b_g.2.2.2.1 b_g.2.2.2.2).bind fun t267 => (if t267 ≥ 0 then ((record_Order.f k b_a.1 b_a.2.1 b_a.2.2.1 b_a.2.2.2.1 b_a.2.2.2.2 3 b_h.2.1 b_h.2.2.1 b_h.2.2.2.1 b_h.2.2.2.2).bind fun t268 => (some (decide (t268 ≥ 0)))) else (none))) else (if (b_a.1 == 3 && (b_a.2.1 == b_j.2.1 && (b_a.2.2.1 == b_j.2.2.1 && ((b_a.2.2.2.1 == b_j.2.2.2.1 && (b_a.2.2.2.2 == b_j.2.2.2.2)))))) = true then ((record_Order.f k b_a.1 b_a.2.1 b_a.2.2.1 b_a.2.2.2.1 b_a.2.2.2.2 3 b_g.2.1 b_g.2.2.1 b_g.2.2.2.1 b_g.2.2.2.2).bind fun t269 => (if t269 ≥ 0 then ((record_Order.f k b_a.1 b_a.2.1 b_a.2.2.1 b_a.2.2.2.1 b_a.2.2.2.2 3 b_h.2.1 b_h.2.2.1 b_h.2.2.2.1 b_h.2.2.2.2).bind fun t270 => (some (decide (t270 ≥ 0)))) else (none))) else (if (b_a.1 == 3 && (b_a.2.1 == b_h.2.1 && (b_a.2.2.1 == b_h.2.2.1 && ((b_a.2.2.2.1 == b_h.2.2.2.1 && (b_a.2.2.2.2 == b_h.2.2.2.2)))))) = true then ((record_Order.f k b_a.1 b_a.2.1 b_a.2.2.1 b_a.2.2.2.1 b_a.2.2.2.2 3 b_g.2.1 b_g.2.2.1 b_g.2.2.2.1 b_g.2.2.2.2).bind fun t271 => (if t271 ≥ 0 then ((record_Order.f k b_a.1 b_a.2.1 b_a.2.2.1 b_a.2.2.2.1 b_a.2.2.2.2 3 b_h.2.1 b_h.2.2.1 b_h.2.2.2.1 b_h.2.2.2.2).bind fun t272 => (some (decide (t272 ≥ 0)))) else (none))) else (none)))) else (none))) else (none))) else (none)))) else (none)))))))) = some r := by first | (rw [if_pos rfl] at H; exact H) | (rw [if_pos trivial] at H; exact H)
  clear H
  have H := H1
  clear H1
  replace H := Option.bind_eq_some_iff.mp H
  obtain ⟨⟨t212, t213, t214, t215, t216⟩, A60, H⟩ := H
  replace H : ((law04_Thing_thing.f a1_0 a1_1 a1_2 a1_3 a1_4 a1_5).bind fun b_j => ((law04_Thing_thing.f a2_0 a2_1 a2_2 a2_3 a2_4 a2_5).bind fun b_h => ((record_Join.f k 3 t213 t214 t215 t216 3 b_j.2.1 b_j.2.2.1 b_j.2.2.2.1 b_j.2.2.2.2).bind fun b_m => ((record_Join.f k b_m.1 b_m.2.1 b_m.2.2.1 b_m.2.2.2.1 b_m.2.2.2.2 3 b_h.2.1 b_h.2.2.1 b_h.2.2.2.1 b_h.2.2.2.2).bind fun b_a => ((record_Join.f k 3 b_j.2.1 b_j.2.2.1 b_j.2.2.2.1 b_j.2.2.2.2 3 t213 t214 t215 t216).bind fun b_x => (if (b_m.1 == b_x.1 && (b_m.2.1 == b_x.2.1 && (b_m.2.2.1 == b_x.2.2.1 && ((b_m.2.2.2.1 == b_x.2.2.2.1 && (b_m.2.2.2.2 == b_x.2.2.2.2)))))) = true then ((record_Join.f k 3 b_j.2.1 b_j.2.2.1 b_j.2.2.2.1 b_j.2.2.2.2 3 b_h.2.1 b_h.2.2.1 b_h.2.2.2.1 b_h.2.2.2.2).bind fun b_w => ((record_Join.f k 3 t213 t214 t215 t216 b_w.1 b_w.2.1 b_w.2.2.1 b_w.2.2.2.1 b_w.2.2.2.2).bind fun b_s => (if (b_a.1 == b_s.1 && (b_a.2.1 == b_s.2.1 && (b_a.2.2.1 == b_s.2.2.1 && ((b_a.2.2.2.1 == b_s.2.2.2.1 && (b_a.2.2.2.2 == b_s.2.2.2.2)))))) = true then ((record_Join.f k b_a.1 b_a.2.1 b_a.2.2.1 b_a.2.2.2.1 b_a.2.2.2.2 3 t213 t214 t215 t216).bind fun b_p => (if (b_p.1 == b_a.1 && (b_p.2.1 == b_a.2.1 && (b_p.2.2.1 == b_a.2.2.1 && ((b_p.2.2.2.1 == b_a.2.2.2.1 && (b_p.2.2.2.2 == b_a.2.2.2.2)))))) = true then ((record_Join.f k 3 t213 t214 t215 t216 3 t213 t214 t215 t216).bind fun b_l => (if (b_l.1 == 3 && (b_l.2.1 == t213 && (b_l.2.2.1 == t214 && ((b_l.2.2.2.1 == t215 && (b_l.2.2.2.2 == t216)))))) = true then (if (b_a.1 == 3 && (b_a.2.1 == t213 && (b_a.2.2.1 == t214 && ((b_a.2.2.2.1 == t215 && (b_a.2.2.2.2 == t216)))))) = true then ((record_Order.f k b_a.1 b_a.2.1 b_a.2.2.1 b_a.2.2.2.1 b_a.2.2.2.2 3 t213 t214 t215 t216).bind fun t267 => (if t267 ≥ 0 then ((record_Order.f k b_a.1 b_a.2.1 b_a.2.2.1 b_a.2.2.2.1 b_a.2.2.2.2 3 b_h.2.1 b_h.2.2.1 b_h.2.2.2.1 b_h.2.2.2.2).bind fun t268 => (some (decide (t268 ≥ 0)))) else (none))) else (if (b_a.1 == 3 && (b_a.2.1 == b_j.2.1 && (b_a.2.2.1 == b_j.2.2.1 && ((b_a.2.2.2.1 == b_j.2.2.2.1 && (b_a.2.2.2.2 == b_j.2.2.2.2)))))) = true then ((record_Order.f k b_a.1 b_a.2.1 b_a.2.2.1 b_a.2.2.2.1 b_a.2.2.2.2 3 t213 t214 t215 t216).bind fun t269 => (if t269 ≥ 0 then ((record_Order.f k b_a.1 b_a.2.1 b_a.2.2.1 b_a.2.2.2.1 b_a.2.2.2.2 3 b_h.2.1 b_h.2.2.1 b_h.2.2.2.1 b_h.2.2.2.2).bind fun t270 => (some (decide (t270 ≥ 0)))) else (none))) else (if (b_a.1 == 3 && (b_a.2.1 == b_h.2.1 && (b_a.2.2.1 == b_h.2.2.1 && ((b_a.2.2.2.1 == b_h.2.2.2.1 && (b_a.2.2.2.2 == b_h.2.2.2.2)))))) = true then ((record_Order.f k b_a.1 b_a.2.1 b_a.2.2.1 b_a.2.2.2.1 b_a.2.2.2.2 3 t213 t214 t215 t216).bind fun t271 => (if t271 ≥ 0 then ((record_Order.f k b_a.1 b_a.2.1 b_a.2.2.1 b_a.2.2.2.1 b_a.2.2.2.2 3 b_h.2.1 b_h.2.2.1 b_h.2.2.2.1 b_h.2.2.2.2).bind fun t272 => (some (decide (t272 ≥ 0)))) else (none))) else (none)))) else (none))) else (none))) else (none)))) else (none))))))) = some r := H
  have A6 := Aside0.mk A60
  clear A60
  replace H := Option.bind_eq_some_iff.mp H
  obtain ⟨⟨t218, t219, t220, t221, t222⟩, A70, H⟩ := H
  replace H : ((law04_Thing_thing.f a2_0 a2_1 a2_2 a2_3 a2_4 a2_5).bind fun b_h => ((record_Join.f k 3 t213 t214 t215 t216 3 t219 t220 t221 t222).bind fun b_m => ((record_Join.f k b_m.1 b_m.2.1 b_m.2.2.1 b_m.2.2.2.1 b_m.2.2.2.2 3 b_h.2.1 b_h.2.2.1 b_h.2.2.2.1 b_h.2.2.2.2).bind fun b_a => ((record_Join.f k 3 t219 t220 t221 t222 3 t213 t214 t215 t216).bind fun b_x => (if (b_m.1 == b_x.1 && (b_m.2.1 == b_x.2.1 && (b_m.2.2.1 == b_x.2.2.1 && ((b_m.2.2.2.1 == b_x.2.2.2.1 && (b_m.2.2.2.2 == b_x.2.2.2.2)))))) = true then ((record_Join.f k 3 t219 t220 t221 t222 3 b_h.2.1 b_h.2.2.1 b_h.2.2.2.1 b_h.2.2.2.2).bind fun b_w => ((record_Join.f k 3 t213 t214 t215 t216 b_w.1 b_w.2.1 b_w.2.2.1 b_w.2.2.2.1 b_w.2.2.2.2).bind fun b_s => (if (b_a.1 == b_s.1 && (b_a.2.1 == b_s.2.1 && (b_a.2.2.1 == b_s.2.2.1 && ((b_a.2.2.2.1 == b_s.2.2.2.1 && (b_a.2.2.2.2 == b_s.2.2.2.2)))))) = true then ((record_Join.f k b_a.1 b_a.2.1 b_a.2.2.1 b_a.2.2.2.1 b_a.2.2.2.2 3 t213 t214 t215 t216).bind fun b_p => (if (b_p.1 == b_a.1 && (b_p.2.1 == b_a.2.1 && (b_p.2.2.1 == b_a.2.2.1 && ((b_p.2.2.2.1 == b_a.2.2.2.1 && (b_p.2.2.2.2 == b_a.2.2.2.2)))))) = true then ((record_Join.f k 3 t213 t214 t215 t216 3 t213 t214 t215 t216).bind fun b_l => (if (b_l.1 == 3 && (b_l.2.1 == t213 && (b_l.2.2.1 == t214 && ((b_l.2.2.2.1 == t215 && (b_l.2.2.2.2 == t216)))))) = true then (if (b_a.1 == 3 && (b_a.2.1 == t213 && (b_a.2.2.1 == t214 && ((b_a.2.2.2.1 == t215 && (b_a.2.2.2.2 == t216)))))) = true then ((record_Order.f k b_a.1 b_a.2.1 b_a.2.2.1 b_a.2.2.2.1 b_a.2.2.2.2 3 t213 t214 t215 t216).bind fun t267 => (if t267 ≥ 0 then ((record_Order.f k b_a.1 b_a.2.1 b_a.2.2.1 b_a.2.2.2.1 b_a.2.2.2.2 3 b_h.2.1 b_h.2.2.1 b_h.2.2.2.1 b_h.2.2.2.2).bind fun t268 => (some (decide (t268 ≥ 0)))) else (none))) else (if (b_a.1 == 3 && (b_a.2.1 == t219 && (b_a.2.2.1 == t220 && ((b_a.2.2.2.1 == t221 && (b_a.2.2.2.2 == t222)))))) = true then ((record_Order.f k b_a.1 b_a.2.1 b_a.2.2.1 b_a.2.2.2.1 b_a.2.2.2.2 3 t213 t214 t215 t216).bind fun t269 => (if t269 ≥ 0 then ((record_Order.f k b_a.1 b_a.2.1 b_a.2.2.1 b_a.2.2.2.1 b_a.2.2.2.2 3 b_h.2.1 b_h.2.2.1 b_h.2.2.2.1 b_h.2.2.2.2).bind fun t270 => (some (decide (t270 ≥ 0)))) else (none))) else (if (b_a.1 == 3 && (b_a.2.1 == b_h.2.1 && (b_a.2.2.1 == b_h.2.2.1 && ((b_a.2.2.2.1 == b_h.2.2.2.1 && (b_a.2.2.2.2 == b_h.2.2.2.2)))))) = true then ((record_Order.f k b_a.1 b_a.2.1 b_a.2.2.1 b_a.2.2.2.1 b_a.2.2.2.2 3 t213 t214 t215 t216).bind fun t271 => (if t271 ≥ 0 then ((record_Order.f k b_a.1 b_a.2.1 b_a.2.2.1 b_a.2.2.2.1 b_a.2.2.2.2 3 b_h.2.1 b_h.2.2.1 b_h.2.2.2.1 b_h.2.2.2.2).bind fun t272 => (some (decide (t272 ≥ 0)))) else (none))) else (none)))) else (none))) else (none))) else (none)))) else (none)))))) = some r := H
  have A7 := Aside0.mk A70
  clear A70
  replace H := Option.bind_eq_some_iff.mp H
  obtain ⟨⟨t224, t225, t226, t227, t228⟩, A80, H⟩ := H
  replace H : ((record_Join.f k 3 t213 t214 t215 t216 3 t219 t220 t221 t222).bind fun b_m => ((record_Join.f k b_m.1 b_m.2.1 b_m.2.2.1 b_m.2.2.2.1 b_m.2.2.2.2 3 t225 t226 t227 t228).bind fun b_a => ((record_Join.f k 3 t219 t220 t221 t222 3 t213 t214 t215 t216).bind fun b_x => (if (b_m.1 == b_x.1 && (b_m.2.1 == b_x.2.1 && (b_m.2.2.1 == b_x.2.2.1 && ((b_m.2.2.2.1 == b_x.2.2.2.1 && (b_m.2.2.2.2 == b_x.2.2.2.2)))))) = true then ((record_Join.f k 3 t219 t220 t221 t222 3 t225 t226 t227 t228).bind fun b_w => ((record_Join.f k 3 t213 t214 t215 t216 b_w.1 b_w.2.1 b_w.2.2.1 b_w.2.2.2.1 b_w.2.2.2.2).bind fun b_s => (if (b_a.1 == b_s.1 && (b_a.2.1 == b_s.2.1 && (b_a.2.2.1 == b_s.2.2.1 && ((b_a.2.2.2.1 == b_s.2.2.2.1 && (b_a.2.2.2.2 == b_s.2.2.2.2)))))) = true then ((record_Join.f k b_a.1 b_a.2.1 b_a.2.2.1 b_a.2.2.2.1 b_a.2.2.2.2 3 t213 t214 t215 t216).bind fun b_p => (if (b_p.1 == b_a.1 && (b_p.2.1 == b_a.2.1 && (b_p.2.2.1 == b_a.2.2.1 && ((b_p.2.2.2.1 == b_a.2.2.2.1 && (b_p.2.2.2.2 == b_a.2.2.2.2)))))) = true then ((record_Join.f k 3 t213 t214 t215 t216 3 t213 t214 t215 t216).bind fun b_l => (if (b_l.1 == 3 && (b_l.2.1 == t213 && (b_l.2.2.1 == t214 && ((b_l.2.2.2.1 == t215 && (b_l.2.2.2.2 == t216)))))) = true then (if (b_a.1 == 3 && (b_a.2.1 == t213 && (b_a.2.2.1 == t214 && ((b_a.2.2.2.1 == t215 && (b_a.2.2.2.2 == t216)))))) = true then ((record_Order.f k b_a.1 b_a.2.1 b_a.2.2.1 b_a.2.2.2.1 b_a.2.2.2.2 3 t213 t214 t215 t216).bind fun t267 => (if t267 ≥ 0 then ((record_Order.f k b_a.1 b_a.2.1 b_a.2.2.1 b_a.2.2.2.1 b_a.2.2.2.2 3 t225 t226 t227 t228).bind fun t268 => (some (decide (t268 ≥ 0)))) else (none))) else (if (b_a.1 == 3 && (b_a.2.1 == t219 && (b_a.2.2.1 == t220 && ((b_a.2.2.2.1 == t221 && (b_a.2.2.2.2 == t222)))))) = true then ((record_Order.f k b_a.1 b_a.2.1 b_a.2.2.1 b_a.2.2.2.1 b_a.2.2.2.2 3 t213 t214 t215 t216).bind fun t269 => (if t269 ≥ 0 then ((record_Order.f k b_a.1 b_a.2.1 b_a.2.2.1 b_a.2.2.2.1 b_a.2.2.2.2 3 t225 t226 t227 t228).bind fun t270 => (some (decide (t270 ≥ 0)))) else (none))) else (if (b_a.1 == 3 && (b_a.2.1 == t225 && (b_a.2.2.1 == t226 && ((b_a.2.2.2.1 == t227 && (b_a.2.2.2.2 == t228)))))) = true then ((record_Order.f k b_a.1 b_a.2.1 b_a.2.2.1 b_a.2.2.2.1 b_a.2.2.2.2 3 t213 t214 t215 t216).bind fun t271 => (if t271 ≥ 0 then ((record_Order.f k b_a.1 b_a.2.1 b_a.2.2.1 b_a.2.2.2.1 b_a.2.2.2.2 3 t225 t226 t227 t228).bind fun t272 => (some (decide (t272 ≥ 0)))) else (none))) else (none)))) else (none))) else (none))) else (none)))) else (none))))) = some r := H
  have A8 := Aside0.mk A80
  clear A80
  replace H := Option.bind_eq_some_iff.mp H
  obtain ⟨⟨t230, t231, t232, t233, t234⟩, A90, H⟩ := H
  replace H : ((record_Join.f k t230 t231 t232 t233 t234 3 t225 t226 t227 t228).bind fun b_a => ((record_Join.f k 3 t219 t220 t221 t222 3 t213 t214 t215 t216).bind fun b_x => (if (t230 == b_x.1 && (t231 == b_x.2.1 && (t232 == b_x.2.2.1 && ((t233 == b_x.2.2.2.1 && (t234 == b_x.2.2.2.2)))))) = true then ((record_Join.f k 3 t219 t220 t221 t222 3 t225 t226 t227 t228).bind fun b_w => ((record_Join.f k 3 t213 t214 t215 t216 b_w.1 b_w.2.1 b_w.2.2.1 b_w.2.2.2.1 b_w.2.2.2.2).bind fun b_s => (if (b_a.1 == b_s.1 && (b_a.2.1 == b_s.2.1 && (b_a.2.2.1 == b_s.2.2.1 && ((b_a.2.2.2.1 == b_s.2.2.2.1 && (b_a.2.2.2.2 == b_s.2.2.2.2)))))) = true then ((record_Join.f k b_a.1 b_a.2.1 b_a.2.2.1 b_a.2.2.2.1 b_a.2.2.2.2 3 t213 t214 t215 t216).bind fun b_p => (if (b_p.1 == b_a.1 && (b_p.2.1 == b_a.2.1 && (b_p.2.2.1 == b_a.2.2.1 && ((b_p.2.2.2.1 == b_a.2.2.2.1 && (b_p.2.2.2.2 == b_a.2.2.2.2)))))) = true then ((record_Join.f k 3 t213 t214 t215 t216 3 t213 t214 t215 t216).bind fun b_l => (if (b_l.1 == 3 && (b_l.2.1 == t213 && (b_l.2.2.1 == t214 && ((b_l.2.2.2.1 == t215 && (b_l.2.2.2.2 == t216)))))) = true then (if (b_a.1 == 3 && (b_a.2.1 == t213 && (b_a.2.2.1 == t214 && ((b_a.2.2.2.1 == t215 && (b_a.2.2.2.2 == t216)))))) = true then ((record_Order.f k b_a.1 b_a.2.1 b_a.2.2.1 b_a.2.2.2.1 b_a.2.2.2.2 3 t213 t214 t215 t216).bind fun t267 => (if t267 ≥ 0 then ((record_Order.f k b_a.1 b_a.2.1 b_a.2.2.1 b_a.2.2.2.1 b_a.2.2.2.2 3 t225 t226 t227 t228).bind fun t268 => (some (decide (t268 ≥ 0)))) else (none))) else (if (b_a.1 == 3 && (b_a.2.1 == t219 && (b_a.2.2.1 == t220 && ((b_a.2.2.2.1 == t221 && (b_a.2.2.2.2 == t222)))))) = true then ((record_Order.f k b_a.1 b_a.2.1 b_a.2.2.1 b_a.2.2.2.1 b_a.2.2.2.2 3 t213 t214 t215 t216).bind fun t269 => (if t269 ≥ 0 then ((record_Order.f k b_a.1 b_a.2.1 b_a.2.2.1 b_a.2.2.2.1 b_a.2.2.2.2 3 t225 t226 t227 t228).bind fun t270 => (some (decide (t270 ≥ 0)))) else (none))) else (if (b_a.1 == 3 && (b_a.2.1 == t225 && (b_a.2.2.1 == t226 && ((b_a.2.2.2.1 == t227 && (b_a.2.2.2.2 == t228)))))) = true then ((record_Order.f k b_a.1 b_a.2.1 b_a.2.2.1 b_a.2.2.2.1 b_a.2.2.2.2 3 t213 t214 t215 t216).bind fun t271 => (if t271 ≥ 0 then ((record_Order.f k b_a.1 b_a.2.1 b_a.2.2.1 b_a.2.2.2.1 b_a.2.2.2.2 3 t225 t226 t227 t228).bind fun t272 => (some (decide (t272 ≥ 0)))) else (none))) else (none)))) else (none))) else (none))) else (none)))) else (none)))) = some r := H
  have A9 := Aside0.mk A90
  clear A90
  replace H := Option.bind_eq_some_iff.mp H
  obtain ⟨⟨t236, t237, t238, t239, t240⟩, A100, H⟩ := H
  replace H : ((record_Join.f k 3 t219 t220 t221 t222 3 t213 t214 t215 t216).bind fun b_x => (if (t230 == b_x.1 && (t231 == b_x.2.1 && (t232 == b_x.2.2.1 && ((t233 == b_x.2.2.2.1 && (t234 == b_x.2.2.2.2)))))) = true then ((record_Join.f k 3 t219 t220 t221 t222 3 t225 t226 t227 t228).bind fun b_w => ((record_Join.f k 3 t213 t214 t215 t216 b_w.1 b_w.2.1 b_w.2.2.1 b_w.2.2.2.1 b_w.2.2.2.2).bind fun b_s => (if (t236 == b_s.1 && (t237 == b_s.2.1 && (t238 == b_s.2.2.1 && ((t239 == b_s.2.2.2.1 && (t240 == b_s.2.2.2.2)))))) = true then ((record_Join.f k t236 t237 t238 t239 t240 3 t213 t214 t215 t216).bind fun b_p => (if (b_p.1 == t236 && (b_p.2.1 == t237 && (b_p.2.2.1 == t238 && ((b_p.2.2.2.1 == t239 && (b_p.2.2.2.2 == t240)))))) = true then ((record_Join.f k 3 t213 t214 t215 t216 3 t213 t214 t215 t216).bind fun b_l => (if (b_l.1 == 3 && (b_l.2.1 == t213 && (b_l.2.2.1 == t214 && ((b_l.2.2.2.1 == t215 && (b_l.2.2.2.2 == t216)))))) = true then (if (t236 == 3 && (t237 == t213 && (t238 == t214 && ((t239 == t215 && (t240 == t216)))))) = true then ((record_Order.f k t236 t237 t238 t239 t240 3 t213 t214 t215 t216).bind fun t267 => (if t267 ≥ 0 then ((record_Order.f k t236 t237 t238 t239 t240 3 t225 t226 t227 t228).bind fun t268 => (some (decide (t268 ≥ 0)))) else (none))) else (if (t236 == 3 && (t237 == t219 && (t238 == t220 && ((t239 == t221 && (t240 == t222)))))) = true then ((record_Order.f k t236 t237 t238 t239 t240 3 t213 t214 t215 t216).bind fun t269 => (if t269 ≥ 0 then ((record_Order.f k t236 t237 t238 t239 t240 3 t225 t226 t227 t228).bind fun t270 => (some (decide (t270 ≥ 0)))) else (none))) else (if (t236 == 3 && (t237 == t225 && (t238 == t226 && ((t239 == t227 && (t240 == t228)))))) = true then ((record_Order.f k t236 t237 t238 t239 t240 3 t213 t214 t215 t216).bind fun t271 => (if t271 ≥ 0 then ((record_Order.f k t236 t237 t238 t239 t240 3 t225 t226 t227 t228).bind fun t272 => (some (decide (t272 ≥ 0)))) else (none))) else (none)))) else (none))) else (none))) else (none)))) else (none))) = some r := H
  have A10 := Aside0.mk A100
  clear A100
  go_enter Try.func5, Try.ntmps5
  try go_wp2_with (first | ((with_reducible refine gate_dst (N := 3) rfl ?_); refine box_event ?hg (N := 3) ?hd (cs := #[.int .i64 a0_0, .int .i64 a0_1, .int .u32 a0_2, .int .u32 a0_3, .int .u16 a0_4, .bool a0_5]) (t := 29) ?hr ?_; (case hd => rfl); (case hg => rfl); (case hr => first | (go_simp; done) | (go_simp; rfl)); intro g_z hg w24 hbox hb; have n0_ := Aside0.mk (below_step (by repeat (first | (with_reducible first | exact HB.out | apply bl | apply pN | apply b1) | exact HB.out)) hb); have n1_ := Aside0.mk (hbox); have n2_ := Aside0.mk ((by rw [hg]; exact (below_size (by repeat (first | (with_reducible first | exact HB.out | apply bl | apply pN | apply b1) | exact HB.out))) : w.heap.size ≤ g_z)); have n3_ := Aside0.mk ((by rw [hg]; exact (below_size (by repeat (first | (with_reducible first | exact HB.out | apply bl | apply pN | apply b1) | exact HB.out))) : w.heap.size ≤ g_z)); clear HB; have HB := n0_; have B_o := n1_; have GW208 := n2_; have G_y := n3_; clear n0_ n1_ n2_ n3_; clear hb hbox hg) | ((with_reducible refine gate_dst (N := 4) rfl ?_); refine box_event ?hg (N := 4) ?hd (cs := #[.int .i64 a1_0, .int .i64 a1_1, .int .u32 a1_2, .int .u32 a1_3, .int .u16 a1_4, .bool a1_5]) (t := 29) ?hr ?_; (case hd => rfl); (case hg => rfl); (case hr => first | (go_simp; done) | (go_simp; rfl)); intro g_1 hg w25 hbox hb; have n0_ := Aside0.mk (bb (g := g_z) (o := .cells #[.int .i64 a0_0, .int .i64 a0_1, .int .u32 a0_2, .int .u32 a0_3, .int .u16 a0_4, .bool a0_5] 29 (0, 0)) (by (with_reducible repeat (first | refine bN ?_ _ | refine bw ?_ | refine bA ?_ _)); exact B_o.out) hb); have n1_ := Aside0.mk (below_step (by repeat (first | (with_reducible first | exact HB.out | apply bl | apply pN | apply b1 | refine bs ?_ G_y.out) | exact HB.out)) hb); have n2_ := Aside0.mk (hbox); have n3_ := Aside0.mk ((by rw [hg]; exact (below_size (by repeat (first | (with_reducible first | exact HB.out | apply bl | apply pN | apply b1 | refine bs ?_ G_y.out) | exact HB.out))) : w.heap.size ≤ g_1)); have n4_ := Aside0.mk ((by rw [hg]; exact (below_size (by repeat (first | (with_reducible first | exact HB.out | apply bl | apply pN | apply b1 | refine bs ?_ G_y.out) | exact HB.out))) : w.heap.size ≤ g_1)); have n5_ := Aside0.mk ((by rw [hg]; exact Nat.ne_of_lt (blk_lt (g := g_z) (o := .cells #[.int .i64 a0_0, .int .i64 a0_1, .int .u32 a0_2, .int .u32 a0_3, .int .u16 a0_4, .bool a0_5] 29 (0, 0)) (by (with_reducible repeat (first | refine bN ?_ _ | refine bw ?_ | refine bA ?_ _)); exact B_o.out)) : g_z ≠ g_1)); have n6_ := Aside0.mk ((by rw [hg]; exact Nat.ne_of_gt (blk_lt (g := g_z) (o := .cells #[.int .i64 a0_0, .int .i64 a0_1, .int .u32 a0_2, .int .u32 a0_3, .int .u16 a0_4, .bool a0_5] 29 (0, 0)) (by (with_reducible repeat (first | refine bN ?_ _ | refine bw ?_ | refine bA ?_ _)); exact B_o.out)) : g_1 ≠ g_z)); clear B_o; clear HB; have B_o := n0_; have HB := n1_; have B_r := n2_; have GW209 := n3_; have G_0 := n4_; have NB208_209 := n5_; have NB209_208 := n6_; clear n0_ n1_ n2_ n3_ n4_ n5_ n6_; clear hb hbox hg) | ((with_reducible refine gate_dst (N := 5) rfl ?_); refine box_event ?hg (N := 5) ?hd (cs := #[.int .i64 a2_0, .int .i64 a2_1, .int .u32 a2_2, .int .u32 a2_3, .int .u16 a2_4, .bool a2_5]) (t := 29) ?hr ?_; (case hd => rfl); (case hg => rfl); (case hr => first | (go_simp; done) | (go_simp; rfl)); intro g_3 hg w26 hbox hb; have n0_ := Aside0.mk (bb (g := g_z) (o := .cells #[.int .i64 a0_0, .int .i64 a0_1, .int .u32 a0_2, .int .u32 a0_3, .int .u16 a0_4, .bool a0_5] 29 (0, 0)) (by (with_reducible repeat (first | refine bN ?_ _ | refine bw ?_ | refine bA ?_ _)); exact B_o.out) hb); have n1_ := Aside0.mk (bb (g := g_1) (o := .cells #[.int .i64 a1_0, .int .i64 a1_1, .int .u32 a1_2, .int .u32 a1_3, .int .u16 a1_4, .bool a1_5] 29 (0, 0)) (by (with_reducible repeat (first | refine bN ?_ _ | refine bw ?_ | refine bA ?_ _)); exact B_r.out) hb); have n2_ := Aside0.mk (below_step (by repeat (first | (with_reducible first | exact HB.out | apply bl | apply pN | apply b1 | refine bs ?_ G_y.out | refine bs ?_ G_0.out) | exact HB.out)) hb); have n3_ := Aside0.mk (hbox); have n4_ := Aside0.mk ((by rw [hg]; exact (below_size (by repeat (first | (with_reducible first | exact HB.out | apply bl | apply pN | apply b1 | refine bs ?_ G_y.out | refine bs ?_ G_0.out) | exact HB.out))) : w.heap.size ≤ g_3)); have n5_ := Aside0.mk ((by rw [hg]; exact (below_size (by repeat (first | (with_reducible first | exact HB.out | apply bl | apply pN | apply b1 | refine bs ?_ G_y.out | refine bs ?_ G_0.out) | exact HB.out))) : w.heap.size ≤ g_3)); have n6_ := Aside0.mk ((by rw [hg]; exact Nat.ne_of_lt (blk_lt (g := g_z) (o := .cells #[.int .i64 a0_0, .int .i64 a0_1, .int .u32 a0_2, .int .u32 a0_3, .int .u16 a0_4, .bool a0_5] 29 (0, 0)) (by (with_reducible repeat (first | refine bN ?_ _ | refine bw ?_ | refine bA ?_ _)); exact B_o.out)) : g_z ≠ g_3)); have n7_ := Aside0.mk ((by rw [hg]; exact Nat.ne_of_gt (blk_lt (g := g_z) (o := .cells #[.int .i64 a0_0, .int .i64 a0_1, .int .u32 a0_2, .int .u32 a0_3, .int .u16 a0_4, .bool a0_5] 29 (0, 0)) (by (with_reducible repeat (first | refine bN ?_ _ | refine bw ?_ | refine bA ?_ _)); exact B_o.out)) : g_3 ≠ g_z)); have n8_ := Aside0.mk ((by rw [hg]; exact Nat.ne_of_lt (blk_lt (g := g_1) (o := .cells #[.int .i64 a1_0, .int .i64 a1_1, .int .u32 a1_2, .int .u32 a1_3, .int .u16 a1_4, .bool a1_5] 29 (0, 0)) (by (with_reducible repeat (first | refine bN ?_ _ | refine bw ?_ | refine bA ?_ _)); exact B_r.out)) : g_1 ≠ g_3)); have n9_ := Aside0.mk ((by rw [hg]; exact Nat.ne_of_gt (blk_lt (g := g_1) (o := .cells #[.int .i64 a1_0, .int .i64 a1_1, .int .u32 a1_2, .int .u32 a1_3, .int .u16 a1_4, .bool a1_5] 29 (0, 0)) (by (with_reducible repeat (first | refine bN ?_ _ | refine bw ?_ | refine bA ?_ _)); exact B_r.out)) : g_3 ≠ g_1)); clear B_o; clear B_r; clear HB; have B_o := n0_; have B_r := n1_; have HB := n2_; have B_t := n3_; have GW210 := n4_; have G_2 := n5_; have NB208_210 := n6_; have NB210_208 := n7_; have NB209_210 := n8_; have NB210_209 := n9_; clear n0_ n1_ n2_ n3_ n4_ n5_ n6_ n7_ n8_ n9_; clear hb hbox hg) | ((with_reducible refine gate_callee (f := 9) rfl ?_); refine goesL_ (some 13) rfl rfl Try.func9 (by kernel_rfl) rfl #[] rfl (by (try simp only [List.map_toArray, List.map_cons, List.map_nil]); first | done | rfl | (simp only [List.length_drop, List.length_take]; rfl)) ?_; (with_reducible refine (law04_examples.calls k  true _ A4.out).mono ?_); rintro e w27 ⟨rfl, hb⟩; refine ⟨_, rfl, ?_⟩; have n0_ := Aside0.mk (bb (g := g_z) (o := .cells #[.int .i64 a0_0, .int .i64 a0_1, .int .u32 a0_2, .int .u32 a0_3, .int .u16 a0_4, .bool a0_5] 29 (0, 0)) (by (with_reducible repeat (first | refine bN ?_ _ | refine bw ?_ | refine bA ?_ _)); exact B_o.out) hb); have n1_ := Aside0.mk (bb (g := g_1) (o := .cells #[.int .i64 a1_0, .int .i64 a1_1, .int .u32 a1_2, .int .u32 a1_3, .int .u16 a1_4, .bool a1_5] 29 (0, 0)) (by (with_reducible repeat (first | refine bN ?_ _ | refine bw ?_ | refine bA ?_ _)); exact B_r.out) hb); have n2_ := Aside0.mk (bb (g := g_3) (o := .cells #[.int .i64 a2_0, .int .i64 a2_1, .int .u32 a2_2, .int .u32 a2_3, .int .u16 a2_4, .bool a2_5] 29 (0, 0)) (by (with_reducible repeat (first | refine bN ?_ _ | refine bw ?_ | refine bA ?_ _)); exact B_t.out) hb); have n3_ := Aside0.mk (below_step (by repeat (first | (with_reducible first | exact HB.out | apply bl | apply pN | apply b1 | refine bs ?_ G_y.out | refine bs ?_ G_0.out | refine bs ?_ G_2.out) | exact HB.out)) hb); clear B_o; clear B_r; clear B_t; clear HB; have B_o := n0_; have B_r := n1_; have B_t := n2_; have HB := n3_; clear n0_ n1_ n2_ n3_; (try clear hb); (try clear hb2); (try clear hk); (try clear hi); have hnb28 := NB208_209.out; have hnc28 := NB209_208.out; have hnb29 := NB208_210.out; have hnc29 := NB210_208.out; have hcz30_0 : w27.cell? ⟨g_z, 0, none⟩ = some (.int .i64 a0_0) := (bc B_o.out 0).trans rfl; have hcz30_1 : w27.cell? ⟨g_z, 1, none⟩ = some (.int .i64 a0_1) := (bc B_o.out 1).trans rfl; have hcz30_2 : w27.cell? ⟨g_z, 2, none⟩ = some (.int .u32 a0_2) := (bc B_o.out 2).trans rfl; have hcz30_3 : w27.cell? ⟨g_z, 3, none⟩ = some (.int .u32 a0_3) := (bc B_o.out 3).trans rfl; have hcz30_4 : w27.cell? ⟨g_z, 4, none⟩ = some (.int .u16 a0_4) := (bc B_o.out 4).trans rfl; have hcz30_5 : w27.cell? ⟨g_z, 5, none⟩ = some (.bool a0_5) := (bc B_o.out 5).trans rfl; have hfz30_0 := bz B_o.out 0; have hfz30_1 := bz B_o.out 1; have hfz30_2 := bz B_o.out 2; have hfz30_3 := bz B_o.out 3; have hfz30_4 := bz B_o.out 4; have hfz30_5 := bz B_o.out 5) | ((with_reducible refine gate_callee (f := 10) rfl ?_); refine goesL_ (some 17) rfl rfl Try.func10 (by kernel_rfl) rfl #[.agg #[.int .i64 a0_0, .int .i64 a0_1, .int .u32 a0_2, .int .u32 a0_3, .int .u16 a0_4, .bool a0_5]] rfl (by (try simp only [List.map_toArray, List.map_cons, List.map_nil]); first | done | rfl | (simp only [List.length_drop, List.length_take]; rfl)) ?_; (with_reducible refine (law04_Thing_thing.calls a0_0 a0_1 a0_2 a0_3 a0_4 a0_5 t212 t213 t214 t215 t216 _ A6.out).mono ?_); rintro e w31 ⟨rfl, hb⟩; refine ⟨_, rfl, ?_⟩; have n0_ := Aside0.mk (bb (g := g_z) (o := .cells #[.int .i64 a0_0, .int .i64 a0_1, .int .u32 a0_2, .int .u32 a0_3, .int .u16 a0_4, .bool a0_5] 29 (0, 0)) (by (with_reducible repeat (first | refine bN ?_ _ | refine bw ?_ | refine bA ?_ _)); exact B_o.out) hb); have n1_ := Aside0.mk (bb (g := g_1) (o := .cells #[.int .i64 a1_0, .int .i64 a1_1, .int .u32 a1_2, .int .u32 a1_3, .int .u16 a1_4, .bool a1_5] 29 (0, 0)) (by (with_reducible repeat (first | refine bN ?_ _ | refine bw ?_ | refine bA ?_ _)); exact B_r.out) hb); have n2_ := Aside0.mk (bb (g := g_3) (o := .cells #[.int .i64 a2_0, .int .i64 a2_1, .int .u32 a2_2, .int .u32 a2_3, .int .u16 a2_4, .bool a2_5] 29 (0, 0)) (by (with_reducible repeat (first | refine bN ?_ _ | refine bw ?_ | refine bA ?_ _)); exact B_t.out) hb); have n3_ := Aside0.mk (below_step (by repeat (first | (with_reducible first | exact HB.out | apply bl | apply pN | apply b1 | refine bs ?_ G_y.out | refine bs ?_ G_0.out | refine bs ?_ G_2.out) | exact HB.out)) hb); clear B_o; clear B_r; clear B_t; clear HB; have B_o := n0_; have B_r := n1_; have B_t := n2_; have HB := n3_; clear n0_ n1_ n2_ n3_; (try clear hb); (try clear hb2); (try clear hk); (try clear hi)) | ((with_reducible refine gate_dst (N := 8) rfl ?_); refine box_event ?hg (N := 8) ?hd (cs := #[.int .i64 0, .int .i64 0, .int .u32 0, .int .u32 0, .int .u16 0]) (t := 27) ?hr ?_; (case hd => rfl); (case hg => rfl); (case hr => first | (go_simp; done) | (go_simp; rfl)); intro g_k hg w32 hbox hb; have n0_ := Aside0.mk (bb (g := g_z) (o := .cells #[.int .i64 a0_0, .int .i64 a0_1, .int .u32 a0_2, .int .u32 a0_3, .int .u16 a0_4, .bool a0_5] 29 (0, 0)) (by (with_reducible repeat (first | refine bN ?_ _ | refine bw ?_ | refine bA ?_ _)); exact B_o.out) hb); have n1_ := Aside0.mk (bb (g := g_1) (o := .cells #[.int .i64 a1_0, .int .i64 a1_1, .int .u32 a1_2, .int .u32 a1_3, .int .u16 a1_4, .bool a1_5] 29 (0, 0)) (by (with_reducible repeat (first | refine bN ?_ _ | refine bw ?_ | refine bA ?_ _)); exact B_r.out) hb); have n2_ := Aside0.mk (bb (g := g_3) (o := .cells #[.int .i64 a2_0, .int .i64 a2_1, .int .u32 a2_2, .int .u32 a2_3, .int .u16 a2_4, .bool a2_5] 29 (0, 0)) (by (with_reducible repeat (first | refine bN ?_ _ | refine bw ?_ | refine bA ?_ _)); exact B_t.out) hb); have n3_ := Aside0.mk (below_step (by repeat (first | (with_reducible first | exact HB.out | apply bl | apply pN | apply b1 | refine bs ?_ G_y.out | refine bs ?_ G_0.out | refine bs ?_ G_2.out) | exact HB.out)) hb); have n4_ := Aside0.mk (hbox); have n5_ := Aside0.mk ((by rw [hg]; exact (below_size (by repeat (first | (with_reducible first | exact HB.out | apply bl | apply pN | apply b1 | refine bs ?_ G_y.out | refine bs ?_ G_0.out | refine bs ?_ G_2.out) | exact HB.out))) : w.heap.size ≤ g_k)); have n6_ := Aside0.mk ((by rw [hg]; exact (below_size (by repeat (first | (with_reducible first | exact HB.out | apply bl | apply pN | apply b1 | refine bs ?_ G_y.out | refine bs ?_ G_0.out | refine bs ?_ G_2.out) | exact HB.out))) : w.heap.size ≤ g_k)); have n7_ := Aside0.mk ((by rw [hg]; exact Nat.ne_of_lt (blk_lt (g := g_z) (o := .cells #[.int .i64 a0_0, .int .i64 a0_1, .int .u32 a0_2, .int .u32 a0_3, .int .u16 a0_4, .bool a0_5] 29 (0, 0)) (by (with_reducible repeat (first | refine bN ?_ _ | refine bw ?_ | refine bA ?_ _)); exact B_o.out)) : g_z ≠ g_k)); have n8_ := Aside0.mk ((by rw [hg]; exact Nat.ne_of_gt (blk_lt (g := g_z) (o := .cells #[.int .i64 a0_0, .int .i64 a0_1, .int .u32 a0_2, .int .u32 a0_3, .int .u16 a0_4, .bool a0_5] 29 (0, 0)) (by (with_reducible repeat (first | refine bN ?_ _ | refine bw ?_ | refine bA ?_ _)); exact B_o.out)) : g_k ≠ g_z)); have n9_ := Aside0.mk ((by rw [hg]; exact Nat.ne_of_lt (blk_lt (g := g_1) (o := .cells #[.int .i64 a1_0, .int .i64 a1_1, .int .u32 a1_2, .int .u32 a1_3, .int .u16 a1_4, .bool a1_5] 29 (0, 0)) (by (with_reducible repeat (first | refine bN ?_ _ | refine bw ?_ | refine bA ?_ _)); exact B_r.out)) : g_1 ≠ g_k)); have n10_ := Aside0.mk ((by rw [hg]; exact Nat.ne_of_gt (blk_lt (g := g_1) (o := .cells #[.int .i64 a1_0, .int .i64 a1_1, .int .u32 a1_2, .int .u32 a1_3, .int .u16 a1_4, .bool a1_5] 29 (0, 0)) (by (with_reducible repeat (first | refine bN ?_ _ | refine bw ?_ | refine bA ?_ _)); exact B_r.out)) : g_k ≠ g_1)); have n11_ := Aside0.mk ((by rw [hg]; exact Nat.ne_of_lt (blk_lt (g := g_3) (o := .cells #[.int .i64 a2_0, .int .i64 a2_1, .int .u32 a2_2, .int .u32 a2_3, .int .u16 a2_4, .bool a2_5] 29 (0, 0)) (by (with_reducible repeat (first | refine bN ?_ _ | refine bw ?_ | refine bA ?_ _)); exact B_t.out)) : g_3 ≠ g_k)); have n12_ := Aside0.mk ((by rw [hg]; exact Nat.ne_of_gt (blk_lt (g := g_3) (o := .cells #[.int .i64 a2_0, .int .i64 a2_1, .int .u32 a2_2, .int .u32 a2_3, .int .u16 a2_4, .bool a2_5] 29 (0, 0)) (by (with_reducible repeat (first | refine bN ?_ _ | refine bw ?_ | refine bA ?_ _)); exact B_t.out)) : g_k ≠ g_3)); clear B_o; clear B_r; clear B_t; clear HB; have B_o := n0_; have B_r := n1_; have B_t := n2_; have HB := n3_; have B_b := n4_; have GW217 := n5_; have G_4 := n6_; have N_5 := n7_; have NB217_208 := n8_; have N_6 := n9_; have NB217_209 := n10_; have N_7 := n11_; have NB217_210 := n12_; clear n0_ n1_ n2_ n3_ n4_ n5_ n6_ n7_ n8_ n9_ n10_ n11_ n12_; clear hb hbox hg; have hnb33 := NB217_208.out; have hnc33 := N_5.out; have hnb34 := NB217_209.out; have hnc34 := N_6.out; have hnb35 := NB217_210.out; have hnc35 := N_7.out; have hcz36_0 : w32.cell? ⟨g_k, 0, none⟩ = some (.int .i64 0) := (bc B_b.out 0).trans rfl; have hcz36_1 : w32.cell? ⟨g_k, 1, none⟩ = some (.int .i64 0) := (bc B_b.out 1).trans rfl; have hcz36_2 : w32.cell? ⟨g_k, 2, none⟩ = some (.int .u32 0) := (bc B_b.out 2).trans rfl; have hcz36_3 : w32.cell? ⟨g_k, 3, none⟩ = some (.int .u32 0) := (bc B_b.out 3).trans rfl; have hcz36_4 : w32.cell? ⟨g_k, 4, none⟩ = some (.int .u16 0) := (bc B_b.out 4).trans rfl; have hfz36_0 := bz B_b.out 0; have hfz36_1 := bz B_b.out 1; have hfz36_2 := bz B_b.out 2; have hfz36_3 := bz B_b.out 3; have hfz36_4 := bz B_b.out 4; have hnb37 := NB209_210.out; have hnc37 := NB210_209.out; have hcz38_0 : w32.cell? ⟨g_1, 0, none⟩ = some (.int .i64 a1_0) := (bc B_r.out 0).trans rfl; have hcz38_1 : w32.cell? ⟨g_1, 1, none⟩ = some (.int .i64 a1_1) := (bc B_r.out 1).trans rfl; have hcz38_2 : w32.cell? ⟨g_1, 2, none⟩ = some (.int .u32 a1_2) := (bc B_r.out 2).trans rfl; have hcz38_3 : w32.cell? ⟨g_1, 3, none⟩ = some (.int .u32 a1_3) := (bc B_r.out 3).trans rfl; have hcz38_4 : w32.cell? ⟨g_1, 4, none⟩ = some (.int .u16 a1_4) := (bc B_r.out 4).trans rfl; have hcz38_5 : w32.cell? ⟨g_1, 5, none⟩ = some (.bool a1_5) := (bc B_r.out 5).trans rfl; have hfz38_0 := bz B_r.out 0; have hfz38_1 := bz B_r.out 1; have hfz38_2 := bz B_r.out 2; have hfz38_3 := bz B_r.out 3; have hfz38_4 := bz B_r.out 4; have hfz38_5 := bz B_r.out 5) | ((with_reducible refine gate_callee (f := 10) rfl ?_); refine goesL_ (some 19) rfl rfl Try.func10 (by kernel_rfl) rfl #[.agg #[.int .i64 a1_0, .int .i64 a1_1, .int .u32 a1_2, .int .u32 a1_3, .int .u16 a1_4, .bool a1_5]] rfl (by (try simp only [List.map_toArray, List.map_cons, List.map_nil]); first | done | rfl | (simp only [List.length_drop, List.length_take]; rfl)) ?_; (with_reducible refine (law04_Thing_thing.calls a1_0 a1_1 a1_2 a1_3 a1_4 a1_5 t218 t219 t220 t221 t222 _ A7.out).mono ?_); rintro e w39 ⟨rfl, hb⟩; refine ⟨_, rfl, ?_⟩; have n0_ := Aside0.mk (bb (g := g_z) (o := .cells #[.int .i64 a0_0, .int .i64 a0_1, .int .u32 a0_2, .int .u32 a0_3, .int .u16 a0_4, .bool a0_5] 29 (0, 0)) (by (with_reducible repeat (first | refine bN ?_ _ | refine bw ?_ | refine bA ?_ _)); refine bf ?_ N_5.out _; (with_reducible repeat (first | refine bN ?_ _ | refine bw ?_ | refine bA ?_ _)); refine bf ?_ N_5.out _; (with_reducible repeat (first | refine bN ?_ _ | refine bw ?_ | refine bA ?_ _)); refine bf ?_ N_5.out _; (with_reducible repeat (first | refine bN ?_ _ | refine bw ?_ | refine bA ?_ _)); refine bf ?_ N_5.out _; (with_reducible repeat (first | refine bN ?_ _ | refine bw ?_ | refine bA ?_ _)); refine bf ?_ N_5.out _; (with_reducible repeat (first | refine bN ?_ _ | refine bw ?_ | refine bA ?_ _)); exact B_o.out) hb); have n1_ := Aside0.mk (bb (g := g_1) (o := .cells #[.int .i64 a1_0, .int .i64 a1_1, .int .u32 a1_2, .int .u32 a1_3, .int .u16 a1_4, .bool a1_5] 29 (0, 0)) (by (with_reducible repeat (first | refine bN ?_ _ | refine bw ?_ | refine bA ?_ _)); refine bf ?_ N_6.out _; (with_reducible repeat (first | refine bN ?_ _ | refine bw ?_ | refine bA ?_ _)); refine bf ?_ N_6.out _; (with_reducible repeat (first | refine bN ?_ _ | refine bw ?_ | refine bA ?_ _)); refine bf ?_ N_6.out _; (with_reducible repeat (first | refine bN ?_ _ | refine bw ?_ | refine bA ?_ _)); refine bf ?_ N_6.out _; (with_reducible repeat (first | refine bN ?_ _ | refine bw ?_ | refine bA ?_ _)); refine bf ?_ N_6.out _; (with_reducible repeat (first | refine bN ?_ _ | refine bw ?_ | refine bA ?_ _)); exact B_r.out) hb); have n2_ := Aside0.mk (bb (g := g_3) (o := .cells #[.int .i64 a2_0, .int .i64 a2_1, .int .u32 a2_2, .int .u32 a2_3, .int .u16 a2_4, .bool a2_5] 29 (0, 0)) (by (with_reducible repeat (first | refine bN ?_ _ | refine bw ?_ | refine bA ?_ _)); refine bf ?_ N_7.out _; (with_reducible repeat (first | refine bN ?_ _ | refine bw ?_ | refine bA ?_ _)); refine bf ?_ N_7.out _; (with_reducible repeat (first | refine bN ?_ _ | refine bw ?_ | refine bA ?_ _)); refine bf ?_ N_7.out _; (with_reducible repeat (first | refine bN ?_ _ | refine bw ?_ | refine bA ?_ _)); refine bf ?_ N_7.out _; (with_reducible repeat (first | refine bN ?_ _ | refine bw ?_ | refine bA ?_ _)); refine bf ?_ N_7.out _; (with_reducible repeat (first | refine bN ?_ _ | refine bw ?_ | refine bA ?_ _)); exact B_t.out) hb); have n3_ := Aside0.mk (bb (g := g_k) (o := .cells #[.int .i64 t212, .int .i64 t213, .int .u32 t214, .int .u32 t215, .int .u16 t216] 27 (0, 0)) (by (with_reducible repeat (first | refine bN ?_ _ | refine bw ?_ | refine bA ?_ _)); refine bp (cs := #[.int .i64 t212, .int .i64 t213, .int .u32 t214, .int .u32 t215, .int .u16 0]) ?_ 4 _ rfl; (with_reducible repeat (first | refine bN ?_ _ | refine bw ?_ | refine bA ?_ _)); refine bp (cs := #[.int .i64 t212, .int .i64 t213, .int .u32 t214, .int .u32 0, .int .u16 0]) ?_ 3 _ rfl; (with_reducible repeat (first | refine bN ?_ _ | refine bw ?_ | refine bA ?_ _)); refine bp (cs := #[.int .i64 t212, .int .i64 t213, .int .u32 0, .int .u32 0, .int .u16 0]) ?_ 2 _ rfl; (with_reducible repeat (first | refine bN ?_ _ | refine bw ?_ | refine bA ?_ _)); refine bp (cs := #[.int .i64 t212, .int .i64 0, .int .u32 0, .int .u32 0, .int .u16 0]) ?_ 1 _ rfl; (with_reducible repeat (first | refine bN ?_ _ | refine bw ?_ | refine bA ?_ _)); refine bp (cs := #[.int .i64 0, .int .i64 0, .int .u32 0, .int .u32 0, .int .u16 0]) ?_ 0 _ rfl; (with_reducible repeat (first | refine bN ?_ _ | refine bw ?_ | refine bA ?_ _)); exact B_b.out) hb); have n4_ := Aside0.mk (below_step (by repeat (first | (with_reducible first | exact HB.out | apply bl | apply pN | apply b1 | refine bs ?_ G_y.out | refine bs ?_ G_0.out | refine bs ?_ G_2.out | refine bs ?_ G_4.out) | exact HB.out)) hb); clear B_o; clear B_r; clear B_t; clear B_b; clear HB; have B_o := n0_; have B_r := n1_; have B_t := n2_; have B_b := n3_; have HB := n4_; clear n0_ n1_ n2_ n3_ n4_; (try clear hb); (try clear hb2); (try clear hk); (try clear hi)) | ((with_reducible refine gate_dst (N := 9) rfl ?_); refine box_event ?hg (N := 9) ?hd (cs := #[.int .i64 0, .int .i64 0, .int .u32 0, .int .u32 0, .int .u16 0]) (t := 27) ?hr ?_; (case hd => rfl); (case hg => rfl); (case hr => first | (go_simp; done) | (go_simp; rfl)); intro g_n hg w40 hbox hb; have n0_ := Aside0.mk (bb (g := g_z) (o := .cells #[.int .i64 a0_0, .int .i64 a0_1, .int .u32 a0_2, .int .u32 a0_3, .int .u16 a0_4, .bool a0_5] 29 (0, 0)) (by (with_reducible repeat (first | refine bN ?_ _ | refine bw ?_ | refine bA ?_ _)); exact B_o.out) hb); have n1_ := Aside0.mk (bb (g := g_1) (o := .cells #[.int .i64 a1_0, .int .i64 a1_1, .int .u32 a1_2, .int .u32 a1_3, .int .u16 a1_4, .bool a1_5] 29 (0, 0)) (by (with_reducible repeat (first | refine bN ?_ _ | refine bw ?_ | refine bA ?_ _)); exact B_r.out) hb); have n2_ := Aside0.mk (bb (g := g_3) (o := .cells #[.int .i64 a2_0, .int .i64 a2_1, .int .u32 a2_2, .int .u32 a2_3, .int .u16 a2_4, .bool a2_5] 29 (0, 0)) (by (with_reducible repeat (first | refine bN ?_ _ | refine bw ?_ | refine bA ?_ _)); exact B_t.out) hb); have n3_ := Aside0.mk (bb (g := g_k) (o := .cells #[.int .i64 t212, .int .i64 t213, .int .u32 t214, .int .u32 t215, .int .u16 t216] 27 (0, 0)) (by (with_reducible repeat (first | refine bN ?_ _ | refine bw ?_ | refine bA ?_ _)); exact B_b.out) hb); have n4_ := Aside0.mk (below_step (by repeat (first | (with_reducible first | exact HB.out | apply bl | apply pN | apply b1 | refine bs ?_ G_y.out | refine bs ?_ G_0.out | refine bs ?_ G_2.out | refine bs ?_ G_4.out) | exact HB.out)) hb); have n5_ := Aside0.mk (hbox); have n6_ := Aside0.mk ((by rw [hg]; exact (below_size (by repeat (first | (with_reducible first | exact HB.out | apply bl | apply pN | apply b1 | refine bs ?_ G_y.out | refine bs ?_ G_0.out | refine bs ?_ G_2.out | refine bs ?_ G_4.out) | exact HB.out))) : w.heap.size ≤ g_n)); have n7_ := Aside0.mk ((by rw [hg]; exact (below_size (by repeat (first | (with_reducible first | exact HB.out | apply bl | apply pN | apply b1 | refine bs ?_ G_y.out | refine bs ?_ G_0.out | refine bs ?_ G_2.out | refine bs ?_ G_4.out) | exact HB.out))) : w.heap.size ≤ g_n)); have n8_ := Aside0.mk ((by rw [hg]; exact Nat.ne_of_lt (blk_lt (g := g_z) (o := .cells #[.int .i64 a0_0, .int .i64 a0_1, .int .u32 a0_2, .int .u32 a0_3, .int .u16 a0_4, .bool a0_5] 29 (0, 0)) (by (with_reducible repeat (first | refine bN ?_ _ | refine bw ?_ | refine bA ?_ _)); exact B_o.out)) : g_z ≠ g_n)); have n9_ := Aside0.mk ((by rw [hg]; exact Nat.ne_of_gt (blk_lt (g := g_z) (o := .cells #[.int .i64 a0_0, .int .i64 a0_1, .int .u32 a0_2, .int .u32 a0_3, .int .u16 a0_4, .bool a0_5] 29 (0, 0)) (by (with_reducible repeat (first | refine bN ?_ _ | refine bw ?_ | refine bA ?_ _)); exact B_o.out)) : g_n ≠ g_z)); have n10_ := Aside0.mk ((by rw [hg]; exact Nat.ne_of_lt (blk_lt (g := g_1) (o := .cells #[.int .i64 a1_0, .int .i64 a1_1, .int .u32 a1_2, .int .u32 a1_3, .int .u16 a1_4, .bool a1_5] 29 (0, 0)) (by (with_reducible repeat (first | refine bN ?_ _ | refine bw ?_ | refine bA ?_ _)); exact B_r.out)) : g_1 ≠ g_n)); have n11_ := Aside0.mk ((by rw [hg]; exact Nat.ne_of_gt (blk_lt (g := g_1) (o := .cells #[.int .i64 a1_0, .int .i64 a1_1, .int .u32 a1_2, .int .u32 a1_3, .int .u16 a1_4, .bool a1_5] 29 (0, 0)) (by (with_reducible repeat (first | refine bN ?_ _ | refine bw ?_ | refine bA ?_ _)); exact B_r.out)) : g_n ≠ g_1)); have n12_ := Aside0.mk ((by rw [hg]; exact Nat.ne_of_lt (blk_lt (g := g_3) (o := .cells #[.int .i64 a2_0, .int .i64 a2_1, .int .u32 a2_2, .int .u32 a2_3, .int .u16 a2_4, .bool a2_5] 29 (0, 0)) (by (with_reducible repeat (first | refine bN ?_ _ | refine bw ?_ | refine bA ?_ _)); exact B_t.out)) : g_3 ≠ g_n)); have n13_ := Aside0.mk ((by rw [hg]; exact Nat.ne_of_gt (blk_lt (g := g_3) (o := .cells #[.int .i64 a2_0, .int .i64 a2_1, .int .u32 a2_2, .int .u32 a2_3, .int .u16 a2_4, .bool a2_5] 29 (0, 0)) (by (with_reducible repeat (first | refine bN ?_ _ | refine bw ?_ | refine bA ?_ _)); exact B_t.out)) : g_n ≠ g_3)); have n14_ := Aside0.mk ((by rw [hg]; exact Nat.ne_of_lt (blk_lt (g := g_k) (o := .cells #[.int .i64 t212, .int .i64 t213, .int .u32 t214, .int .u32 t215, .int .u16 t216] 27 (0, 0)) (by (with_reducible repeat (first | refine bN ?_ _ | refine bw ?_ | refine bA ?_ _)); exact B_b.out)) : g_k ≠ g_n)); have n15_ := Aside0.mk ((by rw [hg]; exact Nat.ne_of_gt (blk_lt (g := g_k) (o := .cells #[.int .i64 t212, .int .i64 t213, .int .u32 t214, .int .u32 t215, .int .u16 t216] 27 (0, 0)) (by (with_reducible repeat (first | refine bN ?_ _ | refine bw ?_ | refine bA ?_ _)); exact B_b.out)) : g_n ≠ g_k)); clear B_o; clear B_r; clear B_t; clear B_b; clear HB; have B_o := n0_; have B_r := n1_; have B_t := n2_; have B_b := n3_; have HB := n4_; have B_c := n5_; have GW223 := n6_; have GE223 := n7_; have N_8 := n8_; have NB223_208 := n9_; have N_9 := n10_; have NB223_209 := n11_; have N_ba := n12_; have NB223_210 := n13_; have N_bb := n14_; have NB223_217 := n15_; clear n0_ n1_ n2_ n3_ n4_ n5_ n6_ n7_ n8_ n9_ n10_ n11_ n12_ n13_ n14_ n15_; clear hb hbox hg; have hnb41 := NB223_208.out; have hnc41 := N_8.out; have hnb42 := NB223_209.out; have hnc42 := N_9.out; have hnb43 := NB223_210.out; have hnc43 := N_ba.out; have hnb44 := NB223_217.out; have hnc44 := N_bb.out; have hcz45_0 : w40.cell? ⟨g_n, 0, none⟩ = some (.int .i64 0) := (bc B_c.out 0).trans rfl; have hcz45_1 : w40.cell? ⟨g_n, 1, none⟩ = some (.int .i64 0) := (bc B_c.out 1).trans rfl; have hcz45_2 : w40.cell? ⟨g_n, 2, none⟩ = some (.int .u32 0) := (bc B_c.out 2).trans rfl; have hcz45_3 : w40.cell? ⟨g_n, 3, none⟩ = some (.int .u32 0) := (bc B_c.out 3).trans rfl; have hcz45_4 : w40.cell? ⟨g_n, 4, none⟩ = some (.int .u16 0) := (bc B_c.out 4).trans rfl; have hfz45_0 := bz B_c.out 0; have hfz45_1 := bz B_c.out 1; have hfz45_2 := bz B_c.out 2; have hfz45_3 := bz B_c.out 3; have hfz45_4 := bz B_c.out 4; have hcz46_0 : w40.cell? ⟨g_3, 0, none⟩ = some (.int .i64 a2_0) := (bc B_t.out 0).trans rfl; have hcz46_1 : w40.cell? ⟨g_3, 1, none⟩ = some (.int .i64 a2_1) := (bc B_t.out 1).trans rfl; have hcz46_2 : w40.cell? ⟨g_3, 2, none⟩ = some (.int .u32 a2_2) := (bc B_t.out 2).trans rfl; have hcz46_3 : w40.cell? ⟨g_3, 3, none⟩ = some (.int .u32 a2_3) := (bc B_t.out 3).trans rfl; have hcz46_4 : w40.cell? ⟨g_3, 4, none⟩ = some (.int .u16 a2_4) := (bc B_t.out 4).trans rfl; have hcz46_5 : w40.cell? ⟨g_3, 5, none⟩ = some (.bool a2_5) := (bc B_t.out 5).trans rfl; have hfz46_0 := bz B_t.out 0; have hfz46_1 := bz B_t.out 1; have hfz46_2 := bz B_t.out 2; have hfz46_3 := bz B_t.out 3; have hfz46_4 := bz B_t.out 4; have hfz46_5 := bz B_t.out 5) | ((with_reducible refine gate_callee (f := 10) rfl ?_); refine goesL_ (some 21) rfl rfl Try.func10 (by kernel_rfl) rfl #[.agg #[.int .i64 a2_0, .int .i64 a2_1, .int .u32 a2_2, .int .u32 a2_3, .int .u16 a2_4, .bool a2_5]] rfl (by (try simp only [List.map_toArray, List.map_cons, List.map_nil]); first | done | rfl | (simp only [List.length_drop, List.length_take]; rfl)) ?_; (with_reducible refine (law04_Thing_thing.calls a2_0 a2_1 a2_2 a2_3 a2_4 a2_5 t224 t225 t226 t227 t228 _ A8.out).mono ?_); rintro e w47 ⟨rfl, hb⟩; refine ⟨_, rfl, ?_⟩; have n0_ := Aside0.mk (bb (g := g_z) (o := .cells #[.int .i64 a0_0, .int .i64 a0_1, .int .u32 a0_2, .int .u32 a0_3, .int .u16 a0_4, .bool a0_5] 29 (0, 0)) (by (with_reducible repeat (first | refine bN ?_ _ | refine bw ?_ | refine bA ?_ _)); refine bf ?_ N_8.out _; (with_reducible repeat (first | refine bN ?_ _ | refine bw ?_ | refine bA ?_ _)); refine bf ?_ N_8.out _; (with_reducible repeat (first | refine bN ?_ _ | refine bw ?_ | refine bA ?_ _)); refine bf ?_ N_8.out _; (with_reducible repeat (first | refine bN ?_ _ | refine bw ?_ | refine bA ?_ _)); refine bf ?_ N_8.out _; (with_reducible repeat (first | refine bN ?_ _ | refine bw ?_ | refine bA ?_ _)); refine bf ?_ N_8.out _; (with_reducible repeat (first | refine bN ?_ _ | refine bw ?_ | refine bA ?_ _)); exact B_o.out) hb); have n1_ := Aside0.mk (bb (g := g_1) (o := .cells #[.int .i64 a1_0, .int .i64 a1_1, .int .u32 a1_2, .int .u32 a1_3, .int .u16 a1_4, .bool a1_5] 29 (0, 0)) (by (with_reducible repeat (first | refine bN ?_ _ | refine bw ?_ | refine bA ?_ _)); refine bf ?_ N_9.out _; (with_reducible repeat (first | refine bN ?_ _ | refine bw ?_ | refine bA ?_ _)); refine bf ?_ N_9.out _; (with_reducible repeat (first | refine bN ?_ _ | refine bw ?_ | refine bA ?_ _)); refine bf ?_ N_9.out _; (with_reducible repeat (first | refine bN ?_ _ | refine bw ?_ | refine bA ?_ _)); refine bf ?_ N_9.out _; (with_reducible repeat (first | refine bN ?_ _ | refine bw ?_ | refine bA ?_ _)); refine bf ?_ N_9.out _; (with_reducible repeat (first | refine bN ?_ _ | refine bw ?_ | refine bA ?_ _)); exact B_r.out) hb); have n2_ := Aside0.mk (bb (g := g_3) (o := .cells #[.int .i64 a2_0, .int .i64 a2_1, .int .u32 a2_2, .int .u32 a2_3, .int .u16 a2_4, .bool a2_5] 29 (0, 0)) (by (with_reducible repeat (first | refine bN ?_ _ | refine bw ?_ | refine bA ?_ _)); refine bf ?_ N_ba.out _; (with_reducible repeat (first | refine bN ?_ _ | refine bw ?_ | refine bA ?_ _)); refine bf ?_ N_ba.out _; (with_reducible repeat (first | refine bN ?_ _ | refine bw ?_ | refine bA ?_ _)); refine bf ?_ N_ba.out _; (with_reducible repeat (first | refine bN ?_ _ | refine bw ?_ | refine bA ?_ _)); refine bf ?_ N_ba.out _; (with_reducible repeat (first | refine bN ?_ _ | refine bw ?_ | refine bA ?_ _)); refine bf ?_ N_ba.out _; (with_reducible repeat (first | refine bN ?_ _ | refine bw ?_ | refine bA ?_ _)); exact B_t.out) hb); have n3_ := Aside0.mk (bb (g := g_k) (o := .cells #[.int .i64 t212, .int .i64 t213, .int .u32 t214, .int .u32 t215, .int .u16 t216] 27 (0, 0)) (by (with_reducible repeat (first | refine bN ?_ _ | refine bw ?_ | refine bA ?_ _)); refine bf ?_ N_bb.out _; (with_reducible repeat (first | refine bN ?_ _ | refine bw ?_ | refine bA ?_ _)); refine bf ?_ N_bb.out _; (with_reducible repeat (first | refine bN ?_ _ | refine bw ?_ | refine bA ?_ _)); refine bf ?_ N_bb.out _; (with_reducible repeat (first | refine bN ?_ _ | refine bw ?_ | refine bA ?_ _)); refine bf ?_ N_bb.out _; (with_reducible repeat (first | refine bN ?_ _ | refine bw ?_ | refine bA ?_ _)); refine bf ?_ N_bb.out _; (with_reducible repeat (first | refine bN ?_ _ | refine bw ?_ | refine bA ?_ _)); exact B_b.out) hb); have n4_ := Aside0.mk (bb (g := g_n) (o := .cells #[.int .i64 t218, .int .i64 t219, .int .u32 t220, .int .u32 t221, .int .u16 t222] 27 (0, 0)) (by (with_reducible repeat (first | refine bN ?_ _ | refine bw ?_ | refine bA ?_ _)); refine bp (cs := #[.int .i64 t218, .int .i64 t219, .int .u32 t220, .int .u32 t221, .int .u16 0]) ?_ 4 _ rfl; (with_reducible repeat (first | refine bN ?_ _ | refine bw ?_ | refine bA ?_ _)); refine bp (cs := #[.int .i64 t218, .int .i64 t219, .int .u32 t220, .int .u32 0, .int .u16 0]) ?_ 3 _ rfl; (with_reducible repeat (first | refine bN ?_ _ | refine bw ?_ | refine bA ?_ _)); refine bp (cs := #[.int .i64 t218, .int .i64 t219, .int .u32 0, .int .u32 0, .int .u16 0]) ?_ 2 _ rfl; (with_reducible repeat (first | refine bN ?_ _ | refine bw ?_ | refine bA ?_ _)); refine bp (cs := #[.int .i64 t218, .int .i64 0, .int .u32 0, .int .u32 0, .int .u16 0]) ?_ 1 _ rfl; (with_reducible repeat (first | refine bN ?_ _ | refine bw ?_ | refine bA ?_ _)); refine bp (cs := #[.int .i64 0, .int .i64 0, .int .u32 0, .int .u32 0, .int .u16 0]) ?_ 0 _ rfl; (with_reducible repeat (first | refine bN ?_ _ | refine bw ?_ | refine bA ?_ _)); exact B_c.out) hb); have n5_ := Aside0.mk (below_step (by repeat (first | (with_reducible first | exact HB.out | apply bl | apply pN | apply b1 | refine bs ?_ G_y.out | refine bs ?_ G_0.out | refine bs ?_ G_2.out | refine bs ?_ G_4.out | refine bs ?_ GE223.out) | exact HB.out)) hb); clear B_o; clear B_r; clear B_t; clear B_b; clear B_c; clear HB; have B_o := n0_; have B_r := n1_; have B_t := n2_; have B_b := n3_; have B_c := n4_; have HB := n5_; clear n0_ n1_ n2_ n3_ n4_ n5_; (try clear hb); (try clear hb2); (try clear hk); (try clear hi)) | ((with_reducible refine gate_dst (N := 10) rfl ?_); refine box_event ?hg (N := 10) ?hd (cs := #[.int .i64 0, .int .i64 0, .int .u32 0, .int .u32 0, .int .u16 0]) (t := 27) ?hr ?_; (case hd => rfl); (case hg => rfl); (case hr => first | (go_simp; done) | (go_simp; rfl)); intro g_q hg w48 hbox hb; have n0_ := Aside0.mk (bb (g := g_z) (o := .cells #[.int .i64 a0_0, .int .i64 a0_1, .int .u32 a0_2, .int .u32 a0_3, .int .u16 a0_4, .bool a0_5] 29 (0, 0)) (by (with_reducible repeat (first | refine bN ?_ _ | refine bw ?_ | refine bA ?_ _)); exact B_o.out) hb); have n1_ := Aside0.mk (bb (g := g_1) (o := .cells #[.int .i64 a1_0, .int .i64 a1_1, .int .u32 a1_2, .int .u32 a1_3, .int .u16 a1_4, .bool a1_5] 29 (0, 0)) (by (with_reducible repeat (first | refine bN ?_ _ | refine bw ?_ | refine bA ?_ _)); exact B_r.out) hb); have n2_ := Aside0.mk (bb (g := g_3) (o := .cells #[.int .i64 a2_0, .int .i64 a2_1, .int .u32 a2_2, .int .u32 a2_3, .int .u16 a2_4, .bool a2_5] 29 (0, 0)) (by (with_reducible repeat (first | refine bN ?_ _ | refine bw ?_ | refine bA ?_ _)); exact B_t.out) hb); have n3_ := Aside0.mk (bb (g := g_k) (o := .cells #[.int .i64 t212, .int .i64 t213, .int .u32 t214, .int .u32 t215, .int .u16 t216] 27 (0, 0)) (by (with_reducible repeat (first | refine bN ?_ _ | refine bw ?_ | refine bA ?_ _)); exact B_b.out) hb); have n4_ := Aside0.mk (bb (g := g_n) (o := .cells #[.int .i64 t218, .int .i64 t219, .int .u32 t220, .int .u32 t221, .int .u16 t222] 27 (0, 0)) (by (with_reducible repeat (first | refine bN ?_ _ | refine bw ?_ | refine bA ?_ _)); exact B_c.out) hb); have n5_ := Aside0.mk (below_step (by repeat (first | (with_reducible first | exact HB.out | apply bl | apply pN | apply b1 | refine bs ?_ G_y.out | refine bs ?_ G_0.out | refine bs ?_ G_2.out | refine bs ?_ G_4.out | refine bs ?_ GE223.out) | exact HB.out)) hb); have n6_ := Aside0.mk (hbox); have n7_ := Aside0.mk ((by rw [hg]; exact (below_size (by repeat (first | (with_reducible first | exact HB.out | apply bl | apply pN | apply b1 | refine bs ?_ G_y.out | refine bs ?_ G_0.out | refine bs ?_ G_2.out | refine bs ?_ G_4.out | refine bs ?_ GE223.out) | exact HB.out))) : w.heap.size ≤ g_q)); have n8_ := Aside0.mk ((by rw [hg]; exact (below_size (by repeat (first | (with_reducible first | exact HB.out | apply bl | apply pN | apply b1 | refine bs ?_ G_y.out | refine bs ?_ G_0.out | refine bs ?_ G_2.out | refine bs ?_ G_4.out | refine bs ?_ GE223.out) | exact HB.out))) : w.heap.size ≤ g_q)); have n9_ := Aside0.mk ((by rw [hg]; exact Nat.ne_of_lt (blk_lt (g := g_z) (o := .cells #[.int .i64 a0_0, .int .i64 a0_1, .int .u32 a0_2, .int .u32 a0_3, .int .u16 a0_4, .bool a0_5] 29 (0, 0)) (by (with_reducible repeat (first | refine bN ?_ _ | refine bw ?_ | refine bA ?_ _)); exact B_o.out)) : g_z ≠ g_q)); have n10_ := Aside0.mk ((by rw [hg]; exact Nat.ne_of_gt (blk_lt (g := g_z) (o := .cells #[.int .i64 a0_0, .int .i64 a0_1, .int .u32 a0_2, .int .u32 a0_3, .int .u16 a0_4, .bool a0_5] 29 (0, 0)) (by (with_reducible repeat (first | refine bN ?_ _ | refine bw ?_ | refine bA ?_ _)); exact B_o.out)) : g_q ≠ g_z)); have n11_ := Aside0.mk ((by rw [hg]; exact Nat.ne_of_lt (blk_lt (g := g_1) (o := .cells #[.int .i64 a1_0, .int .i64 a1_1, .int .u32 a1_2, .int .u32 a1_3, .int .u16 a1_4, .bool a1_5] 29 (0, 0)) (by (with_reducible repeat (first | refine bN ?_ _ | refine bw ?_ | refine bA ?_ _)); exact B_r.out)) : g_1 ≠ g_q)); have n12_ := Aside0.mk ((by rw [hg]; exact Nat.ne_of_gt (blk_lt (g := g_1) (o := .cells #[.int .i64 a1_0, .int .i64 a1_1, .int .u32 a1_2, .int .u32 a1_3, .int .u16 a1_4, .bool a1_5] 29 (0, 0)) (by (with_reducible repeat (first | refine bN ?_ _ | refine bw ?_ | refine bA ?_ _)); exact B_r.out)) : g_q ≠ g_1)); have n13_ := Aside0.mk ((by rw [hg]; exact Nat.ne_of_lt (blk_lt (g := g_3) (o := .cells #[.int .i64 a2_0, .int .i64 a2_1, .int .u32 a2_2, .int .u32 a2_3, .int .u16 a2_4, .bool a2_5] 29 (0, 0)) (by (with_reducible repeat (first | refine bN ?_ _ | refine bw ?_ | refine bA ?_ _)); exact B_t.out)) : g_3 ≠ g_q)); have n14_ := Aside0.mk ((by rw [hg]; exact Nat.ne_of_gt (blk_lt (g := g_3) (o := .cells #[.int .i64 a2_0, .int .i64 a2_1, .int .u32 a2_2, .int .u32 a2_3, .int .u16 a2_4, .bool a2_5] 29 (0, 0)) (by (with_reducible repeat (first | refine bN ?_ _ | refine bw ?_ | refine bA ?_ _)); exact B_t.out)) : g_q ≠ g_3)); have n15_ := Aside0.mk ((by rw [hg]; exact Nat.ne_of_lt (blk_lt (g := g_k) (o := .cells #[.int .i64 t212, .int .i64 t213, .int .u32 t214, .int .u32 t215, .int .u16 t216] 27 (0, 0)) (by (with_reducible repeat (first | refine bN ?_ _ | refine bw ?_ | refine bA ?_ _)); exact B_b.out)) : g_k ≠ g_q)); have n16_ := Aside0.mk ((by rw [hg]; exact Nat.ne_of_gt (blk_lt (g := g_k) (o := .cells #[.int .i64 t212, .int .i64 t213, .int .u32 t214, .int .u32 t215, .int .u16 t216] 27 (0, 0)) (by (with_reducible repeat (first | refine bN ?_ _ | refine bw ?_ | refine bA ?_ _)); exact B_b.out)) : g_q ≠ g_k)); have n17_ := Aside0.mk ((by rw [hg]; exact Nat.ne_of_lt (blk_lt (g := g_n) (o := .cells #[.int .i64 t218, .int .i64 t219, .int .u32 t220, .int .u32 t221, .int .u16 t222] 27 (0, 0)) (by (with_reducible repeat (first | refine bN ?_ _ | refine bw ?_ | refine bA ?_ _)); exact B_c.out)) : g_n ≠ g_q)); have n18_ := Aside0.mk ((by rw [hg]; exact Nat.ne_of_gt (blk_lt (g := g_n) (o := .cells #[.int .i64 t218, .int .i64 t219, .int .u32 t220, .int .u32 t221, .int .u16 t222] 27 (0, 0)) (by (with_reducible repeat (first | refine bN ?_ _ | refine bw ?_ | refine bA ?_ _)); exact B_c.out)) : g_q ≠ g_n)); clear B_o; clear B_r; clear B_t; clear B_b; clear B_c; clear HB; have B_o := n0_; have B_r := n1_; have B_t := n2_; have B_b := n3_; have B_c := n4_; have HB := n5_; have B_d := n6_; have GW229 := n7_; have GE229 := n8_; have N_bc := n9_; have NB229_208 := n10_; have N_bd := n11_; have NB229_209 := n12_; have N_be := n13_; have NB229_210 := n14_; have N_bf := n15_; have NB229_217 := n16_; have N_bg := n17_; have NB229_223 := n18_; clear n0_ n1_ n2_ n3_ n4_ n5_ n6_ n7_ n8_ n9_ n10_ n11_ n12_ n13_ n14_ n15_ n16_ n17_ n18_; clear hb hbox hg; have hnb49 := NB229_208.out; have hnc49 := N_bc.out; have hnb50 := NB229_209.out; have hnc50 := N_bd.out; have hnb51 := NB229_210.out; have hnc51 := N_be.out; have hnb52 := NB229_217.out; have hnc52 := N_bf.out; have hnb53 := NB229_223.out; have hnc53 := N_bg.out; have hcz54_0 : w48.cell? ⟨g_q, 0, none⟩ = some (.int .i64 0) := (bc B_d.out 0).trans rfl; have hcz54_1 : w48.cell? ⟨g_q, 1, none⟩ = some (.int .i64 0) := (bc B_d.out 1).trans rfl; have hcz54_2 : w48.cell? ⟨g_q, 2, none⟩ = some (.int .u32 0) := (bc B_d.out 2).trans rfl; have hcz54_3 : w48.cell? ⟨g_q, 3, none⟩ = some (.int .u32 0) := (bc B_d.out 3).trans rfl; have hcz54_4 : w48.cell? ⟨g_q, 4, none⟩ = some (.int .u16 0) := (bc B_d.out 4).trans rfl; have hfz54_0 := bz B_d.out 0; have hfz54_1 := bz B_d.out 1; have hfz54_2 := bz B_d.out 2; have hfz54_3 := bz B_d.out 3; have hfz54_4 := bz B_d.out 4; have hcz55_0 : w48.cell? ⟨g_k, 0, none⟩ = some (.int .i64 t212) := (bc B_b.out 0).trans rfl; have hcz55_1 : w48.cell? ⟨g_k, 1, none⟩ = some (.int .i64 t213) := (bc B_b.out 1).trans rfl; have hcz55_2 : w48.cell? ⟨g_k, 2, none⟩ = some (.int .u32 t214) := (bc B_b.out 2).trans rfl; have hcz55_3 : w48.cell? ⟨g_k, 3, none⟩ = some (.int .u32 t215) := (bc B_b.out 3).trans rfl; have hcz55_4 : w48.cell? ⟨g_k, 4, none⟩ = some (.int .u16 t216) := (bc B_b.out 4).trans rfl; have hfz55_0 := bz B_b.out 0; have hfz55_1 := bz B_b.out 1; have hfz55_2 := bz B_b.out 2; have hfz55_3 := bz B_b.out 3; have hfz55_4 := bz B_b.out 4; have hcz56_0 : w48.cell? ⟨g_n, 0, none⟩ = some (.int .i64 t218) := (bc B_c.out 0).trans rfl; have hcz56_1 : w48.cell? ⟨g_n, 1, none⟩ = some (.int .i64 t219) := (bc B_c.out 1).trans rfl; have hcz56_2 : w48.cell? ⟨g_n, 2, none⟩ = some (.int .u32 t220) := (bc B_c.out 2).trans rfl; have hcz56_3 : w48.cell? ⟨g_n, 3, none⟩ = some (.int .u32 t221) := (bc B_c.out 3).trans rfl; have hcz56_4 : w48.cell? ⟨g_n, 4, none⟩ = some (.int .u16 t222) := (bc B_c.out 4).trans rfl; have hfz56_0 := bz B_c.out 0; have hfz56_1 := bz B_c.out 1; have hfz56_2 := bz B_c.out 2; have hfz56_3 := bz B_c.out 3; have hfz56_4 := bz B_c.out 4) | ((with_reducible refine gate_callee (f := 20) rfl ?_); refine goesL_ (some 27) rfl rfl Try.func20 (by kernel_rfl) rfl #[.agg #[.int .i64 3, .int .i64 t213, .int .u32 t214, .int .u32 t215, .int .u16 t216], .agg #[.int .i64 3, .int .i64 t219, .int .u32 t220, .int .u32 t221, .int .u16 t222]] rfl (by (try simp only [List.map_toArray, List.map_cons, List.map_nil]); first | done | rfl | (simp only [List.length_drop, List.length_take]; rfl)) ?_; (with_reducible refine (record_Join.calls k 3 t213 t214 t215 t216 3 t219 t220 t221 t222 t230 t231 t232 t233 t234 _ A9.out).mono ?_); rintro e w57 ⟨rfl, hb⟩; refine ⟨_, rfl, ?_⟩; have n0_ := Aside0.mk (bb (g := g_z) (o := .cells #[.int .i64 a0_0, .int .i64 a0_1, .int .u32 a0_2, .int .u32 a0_3, .int .u16 a0_4, .bool a0_5] 29 (0, 0)) (by (with_reducible repeat (first | refine bN ?_ _ | refine bw ?_ | refine bA ?_ _)); refine bf ?_ N_bc.out _; (with_reducible repeat (first | refine bN ?_ _ | refine bw ?_ | refine bA ?_ _)); refine bf ?_ N_8.out _; (with_reducible repeat (first | refine bN ?_ _ | refine bw ?_ | refine bA ?_ _)); refine bf ?_ N_5.out _; (with_reducible repeat (first | refine bN ?_ _ | refine bw ?_ | refine bA ?_ _)); refine bf ?_ N_bc.out _; (with_reducible repeat (first | refine bN ?_ _ | refine bw ?_ | refine bA ?_ _)); refine bf ?_ N_bc.out _; (with_reducible repeat (first | refine bN ?_ _ | refine bw ?_ | refine bA ?_ _)); refine bf ?_ N_bc.out _; (with_reducible repeat (first | refine bN ?_ _ | refine bw ?_ | refine bA ?_ _)); refine bf ?_ N_bc.out _; (with_reducible repeat (first | refine bN ?_ _ | refine bw ?_ | refine bA ?_ _)); refine bf ?_ N_bc.out _; (with_reducible repeat (first | refine bN ?_ _ | refine bw ?_ | refine bA ?_ _)); exact B_o.out) hb); have n1_ := Aside0.mk (bb (g := g_1) (o := .cells #[.int .i64 a1_0, .int .i64 a1_1, .int .u32 a1_2, .int .u32 a1_3, .int .u16 a1_4, .bool a1_5] 29 (0, 0)) (by (with_reducible repeat (first | refine bN ?_ _ | refine bw ?_ | refine bA ?_ _)); refine bf ?_ N_bd.out _; (with_reducible repeat (first | refine bN ?_ _ | refine bw ?_ | refine bA ?_ _)); refine bf ?_ N_9.out _; (with_reducible repeat (first | refine bN ?_ _ | refine bw ?_ | refine bA ?_ _)); refine bf ?_ N_6.out _; (with_reducible repeat (first | refine bN ?_ _ | refine bw ?_ | refine bA ?_ _)); refine bf ?_ N_bd.out _; (with_reducible repeat (first | refine bN ?_ _ | refine bw ?_ | refine bA ?_ _)); refine bf ?_ N_bd.out _; (with_reducible repeat (first | refine bN ?_ _ | refine bw ?_ | refine bA ?_ _)); refine bf ?_ N_bd.out _; (with_reducible repeat (first | refine bN ?_ _ | refine bw ?_ | refine bA ?_ _)); refine bf ?_ N_bd.out _; (with_reducible repeat (first | refine bN ?_ _ | refine bw ?_ | refine bA ?_ _)); refine bf ?_ N_bd.out _; (with_reducible repeat (first | refine bN ?_ _ | refine bw ?_ | refine bA ?_ _)); exact B_r.out) hb); have n2_ := Aside0.mk (bb (g := g_3) (o := .cells #[.int .i64 a2_0, .int .i64 a2_1, .int .u32 a2_2, .int .u32 a2_3, .int .u16 a2_4, .bool a2_5] 29 (0, 0)) (by (with_reducible repeat (first | refine bN ?_ _ | refine bw ?_ | refine bA ?_ _)); refine bf ?_ N_be.out _; (with_reducible repeat (first | refine bN ?_ _ | refine bw ?_ | refine bA ?_ _)); refine bf ?_ N_ba.out _; (with_reducible repeat (first | refine bN ?_ _ | refine bw ?_ | refine bA ?_ _)); refine bf ?_ N_7.out _; (with_reducible repeat (first | refine bN ?_ _ | refine bw ?_ | refine bA ?_ _)); refine bf ?_ N_be.out _; (with_reducible repeat (first | refine bN ?_ _ | refine bw ?_ | refine bA ?_ _)); refine bf ?_ N_be.out _; (with_reducible repeat (first | refine bN ?_ _ | refine bw ?_ | refine bA ?_ _)); refine bf ?_ N_be.out _; (with_reducible repeat (first | refine bN ?_ _ | refine bw ?_ | refine bA ?_ _)); refine bf ?_ N_be.out _; (with_reducible repeat (first | refine bN ?_ _ | refine bw ?_ | refine bA ?_ _)); refine bf ?_ N_be.out _; (with_reducible repeat (first | refine bN ?_ _ | refine bw ?_ | refine bA ?_ _)); exact B_t.out) hb); have n3_ := Aside0.mk (bb (g := g_k) (o := .cells #[.int .i64 3, .int .i64 t213, .int .u32 t214, .int .u32 t215, .int .u16 t216] 27 (0, 0)) (by (with_reducible repeat (first | refine bN ?_ _ | refine bw ?_ | refine bA ?_ _)); refine bf ?_ N_bf.out _; (with_reducible repeat (first | refine bN ?_ _ | refine bw ?_ | refine bA ?_ _)); refine bf ?_ N_bb.out _; (with_reducible repeat (first | refine bN ?_ _ | refine bw ?_ | refine bA ?_ _)); refine bp (cs := #[.int .i64 t212, .int .i64 t213, .int .u32 t214, .int .u32 t215, .int .u16 t216]) ?_ 0 _ rfl; (with_reducible repeat (first | refine bN ?_ _ | refine bw ?_ | refine bA ?_ _)); refine bf ?_ N_bf.out _; (with_reducible repeat (first | refine bN ?_ _ | refine bw ?_ | refine bA ?_ _)); refine bf ?_ N_bf.out _; (with_reducible repeat (first | refine bN ?_ _ | refine bw ?_ | refine bA ?_ _)); refine bf ?_ N_bf.out _; (with_reducible repeat (first | refine bN ?_ _ | refine bw ?_ | refine bA ?_ _)); refine bf ?_ N_bf.out _; (with_reducible repeat (first | refine bN ?_ _ | refine bw ?_ | refine bA ?_ _)); refine bf ?_ N_bf.out _; (with_reducible repeat (first | refine bN ?_ _ | refine bw ?_ | refine bA ?_ _)); exact B_b.out) hb); have n4_ := Aside0.mk (bb (g := g_n) (o := .cells #[.int .i64 3, .int .i64 t219, .int .u32 t220, .int .u32 t221, .int .u16 t222] 27 (0, 0)) (by (with_reducible repeat (first | refine bN ?_ _ | refine bw ?_ | refine bA ?_ _)); refine bf ?_ N_bg.out _; (with_reducible repeat (first | refine bN ?_ _ | refine bw ?_ | refine bA ?_ _)); refine bp (cs := #[.int .i64 t218, .int .i64 t219, .int .u32 t220, .int .u32 t221, .int .u16 t222]) ?_ 0 _ rfl; (with_reducible repeat (first | refine bN ?_ _ | refine bw ?_ | refine bA ?_ _)); refine bf ?_ NB223_217.out _; (with_reducible repeat (first | refine bN ?_ _ | refine bw ?_ | refine bA ?_ _)); refine bf ?_ N_bg.out _; (with_reducible repeat (first | refine bN ?_ _ | refine bw ?_ | refine bA ?_ _)); refine bf ?_ N_bg.out _; (with_reducible repeat (first | refine bN ?_ _ | refine bw ?_ | refine bA ?_ _)); refine bf ?_ N_bg.out _; (with_reducible repeat (first | refine bN ?_ _ | refine bw ?_ | refine bA ?_ _)); refine bf ?_ N_bg.out _; (with_reducible repeat (first | refine bN ?_ _ | refine bw ?_ | refine bA ?_ _)); refine bf ?_ N_bg.out _; (with_reducible repeat (first | refine bN ?_ _ | refine bw ?_ | refine bA ?_ _)); exact B_c.out) hb); have n5_ := Aside0.mk (bb (g := g_q) (o := .cells #[.int .i64 3, .int .i64 t225, .int .u32 t226, .int .u32 t227, .int .u16 t228] 27 (0, 0)) (by (with_reducible repeat (first | refine bN ?_ _ | refine bw ?_ | refine bA ?_ _)); refine bp (cs := #[.int .i64 t224, .int .i64 t225, .int .u32 t226, .int .u32 t227, .int .u16 t228]) ?_ 0 _ rfl; (with_reducible repeat (first | refine bN ?_ _ | refine bw ?_ | refine bA ?_ _)); refine bf ?_ NB229_223.out _; (with_reducible repeat (first | refine bN ?_ _ | refine bw ?_ | refine bA ?_ _)); refine bf ?_ NB229_217.out _; (with_reducible repeat (first | refine bN ?_ _ | refine bw ?_ | refine bA ?_ _)); refine bp (cs := #[.int .i64 t224, .int .i64 t225, .int .u32 t226, .int .u32 t227, .int .u16 0]) ?_ 4 _ rfl; (with_reducible repeat (first | refine bN ?_ _ | refine bw ?_ | refine bA ?_ _)); refine bp (cs := #[.int .i64 t224, .int .i64 t225, .int .u32 t226, .int .u32 0, .int .u16 0]) ?_ 3 _ rfl; (with_reducible repeat (first | refine bN ?_ _ | refine bw ?_ | refine bA ?_ _)); refine bp (cs := #[.int .i64 t224, .int .i64 t225, .int .u32 0, .int .u32 0, .int .u16 0]) ?_ 2 _ rfl; (with_reducible repeat (first | refine bN ?_ _ | refine bw ?_ | refine bA ?_ _)); refine bp (cs := #[.int .i64 t224, .int .i64 0, .int .u32 0, .int .u32 0, .int .u16 0]) ?_ 1 _ rfl; (with_reducible repeat (first | refine bN ?_ _ | refine bw ?_ | refine bA ?_ _)); refine bp (cs := #[.int .i64 0, .int .i64 0, .int .u32 0, .int .u32 0, .int .u16 0]) ?_ 0 _ rfl; (with_reducible repeat (first | refine bN ?_ _ | refine bw ?_ | refine bA ?_ _)); exact B_d.out) hb); have n6_ := Aside0.mk (below_step (by repeat (first | (with_reducible first | exact HB.out | apply bl | apply pN | apply b1 | refine bs ?_ G_y.out | refine bs ?_ G_0.out | refine bs ?_ G_2.out | refine bs ?_ G_4.out | refine bs ?_ GE223.out | refine bs ?_ GE229.out) | exact HB.out)) hb); clear B_o; clear B_r; clear B_t; clear B_b; clear B_c; clear B_d; clear HB; have B_o := n0_; have B_r := n1_; have B_t := n2_; have B_b := n3_; have B_c := n4_; have B_d := n5_; have HB := n6_; clear n0_ n1_ n2_ n3_ n4_ n5_ n6_; (try clear hb); (try clear hb2); (try clear hk); (try clear hi)) | ((with_reducible refine gate_dst (N := 11) rfl ?_); refine box_event ?hg (N := 11) ?hd (cs := #[.int .i64 0, .int .i64 0, .int .u32 0, .int .u32 0, .int .u16 0]) (t := 27) ?hr ?_; (case hd => rfl); (case hg => rfl); (case hr => first | (go_simp; done) | (go_simp; rfl)); intro g_v hg w58 hbox hb; have n0_ := Aside0.mk (bb (g := g_z) (o := .cells #[.int .i64 a0_0, .int .i64 a0_1, .int .u32 a0_2, .int .u32 a0_3, .int .u16 a0_4, .bool a0_5] 29 (0, 0)) (by (with_reducible repeat (first | refine bN ?_ _ | refine bw ?_ | refine bA ?_ _)); exact B_o.out) hb); have n1_ := Aside0.mk (bb (g := g_1) (o := .cells #[.int .i64 a1_0, .int .i64 a1_1, .int .u32 a1_2, .int .u32 a1_3, .int .u16 a1_4, .bool a1_5] 29 (0, 0)) (by (with_reducible repeat (first | refine bN ?_ _ | refine bw ?_ | refine bA ?_ _)); exact B_r.out) hb); have n2_ := Aside0.mk (bb (g := g_3) (o := .cells #[.int .i64 a2_0, .int .i64 a2_1, .int .u32 a2_2, .int .u32 a2_3, .int .u16 a2_4, .bool a2_5] 29 (0, 0)) (by (with_reducible repeat (first | refine bN ?_ _ | refine bw ?_ | refine bA ?_ _)); exact B_t.out) hb); have n3_ := Aside0.mk (bb (g := g_k) (o := .cells #[.int .i64 3, .int .i64 t213, .int .u32 t214, .int .u32 t215, .int .u16 t216] 27 (0, 0)) (by (with_reducible repeat (first | refine bN ?_ _ | refine bw ?_ | refine bA ?_ _)); exact B_b.out) hb); have n4_ := Aside0.mk (bb (g := g_n) (o := .cells #[.int .i64 3, .int .i64 t219, .int .u32 t220, .int .u32 t221, .int .u16 t222] 27 (0, 0)) (by (with_reducible repeat (first | refine bN ?_ _ | refine bw ?_ | refine bA ?_ _)); exact B_c.out) hb); have n5_ := Aside0.mk (bb (g := g_q) (o := .cells #[.int .i64 3, .int .i64 t225, .int .u32 t226, .int .u32 t227, .int .u16 t228] 27 (0, 0)) (by (with_reducible repeat (first | refine bN ?_ _ | refine bw ?_ | refine bA ?_ _)); exact B_d.out) hb); have n6_ := Aside0.mk (below_step (by repeat (first | (with_reducible first | exact HB.out | apply bl | apply pN | apply b1 | refine bs ?_ G_y.out | refine bs ?_ G_0.out | refine bs ?_ G_2.out | refine bs ?_ G_4.out | refine bs ?_ GE223.out | refine bs ?_ GE229.out) | exact HB.out)) hb); have n7_ := Aside0.mk (hbox); have n8_ := Aside0.mk ((by rw [hg]; exact (below_size (by repeat (first | (with_reducible first | exact HB.out | apply bl | apply pN | apply b1 | refine bs ?_ G_y.out | refine bs ?_ G_0.out | refine bs ?_ G_2.out | refine bs ?_ G_4.out | refine bs ?_ GE223.out | refine bs ?_ GE229.out) | exact HB.out))) : w.heap.size ≤ g_v)); have n9_ := Aside0.mk ((by rw [hg]; exact (below_size (by repeat (first | (with_reducible first | exact HB.out | apply bl | apply pN | apply b1 | refine bs ?_ G_y.out | refine bs ?_ G_0.out | refine bs ?_ G_2.out | refine bs ?_ G_4.out | refine bs ?_ GE223.out | refine bs ?_ GE229.out) | exact HB.out))) : w.heap.size ≤ g_v)); have n10_ := Aside0.mk ((by rw [hg]; exact Nat.ne_of_lt (blk_lt (g := g_z) (o := .cells #[.int .i64 a0_0, .int .i64 a0_1, .int .u32 a0_2, .int .u32 a0_3, .int .u16 a0_4, .bool a0_5] 29 (0, 0)) (by (with_reducible repeat (first | refine bN ?_ _ | refine bw ?_ | refine bA ?_ _)); exact B_o.out)) : g_z ≠ g_v)); have n11_ := Aside0.mk ((by rw [hg]; exact Nat.ne_of_gt (blk_lt (g := g_z) (o := .cells #[.int .i64 a0_0, .int .i64 a0_1, .int .u32 a0_2, .int .u32 a0_3, .int .u16 a0_4, .bool a0_5] 29 (0, 0)) (by (with_reducible repeat (first | refine bN ?_ _ | refine bw ?_ | refine bA ?_ _)); exact B_o.out)) : g_v ≠ g_z)); have n12_ := Aside0.mk ((by rw [hg]; exact Nat.ne_of_lt (blk_lt (g := g_1) (o := .cells #[.int .i64 a1_0, .int .i64 a1_1, .int .u32 a1_2, .int .u32 a1_3, .int .u16 a1_4, .bool a1_5] 29 (0, 0)) (by (with_reducible repeat (first | refine bN ?_ _ | refine bw ?_ | refine bA ?_ _)); exact B_r.out)) : g_1 ≠ g_v)); have n13_ := Aside0.mk ((by rw [hg]; exact Nat.ne_of_gt (blk_lt (g := g_1) (o := .cells #[.int .i64 a1_0, .int .i64 a1_1, .int .u32 a1_2, .int .u32 a1_3, .int .u16 a1_4, .bool a1_5] 29 (0, 0)) (by (with_reducible repeat (first | refine bN ?_ _ | refine bw ?_ | refine bA ?_ _)); exact B_r.out)) : g_v ≠ g_1)); have n14_ := Aside0.mk ((by rw [hg]; exact Nat.ne_of_lt (blk_lt (g := g_3) (o := .cells #[.int .i64 a2_0, .int .i64 a2_1, .int .u32 a2_2, .int .u32 a2_3, .int .u16 a2_4, .bool a2_5] 29 (0, 0)) (by (with_reducible repeat (first | refine bN ?_ _ | refine bw ?_ | refine bA ?_ _)); exact B_t.out)) : g_3 ≠ g_v)); have n15_ := Aside0.mk ((by rw [hg]; exact Nat.ne_of_gt (blk_lt (g := g_3) (o := .cells #[.int .i64 a2_0, .int .i64 a2_1, .int .u32 a2_2, .int .u32 a2_3, .int .u16 a2_4, .bool a2_5] 29 (0, 0)) (by (with_reducible repeat (first | refine bN ?_ _ | refine bw ?_ | refine bA ?_ _)); exact B_t.out)) : g_v ≠ g_3)); have n16_ := Aside0.mk ((by rw [hg]; exact Nat.ne_of_lt (blk_lt (g := g_k) (o := .cells #[.int .i64 3, .int .i64 t213, .int .u32 t214, .int .u32 t215, .int .u16 t216] 27 (0, 0)) (by (with_reducible repeat (first | refine bN ?_ _ | refine bw ?_ | refine bA ?_ _)); exact B_b.out)) : g_k ≠ g_v)); have n17_ := Aside0.mk ((by rw [hg]; exact Nat.ne_of_gt (blk_lt (g := g_k) (o := .cells #[.int .i64 3, .int .i64 t213, .int .u32 t214, .int .u32 t215, .int .u16 t216] 27 (0, 0)) (by (with_reducible repeat (first | refine bN ?_ _ | refine bw ?_ | refine bA ?_ _)); exact B_b.out)) : g_v ≠ g_k)); have n18_ := Aside0.mk ((by rw [hg]; exact Nat.ne_of_lt (blk_lt (g := g_n) (o := .cells #[.int .i64 3, .int .i64 t219, .int .u32 t220, .int .u32 t221, .int .u16 t222] 27 (0, 0)) (by (with_reducible repeat (first | refine bN ?_ _ | refine bw ?_ | refine bA ?_ _)); exact B_c.out)) : g_n ≠ g_v)); have n19_ := Aside0.mk ((by rw [hg]; exact Nat.ne_of_gt (blk_lt (g := g_n) (o := .cells #[.int .i64 3, .int .i64 t219, .int .u32 t220, .int .u32 t221, .int .u16 t222] 27 (0, 0)) (by (with_reducible repeat (first | refine bN ?_ _ | refine bw ?_ | refine bA ?_ _)); exact B_c.out)) : g_v ≠ g_n)); have n20_ := Aside0.mk ((by rw [hg]; exact Nat.ne_of_lt (blk_lt (g := g_q) (o := .cells #[.int .i64 3, .int .i64 t225, .int .u32 t226, .int .u32 t227, .int .u16 t228] 27 (0, 0)) (by (with_reducible repeat (first | refine bN ?_ _ | refine bw ?_ | refine bA ?_ _)); exact B_d.out)) : g_q ≠ g_v)); have n21_ := Aside0.mk ((by rw [hg]; exact Nat.ne_of_gt (blk_lt (g := g_q) (o := .cells #[.int .i64 3, .int .i64 t225, .int .u32 t226, .int .u32 t227, .int .u16 t228] 27 (0, 0)) (by (with_reducible repeat (first | refine bN ?_ _ | refine bw ?_ | refine bA ?_ _)); exact B_d.out)) : g_v ≠ g_q)); clear B_o; clear B_r; clear B_t; clear B_b; clear B_c; clear B_d; clear HB; have B_o := n0_; have B_r := n1_; have B_t := n2_; have B_b := n3_; have B_c := n4_; have B_d := n5_; have HB := n6_; have B_e := n7_; have GW235 := n8_; have GE235 := n9_; have NB208_235 := n10_; have NB235_208 := n11_; have NB209_235 := n12_; have NB235_209 := n13_; have NB210_235 := n14_; have NB235_210 := n15_; have NB217_235 := n16_; have NB235_217 := n17_; have NB223_235 := n18_; have NB235_223 := n19_; have NB229_235 := n20_; have NB235_229 := n21_; clear n0_ n1_ n2_ n3_ n4_ n5_ n6_ n7_ n8_ n9_ n10_ n11_ n12_ n13_ n14_ n15_ n16_ n17_ n18_ n19_ n20_ n21_; clear hb hbox hg; have hnb59 := NB235_208.out; have hnc59 := NB208_235.out; have hnb60 := NB235_209.out; have hnc60 := NB209_235.out; have hnb61 := NB235_210.out; have hnc61 := NB210_235.out; have hnb62 := NB235_217.out; have hnc62 := NB217_235.out; have hnb63 := NB235_223.out; have hnc63 := NB223_235.out; have hnb64 := NB235_229.out; have hnc64 := NB229_235.out; have hcz65_0 : w58.cell? ⟨g_v, 0, none⟩ = some (.int .i64 0) := (bc B_e.out 0).trans rfl; have hcz65_1 : w58.cell? ⟨g_v, 1, none⟩ = some (.int .i64 0) := (bc B_e.out 1).trans rfl; have hcz65_2 : w58.cell? ⟨g_v, 2, none⟩ = some (.int .u32 0) := (bc B_e.out 2).trans rfl; have hcz65_3 : w58.cell? ⟨g_v, 3, none⟩ = some (.int .u32 0) := (bc B_e.out 3).trans rfl; have hcz65_4 : w58.cell? ⟨g_v, 4, none⟩ = some (.int .u16 0) := (bc B_e.out 4).trans rfl; have hfz65_0 := bz B_e.out 0; have hfz65_1 := bz B_e.out 1; have hfz65_2 := bz B_e.out 2; have hfz65_3 := bz B_e.out 3; have hfz65_4 := bz B_e.out 4; have hcz66_0 : w58.cell? ⟨g_q, 0, none⟩ = some (.int .i64 3) := (bc B_d.out 0).trans rfl; have hcz66_1 : w58.cell? ⟨g_q, 1, none⟩ = some (.int .i64 t225) := (bc B_d.out 1).trans rfl; have hcz66_2 : w58.cell? ⟨g_q, 2, none⟩ = some (.int .u32 t226) := (bc B_d.out 2).trans rfl; have hcz66_3 : w58.cell? ⟨g_q, 3, none⟩ = some (.int .u32 t227) := (bc B_d.out 3).trans rfl; have hcz66_4 : w58.cell? ⟨g_q, 4, none⟩ = some (.int .u16 t228) := (bc B_d.out 4).trans rfl; have hfz66_0 := bz B_d.out 0; have hfz66_1 := bz B_d.out 1; have hfz66_2 := bz B_d.out 2; have hfz66_3 := bz B_d.out 3; have hfz66_4 := bz B_d.out 4) | ((with_reducible refine gate_callee (f := 20) rfl ?_); refine goesL_ (some 30) rfl rfl Try.func20 (by kernel_rfl) rfl #[.agg #[.int .i64 t230, .int .i64 t231, .int .u32 t232, .int .u32 t233, .int .u16 t234], .agg #[.int .i64 3, .int .i64 t225, .int .u32 t226, .int .u32 t227, .int .u16 t228]] rfl (by (try simp only [List.map_toArray, List.map_cons, List.map_nil]); first | done | rfl | (simp only [List.length_drop, List.length_take]; rfl)) ?_; (with_reducible refine (record_Join.calls k t230 t231 t232 t233 t234 3 t225 t226 t227 t228 t236 t237 t238 t239 t240 _ A10.out).mono ?_); rintro e w67 ⟨rfl, hb⟩; refine ⟨_, rfl, ?_⟩; have n0_ := Aside0.mk (bb (g := g_z) (o := .cells #[.int .i64 a0_0, .int .i64 a0_1, .int .u32 a0_2, .int .u32 a0_3, .int .u16 a0_4, .bool a0_5] 29 (0, 0)) (by (with_reducible repeat (first | refine bN ?_ _ | refine bw ?_ | refine bA ?_ _)); refine bf ?_ NB208_235.out _; (with_reducible repeat (first | refine bN ?_ _ | refine bw ?_ | refine bA ?_ _)); refine bf ?_ NB208_235.out _; (with_reducible repeat (first | refine bN ?_ _ | refine bw ?_ | refine bA ?_ _)); refine bf ?_ NB208_235.out _; (with_reducible repeat (first | refine bN ?_ _ | refine bw ?_ | refine bA ?_ _)); refine bf ?_ NB208_235.out _; (with_reducible repeat (first | refine bN ?_ _ | refine bw ?_ | refine bA ?_ _)); refine bf ?_ NB208_235.out _; (with_reducible repeat (first | refine bN ?_ _ | refine bw ?_ | refine bA ?_ _)); exact B_o.out) hb); have n1_ := Aside0.mk (bb (g := g_1) (o := .cells #[.int .i64 a1_0, .int .i64 a1_1, .int .u32 a1_2, .int .u32 a1_3, .int .u16 a1_4, .bool a1_5] 29 (0, 0)) (by (with_reducible repeat (first | refine bN ?_ _ | refine bw ?_ | refine bA ?_ _)); refine bf ?_ NB209_235.out _; (with_reducible repeat (first | refine bN ?_ _ | refine bw ?_ | refine bA ?_ _)); refine bf ?_ NB209_235.out _; (with_reducible repeat (first | refine bN ?_ _ | refine bw ?_ | refine bA ?_ _)); refine bf ?_ NB209_235.out _; (with_reducible repeat (first | refine bN ?_ _ | refine bw ?_ | refine bA ?_ _)); refine bf ?_ NB209_235.out _; (with_reducible repeat (first | refine bN ?_ _ | refine bw ?_ | refine bA ?_ _)); refine bf ?_ NB209_235.out _; (with_reducible repeat (first | refine bN ?_ _ | refine bw ?_ | refine bA ?_ _)); exact B_r.out) hb); have n2_ := Aside0.mk (bb (g := g_3) (o := .cells #[.int .i64 a2_0, .int .i64 a2_1, .int .u32 a2_2, .int .u32 a2_3, .int .u16 a2_4, .bool a2_5] 29 (0, 0)) (by (with_reducible repeat (first | refine bN ?_ _ | refine bw ?_ | refine bA ?_ _)); refine bf ?_ NB210_235.out _; (with_reducible repeat (first | refine bN ?_ _ | refine bw ?_ | refine bA ?_ _)); refine bf ?_ NB210_235.out _; (with_reducible repeat (first | refine bN ?_ _ | refine bw ?_ | refine bA ?_ _)); refine bf ?_ NB210_235.out _; (with_reducible repeat (first | refine bN ?_ _ | refine bw ?_ | refine bA ?_ _)); refine bf ?_ NB210_235.out _; (with_reducible repeat (first | refine bN ?_ _ | refine bw ?_ | refine bA ?_ _)); refine bf ?_ NB210_235.out _; (with_reducible repeat (first | refine bN ?_ _ | refine bw ?_ | refine bA ?_ _)); exact B_t.out) hb); have n3_ := Aside0.mk (bb (g := g_k) (o := .cells #[.int .i64 3, .int .i64 t213, .int .u32 t214, .int .u32 t215, .int .u16 t216] 27 (0, 0)) (by (with_reducible repeat (first | refine bN ?_ _ | refine bw ?_ | refine bA ?_ _)); refine bf ?_ NB217_235.out _; (with_reducible repeat (first | refine bN ?_ _ | refine bw ?_ | refine bA ?_ _)); refine bf ?_ NB217_235.out _; (with_reducible repeat (first | refine bN ?_ _ | refine bw ?_ | refine bA ?_ _)); refine bf ?_ NB217_235.out _; (with_reducible repeat (first | refine bN ?_ _ | refine bw ?_ | refine bA ?_ _)); refine bf ?_ NB217_235.out _; (with_reducible repeat (first | refine bN ?_ _ | refine bw ?_ | refine bA ?_ _)); refine bf ?_ NB217_235.out _; (with_reducible repeat (first | refine bN ?_ _ | refine bw ?_ | refine bA ?_ _)); exact B_b.out) hb); have n4_ := Aside0.mk (bb (g := g_n) (o := .cells #[.int .i64 3, .int .i64 t219, .int .u32 t220, .int .u32 t221, .int .u16 t222] 27 (0, 0)) (by (with_reducible repeat (first | refine bN ?_ _ | refine bw ?_ | refine bA ?_ _)); refine bf ?_ NB223_235.out _; (with_reducible repeat (first | refine bN ?_ _ | refine bw ?_ | refine bA ?_ _)); refine bf ?_ NB223_235.out _; (with_reducible repeat (first | refine bN ?_ _ | refine bw ?_ | refine bA ?_ _)); refine bf ?_ NB223_235.out _; (with_reducible repeat (first | refine bN ?_ _ | refine bw ?_ | refine bA ?_ _)); refine bf ?_ NB223_235.out _; (with_reducible repeat (first | refine bN ?_ _ | refine bw ?_ | refine bA ?_ _)); refine bf ?_ NB223_235.out _; (with_reducible repeat (first | refine bN ?_ _ | refine bw ?_ | refine bA ?_ _)); exact B_c.out) hb); have n5_ := Aside0.mk (bb (g := g_q) (o := .cells #[.int .i64 3, .int .i64 t225, .int .u32 t226, .int .u32 t227, .int .u16 t228] 27 (0, 0)) (by (with_reducible repeat (first | refine bN ?_ _ | refine bw ?_ | refine bA ?_ _)); refine bf ?_ NB229_235.out _; (with_reducible repeat (first | refine bN ?_ _ | refine bw ?_ | refine bA ?_ _)); refine bf ?_ NB229_235.out _; (with_reducible repeat (first | refine bN ?_ _ | refine bw ?_ | refine bA ?_ _)); refine bf ?_ NB229_235.out _; (with_reducible repeat (first | refine bN ?_ _ | refine bw ?_ | refine bA ?_ _)); refine bf ?_ NB229_235.out _; (with_reducible repeat (first | refine bN ?_ _ | refine bw ?_ | refine bA ?_ _)); refine bf ?_ NB229_235.out _; (with_reducible repeat (first | refine bN ?_ _ | refine bw ?_ | refine bA ?_ _)); exact B_d.out) hb); have n6_ := Aside0.mk (bb (g := g_v) (o := .cells #[.int .i64 t230, .int .i64 t231, .int .u32 t232, .int .u32 t233, .int .u16 t234] 27 (0, 0)) (by (with_reducible repeat (first | refine bN ?_ _ | refine bw ?_ | refine bA ?_ _)); refine bp (cs := #[.int .i64 t230, .int .i64 t231, .int .u32 t232, .int .u32 t233, .int .u16 0]) ?_ 4 _ rfl; (with_reducible repeat (first | refine bN ?_ _ | refine bw ?_ | refine bA ?_ _)); refine bp (cs := #[.int .i64 t230, .int .i64 t231, .int .u32 t232, .int .u32 0, .int .u16 0]) ?_ 3 _ rfl; (with_reducible repeat (first | refine bN ?_ _ | refine bw ?_ | refine bA ?_ _)); refine bp (cs := #[.int .i64 t230, .int .i64 t231, .int .u32 0, .int .u32 0, .int .u16 0]) ?_ 2 _ rfl; (with_reducible repeat (first | refine bN ?_ _ | refine bw ?_ | refine bA ?_ _)); refine bp (cs := #[.int .i64 t230, .int .i64 0, .int .u32 0, .int .u32 0, .int .u16 0]) ?_ 1 _ rfl; (with_reducible repeat (first | refine bN ?_ _ | refine bw ?_ | refine bA ?_ _)); refine bp (cs := #[.int .i64 0, .int .i64 0, .int .u32 0, .int .u32 0, .int .u16 0]) ?_ 0 _ rfl; (with_reducible repeat (first | refine bN ?_ _ | refine bw ?_ | refine bA ?_ _)); exact B_e.out) hb); have n7_ := Aside0.mk (below_step (by repeat (first | (with_reducible first | exact HB.out | apply bl | apply pN | apply b1 | refine bs ?_ G_y.out | refine bs ?_ G_0.out | refine bs ?_ G_2.out | refine bs ?_ G_4.out | refine bs ?_ GE223.out | refine bs ?_ GE229.out | refine bs ?_ GE235.out) | exact HB.out)) hb); clear B_o; clear B_r; clear B_t; clear B_b; clear B_c; clear B_d; clear B_e; clear HB; have B_o := n0_; have B_r := n1_; have B_t := n2_; have B_b := n3_; have B_c := n4_; have B_d := n5_; have B_e := n6_; have HB := n7_; clear n0_ n1_ n2_ n3_ n4_ n5_ n6_ n7_; (try clear hb); (try clear hb2); (try clear hk); (try clear hi)) | ((with_reducible refine gate_dst (N := 12) rfl ?_); refine box_event ?hg (N := 12) ?hd (cs := #[.int .i64 0, .int .i64 0, .int .u32 0, .int .u32 0, .int .u16 0]) (t := 27) ?hr ?_; (case hd => rfl); (case hg => rfl); (case hr => first | (go_simp; done) | (go_simp; rfl)); intro g_i hg w68 hbox hb; have n0_ := Aside0.mk (bb (g := g_z) (o := .cells #[.int .i64 a0_0, .int .i64 a0_1, .int .u32 a0_2, .int .u32 a0_3, .int .u16 a0_4, .bool a0_5] 29 (0, 0)) (by (with_reducible repeat (first | refine bN ?_ _ | refine bw ?_ | refine bA ?_ _)); exact B_o.out) hb); have n1_ := Aside0.mk (bb (g := g_1) (o := .cells #[.int .i64 a1_0, .int .i64 a1_1, .int .u32 a1_2, .int .u32 a1_3, .int .u16 a1_4, .bool a1_5] 29 (0, 0)) (by (with_reducible repeat (first | refine bN ?_ _ | refine bw ?_ | refine bA ?_ _)); exact B_r.out) hb); have n2_ := Aside0.mk (bb (g := g_3) (o := .cells #[.int .i64 a2_0, .int .i64 a2_1, .int .u32 a2_2, .int .u32 a2_3, .int .u16 a2_4, .bool a2_5] 29 (0, 0)) (by (with_reducible repeat (first | refine bN ?_ _ | refine bw ?_ | refine bA ?_ _)); exact B_t.out) hb); have n3_ := Aside0.mk (bb (g := g_k) (o := .cells #[.int .i64 3, .int .i64 t213, .int .u32 t214, .int .u32 t215, .int .u16 t216] 27 (0, 0)) (by (with_reducible repeat (first | refine bN ?_ _ | refine bw ?_ | refine bA ?_ _)); exact B_b.out) hb); have n4_ := Aside0.mk (bb (g := g_n) (o := .cells #[.int .i64 3, .int .i64 t219, .int .u32 t220, .int .u32 t221, .int .u16 t222] 27 (0, 0)) (by (with_reducible repeat (first | refine bN ?_ _ | refine bw ?_ | refine bA ?_ _)); exact B_c.out) hb); have n5_ := Aside0.mk (bb (g := g_q) (o := .cells #[.int .i64 3, .int .i64 t225, .int .u32 t226, .int .u32 t227, .int .u16 t228] 27 (0, 0)) (by (with_reducible repeat (first | refine bN ?_ _ | refine bw ?_ | refine bA ?_ _)); exact B_d.out) hb); have n6_ := Aside0.mk (bb (g := g_v) (o := .cells #[.int .i64 t230, .int .i64 t231, .int .u32 t232, .int .u32 t233, .int .u16 t234] 27 (0, 0)) (by (with_reducible repeat (first | refine bN ?_ _ | refine bw ?_ | refine bA ?_ _)); exact B_e.out) hb); have n7_ := Aside0.mk (below_step (by repeat (first | (with_reducible first | exact HB.out | apply bl | apply pN | apply b1 | refine bs ?_ G_y.out | refine bs ?_ G_0.out | refine bs ?_ G_2.out | refine bs ?_ G_4.out | refine bs ?_ GE223.out | refine bs ?_ GE229.out | refine bs ?_ GE235.out) | exact HB.out)) hb); have n8_ := Aside0.mk (hbox); have n9_ := Aside0.mk ((by rw [hg]; exact (below_size (by repeat (first | (with_reducible first | exact HB.out | apply bl | apply pN | apply b1 | refine bs ?_ G_y.out | refine bs ?_ G_0.out | refine bs ?_ G_2.out | refine bs ?_ G_4.out | refine bs ?_ GE223.out | refine bs ?_ GE229.out | refine bs ?_ GE235.out) | exact HB.out))) : w.heap.size ≤ g_i)); have n10_ := Aside0.mk ((by rw [hg]; exact (below_size (by repeat (first | (with_reducible first | exact HB.out | apply bl | apply pN | apply b1 | refine bs ?_ G_y.out | refine bs ?_ G_0.out | refine bs ?_ G_2.out | refine bs ?_ G_4.out | refine bs ?_ GE223.out | refine bs ?_ GE229.out | refine bs ?_ GE235.out) | exact HB.out))) : w.heap.size ≤ g_i)); have n11_ := Aside0.mk ((by rw [hg]; exact Nat.ne_of_lt (blk_lt (g := g_z) (o := .cells #[.int .i64 a0_0, .int .i64 a0_1, .int .u32 a0_2, .int .u32 a0_3, .int .u16 a0_4, .bool a0_5] 29 (0, 0)) (by (with_reducible repeat (first | refine bN ?_ _ | refine bw ?_ | refine bA ?_ _)); exact B_o.out)) : g_z ≠ g_i)); have n12_ := Aside0.mk ((by rw [hg]; exact Nat.ne_of_gt (blk_lt (g := g_z) (o := .cells #[.int .i64 a0_0, .int .i64 a0_1, .int .u32 a0_2, .int .u32 a0_3, .int .u16 a0_4, .bool a0_5] 29 (0, 0)) (by (with_reducible repeat (first | refine bN ?_ _ | refine bw ?_ | refine bA ?_ _)); exact B_o.out)) : g_i ≠ g_z)); have n13_ := Aside0.mk ((by rw [hg]; exact Nat.ne_of_lt (blk_lt (g := g_1) (o := .cells #[.int .i64 a1_0, .int .i64 a1_1, .int .u32 a1_2, .int .u32 a1_3, .int .u16 a1_4, .bool a1_5] 29 (0, 0)) (by (with_reducible repeat (first | refine bN ?_ _ | refine bw ?_ | refine bA ?_ _)); exact B_r.out)) : g_1 ≠ g_i)); have n14_ := Aside0.mk ((by rw [hg]; exact Nat.ne_of_gt (blk_lt (g := g_1) (o := .cells #[.int .i64 a1_0, .int .i64 a1_1, .int .u32 a1_2, .int .u32 a1_3, .int .u16 a1_4, .bool a1_5] 29 (0, 0)) (by (with_reducible repeat (first | refine bN ?_ _ | refine bw ?_ | refine bA ?_ _)); exact B_r.out)) : g_i ≠ g_1)); have n15_ := Aside0.mk ((by rw [hg]; exact Nat.ne_of_lt (blk_lt (g := g_3) (o := .cells #[.int .i64 a2_0, .int .i64 a2_1, .int .u32 a2_2, .int .u32 a2_3, .int .u16 a2_4, .bool a2_5] 29 (0, 0)) (by (with_reducible repeat (first | refine bN ?_ _ | refine bw ?_ | refine bA ?_ _)); exact B_t.out)) : g_3 ≠ g_i)); have n16_ := Aside0.mk ((by rw [hg]; exact Nat.ne_of_gt (blk_lt (g := g_3) (o := .cells #[.int .i64 a2_0, .int .i64 a2_1, .int .u32 a2_2, .int .u32 a2_3, .int .u16 a2_4, .bool a2_5] 29 (0, 0)) (by (with_reducible repeat (first | refine bN ?_ _ | refine bw ?_ | refine bA ?_ _)); exact B_t.out)) : g_i ≠ g_3)); have n17_ := Aside0.mk ((by rw [hg]; exact Nat.ne_of_lt (blk_lt (g := g_k) (o := .cells #[.int .i64 3, .int .i64 t213, .int .u32 t214, .int .u32 t215, .int .u16 t216] 27 (0, 0)) (by (with_reducible repeat (first | refine bN ?_ _ | refine bw ?_ | refine bA ?_ _)); exact B_b.out)) : g_k ≠ g_i)); have n18_ := Aside0.mk ((by rw [hg]; exact Nat.ne_of_gt (blk_lt (g := g_k) (o := .cells #[.int .i64 3, .int .i64 t213, .int .u32 t214, .int .u32 t215, .int .u16 t216] 27 (0, 0)) (by (with_reducible repeat (first | refine bN ?_ _ | refine bw ?_ | refine bA ?_ _)); exact B_b.out)) : g_i ≠ g_k)); have n19_ := Aside0.mk ((by rw [hg]; exact Nat.ne_of_lt (blk_lt (g := g_n) (o := .cells #[.int .i64 3, .int .i64 t219, .int .u32 t220, .int .u32 t221, .int .u16 t222] 27 (0, 0)) (by (with_reducible repeat (first | refine bN ?_ _ | refine bw ?_ | refine bA ?_ _)); exact B_c.out)) : g_n ≠ g_i)); have n20_ := Aside0.mk ((by rw [hg]; exact Nat.ne_of_gt (blk_lt (g := g_n) (o := .cells #[.int .i64 3, .int .i64 t219, .int .u32 t220, .int .u32 t221, .int .u16 t222] 27 (0, 0)) (by (with_reducible repeat (first | refine bN ?_ _ | refine bw ?_ | refine bA ?_ _)); exact B_c.out)) : g_i ≠ g_n)); have n21_ := Aside0.mk ((by rw [hg]; exact Nat.ne_of_lt (blk_lt (g := g_q) (o := .cells #[.int .i64 3, .int .i64 t225, .int .u32 t226, .int .u32 t227, .int .u16 t228] 27 (0, 0)) (by (with_reducible repeat (first | refine bN ?_ _ | refine bw ?_ | refine bA ?_ _)); exact B_d.out)) : g_q ≠ g_i)); have n22_ := Aside0.mk ((by rw [hg]; exact Nat.ne_of_gt (blk_lt (g := g_q) (o := .cells #[.int .i64 3, .int .i64 t225, .int .u32 t226, .int .u32 t227, .int .u16 t228] 27 (0, 0)) (by (with_reducible repeat (first | refine bN ?_ _ | refine bw ?_ | refine bA ?_ _)); exact B_d.out)) : g_i ≠ g_q)); have n23_ := Aside0.mk ((by rw [hg]; exact Nat.ne_of_lt (blk_lt (g := g_v) (o := .cells #[.int .i64 t230, .int .i64 t231, .int .u32 t232, .int .u32 t233, .int .u16 t234] 27 (0, 0)) (by (with_reducible repeat (first | refine bN ?_ _ | refine bw ?_ | refine bA ?_ _)); exact B_e.out)) : g_v ≠ g_i)); have n24_ := Aside0.mk ((by rw [hg]; exact Nat.ne_of_gt (blk_lt (g := g_v) (o := .cells #[.int .i64 t230, .int .i64 t231, .int .u32 t232, .int .u32 t233, .int .u16 t234] 27 (0, 0)) (by (with_reducible repeat (first | refine bN ?_ _ | refine bw ?_ | refine bA ?_ _)); exact B_e.out)) : g_i ≠ g_v)); clear B_o; clear B_r; clear B_t; clear B_b; clear B_c; clear B_d; clear B_e; clear HB; have B_o := n0_; have B_r := n1_; have B_t := n2_; have B_b := n3_; have B_c := n4_; have B_d := n5_; have B_e := n6_; have HB := n7_; have B_f := n8_; have GW241 := n9_; have GE241 := n10_; have NB208_241 := n11_; have NB241_208 := n12_; have NB209_241 := n13_; have NB241_209 := n14_; have NB210_241 := n15_; have NB241_210 := n16_; have NB217_241 := n17_; have NB241_217 := n18_; have NB223_241 := n19_; have NB241_223 := n20_; have NB229_241 := n21_; have NB241_229 := n22_; have NB235_241 := n23_; have NB241_235 := n24_; clear n0_ n1_ n2_ n3_ n4_ n5_ n6_ n7_ n8_ n9_ n10_ n11_ n12_ n13_ n14_ n15_ n16_ n17_ n18_ n19_ n20_ n21_ n22_ n23_ n24_; clear hb hbox hg; have hnb69 := NB241_208.out; have hnc69 := NB208_241.out; have hnb70 := NB241_209.out; have hnc70 := NB209_241.out; have hnb71 := NB241_210.out; have hnc71 := NB210_241.out; have hnb72 := NB241_217.out; have hnc72 := NB217_241.out; have hnb73 := NB241_223.out; have hnc73 := NB223_241.out; have hnb74 := NB241_229.out; have hnc74 := NB229_241.out; have hnb75 := NB241_235.out; have hnc75 := NB235_241.out; have hcz76_0 : w68.cell? ⟨g_i, 0, none⟩ = some (.int .i64 0) := (bc B_f.out 0).trans rfl; have hcz76_1 : w68.cell? ⟨g_i, 1, none⟩ = some (.int .i64 0) := (bc B_f.out 1).trans rfl; have hcz76_2 : w68.cell? ⟨g_i, 2, none⟩ = some (.int .u32 0) := (bc B_f.out 2).trans rfl; have hcz76_3 : w68.cell? ⟨g_i, 3, none⟩ = some (.int .u32 0) := (bc B_f.out 3).trans rfl; have hcz76_4 : w68.cell? ⟨g_i, 4, none⟩ = some (.int .u16 0) := (bc B_f.out 4).trans rfl; have hfz76_0 := bz B_f.out 0; have hfz76_1 := bz B_f.out 1; have hfz76_2 := bz B_f.out 2; have hfz76_3 := bz B_f.out 3; have hfz76_4 := bz B_f.out 4))
  have n0_ : Aside0 ((((((w68.setCell ⟨g_i, 0, none⟩ (.int .i64 t236)).setCell ⟨g_i, 1, none⟩ (.int .i64 t237)).setCell ⟨g_i, 2, none⟩ (.int .u32 t238)).setCell ⟨g_i, 3, none⟩ (.int .u32 t239)).setCell ⟨g_i, 4, none⟩ (.int .u16 t240)).heap[g_z]? = some (.cells #[.int .i64 a0_0, .int .i64 a0_1, .int .u32 a0_2, .int .u32 a0_3, .int .u16 a0_4, .bool a0_5] 29 (0, 0))) := ⟨by (with_reducible repeat (first | refine bN ?_ _ | refine bw ?_ | refine bA ?_ _)); refine bf ?_ NB208_241.out _; (with_reducible repeat (first | refine bN ?_ _ | refine bw ?_ | refine bA ?_ _)); refine bf ?_ NB208_241.out _; (with_reducible repeat (first | refine bN ?_ _ | refine bw ?_ | refine bA ?_ _)); refine bf ?_ NB208_241.out _; (with_reducible repeat (first | refine bN ?_ _ | refine bw ?_ | refine bA ?_ _)); refine bf ?_ NB208_241.out _; (with_reducible repeat (first | refine bN ?_ _ | refine bw ?_ | refine bA ?_ _)); refine bf ?_ NB208_241.out _; (with_reducible repeat (first | refine bN ?_ _ | refine bw ?_ | refine bA ?_ _)); exact B_o.out⟩
  have n1_ : Aside0 ((((((w68.setCell ⟨g_i, 0, none⟩ (.int .i64 t236)).setCell ⟨g_i, 1, none⟩ (.int .i64 t237)).setCell ⟨g_i, 2, none⟩ (.int .u32 t238)).setCell ⟨g_i, 3, none⟩ (.int .u32 t239)).setCell ⟨g_i, 4, none⟩ (.int .u16 t240)).heap[g_1]? = some (.cells #[.int .i64 a1_0, .int .i64 a1_1, .int .u32 a1_2, .int .u32 a1_3, .int .u16 a1_4, .bool a1_5] 29 (0, 0))) := ⟨by (with_reducible repeat (first | refine bN ?_ _ | refine bw ?_ | refine bA ?_ _)); refine bf ?_ NB209_241.out _; (with_reducible repeat (first | refine bN ?_ _ | refine bw ?_ | refine bA ?_ _)); refine bf ?_ NB209_241.out _; (with_reducible repeat (first | refine bN ?_ _ | refine bw ?_ | refine bA ?_ _)); refine bf ?_ NB209_241.out _; (with_reducible repeat (first | refine bN ?_ _ | refine bw ?_ | refine bA ?_ _)); refine bf ?_ NB209_241.out _; (with_reducible repeat (first | refine bN ?_ _ | refine bw ?_ | refine bA ?_ _)); refine bf ?_ NB209_241.out _; (with_reducible repeat (first | refine bN ?_ _ | refine bw ?_ | refine bA ?_ _)); exact B_r.out⟩
  have n2_ : Aside0 ((((((w68.setCell ⟨g_i, 0, none⟩ (.int .i64 t236)).setCell ⟨g_i, 1, none⟩ (.int .i64 t237)).setCell ⟨g_i, 2, none⟩ (.int .u32 t238)).setCell ⟨g_i, 3, none⟩ (.int .u32 t239)).setCell ⟨g_i, 4, none⟩ (.int .u16 t240)).heap[g_3]? = some (.cells #[.int .i64 a2_0, .int .i64 a2_1, .int .u32 a2_2, .int .u32 a2_3, .int .u16 a2_4, .bool a2_5] 29 (0, 0))) := ⟨by (with_reducible repeat (first | refine bN ?_ _ | refine bw ?_ | refine bA ?_ _)); refine bf ?_ NB210_241.out _; (with_reducible repeat (first | refine bN ?_ _ | refine bw ?_ | refine bA ?_ _)); refine bf ?_ NB210_241.out _; (with_reducible repeat (first | refine bN ?_ _ | refine bw ?_ | refine bA ?_ _)); refine bf ?_ NB210_241.out _; (with_reducible repeat (first | refine bN ?_ _ | refine bw ?_ | refine bA ?_ _)); refine bf ?_ NB210_241.out _; (with_reducible repeat (first | refine bN ?_ _ | refine bw ?_ | refine bA ?_ _)); refine bf ?_ NB210_241.out _; (with_reducible repeat (first | refine bN ?_ _ | refine bw ?_ | refine bA ?_ _)); exact B_t.out⟩
  have n3_ : Aside0 ((((((w68.setCell ⟨g_i, 0, none⟩ (.int .i64 t236)).setCell ⟨g_i, 1, none⟩ (.int .i64 t237)).setCell ⟨g_i, 2, none⟩ (.int .u32 t238)).setCell ⟨g_i, 3, none⟩ (.int .u32 t239)).setCell ⟨g_i, 4, none⟩ (.int .u16 t240)).heap[g_k]? = some (.cells #[.int .i64 3, .int .i64 t213, .int .u32 t214, .int .u32 t215, .int .u16 t216] 27 (0, 0))) := ⟨by (with_reducible repeat (first | refine bN ?_ _ | refine bw ?_ | refine bA ?_ _)); refine bf ?_ NB217_241.out _; (with_reducible repeat (first | refine bN ?_ _ | refine bw ?_ | refine bA ?_ _)); refine bf ?_ NB217_241.out _; (with_reducible repeat (first | refine bN ?_ _ | refine bw ?_ | refine bA ?_ _)); refine bf ?_ NB217_241.out _; (with_reducible repeat (first | refine bN ?_ _ | refine bw ?_ | refine bA ?_ _)); refine bf ?_ NB217_241.out _; (with_reducible repeat (first | refine bN ?_ _ | refine bw ?_ | refine bA ?_ _)); refine bf ?_ NB217_241.out _; (with_reducible repeat (first | refine bN ?_ _ | refine bw ?_ | refine bA ?_ _)); exact B_b.out⟩
  have n4_ : Aside0 ((((((w68.setCell ⟨g_i, 0, none⟩ (.int .i64 t236)).setCell ⟨g_i, 1, none⟩ (.int .i64 t237)).setCell ⟨g_i, 2, none⟩ (.int .u32 t238)).setCell ⟨g_i, 3, none⟩ (.int .u32 t239)).setCell ⟨g_i, 4, none⟩ (.int .u16 t240)).heap[g_n]? = some (.cells #[.int .i64 3, .int .i64 t219, .int .u32 t220, .int .u32 t221, .int .u16 t222] 27 (0, 0))) := ⟨by (with_reducible repeat (first | refine bN ?_ _ | refine bw ?_ | refine bA ?_ _)); refine bf ?_ NB223_241.out _; (with_reducible repeat (first | refine bN ?_ _ | refine bw ?_ | refine bA ?_ _)); refine bf ?_ NB223_241.out _; (with_reducible repeat (first | refine bN ?_ _ | refine bw ?_ | refine bA ?_ _)); refine bf ?_ NB223_241.out _; (with_reducible repeat (first | refine bN ?_ _ | refine bw ?_ | refine bA ?_ _)); refine bf ?_ NB223_241.out _; (with_reducible repeat (first | refine bN ?_ _ | refine bw ?_ | refine bA ?_ _)); refine bf ?_ NB223_241.out _; (with_reducible repeat (first | refine bN ?_ _ | refine bw ?_ | refine bA ?_ _)); exact B_c.out⟩
  have n5_ : Aside0 ((((((w68.setCell ⟨g_i, 0, none⟩ (.int .i64 t236)).setCell ⟨g_i, 1, none⟩ (.int .i64 t237)).setCell ⟨g_i, 2, none⟩ (.int .u32 t238)).setCell ⟨g_i, 3, none⟩ (.int .u32 t239)).setCell ⟨g_i, 4, none⟩ (.int .u16 t240)).heap[g_q]? = some (.cells #[.int .i64 3, .int .i64 t225, .int .u32 t226, .int .u32 t227, .int .u16 t228] 27 (0, 0))) := ⟨by (with_reducible repeat (first | refine bN ?_ _ | refine bw ?_ | refine bA ?_ _)); refine bf ?_ NB229_241.out _; (with_reducible repeat (first | refine bN ?_ _ | refine bw ?_ | refine bA ?_ _)); refine bf ?_ NB229_241.out _; (with_reducible repeat (first | refine bN ?_ _ | refine bw ?_ | refine bA ?_ _)); refine bf ?_ NB229_241.out _; (with_reducible repeat (first | refine bN ?_ _ | refine bw ?_ | refine bA ?_ _)); refine bf ?_ NB229_241.out _; (with_reducible repeat (first | refine bN ?_ _ | refine bw ?_ | refine bA ?_ _)); refine bf ?_ NB229_241.out _; (with_reducible repeat (first | refine bN ?_ _ | refine bw ?_ | refine bA ?_ _)); exact B_d.out⟩
  have n6_ : Aside0 ((((((w68.setCell ⟨g_i, 0, none⟩ (.int .i64 t236)).setCell ⟨g_i, 1, none⟩ (.int .i64 t237)).setCell ⟨g_i, 2, none⟩ (.int .u32 t238)).setCell ⟨g_i, 3, none⟩ (.int .u32 t239)).setCell ⟨g_i, 4, none⟩ (.int .u16 t240)).heap[g_v]? = some (.cells #[.int .i64 t230, .int .i64 t231, .int .u32 t232, .int .u32 t233, .int .u16 t234] 27 (0, 0))) := ⟨by (with_reducible repeat (first | refine bN ?_ _ | refine bw ?_ | refine bA ?_ _)); refine bf ?_ NB235_241.out _; (with_reducible repeat (first | refine bN ?_ _ | refine bw ?_ | refine bA ?_ _)); refine bf ?_ NB235_241.out _; (with_reducible repeat (first | refine bN ?_ _ | refine bw ?_ | refine bA ?_ _)); refine bf ?_ NB235_241.out _; (with_reducible repeat (first | refine bN ?_ _ | refine bw ?_ | refine bA ?_ _)); refine bf ?_ NB235_241.out _; (with_reducible repeat (first | refine bN ?_ _ | refine bw ?_ | refine bA ?_ _)); refine bf ?_ NB235_241.out _; (with_reducible repeat (first | refine bN ?_ _ | refine bw ?_ | refine bA ?_ _)); exact B_e.out⟩
  have n7_ : Aside0 ((((((w68.setCell ⟨g_i, 0, none⟩ (.int .i64 t236)).setCell ⟨g_i, 1, none⟩ (.int .i64 t237)).setCell ⟨g_i, 2, none⟩ (.int .u32 t238)).setCell ⟨g_i, 3, none⟩ (.int .u32 t239)).setCell ⟨g_i, 4, none⟩ (.int .u16 t240)).heap[g_i]? = some (.cells #[.int .i64 t236, .int .i64 t237, .int .u32 t238, .int .u32 t239, .int .u16 t240] 27 (0, 0))) := ⟨by (with_reducible repeat (first | refine bN ?_ _ | refine bw ?_ | refine bA ?_ _)); refine bp (cs := #[.int .i64 t236, .int .i64 t237, .int .u32 t238, .int .u32 t239, .int .u16 0]) ?_ 4 _ rfl; (with_reducible repeat (first | refine bN ?_ _ | refine bw ?_ | refine bA ?_ _)); refine bp (cs := #[.int .i64 t236, .int .i64 t237, .int .u32 t238, .int .u32 0, .int .u16 0]) ?_ 3 _ rfl; (with_reducible repeat (first | refine bN ?_ _ | refine bw ?_ | refine bA ?_ _)); refine bp (cs := #[.int .i64 t236, .int .i64 t237, .int .u32 0, .int .u32 0, .int .u16 0]) ?_ 2 _ rfl; (with_reducible repeat (first | refine bN ?_ _ | refine bw ?_ | refine bA ?_ _)); refine bp (cs := #[.int .i64 t236, .int .i64 0, .int .u32 0, .int .u32 0, .int .u16 0]) ?_ 1 _ rfl; (with_reducible repeat (first | refine bN ?_ _ | refine bw ?_ | refine bA ?_ _)); refine bp (cs := #[.int .i64 0, .int .i64 0, .int .u32 0, .int .u32 0, .int .u16 0]) ?_ 0 _ rfl; (with_reducible repeat (first | refine bN ?_ _ | refine bw ?_ | refine bA ?_ _)); exact B_f.out⟩
  have n8_ : Aside0 (Below w.heap.size w (((((w68.setCell ⟨g_i, 0, none⟩ (.int .i64 t236)).setCell ⟨g_i, 1, none⟩ (.int .i64 t237)).setCell ⟨g_i, 2, none⟩ (.int .u32 t238)).setCell ⟨g_i, 3, none⟩ (.int .u32 t239)).setCell ⟨g_i, 4, none⟩ (.int .u16 t240))) := ⟨by repeat (first | (with_reducible first | exact HB.out | apply bl | apply pN | apply b1 | refine bs ?_ G_y.out | refine bs ?_ G_0.out | refine bs ?_ G_2.out | refine bs ?_ G_4.out | refine bs ?_ GE223.out | refine bs ?_ GE229.out | refine bs ?_ GE235.out | refine bs ?_ GE241.out) | exact HB.out)⟩
  (try clear B_o)
  (try clear B_r)
  (try clear B_t)
  (try clear B_b)
  (try clear B_c)
  (try clear B_d)
  (try clear B_e)
  (try clear B_f)
  (try clear HB)
  generalize (((((w68.setCell ⟨g_i, 0, none⟩ (.int .i64 t236)).setCell ⟨g_i, 1, none⟩ (.int .i64 t237)).setCell ⟨g_i, 2, none⟩ (.int .u32 t238)).setCell ⟨g_i, 3, none⟩ (.int .u32 t239)).setCell ⟨g_i, 4, none⟩ (.int .u16 t240)) = w77 at n0_ n1_ n2_ n3_ n4_ n5_ n6_ n7_ n8_ ⊢
  have B_o := n0_
  have B_r := n1_
  have B_t := n2_
  have B_b := n3_
  have B_c := n4_
  have B_d := n5_
  have B_e := n6_
  have B_f := n7_
  have HB := n8_
  clear n0_ n1_ n2_ n3_ n4_ n5_ n6_ n7_ n8_
  have n0_ := Aside0.mk (bw B_o.out)
  have n1_ := Aside0.mk (bw B_r.out)
  have n2_ := Aside0.mk (bw B_t.out)
  have n3_ := Aside0.mk (bw B_b.out)
  have n4_ := Aside0.mk (bw B_c.out)
  have n5_ := Aside0.mk (bw B_d.out)
  have n6_ := Aside0.mk (bw B_e.out)
  have n7_ := Aside0.mk (bw B_f.out)
  have n8_ := Aside0.mk (b1 HB.out)
  clear B_o
  clear B_r
  clear B_t
  clear B_b
  clear B_c
  clear B_d
  clear B_e
  clear B_f
  clear HB
  have B_o := n0_
  have B_r := n1_
  have B_t := n2_
  have B_b := n3_
  have B_c := n4_
  have B_d := n5_
  have B_e := n6_
  have B_f := n7_
  have HB := n8_
  clear n0_ n1_ n2_ n3_ n4_ n5_ n6_ n7_ n8_
  replace H := Option.bind_eq_some_iff.mp H
  obtain ⟨⟨t242, t243, t244, t245, t246⟩, A110, H⟩ := H
  replace H : (if (t230 == t242 && (t231 == t243 && (t232 == t244 && ((t233 == t245 && (t234 == t246)))))) = true then ((record_Join.f k 3 t219 t220 t221 t222 3 t225 t226 t227 t228).bind fun b_w => ((record_Join.f k 3 t213 t214 t215 t216 b_w.1 b_w.2.1 b_w.2.2.1 b_w.2.2.2.1 b_w.2.2.2.2).bind fun b_s => (if (t236 == b_s.1 && (t237 == b_s.2.1 && (t238 == b_s.2.2.1 && ((t239 == b_s.2.2.2.1 && (t240 == b_s.2.2.2.2)))))) = true then ((record_Join.f k t236 t237 t238 t239 t240 3 t213 t214 t215 t216).bind fun b_p => (if (b_p.1 == t236 && (b_p.2.1 == t237 && (b_p.2.2.1 == t238 && ((b_p.2.2.2.1 == t239 && (b_p.2.2.2.2 == t240)))))) = true then ((record_Join.f k 3 t213 t214 t215 t216 3 t213 t214 t215 t216).bind fun b_l => (if (b_l.1 == 3 && (b_l.2.1 == t213 && (b_l.2.2.1 == t214 && ((b_l.2.2.2.1 == t215 && (b_l.2.2.2.2 == t216)))))) = true then (if (t236 == 3 && (t237 == t213 && (t238 == t214 && ((t239 == t215 && (t240 == t216)))))) = true then ((record_Order.f k t236 t237 t238 t239 t240 3 t213 t214 t215 t216).bind fun t267 => (if t267 ≥ 0 then ((record_Order.f k t236 t237 t238 t239 t240 3 t225 t226 t227 t228).bind fun t268 => (some (decide (t268 ≥ 0)))) else (none))) else (if (t236 == 3 && (t237 == t219 && (t238 == t220 && ((t239 == t221 && (t240 == t222)))))) = true then ((record_Order.f k t236 t237 t238 t239 t240 3 t213 t214 t215 t216).bind fun t269 => (if t269 ≥ 0 then ((record_Order.f k t236 t237 t238 t239 t240 3 t225 t226 t227 t228).bind fun t270 => (some (decide (t270 ≥ 0)))) else (none))) else (if (t236 == 3 && (t237 == t225 && (t238 == t226 && ((t239 == t227 && (t240 == t228)))))) = true then ((record_Order.f k t236 t237 t238 t239 t240 3 t213 t214 t215 t216).bind fun t271 => (if t271 ≥ 0 then ((record_Order.f k t236 t237 t238 t239 t240 3 t225 t226 t227 t228).bind fun t272 => (some (decide (t272 ≥ 0)))) else (none))) else (none)))) else (none))) else (none))) else (none)))) else (none)) = some r := H
  have A11 := Aside0.mk A110
  clear A110
  by_cases c12 : (t230 == t242 && (t231 == t243 && (t232 == t244 && ((t233 == t245 && (t234 == t246)))))) = true
  ·rw [if_pos c12] at H
   have c12b0 : (t230 == t242 && (t231 == t243 && (t232 == t244 && ((t233 == t245 && (t234 == t246)))))) = true := c12
   (try (have c12b1 : decide (t230 = t242 && (t231 == t243 && (t232 == t244 && ((t233 == t245 && (t234 == t246)))))) = true := by simpa using c12))
   (try (have c12b2 : (t230 == t242 && (t231 == t243 && (t232 == t244 && ((t233 == t245 && (t234 == t246)))))) = true := by simpa using c12))
   clear c12
   replace H := Option.bind_eq_some_iff.mp H
   obtain ⟨⟨t247, t248, t249, t250, t251⟩, A130, H⟩ := H
   replace H : ((record_Join.f k 3 t213 t214 t215 t216 t247 t248 t249 t250 t251).bind fun b_s => (if (t236 == b_s.1 && (t237 == b_s.2.1 && (t238 == b_s.2.2.1 && ((t239 == b_s.2.2.2.1 && (t240 == b_s.2.2.2.2)))))) = true then ((record_Join.f k t236 t237 t238 t239 t240 3 t213 t214 t215 t216).bind fun b_p => (if (b_p.1 == t236 && (b_p.2.1 == t237 && (b_p.2.2.1 == t238 && ((b_p.2.2.2.1 == t239 && (b_p.2.2.2.2 == t240)))))) = true then ((record_Join.f k 3 t213 t214 t215 t216 3 t213 t214 t215 t216).bind fun b_l => (if (b_l.1 == 3 && (b_l.2.1 == t213 && (b_l.2.2.1 == t214 && ((b_l.2.2.2.1 == t215 && (b_l.2.2.2.2 == t216)))))) = true then (if (t236 == 3 && (t237 == t213 && (t238 == t214 && ((t239 == t215 && (t240 == t216)))))) = true then ((record_Order.f k t236 t237 t238 t239 t240 3 t213 t214 t215 t216).bind fun t267 => (if t267 ≥ 0 then ((record_Order.f k t236 t237 t238 t239 t240 3 t225 t226 t227 t228).bind fun t268 => (some (decide (t268 ≥ 0)))) else (none))) else (if (t236 == 3 && (t237 == t219 && (t238 == t220 && ((t239 == t221 && (t240 == t222)))))) = true then ((record_Order.f k t236 t237 t238 t239 t240 3 t213 t214 t215 t216).bind fun t269 => (if t269 ≥ 0 then ((record_Order.f k t236 t237 t238 t239 t240 3 t225 t226 t227 t228).bind fun t270 => (some (decide (t270 ≥ 0)))) else (none))) else (if (t236 == 3 && (t237 == t225 && (t238 == t226 && ((t239 == t227 && (t240 == t228)))))) = true then ((record_Order.f k t236 t237 t238 t239 t240 3 t213 t214 t215 t216).bind fun t271 => (if t271 ≥ 0 then ((record_Order.f k t236 t237 t238 t239 t240 3 t225 t226 t227 t228).bind fun t272 => (some (decide (t272 ≥ 0)))) else (none))) else (none)))) else (none))) else (none))) else (none))) = some r := H
   have A13 := Aside0.mk A130
   clear A130
   replace H := Option.bind_eq_some_iff.mp H
   obtain ⟨⟨t252, t253, t254, t255, t256⟩, A140, H⟩ := H
   replace H : (if (t236 == t252 && (t237 == t253 && (t238 == t254 && ((t239 == t255 && (t240 == t256)))))) = true then ((record_Join.f k t236 t237 t238 t239 t240 3 t213 t214 t215 t216).bind fun b_p => (if (b_p.1 == t236 && (b_p.2.1 == t237 && (b_p.2.2.1 == t238 && ((b_p.2.2.2.1 == t239 && (b_p.2.2.2.2 == t240)))))) = true then ((record_Join.f k 3 t213 t214 t215 t216 3 t213 t214 t215 t216).bind fun b_l => (if (b_l.1 == 3 && (b_l.2.1 == t213 && (b_l.2.2.1 == t214 && ((b_l.2.2.2.1 == t215 && (b_l.2.2.2.2 == t216)))))) = true then (if (t236 == 3 && (t237 == t213 && (t238 == t214 && ((t239 == t215 && (t240 == t216)))))) = true then ((record_Order.f k t236 t237 t238 t239 t240 3 t213 t214 t215 t216).bind fun t267 => (if t267 ≥ 0 then ((record_Order.f k t236 t237 t238 t239 t240 3 t225 t226 t227 t228).bind fun t268 => (some (decide (t268 ≥ 0)))) else (none))) else (if (t236 == 3 && (t237 == t219 && (t238 == t220 && ((t239 == t221 && (t240 == t222)))))) = true then ((record_Order.f k t236 t237 t238 t239 t240 3 t213 t214 t215 t216).bind fun t269 => (if t269 ≥ 0 then ((record_Order.f k t236 t237 t238 t239 t240 3 t225 t226 t227 t228).bind fun t270 => (some (decide (t270 ≥ 0)))) else (none))) else (if (t236 == 3 && (t237 == t225 && (t238 == t226 && ((t239 == t227 && (t240 == t228)))))) = true then ((record_Order.f k t236 t237 t238 t239 t240 3 t213 t214 t215 t216).bind fun t271 => (if t271 ≥ 0 then ((record_Order.f k t236 t237 t238 t239 t240 3 t225 t226 t227 t228).bind fun t272 => (some (decide (t272 ≥ 0)))) else (none))) else (none)))) else (none))) else (none))) else (none)) = some r := H
   have A14 := Aside0.mk A140
   clear A140
   by_cases c15 : (t236 == t252 && (t237 == t253 && (t238 == t254 && ((t239 == t255 && (t240 == t256)))))) = true
   ·rw [if_pos c15] at H
    have c15b0 : (t236 == t252 && (t237 == t253 && (t238 == t254 && ((t239 == t255 && (t240 == t256)))))) = true := c15
    (try (have c15b1 : decide (t236 = t252 && (t237 == t253 && (t238 == t254 && ((t239 == t255 && (t240 == t256)))))) = true := by simpa using c15))
    (try (have c15b2 : (t236 == t252 && (t237 == t253 && (t238 == t254 && ((t239 == t255 && (t240 == t256)))))) = true := by simpa using c15))
    clear c15
    replace H := Option.bind_eq_some_iff.mp H
    obtain ⟨⟨t257, t258, t259, t260, t261⟩, A160, H⟩ := H
    replace H : (if (t257 == t236 && (t258 == t237 && (t259 == t238 && ((t260 == t239 && (t261 == t240)))))) = true then ((record_Join.f k 3 t213 t214 t215 t216 3 t213 t214 t215 t216).bind fun b_l => (if (b_l.1 == 3 && (b_l.2.1 == t213 && (b_l.2.2.1 == t214 && ((b_l.2.2.2.1 == t215 && (b_l.2.2.2.2 == t216)))))) = true then (if (t236 == 3 && (t237 == t213 && (t238 == t214 && ((t239 == t215 && (t240 == t216)))))) = true then ((record_Order.f k t236 t237 t238 t239 t240 3 t213 t214 t215 t216).bind fun t267 => (if t267 ≥ 0 then ((record_Order.f k t236 t237 t238 t239 t240 3 t225 t226 t227 t228).bind fun t268 => (some (decide (t268 ≥ 0)))) else (none))) else (if (t236 == 3 && (t237 == t219 && (t238 == t220 && ((t239 == t221 && (t240 == t222)))))) = true then ((record_Order.f k t236 t237 t238 t239 t240 3 t213 t214 t215 t216).bind fun t269 => (if t269 ≥ 0 then ((record_Order.f k t236 t237 t238 t239 t240 3 t225 t226 t227 t228).bind fun t270 => (some (decide (t270 ≥ 0)))) else (none))) else (if (t236 == 3 && (t237 == t225 && (t238 == t226 && ((t239 == t227 && (t240 == t228)))))) = true then ((record_Order.f k t236 t237 t238 t239 t240 3 t213 t214 t215 t216).bind fun t271 => (if t271 ≥ 0 then ((record_Order.f k t236 t237 t238 t239 t240 3 t225 t226 t227 t228).bind fun t272 => (some (decide (t272 ≥ 0)))) else (none))) else (none)))) else (none))) else (none)) = some r := H
    have A16 := Aside0.mk A160
    clear A160
    by_cases c17 : (t257 == t236 && (t258 == t237 && (t259 == t238 && ((t260 == t239 && (t261 == t240)))))) = true
    ·rw [if_pos c17] at H
     have c17b0 : (t257 == t236 && (t258 == t237 && (t259 == t238 && ((t260 == t239 && (t261 == t240)))))) = true := c17
     (try (have c17b1 : decide (t257 = t236 && (t258 == t237 && (t259 == t238 && ((t260 == t239 && (t261 == t240)))))) = true := by simpa using c17))
     (try (have c17b2 : (t257 == t236 && (t258 == t237 && (t259 == t238 && ((t260 == t239 && (t261 == t240)))))) = true := by simpa using c17))
     clear c17
     replace H := Option.bind_eq_some_iff.mp H
     obtain ⟨⟨t262, t263, t264, t265, t266⟩, A180, H⟩ := H
     replace H : (if (t262 == 3 && (t263 == t213 && (t264 == t214 && ((t265 == t215 && (t266 == t216)))))) = true then (if (t236 == 3 && (t237 == t213 && (t238 == t214 && ((t239 == t215 && (t240 == t216)))))) = true then ((record_Order.f k t236 t237 t238 t239 t240 3 t213 t214 t215 t216).bind fun t267 => (if t267 ≥ 0 then ((record_Order.f k t236 t237 t238 t239 t240 3 t225 t226 t227 t228).bind fun t268 => (some (decide (t268 ≥ 0)))) else (none))) else (if (t236 == 3 && (t237 == t219 && (t238 == t220 && ((t239 == t221 && (t240 == t222)))))) = true then ((record_Order.f k t236 t237 t238 t239 t240 3 t213 t214 t215 t216).bind fun t269 => (if t269 ≥ 0 then ((record_Order.f k t236 t237 t238 t239 t240 3 t225 t226 t227 t228).bind fun t270 => (some (decide (t270 ≥ 0)))) else (none))) else (if (t236 == 3 && (t237 == t225 && (t238 == t226 && ((t239 == t227 && (t240 == t228)))))) = true then ((record_Order.f k t236 t237 t238 t239 t240 3 t213 t214 t215 t216).bind fun t271 => (if t271 ≥ 0 then ((record_Order.f k t236 t237 t238 t239 t240 3 t225 t226 t227 t228).bind fun t272 => (some (decide (t272 ≥ 0)))) else (none))) else (none)))) else (none)) = some r := H
     have A18 := Aside0.mk A180
     clear A180
     by_cases c19 : (t262 == 3 && (t263 == t213 && (t264 == t214 && ((t265 == t215 && (t266 == t216)))))) = true
     ·rw [if_pos c19] at H
      have c19b0 : (t262 == 3 && (t263 == t213 && (t264 == t214 && ((t265 == t215 && (t266 == t216)))))) = true := c19
      (try (have c19b1 : decide (t262 = 3 && (t263 == t213 && (t264 == t214 && ((t265 == t215 && (t266 == t216)))))) = true := by simpa using c19))
      (try (have c19b2 : (t262 == 3 && (t263 == t213 && (t264 == t214 && ((t265 == t215 && (t266 == t216)))))) = true := by simpa using c19))
      clear c19
      by_cases c20 : (t236 == 3 && (t237 == t213 && (t238 == t214 && ((t239 == t215 && (t240 == t216)))))) = true
      ·rw [if_pos c20] at H
       have c20b0 : (t236 == 3 && (t237 == t213 && (t238 == t214 && ((t239 == t215 && (t240 == t216)))))) = true := c20
       (try (have c20b1 : decide (t236 = 3 && (t237 == t213 && (t238 == t214 && ((t239 == t215 && (t240 == t216)))))) = true := by simpa using c20))
       (try (have c20b2 : (t236 == 3 && (t237 == t213 && (t238 == t214 && ((t239 == t215 && (t240 == t216)))))) = true := by simpa using c20))
       clear c20
       replace H := Option.bind_eq_some_iff.mp H
       obtain ⟨t267, A210, H⟩ := H
       replace H : (if t267 ≥ 0 then ((record_Order.f k t236 t237 t238 t239 t240 3 t225 t226 t227 t228).bind fun t268 => (some (decide (t268 ≥ 0)))) else (none)) = some r := H
       have A21 := Aside0.mk A210
       clear A210
       by_cases c22 : t267 ≥ 0
       ·rw [if_pos c22] at H
        have c22b0 : decide (0 ≤ t267) = true := decide_eq_true c22
        clear c22
        replace H := Option.bind_eq_some_iff.mp H
        obtain ⟨t268, A230, H⟩ := H
        replace H : (some (decide (t268 ≥ 0))) = some r := H
        have A23 := Aside0.mk A230
        clear A230
        obtain rfl := Option.some.inj H
        clear B_o B_r B_t
        refine start_ (n := 59) (S := fun w' => w'.cell? ⟨g_v, 0, none⟩ = some (.int .i64 t230) ∧ w'.cell? ⟨g_v, 1, none⟩ = some (.int .i64 t231) ∧ w'.cell? ⟨g_v, 2, none⟩ = some (.int .u32 t232) ∧ w'.cell? ⟨g_v, 3, none⟩ = some (.int .u32 t233) ∧ w'.cell? ⟨g_v, 4, none⟩ = some (.int .u16 t234) ∧ w'.cell? ⟨g_n, 0, none⟩ = some (.int .i64 3) ∧ w'.cell? ⟨g_n, 1, none⟩ = some (.int .i64 t219) ∧ w'.cell? ⟨g_n, 2, none⟩ = some (.int .u32 t220) ∧ w'.cell? ⟨g_n, 3, none⟩ = some (.int .u32 t221) ∧ w'.cell? ⟨g_n, 4, none⟩ = some (.int .u16 t222) ∧ w'.cell? ⟨g_k, 0, none⟩ = some (.int .i64 3) ∧ w'.cell? ⟨g_k, 1, none⟩ = some (.int .i64 t213) ∧ w'.cell? ⟨g_k, 2, none⟩ = some (.int .u32 t214) ∧ w'.cell? ⟨g_k, 3, none⟩ = some (.int .u32 t215) ∧ w'.cell? ⟨g_k, 4, none⟩ = some (.int .u16 t216) ∧ w'.cell? ⟨g_i, 0, none⟩ = some (.int .i64 t236) ∧ w'.cell? ⟨g_i, 1, none⟩ = some (.int .i64 t237) ∧ w'.cell? ⟨g_i, 2, none⟩ = some (.int .u32 t238) ∧ w'.cell? ⟨g_i, 3, none⟩ = some (.int .u32 t239) ∧ w'.cell? ⟨g_i, 4, none⟩ = some (.int .u16 t240) ∧ w'.cell? ⟨g_q, 0, none⟩ = some (.int .i64 3) ∧ w'.cell? ⟨g_q, 1, none⟩ = some (.int .i64 t225) ∧ w'.cell? ⟨g_q, 2, none⟩ = some (.int .u32 t226) ∧ w'.cell? ⟨g_q, 3, none⟩ = some (.int .u32 t227) ∧ w'.cell? ⟨g_q, 4, none⟩ = some (.int .u16 t228)) (ds := []) (bm 59 0) (by kernel_rfl) rfl rfl ⟨(bc B_e.out 0).trans rfl, (bc B_e.out 1).trans rfl, (bc B_e.out 2).trans rfl, (bc B_e.out 3).trans rfl, (bc B_e.out 4).trans rfl, (bc B_c.out 0).trans rfl, (bc B_c.out 1).trans rfl, (bc B_c.out 2).trans rfl, (bc B_c.out 3).trans rfl, (bc B_c.out 4).trans rfl, (bc B_b.out 0).trans rfl, (bc B_b.out 1).trans rfl, (bc B_b.out 2).trans rfl, (bc B_b.out 3).trans rfl, (bc B_b.out 4).trans rfl, (bc B_f.out 0).trans rfl, (bc B_f.out 1).trans rfl, (bc B_f.out 2).trans rfl, (bc B_f.out 3).trans rfl, (bc B_f.out 4).trans rfl, (bc B_d.out 0).trans rfl, (bc B_d.out 1).trans rfl, (bc B_d.out 2).trans rfl, (bc B_d.out 3).trans rfl, (bc B_d.out 4).trans rfl⟩ (fun hh => ?_); refine with_tabW law04_RecordJoins.tab12 law04_RecordJoins.bits12 (fun T_ V_ => ?_)
        generalize w77.drew = w78 at B_b B_c B_d B_e B_f HB hh ⊢
        refine pure_ (i := 0) (N := some 31) (v := ?_) (a' := ?_) (bm 59 1) rfl rfl (any_of T_.out (by kernel_rfl)) (fun _ _ _ h => h) (.inl ⟨by first | rfl | (simp only [c12b0, c15b0, c17b0, c19b0, c20b0]; rfl), ?_⟩) ?_ ?_
        rotate_left
        ·intro w'
         go_simp
         with_reducible rfl
        rotate_left
        ·simp only [Act.put, siA, scz, scs, zW, zw]
         rfl
        refine pure_ (i := 1) (N := some 32) (v := ?_) (a' := ?_) (bm 59 3) rfl rfl (any_of T_.out (by kernel_rfl)) (fun _ _ _ h => h) (.inl ⟨by first | rfl | (simp only [c12b0, c15b0, c17b0, c19b0, c20b0]; rfl), ?_⟩) ?_ ?_
        rotate_left
        ·intro w'
         go_simp
         with_reducible rfl
        rotate_left
        ·simp only [Act.put, siA, scz, scs, zW, zw]
         rfl
        refine take_ (i := 2) (N := some 33) (v := ?_) (a' := ?_) (bm 59 7) rfl rfl (take_ofW T_.out V_.out (by kernel_rfl)) (fun _ _ _ h => h) (.inl ⟨by first | rfl | (simp only [c12b0, c15b0, c17b0, c19b0, c20b0]; rfl), ?_⟩) hh ?_ ?_
        rotate_left
        ·rintro w' ⟨s0, s1, s2, s3, s4, s5, s6, s7, s8, s9, s10, s11, s12, s13, s14, s15, s16, s17, s18, s19, s20, s21, s22, s23, s24⟩
         go_simp
         with_reducible rfl
        rotate_left
        ·simp only [Act.put, siA, scz, scs, zW, zw]
         rfl
        refine take_ (i := 3) (N := some 34) (v := ?_) (a' := ?_) (bm 59 15) rfl rfl (take_ofW T_.out V_.out (by kernel_rfl)) (fun _ _ _ h => h) (.inl ⟨by first | rfl | (simp only [c12b0, c15b0, c17b0, c19b0, c20b0]; rfl), ?_⟩) hh ?_ ?_
        rotate_left
        ·rintro w' ⟨s0, s1, s2, s3, s4, s5, s6, s7, s8, s9, s10, s11, s12, s13, s14, s15, s16, s17, s18, s19, s20, s21, s22, s23, s24⟩
         go_simp
         with_reducible rfl
        rotate_left
        ·simp only [Act.put, siA, scz, scs, zW, zw]
         rfl
        refine take_ (i := 4) (N := some 35) (v := ?_) (a' := ?_) (bm 59 31) rfl rfl (take_ofW T_.out V_.out (by kernel_rfl)) (fun _ _ _ h => h) (.inl ⟨by first | rfl | (simp only [c12b0, c15b0, c17b0, c19b0, c20b0]; rfl), ?_⟩) hh ?_ ?_
        rotate_left
        ·rintro w' ⟨s0, s1, s2, s3, s4, s5, s6, s7, s8, s9, s10, s11, s12, s13, s14, s15, s16, s17, s18, s19, s20, s21, s22, s23, s24⟩
         go_simp
         with_reducible rfl
        rotate_left
        ·simp only [Act.put, siA, scz, scs, zW, zw]
         rfl
        refine one_ (i := 5) (N := some 36) (bm 59 63) rfl rfl (one_of T_.out (by kernel_rfl)) (by decide) (fun K hK => ?_)
        refine goes_ Try.func20 (by kernel_rfl) rfl #[.agg #[.int .i64 3, .int .i64 t219, .int .u32 t220, .int .u32 t221, .int .u16 t222], .agg #[.int .i64 3, .int .i64 t213, .int .u32 t214, .int .u32 t215, .int .u16 t216]] (by rfl) rfl rfl (by (try simp only [List.map_toArray, List.map_cons, List.map_nil]); first | done | rfl | (simp only [List.length_drop, List.length_take]; rfl)) ?_
        with_reducible refine (record_Join.calls k 3 t219 t220 t221 t222 3 t213 t214 t215 t216 t242 t243 t244 t245 t246 _ A11.out).mono ?_
        rintro e w79 ⟨rfl, hb⟩
        refine ⟨_, rfl, ?_⟩
        have n3_ := Aside0.mk (bb (g := g_k) (o := .cells #[.int .i64 3, .int .i64 t213, .int .u32 t214, .int .u32 t215, .int .u16 t216] 27 (0, 0)) (by (with_reducible repeat (first | refine bN ?_ _ | refine bw ?_ | refine bA ?_ _)); exact B_b.out) hb)
        have n4_ := Aside0.mk (bb (g := g_n) (o := .cells #[.int .i64 3, .int .i64 t219, .int .u32 t220, .int .u32 t221, .int .u16 t222] 27 (0, 0)) (by (with_reducible repeat (first | refine bN ?_ _ | refine bw ?_ | refine bA ?_ _)); exact B_c.out) hb)
        have n5_ := Aside0.mk (bb (g := g_q) (o := .cells #[.int .i64 3, .int .i64 t225, .int .u32 t226, .int .u32 t227, .int .u16 t228] 27 (0, 0)) (by (with_reducible repeat (first | refine bN ?_ _ | refine bw ?_ | refine bA ?_ _)); exact B_d.out) hb)
        have n6_ := Aside0.mk (bb (g := g_v) (o := .cells #[.int .i64 t230, .int .i64 t231, .int .u32 t232, .int .u32 t233, .int .u16 t234] 27 (0, 0)) (by (with_reducible repeat (first | refine bN ?_ _ | refine bw ?_ | refine bA ?_ _)); exact B_e.out) hb)
        have n7_ := Aside0.mk (bb (g := g_i) (o := .cells #[.int .i64 t236, .int .i64 t237, .int .u32 t238, .int .u32 t239, .int .u16 t240] 27 (0, 0)) (by (with_reducible repeat (first | refine bN ?_ _ | refine bw ?_ | refine bA ?_ _)); exact B_f.out) hb)
        have n8_ := Aside0.mk (below_step (by repeat (first | (with_reducible first | exact HB.out | apply bl | apply pN | apply b1 | refine bs ?_ G_y.out | refine bs ?_ G_0.out | refine bs ?_ G_2.out | refine bs ?_ G_4.out | refine bs ?_ GE223.out | refine bs ?_ GE229.out | refine bs ?_ GE235.out | refine bs ?_ GE241.out) | exact HB.out)) hb)
        clear B_b
        clear B_c
        clear B_d
        clear B_e
        clear B_f
        clear HB
        have B_b := n3_
        have B_c := n4_
        have B_d := n5_
        have B_e := n6_
        have B_f := n7_
        have HB := n8_
        clear n3_ n4_ n5_ n6_ n7_ n8_
        (try clear hb)
        (try clear hb2)
        (try clear hk)
        (try clear hi)
        refine hK.out _ _ ⟨(bc B_e.out 0).trans rfl, (bc B_e.out 1).trans rfl, (bc B_e.out 2).trans rfl, (bc B_e.out 3).trans rfl, (bc B_e.out 4).trans rfl, (bc B_c.out 0).trans rfl, (bc B_c.out 1).trans rfl, (bc B_c.out 2).trans rfl, (bc B_c.out 3).trans rfl, (bc B_c.out 4).trans rfl, (bc B_b.out 0).trans rfl, (bc B_b.out 1).trans rfl, (bc B_b.out 2).trans rfl, (bc B_b.out 3).trans rfl, (bc B_b.out 4).trans rfl, (bc B_f.out 0).trans rfl, (bc B_f.out 1).trans rfl, (bc B_f.out 2).trans rfl, (bc B_f.out 3).trans rfl, (bc B_f.out 4).trans rfl, (bc B_d.out 0).trans rfl, (bc B_d.out 1).trans rfl, (bc B_d.out 2).trans rfl, (bc B_d.out 3).trans rfl, (bc B_d.out 4).trans rfl⟩ (fun hh => ?_)
        clear hK K
        refine norm_ (a' := ?_) ?_ ?_
        rotate_left
        ·show Act.put _ (some 36) _ = _
         simp only [Act.put, siA, scz, scs, zW, zw]
         rfl
        refine pure_ (i := 6) (N := some 37) (v := ?_) (a' := ?_) (bm 59 127) rfl rfl (any_of T_.out (by kernel_rfl)) (fun _ _ _ h => h) (.inl ⟨by first | rfl | (simp only [c12b0, c15b0, c17b0, c19b0, c20b0]; rfl), ?_⟩) ?_ ?_
        rotate_left
        ·intro w'
         go_simp
         with_reducible rfl
        rotate_left
        ·simp only [Act.put, siA, scz, scs, zW, zw]
         rfl
        refine pure_ (i := 7) (N := some 38) (v := ?_) (a' := ?_) (bm 59 255) rfl rfl (any_of T_.out (by kernel_rfl)) (fun _ _ _ h => h) (.inl ⟨by first | rfl | (simp only [c12b0, c15b0, c17b0, c19b0, c20b0]; rfl), ?_⟩) ?_ ?_
        rotate_left
        ·intro w'
         go_simp
         with_reducible rfl
        rotate_left
        ·simp only [Act.put, siA, scz, scs, zW, zw]
         rfl
        refine pure_ (i := 8) (N := some 39) (v := ?_) (a' := ?_) (bm 59 511) rfl rfl (any_of T_.out (by kernel_rfl)) (fun _ _ _ h => h) (.inl ⟨by first | rfl | (simp only [c12b0, c15b0, c17b0, c19b0, c20b0]; rfl), ?_⟩) ?_ ?_
        rotate_left
        ·intro w'
         go_simp
         with_reducible rfl
        rotate_left
        ·simp only [Act.put, siA, scz, scs, zW, zw]
         rfl
        refine take_ (i := 9) (N := some 40) (v := ?_) (a' := ?_) (bm 59 1023) rfl rfl (take_ofW T_.out V_.out (by kernel_rfl)) (fun _ _ _ h => h) (.inl ⟨by first | rfl | (simp only [c12b0, c15b0, c17b0, c19b0, c20b0]; rfl), ?_⟩) hh ?_ ?_
        rotate_left
        ·rintro w' ⟨s0, s1, s2, s3, s4, s5, s6, s7, s8, s9, s10, s11, s12, s13, s14, s15, s16, s17, s18, s19, s20, s21, s22, s23, s24⟩
         go_simp
         with_reducible rfl
        rotate_left
        ·simp only [Act.put, siA, scz, scs, zW, zw]
         rfl
        refine take_ (i := 10) (N := some 41) (v := ?_) (a' := ?_) (bm 59 2047) rfl rfl (take_ofW T_.out V_.out (by kernel_rfl)) (fun _ _ _ h => h) (.inl ⟨by first | rfl | (simp only [c12b0, c15b0, c17b0, c19b0, c20b0]; rfl), ?_⟩) hh ?_ ?_
        rotate_left
        ·rintro w' ⟨s0, s1, s2, s3, s4, s5, s6, s7, s8, s9, s10, s11, s12, s13, s14, s15, s16, s17, s18, s19, s20, s21, s22, s23, s24⟩
         go_simp
         with_reducible rfl
        rotate_left
        ·simp only [Act.put, siA, scz, scs, zW, zw]
         rfl
        refine take_ (i := 11) (N := some 42) (v := ?_) (a' := ?_) (bm 59 4095) rfl rfl (take_ofW T_.out V_.out (by kernel_rfl)) (fun _ _ _ h => h) (.inl ⟨by first | rfl | (simp only [c12b0, c15b0, c17b0, c19b0, c20b0]; rfl), ?_⟩) hh ?_ ?_
        rotate_left
        ·rintro w' ⟨s0, s1, s2, s3, s4, s5, s6, s7, s8, s9, s10, s11, s12, s13, s14, s15, s16, s17, s18, s19, s20, s21, s22, s23, s24⟩
         go_simp
         with_reducible rfl
        rotate_left
        ·simp only [Act.put, siA, scz, scs, zW, zw]
         rfl
        refine take_ (i := 12) (N := some 43) (v := ?_) (a' := ?_) (bm 59 8191) rfl rfl (take_ofW T_.out V_.out (by kernel_rfl)) (fun _ _ _ h => h) (.inl ⟨by first | rfl | (simp only [c12b0, c15b0, c17b0, c19b0, c20b0]; rfl), ?_⟩) hh ?_ ?_
        rotate_left
        ·rintro w' ⟨s0, s1, s2, s3, s4, s5, s6, s7, s8, s9, s10, s11, s12, s13, s14, s15, s16, s17, s18, s19, s20, s21, s22, s23, s24⟩
         go_simp
         with_reducible rfl
        rotate_left
        ·simp only [Act.put, siA, scz, scs, zW, zw]
         rfl
        refine one_ (i := 13) (N := some 44) (bm 59 16383) rfl rfl (one_of T_.out (by kernel_rfl)) (by decide) (fun K hK => ?_)
        refine goes_ Try.func20 (by kernel_rfl) rfl #[.agg #[.int .i64 3, .int .i64 t219, .int .u32 t220, .int .u32 t221, .int .u16 t222], .agg #[.int .i64 3, .int .i64 t225, .int .u32 t226, .int .u32 t227, .int .u16 t228]] (by rfl) rfl rfl (by (try simp only [List.map_toArray, List.map_cons, List.map_nil]); first | done | rfl | (simp only [List.length_drop, List.length_take]; rfl)) ?_
        with_reducible refine (record_Join.calls k 3 t219 t220 t221 t222 3 t225 t226 t227 t228 t247 t248 t249 t250 t251 _ A13.out).mono ?_
        rintro e w80 ⟨rfl, hb⟩
        refine ⟨_, rfl, ?_⟩
        have n3_ := Aside0.mk (bb (g := g_k) (o := .cells #[.int .i64 3, .int .i64 t213, .int .u32 t214, .int .u32 t215, .int .u16 t216] 27 (0, 0)) (by (with_reducible repeat (first | refine bN ?_ _ | refine bw ?_ | refine bA ?_ _)); exact B_b.out) hb)
        have n4_ := Aside0.mk (bb (g := g_n) (o := .cells #[.int .i64 3, .int .i64 t219, .int .u32 t220, .int .u32 t221, .int .u16 t222] 27 (0, 0)) (by (with_reducible repeat (first | refine bN ?_ _ | refine bw ?_ | refine bA ?_ _)); exact B_c.out) hb)
        have n5_ := Aside0.mk (bb (g := g_q) (o := .cells #[.int .i64 3, .int .i64 t225, .int .u32 t226, .int .u32 t227, .int .u16 t228] 27 (0, 0)) (by (with_reducible repeat (first | refine bN ?_ _ | refine bw ?_ | refine bA ?_ _)); exact B_d.out) hb)
        have n6_ := Aside0.mk (bb (g := g_v) (o := .cells #[.int .i64 t230, .int .i64 t231, .int .u32 t232, .int .u32 t233, .int .u16 t234] 27 (0, 0)) (by (with_reducible repeat (first | refine bN ?_ _ | refine bw ?_ | refine bA ?_ _)); exact B_e.out) hb)
        have n7_ := Aside0.mk (bb (g := g_i) (o := .cells #[.int .i64 t236, .int .i64 t237, .int .u32 t238, .int .u32 t239, .int .u16 t240] 27 (0, 0)) (by (with_reducible repeat (first | refine bN ?_ _ | refine bw ?_ | refine bA ?_ _)); exact B_f.out) hb)
        have n8_ := Aside0.mk (below_step (by repeat (first | (with_reducible first | exact HB.out | apply bl | apply pN | apply b1 | refine bs ?_ G_y.out | refine bs ?_ G_0.out | refine bs ?_ G_2.out | refine bs ?_ G_4.out | refine bs ?_ GE223.out | refine bs ?_ GE229.out | refine bs ?_ GE235.out | refine bs ?_ GE241.out) | exact HB.out)) hb)
        clear B_b
        clear B_c
        clear B_d
        clear B_e
        clear B_f
        clear HB
        have B_b := n3_
        have B_c := n4_
        have B_d := n5_
        have B_e := n6_
        have B_f := n7_
        have HB := n8_
        clear n3_ n4_ n5_ n6_ n7_ n8_
        (try clear hb)
        (try clear hb2)
        (try clear hk)
        (try clear hi)
        refine hK.out _ _ ⟨(bc B_e.out 0).trans rfl, (bc B_e.out 1).trans rfl, (bc B_e.out 2).trans rfl, (bc B_e.out 3).trans rfl, (bc B_e.out 4).trans rfl, (bc B_c.out 0).trans rfl, (bc B_c.out 1).trans rfl, (bc B_c.out 2).trans rfl, (bc B_c.out 3).trans rfl, (bc B_c.out 4).trans rfl, (bc B_b.out 0).trans rfl, (bc B_b.out 1).trans rfl, (bc B_b.out 2).trans rfl, (bc B_b.out 3).trans rfl, (bc B_b.out 4).trans rfl, (bc B_f.out 0).trans rfl, (bc B_f.out 1).trans rfl, (bc B_f.out 2).trans rfl, (bc B_f.out 3).trans rfl, (bc B_f.out 4).trans rfl, (bc B_d.out 0).trans rfl, (bc B_d.out 1).trans rfl, (bc B_d.out 2).trans rfl, (bc B_d.out 3).trans rfl, (bc B_d.out 4).trans rfl⟩ (fun hh => ?_)
        clear hK K
        refine norm_ (a' := ?_) ?_ ?_
        rotate_left
        ·show Act.put _ (some 44) _ = _
         simp only [Act.put, siA, scz, scs, zW, zw]
         rfl
        refine one_ (i := 14) (N := some 45) (bm 59 32767) rfl rfl (one_of T_.out (by kernel_rfl)) (by decide) (fun K hK => ?_)
        refine goes_ Try.func20 (by kernel_rfl) rfl #[.agg #[.int .i64 3, .int .i64 t213, .int .u32 t214, .int .u32 t215, .int .u16 t216], .agg #[.int .i64 t247, .int .i64 t248, .int .u32 t249, .int .u32 t250, .int .u16 t251]] (by rfl) rfl rfl (by (try simp only [List.map_toArray, List.map_cons, List.map_nil]); first | done | rfl | (simp only [List.length_drop, List.length_take]; rfl)) ?_
        with_reducible refine (record_Join.calls k 3 t213 t214 t215 t216 t247 t248 t249 t250 t251 t252 t253 t254 t255 t256 _ A14.out).mono ?_
        rintro e w81 ⟨rfl, hb⟩
        refine ⟨_, rfl, ?_⟩
        have n3_ := Aside0.mk (bb (g := g_k) (o := .cells #[.int .i64 3, .int .i64 t213, .int .u32 t214, .int .u32 t215, .int .u16 t216] 27 (0, 0)) (by (with_reducible repeat (first | refine bN ?_ _ | refine bw ?_ | refine bA ?_ _)); exact B_b.out) hb)
        have n4_ := Aside0.mk (bb (g := g_n) (o := .cells #[.int .i64 3, .int .i64 t219, .int .u32 t220, .int .u32 t221, .int .u16 t222] 27 (0, 0)) (by (with_reducible repeat (first | refine bN ?_ _ | refine bw ?_ | refine bA ?_ _)); exact B_c.out) hb)
        have n5_ := Aside0.mk (bb (g := g_q) (o := .cells #[.int .i64 3, .int .i64 t225, .int .u32 t226, .int .u32 t227, .int .u16 t228] 27 (0, 0)) (by (with_reducible repeat (first | refine bN ?_ _ | refine bw ?_ | refine bA ?_ _)); exact B_d.out) hb)
        have n6_ := Aside0.mk (bb (g := g_v) (o := .cells #[.int .i64 t230, .int .i64 t231, .int .u32 t232, .int .u32 t233, .int .u16 t234] 27 (0, 0)) (by (with_reducible repeat (first | refine bN ?_ _ | refine bw ?_ | refine bA ?_ _)); exact B_e.out) hb)
        have n7_ := Aside0.mk (bb (g := g_i) (o := .cells #[.int .i64 t236, .int .i64 t237, .int .u32 t238, .int .u32 t239, .int .u16 t240] 27 (0, 0)) (by (with_reducible repeat (first | refine bN ?_ _ | refine bw ?_ | refine bA ?_ _)); exact B_f.out) hb)
        have n8_ := Aside0.mk (below_step (by repeat (first | (with_reducible first | exact HB.out | apply bl | apply pN | apply b1 | refine bs ?_ G_y.out | refine bs ?_ G_0.out | refine bs ?_ G_2.out | refine bs ?_ G_4.out | refine bs ?_ GE223.out | refine bs ?_ GE229.out | refine bs ?_ GE235.out | refine bs ?_ GE241.out) | exact HB.out)) hb)
        clear B_b
        clear B_c
        clear B_d
        clear B_e
        clear B_f
        clear HB
        have B_b := n3_
        have B_c := n4_
        have B_d := n5_
        have B_e := n6_
        have B_f := n7_
        have HB := n8_
        clear n3_ n4_ n5_ n6_ n7_ n8_
        (try clear hb)
        (try clear hb2)
        (try clear hk)
        (try clear hi)
        refine hK.out _ _ ⟨(bc B_e.out 0).trans rfl, (bc B_e.out 1).trans rfl, (bc B_e.out 2).trans rfl, (bc B_e.out 3).trans rfl, (bc B_e.out 4).trans rfl, (bc B_c.out 0).trans rfl, (bc B_c.out 1).trans rfl, (bc B_c.out 2).trans rfl, (bc B_c.out 3).trans rfl, (bc B_c.out 4).trans rfl, (bc B_b.out 0).trans rfl, (bc B_b.out 1).trans rfl, (bc B_b.out 2).trans rfl, (bc B_b.out 3).trans rfl, (bc B_b.out 4).trans rfl, (bc B_f.out 0).trans rfl, (bc B_f.out 1).trans rfl, (bc B_f.out 2).trans rfl, (bc B_f.out 3).trans rfl, (bc B_f.out 4).trans rfl, (bc B_d.out 0).trans rfl, (bc B_d.out 1).trans rfl, (bc B_d.out 2).trans rfl, (bc B_d.out 3).trans rfl, (bc B_d.out 4).trans rfl⟩ (fun hh => ?_)
        clear hK K
        refine norm_ (a' := ?_) ?_ ?_
        rotate_left
        ·show Act.put _ (some 45) _ = _
         simp only [Act.put, siA, scz, scs, zW, zw]
         rfl
        refine pure_ (i := 15) (N := some 46) (v := ?_) (a' := ?_) (bm 59 65535) rfl rfl (any_of T_.out (by kernel_rfl)) (fun _ _ _ h => h) (.inl ⟨by first | rfl | (simp only [c12b0, c15b0, c17b0, c19b0, c20b0]; rfl), ?_⟩) ?_ ?_
        rotate_left
        ·intro w'
         go_simp
         with_reducible rfl
        rotate_left
        ·simp only [Act.put, siA, scz, scs, zW, zw]
         rfl
        refine pure_ (i := 16) (N := some 47) (v := ?_) (a' := ?_) (bm 59 131071) rfl rfl (any_of T_.out (by kernel_rfl)) (fun _ _ _ h => h) (.inl ⟨by first | rfl | (simp only [c12b0, c15b0, c17b0, c19b0, c20b0]; rfl), ?_⟩) ?_ ?_
        rotate_left
        ·intro w'
         go_simp
         with_reducible rfl
        rotate_left
        ·simp only [Act.put, siA, scz, scs, zW, zw]
         rfl
        refine pure_ (i := 17) (N := some 48) (v := ?_) (a' := ?_) (bm 59 262143) rfl rfl (any_of T_.out (by kernel_rfl)) (fun _ _ _ h => h) (.inl ⟨by first | rfl | (simp only [c12b0, c15b0, c17b0, c19b0, c20b0]; rfl), ?_⟩) ?_ ?_
        rotate_left
        ·intro w'
         go_simp
         with_reducible rfl
        rotate_left
        ·simp only [Act.put, siA, scz, scs, zW, zw]
         rfl
        refine take_ (i := 18) (N := some 49) (v := ?_) (a' := ?_) (bm 59 524287) rfl rfl (take_ofW T_.out V_.out (by kernel_rfl)) (fun _ _ _ h => h) (.inl ⟨by first | rfl | (simp only [c12b0, c15b0, c17b0, c19b0, c20b0]; rfl), ?_⟩) hh ?_ ?_
        rotate_left
        ·rintro w' ⟨s0, s1, s2, s3, s4, s5, s6, s7, s8, s9, s10, s11, s12, s13, s14, s15, s16, s17, s18, s19, s20, s21, s22, s23, s24⟩
         go_simp
         with_reducible rfl
        rotate_left
        ·simp only [Act.put, siA, scz, scs, zW, zw]
         rfl
        refine take_ (i := 19) (N := some 50) (v := ?_) (a' := ?_) (bm 59 1048575) rfl rfl (take_ofW T_.out V_.out (by kernel_rfl)) (fun _ _ _ h => h) (.inl ⟨by first | rfl | (simp only [c12b0, c15b0, c17b0, c19b0, c20b0]; rfl), ?_⟩) hh ?_ ?_
        rotate_left
        ·rintro w' ⟨s0, s1, s2, s3, s4, s5, s6, s7, s8, s9, s10, s11, s12, s13, s14, s15, s16, s17, s18, s19, s20, s21, s22, s23, s24⟩
         go_simp
         with_reducible rfl
        rotate_left
        ·simp only [Act.put, siA, scz, scs, zW, zw]
         rfl
        refine take_ (i := 21) (N := some 52) (v := ?_) (a' := ?_) (bm 59 3145727) rfl rfl (take_ofW T_.out V_.out (by kernel_rfl)) (fun _ _ _ h => h) (.inl ⟨by first | rfl | (simp only [c12b0, c15b0, c17b0, c19b0, c20b0]; rfl), ?_⟩) hh ?_ ?_
        rotate_left
        ·rintro w' ⟨s0, s1, s2, s3, s4, s5, s6, s7, s8, s9, s10, s11, s12, s13, s14, s15, s16, s17, s18, s19, s20, s21, s22, s23, s24⟩
         go_simp
         with_reducible rfl
        rotate_left
        ·simp only [Act.put, siA, scz, scs, zW, zw]
         rfl
        refine one_ (i := 20) (N := some 51) (bm 59 4194303) rfl rfl (one_of T_.out (by kernel_rfl)) (by decide) (fun K hK => ?_)
        refine goes_ Try.func20 (by kernel_rfl) rfl #[.agg #[.int .i64 t236, .int .i64 t237, .int .u32 t238, .int .u32 t239, .int .u16 t240], .agg #[.int .i64 3, .int .i64 t213, .int .u32 t214, .int .u32 t215, .int .u16 t216]] (by rfl) rfl rfl (by (try simp only [List.map_toArray, List.map_cons, List.map_nil]); first | done | rfl | (simp only [List.length_drop, List.length_take]; rfl)) ?_
        with_reducible refine (record_Join.calls k t236 t237 t238 t239 t240 3 t213 t214 t215 t216 t257 t258 t259 t260 t261 _ A16.out).mono ?_
        rintro e w82 ⟨rfl, hb⟩
        refine ⟨_, rfl, ?_⟩
        have n3_ := Aside0.mk (bb (g := g_k) (o := .cells #[.int .i64 3, .int .i64 t213, .int .u32 t214, .int .u32 t215, .int .u16 t216] 27 (0, 0)) (by (with_reducible repeat (first | refine bN ?_ _ | refine bw ?_ | refine bA ?_ _)); exact B_b.out) hb)
        have n4_ := Aside0.mk (bb (g := g_n) (o := .cells #[.int .i64 3, .int .i64 t219, .int .u32 t220, .int .u32 t221, .int .u16 t222] 27 (0, 0)) (by (with_reducible repeat (first | refine bN ?_ _ | refine bw ?_ | refine bA ?_ _)); exact B_c.out) hb)
        have n5_ := Aside0.mk (bb (g := g_q) (o := .cells #[.int .i64 3, .int .i64 t225, .int .u32 t226, .int .u32 t227, .int .u16 t228] 27 (0, 0)) (by (with_reducible repeat (first | refine bN ?_ _ | refine bw ?_ | refine bA ?_ _)); exact B_d.out) hb)
        have n6_ := Aside0.mk (bb (g := g_v) (o := .cells #[.int .i64 t230, .int .i64 t231, .int .u32 t232, .int .u32 t233, .int .u16 t234] 27 (0, 0)) (by (with_reducible repeat (first | refine bN ?_ _ | refine bw ?_ | refine bA ?_ _)); exact B_e.out) hb)
        have n7_ := Aside0.mk (bb (g := g_i) (o := .cells #[.int .i64 t236, .int .i64 t237, .int .u32 t238, .int .u32 t239, .int .u16 t240] 27 (0, 0)) (by (with_reducible repeat (first | refine bN ?_ _ | refine bw ?_ | refine bA ?_ _)); exact B_f.out) hb)
        have n8_ := Aside0.mk (below_step (by repeat (first | (with_reducible first | exact HB.out | apply bl | apply pN | apply b1 | refine bs ?_ G_y.out | refine bs ?_ G_0.out | refine bs ?_ G_2.out | refine bs ?_ G_4.out | refine bs ?_ GE223.out | refine bs ?_ GE229.out | refine bs ?_ GE235.out | refine bs ?_ GE241.out) | exact HB.out)) hb)
        clear B_b
        clear B_c
        clear B_d
        clear B_e
        clear B_f
        clear HB
        have B_b := n3_
        have B_c := n4_
        have B_d := n5_
        have B_e := n6_
        have B_f := n7_
        have HB := n8_
        clear n3_ n4_ n5_ n6_ n7_ n8_
        (try clear hb)
        (try clear hb2)
        (try clear hk)
        (try clear hi)
        refine hK.out _ _ ⟨(bc B_e.out 0).trans rfl, (bc B_e.out 1).trans rfl, (bc B_e.out 2).trans rfl, (bc B_e.out 3).trans rfl, (bc B_e.out 4).trans rfl, (bc B_c.out 0).trans rfl, (bc B_c.out 1).trans rfl, (bc B_c.out 2).trans rfl, (bc B_c.out 3).trans rfl, (bc B_c.out 4).trans rfl, (bc B_b.out 0).trans rfl, (bc B_b.out 1).trans rfl, (bc B_b.out 2).trans rfl, (bc B_b.out 3).trans rfl, (bc B_b.out 4).trans rfl, (bc B_f.out 0).trans rfl, (bc B_f.out 1).trans rfl, (bc B_f.out 2).trans rfl, (bc B_f.out 3).trans rfl, (bc B_f.out 4).trans rfl, (bc B_d.out 0).trans rfl, (bc B_d.out 1).trans rfl, (bc B_d.out 2).trans rfl, (bc B_d.out 3).trans rfl, (bc B_d.out 4).trans rfl⟩ (fun hh => ?_)
        clear hK K
        refine norm_ (a' := ?_) ?_ ?_
        rotate_left
        ·show Act.put _ (some 51) _ = _
         simp only [Act.put, siA, scz, scs, zW, zw]
         rfl
        refine pure_ (i := 22) (N := some 53) (v := ?_) (a' := ?_) (bm 59 8388607) rfl rfl (any_of T_.out (by kernel_rfl)) (fun _ _ _ h => h) (.inl ⟨by first | rfl | (simp only [c12b0, c15b0, c17b0, c19b0, c20b0]; rfl), ?_⟩) ?_ ?_
        rotate_left
        ·intro w'
         go_simp
         with_reducible rfl
        rotate_left
        ·simp only [Act.put, siA, scz, scs, zW, zw]
         rfl
        refine pure_ (i := 23) (N := some 54) (v := ?_) (a' := ?_) (bm 59 16777215) rfl rfl (any_of T_.out (by kernel_rfl)) (fun _ _ _ h => h) (.inl ⟨by first | rfl | (simp only [c12b0, c15b0, c17b0, c19b0, c20b0]; rfl), ?_⟩) ?_ ?_
        rotate_left
        ·intro w'
         go_simp
         with_reducible rfl
        rotate_left
        ·simp only [Act.put, siA, scz, scs, zW, zw]
         rfl
        refine pure_ (i := 24) (N := some 55) (v := ?_) (a' := ?_) (bm 59 33554431) rfl rfl (any_of T_.out (by kernel_rfl)) (fun _ _ _ h => h) (.inl ⟨by first | rfl | (simp only [c12b0, c15b0, c17b0, c19b0, c20b0]; rfl), ?_⟩) ?_ ?_
        rotate_left
        ·intro w'
         go_simp
         with_reducible rfl
        rotate_left
        ·simp only [Act.put, siA, scz, scs, zW, zw]
         rfl
        refine take_ (i := 25) (N := some 56) (v := ?_) (a' := ?_) (bm 59 67108863) rfl rfl (take_ofW T_.out V_.out (by kernel_rfl)) (fun _ _ _ h => h) (.inl ⟨by first | rfl | (simp only [c12b0, c15b0, c17b0, c19b0, c20b0]; rfl), ?_⟩) hh ?_ ?_
        rotate_left
        ·rintro w' ⟨s0, s1, s2, s3, s4, s5, s6, s7, s8, s9, s10, s11, s12, s13, s14, s15, s16, s17, s18, s19, s20, s21, s22, s23, s24⟩
         go_simp
         with_reducible rfl
        rotate_left
        ·simp only [Act.put, siA, scz, scs, zW, zw]
         rfl
        refine take_ (i := 26) (N := some 57) (v := ?_) (a' := ?_) (bm 59 134217727) rfl rfl (take_ofW T_.out V_.out (by kernel_rfl)) (fun _ _ _ h => h) (.inl ⟨by first | rfl | (simp only [c12b0, c15b0, c17b0, c19b0, c20b0]; rfl), ?_⟩) hh ?_ ?_
        rotate_left
        ·rintro w' ⟨s0, s1, s2, s3, s4, s5, s6, s7, s8, s9, s10, s11, s12, s13, s14, s15, s16, s17, s18, s19, s20, s21, s22, s23, s24⟩
         go_simp
         with_reducible rfl
        rotate_left
        ·simp only [Act.put, siA, scz, scs, zW, zw]
         rfl
        refine take_ (i := 28) (N := some 59) (v := ?_) (a' := ?_) (bm 59 402653183) rfl rfl (take_ofW T_.out V_.out (by kernel_rfl)) (fun _ _ _ h => h) (.inl ⟨by first | rfl | (simp only [c12b0, c15b0, c17b0, c19b0, c20b0]; rfl), ?_⟩) hh ?_ ?_
        rotate_left
        ·rintro w' ⟨s0, s1, s2, s3, s4, s5, s6, s7, s8, s9, s10, s11, s12, s13, s14, s15, s16, s17, s18, s19, s20, s21, s22, s23, s24⟩
         go_simp
         with_reducible rfl
        rotate_left
        ·simp only [Act.put, siA, scz, scs, zW, zw]
         rfl
        refine one_ (i := 27) (N := some 58) (bm 59 536870911) rfl rfl (one_of T_.out (by kernel_rfl)) (by decide) (fun K hK => ?_)
        refine goes_ Try.func20 (by kernel_rfl) rfl #[.agg #[.int .i64 3, .int .i64 t213, .int .u32 t214, .int .u32 t215, .int .u16 t216], .agg #[.int .i64 3, .int .i64 t213, .int .u32 t214, .int .u32 t215, .int .u16 t216]] (by rfl) rfl rfl (by (try simp only [List.map_toArray, List.map_cons, List.map_nil]); first | done | rfl | (simp only [List.length_drop, List.length_take]; rfl)) ?_
        with_reducible refine (record_Join.calls k 3 t213 t214 t215 t216 3 t213 t214 t215 t216 t262 t263 t264 t265 t266 _ A18.out).mono ?_
        rintro e w83 ⟨rfl, hb⟩
        refine ⟨_, rfl, ?_⟩
        have n3_ := Aside0.mk (bb (g := g_k) (o := .cells #[.int .i64 3, .int .i64 t213, .int .u32 t214, .int .u32 t215, .int .u16 t216] 27 (0, 0)) (by (with_reducible repeat (first | refine bN ?_ _ | refine bw ?_ | refine bA ?_ _)); exact B_b.out) hb)
        have n4_ := Aside0.mk (bb (g := g_n) (o := .cells #[.int .i64 3, .int .i64 t219, .int .u32 t220, .int .u32 t221, .int .u16 t222] 27 (0, 0)) (by (with_reducible repeat (first | refine bN ?_ _ | refine bw ?_ | refine bA ?_ _)); exact B_c.out) hb)
        have n5_ := Aside0.mk (bb (g := g_q) (o := .cells #[.int .i64 3, .int .i64 t225, .int .u32 t226, .int .u32 t227, .int .u16 t228] 27 (0, 0)) (by (with_reducible repeat (first | refine bN ?_ _ | refine bw ?_ | refine bA ?_ _)); exact B_d.out) hb)
        have n6_ := Aside0.mk (bb (g := g_v) (o := .cells #[.int .i64 t230, .int .i64 t231, .int .u32 t232, .int .u32 t233, .int .u16 t234] 27 (0, 0)) (by (with_reducible repeat (first | refine bN ?_ _ | refine bw ?_ | refine bA ?_ _)); exact B_e.out) hb)
        have n7_ := Aside0.mk (bb (g := g_i) (o := .cells #[.int .i64 t236, .int .i64 t237, .int .u32 t238, .int .u32 t239, .int .u16 t240] 27 (0, 0)) (by (with_reducible repeat (first | refine bN ?_ _ | refine bw ?_ | refine bA ?_ _)); exact B_f.out) hb)
        have n8_ := Aside0.mk (below_step (by repeat (first | (with_reducible first | exact HB.out | apply bl | apply pN | apply b1 | refine bs ?_ G_y.out | refine bs ?_ G_0.out | refine bs ?_ G_2.out | refine bs ?_ G_4.out | refine bs ?_ GE223.out | refine bs ?_ GE229.out | refine bs ?_ GE235.out | refine bs ?_ GE241.out) | exact HB.out)) hb)
        clear B_b
        clear B_c
        clear B_d
        clear B_e
        clear B_f
        clear HB
        have B_b := n3_
        have B_c := n4_
        have B_d := n5_
        have B_e := n6_
        have B_f := n7_
        have HB := n8_
        clear n3_ n4_ n5_ n6_ n7_ n8_
        (try clear hb)
        (try clear hb2)
        (try clear hk)
        (try clear hi)
        refine hK.out _ _ ⟨(bc B_e.out 0).trans rfl, (bc B_e.out 1).trans rfl, (bc B_e.out 2).trans rfl, (bc B_e.out 3).trans rfl, (bc B_e.out 4).trans rfl, (bc B_c.out 0).trans rfl, (bc B_c.out 1).trans rfl, (bc B_c.out 2).trans rfl, (bc B_c.out 3).trans rfl, (bc B_c.out 4).trans rfl, (bc B_b.out 0).trans rfl, (bc B_b.out 1).trans rfl, (bc B_b.out 2).trans rfl, (bc B_b.out 3).trans rfl, (bc B_b.out 4).trans rfl, (bc B_f.out 0).trans rfl, (bc B_f.out 1).trans rfl, (bc B_f.out 2).trans rfl, (bc B_f.out 3).trans rfl, (bc B_f.out 4).trans rfl, (bc B_d.out 0).trans rfl, (bc B_d.out 1).trans rfl, (bc B_d.out 2).trans rfl, (bc B_d.out 3).trans rfl, (bc B_d.out 4).trans rfl⟩ (fun hh => ?_)
        clear hK K
        refine norm_ (a' := ?_) ?_ ?_
        rotate_left
        ·show Act.put _ (some 58) _ = _
         simp only [Act.put, siA, scz, scs, zW, zw]
         rfl
        refine pure_ (i := 29) (N := some 60) (v := ?_) (a' := ?_) (bm 59 1073741823) rfl rfl (any_of T_.out (by kernel_rfl)) (fun _ _ _ h => h) (.inl ⟨by first | rfl | (simp only [c12b0, c15b0, c17b0, c19b0, c20b0]; rfl), ?_⟩) ?_ ?_
        rotate_left
        ·intro w'
         go_simp
         with_reducible rfl
        rotate_left
        ·simp only [Act.put, siA, scz, scs, zW, zw]
         rfl
        refine pure_ (i := 30) (N := some 61) (v := ?_) (a' := ?_) (bm 59 2147483647) rfl rfl (any_of T_.out (by kernel_rfl)) (fun _ _ _ h => h) (.inl ⟨by first | rfl | (simp only [c12b0, c15b0, c17b0, c19b0, c20b0]; rfl), ?_⟩) ?_ ?_
        rotate_left
        ·intro w'
         go_simp
         with_reducible rfl
        rotate_left
        ·simp only [Act.put, siA, scz, scs, zW, zw]
         rfl
        refine pure_ (i := 31) (N := some 62) (v := ?_) (a' := ?_) (bm 59 4294967295) rfl rfl (any_of T_.out (by kernel_rfl)) (fun _ _ _ h => h) (.inl ⟨by first | rfl | (simp only [c12b0, c15b0, c17b0, c19b0, c20b0]; rfl), ?_⟩) ?_ ?_
        rotate_left
        ·intro w'
         go_simp
         with_reducible rfl
        rotate_left
        ·simp only [Act.put, siA, scz, scs, zW, zw]
         rfl
        refine take_ (i := 32) (N := some 63) (v := ?_) (a' := ?_) (bm 59 8589934591) rfl rfl (take_ofW T_.out V_.out (by kernel_rfl)) (fun _ _ _ h => h) (.inl ⟨by first | rfl | (simp only [c12b0, c15b0, c17b0, c19b0, c20b0]; rfl), ?_⟩) hh ?_ ?_
        rotate_left
        ·rintro w' ⟨s0, s1, s2, s3, s4, s5, s6, s7, s8, s9, s10, s11, s12, s13, s14, s15, s16, s17, s18, s19, s20, s21, s22, s23, s24⟩
         go_simp
         with_reducible rfl
        rotate_left
        ·simp only [Act.put, siA, scz, scs, zW, zw]
         rfl
        refine take_ (i := 33) (N := some 64) (v := ?_) (a' := ?_) (bm 59 17179869183) rfl rfl (take_ofW T_.out V_.out (by kernel_rfl)) (fun _ _ _ h => h) (.inl ⟨by first | rfl | (simp only [c12b0, c15b0, c17b0, c19b0, c20b0]; rfl), ?_⟩) hh ?_ ?_
        rotate_left
        ·rintro w' ⟨s0, s1, s2, s3, s4, s5, s6, s7, s8, s9, s10, s11, s12, s13, s14, s15, s16, s17, s18, s19, s20, s21, s22, s23, s24⟩
         go_simp
         with_reducible rfl
        rotate_left
        ·simp only [Act.put, siA, scz, scs, zW, zw]
         rfl
        refine pure_ (i := 34) (N := some 65) (v := ?_) (a' := ?_) (bm 59 34359738367) rfl rfl (any_of T_.out (by kernel_rfl)) (fun _ _ _ h => h) (.inl ⟨by first | rfl | (simp only [c12b0, c15b0, c17b0, c19b0, c20b0]; rfl), ?_⟩) ?_ ?_
        rotate_left
        ·intro w'
         go_simp
         with_reducible rfl
        rotate_left
        ·simp only [Act.put, siA, scz, scs, zW, zw]
         rfl
        refine pure_ (i := 35) (N := some 66) (v := ?_) (a' := ?_) (bm 59 68719476735) rfl rfl (any_of T_.out (by kernel_rfl)) (fun _ _ _ h => h) (.inl ⟨by first | rfl | (simp only [c12b0, c15b0, c17b0, c19b0, c20b0]; rfl), ?_⟩) ?_ ?_
        rotate_left
        ·intro w'
         go_simp
         with_reducible rfl
        rotate_left
        ·simp only [Act.put, siA, scz, scs, zW, zw]
         rfl
        refine pure_ (i := 36) (N := some 67) (v := undef) (a' := ?_) (bm 59 137438953471) rfl rfl (any_of T_.out (by kernel_rfl)) (fun _ _ _ h => h) (Or.inr ⟨by rfl, rfl⟩) ?_ ?_
        rotate_left
        ·simp only [Act.put, siA, scz, scs, zW, zw]
         rfl
        refine pure_ (i := 37) (N := some 68) (v := undef) (a' := ?_) (bm 59 274877906943) rfl rfl (any_of T_.out (by kernel_rfl)) (fun _ _ _ h => h) (Or.inr ⟨by rfl, rfl⟩) ?_ ?_
        rotate_left
        ·simp only [Act.put, siA, scz, scs, zW, zw]
         rfl
        refine pure_ (i := 38) (N := some 69) (v := undef) (a' := ?_) (bm 59 549755813887) rfl rfl (any_of T_.out (by kernel_rfl)) (fun _ _ _ h => h) (Or.inr ⟨by rfl, rfl⟩) ?_ ?_
        rotate_left
        ·simp only [Act.put, siA, scz, scs, zW, zw]
         rfl
        refine pure_ (i := 39) (N := some 70) (v := ?_) (a' := ?_) (bm 59 1099511627775) rfl rfl (any_of T_.out (by kernel_rfl)) (fun _ _ _ h => h) (.inl ⟨by first | rfl | (simp only [c12b0, c15b0, c17b0, c19b0, c20b0]; rfl), ?_⟩) ?_ ?_
        rotate_left
        ·intro w'
         go_simp
         with_reducible rfl
        rotate_left
        ·simp only [Act.put, siA, scz, scs, zW, zw]
         rfl
        refine pure_ (i := 40) (N := some 71) (v := ?_) (a' := ?_) (bm 59 2199023255551) rfl rfl (any_of T_.out (by kernel_rfl)) (fun _ _ _ h => h) (.inl ⟨by first | rfl | (simp only [c12b0, c15b0, c17b0, c19b0, c20b0]; rfl), ?_⟩) ?_ ?_
        rotate_left
        ·intro w'
         go_simp
         with_reducible rfl
        rotate_left
        ·simp only [Act.put, siA, scz, scs, zW, zw]
         rfl
        refine pure_ (i := 41) (N := some 72) (v := undef) (a' := ?_) (bm 59 4398046511103) rfl rfl (any_of T_.out (by kernel_rfl)) (fun _ _ _ h => h) (Or.inr ⟨by rfl, rfl⟩) ?_ ?_
        rotate_left
        ·simp only [Act.put, siA, scz, scs, zW, zw]
         rfl
        refine pure_ (i := 42) (N := some 73) (v := undef) (a' := ?_) (bm 59 8796093022207) rfl rfl (any_of T_.out (by kernel_rfl)) (fun _ _ _ h => h) (Or.inr ⟨by rfl, rfl⟩) ?_ ?_
        rotate_left
        ·simp only [Act.put, siA, scz, scs, zW, zw]
         rfl
        refine pure_ (i := 43) (N := some 74) (v := undef) (a' := ?_) (bm 59 17592186044415) rfl rfl (any_of T_.out (by kernel_rfl)) (fun _ _ _ h => h) (Or.inr ⟨by rfl, rfl⟩) ?_ ?_
        rotate_left
        ·simp only [Act.put, siA, scz, scs, zW, zw]
         rfl
        refine pure_ (i := 44) (N := some 75) (v := ?_) (a' := ?_) (bm 59 35184372088831) rfl rfl (any_of T_.out (by kernel_rfl)) (fun _ _ _ h => h) (.inl ⟨by first | rfl | (simp only [c12b0, c15b0, c17b0, c19b0, c20b0]; rfl), ?_⟩) ?_ ?_
        rotate_left
        ·intro w'
         go_simp
         with_reducible rfl
        rotate_left
        ·simp only [Act.put, siA, scz, scs, zW, zw]
         rfl
        refine pure_ (i := 45) (N := some 76) (v := ?_) (a' := ?_) (bm 59 70368744177663) rfl rfl (any_of T_.out (by kernel_rfl)) (fun _ _ _ h => h) (.inl ⟨by first | rfl | (simp only [c12b0, c15b0, c17b0, c19b0, c20b0]; rfl), ?_⟩) ?_ ?_
        rotate_left
        ·intro w'
         go_simp
         with_reducible rfl
        rotate_left
        ·simp only [Act.put, siA, scz, scs, zW, zw]
         rfl
        refine pure_ (i := 46) (N := some 77) (v := ?_) (a' := ?_) (bm 59 140737488355327) rfl rfl (any_of T_.out (by kernel_rfl)) (fun _ _ _ h => h) (.inl ⟨by first | rfl | (simp only [c12b0, c15b0, c17b0, c19b0, c20b0]; rfl), ?_⟩) ?_ ?_
        rotate_left
        ·intro w'
         go_simp
         with_reducible rfl
        rotate_left
        ·simp only [Act.put, siA, scz, scs, zW, zw]
         rfl
        refine take_ (i := 47) (N := some 78) (v := ?_) (a' := ?_) (bm 59 281474976710655) rfl rfl (take_ofW T_.out V_.out (by kernel_rfl)) (fun _ _ _ h => h) (.inl ⟨by first | rfl | (simp only [c12b0, c15b0, c17b0, c19b0, c20b0]; rfl), ?_⟩) hh ?_ ?_
        rotate_left
        ·rintro w' ⟨s0, s1, s2, s3, s4, s5, s6, s7, s8, s9, s10, s11, s12, s13, s14, s15, s16, s17, s18, s19, s20, s21, s22, s23, s24⟩
         go_simp
         with_reducible rfl
        rotate_left
        ·simp only [Act.put, siA, scz, scs, zW, zw]
         rfl
        refine take_ (i := 48) (N := some 79) (v := ?_) (a' := ?_) (bm 59 562949953421311) rfl rfl (take_ofW T_.out V_.out (by kernel_rfl)) (fun _ _ _ h => h) (.inl ⟨by first | rfl | (simp only [c12b0, c15b0, c17b0, c19b0, c20b0]; rfl), ?_⟩) hh ?_ ?_
        rotate_left
        ·rintro w' ⟨s0, s1, s2, s3, s4, s5, s6, s7, s8, s9, s10, s11, s12, s13, s14, s15, s16, s17, s18, s19, s20, s21, s22, s23, s24⟩
         go_simp
         with_reducible rfl
        rotate_left
        ·simp only [Act.put, siA, scz, scs, zW, zw]
         rfl
        refine one_ (i := 49) (N := some 80) (bm 59 1125899906842623) rfl rfl (one_of T_.out (by kernel_rfl)) (by decide) (fun K hK => ?_)
        refine goes_ Try.func16 (by kernel_rfl) rfl #[.agg #[.int .i64 t236, .int .i64 t237, .int .u32 t238, .int .u32 t239, .int .u16 t240], .agg #[.int .i64 3, .int .i64 t213, .int .u32 t214, .int .u32 t215, .int .u16 t216]] (by rfl) rfl rfl (by (try simp only [List.map_toArray, List.map_cons, List.map_nil]); first | done | rfl | (simp only [List.length_drop, List.length_take]; rfl)) ?_
        with_reducible refine (record_Order.calls k t236 t237 t238 t239 t240 3 t213 t214 t215 t216 t267 _ A21.out).mono ?_
        rintro e w84 ⟨rfl, hb⟩
        refine ⟨_, rfl, ?_⟩
        have n3_ := Aside0.mk (bb (g := g_k) (o := .cells #[.int .i64 3, .int .i64 t213, .int .u32 t214, .int .u32 t215, .int .u16 t216] 27 (0, 0)) (by (with_reducible repeat (first | refine bN ?_ _ | refine bw ?_ | refine bA ?_ _)); exact B_b.out) hb)
        have n4_ := Aside0.mk (bb (g := g_n) (o := .cells #[.int .i64 3, .int .i64 t219, .int .u32 t220, .int .u32 t221, .int .u16 t222] 27 (0, 0)) (by (with_reducible repeat (first | refine bN ?_ _ | refine bw ?_ | refine bA ?_ _)); exact B_c.out) hb)
        have n5_ := Aside0.mk (bb (g := g_q) (o := .cells #[.int .i64 3, .int .i64 t225, .int .u32 t226, .int .u32 t227, .int .u16 t228] 27 (0, 0)) (by (with_reducible repeat (first | refine bN ?_ _ | refine bw ?_ | refine bA ?_ _)); exact B_d.out) hb)
        have n6_ := Aside0.mk (bb (g := g_v) (o := .cells #[.int .i64 t230, .int .i64 t231, .int .u32 t232, .int .u32 t233, .int .u16 t234] 27 (0, 0)) (by (with_reducible repeat (first | refine bN ?_ _ | refine bw ?_ | refine bA ?_ _)); exact B_e.out) hb)
        have n7_ := Aside0.mk (bb (g := g_i) (o := .cells #[.int .i64 t236, .int .i64 t237, .int .u32 t238, .int .u32 t239, .int .u16 t240] 27 (0, 0)) (by (with_reducible repeat (first | refine bN ?_ _ | refine bw ?_ | refine bA ?_ _)); exact B_f.out) hb)
        have n8_ := Aside0.mk (below_step (by repeat (first | (with_reducible first | exact HB.out | apply bl | apply pN | apply b1 | refine bs ?_ G_y.out | refine bs ?_ G_0.out | refine bs ?_ G_2.out | refine bs ?_ G_4.out | refine bs ?_ GE223.out | refine bs ?_ GE229.out | refine bs ?_ GE235.out | refine bs ?_ GE241.out) | exact HB.out)) hb)
        clear B_b
        clear B_c
        clear B_d
        clear B_e
        clear B_f
        clear HB
        have B_b := n3_
        have B_c := n4_
        have B_d := n5_
        have B_e := n6_
        have B_f := n7_
        have HB := n8_
        clear n3_ n4_ n5_ n6_ n7_ n8_
        (try clear hb)
        (try clear hb2)
        (try clear hk)
        (try clear hi)
        refine hK.out _ _ ⟨(bc B_e.out 0).trans rfl, (bc B_e.out 1).trans rfl, (bc B_e.out 2).trans rfl, (bc B_e.out 3).trans rfl, (bc B_e.out 4).trans rfl, (bc B_c.out 0).trans rfl, (bc B_c.out 1).trans rfl, (bc B_c.out 2).trans rfl, (bc B_c.out 3).trans rfl, (bc B_c.out 4).trans rfl, (bc B_b.out 0).trans rfl, (bc B_b.out 1).trans rfl, (bc B_b.out 2).trans rfl, (bc B_b.out 3).trans rfl, (bc B_b.out 4).trans rfl, (bc B_f.out 0).trans rfl, (bc B_f.out 1).trans rfl, (bc B_f.out 2).trans rfl, (bc B_f.out 3).trans rfl, (bc B_f.out 4).trans rfl, (bc B_d.out 0).trans rfl, (bc B_d.out 1).trans rfl, (bc B_d.out 2).trans rfl, (bc B_d.out 3).trans rfl, (bc B_d.out 4).trans rfl⟩ (fun hh => ?_)
        clear hK K
        refine norm_ (a' := ?_) ?_ ?_
        rotate_left
        ·show Act.put _ (some 80) _ = _
         simp only [Act.put, siA, scz, scs, zW, zw]
         rfl
        refine pure_ (i := 50) (N := some 81) (v := ?_) (a' := ?_) (bm 59 2251799813685247) rfl rfl (any_of T_.out (by kernel_rfl)) (fun _ _ _ h => h) (.inl ⟨by first | rfl | (simp only [c12b0, c15b0, c17b0, c19b0, c20b0]; rfl), ?_⟩) ?_ ?_
        rotate_left
        ·intro w'
         go_simp
         with_reducible rfl
        rotate_left
        ·simp only [Act.put, siA, scz, scs, zW, zw]
         rfl
        refine pure_ (i := 51) (N := some 82) (v := ?_) (a' := ?_) (bm 59 4503599627370495) rfl rfl (any_of T_.out (by kernel_rfl)) (fun _ _ _ h => h) (.inl ⟨by first | rfl | (simp only [c12b0, c15b0, c17b0, c19b0, c20b0]; rfl), ?_⟩) ?_ ?_
        rotate_left
        ·intro w'
         go_simp
         with_reducible rfl
        rotate_left
        ·simp only [Act.put, siA, scz, scs, zW, zw]
         rfl
        refine pure_ (i := 52) (N := some 83) (v := ?_) (a' := ?_) (bm 59 9007199254740991) rfl rfl (any_of T_.out (by kernel_rfl)) (fun _ _ _ h => h) (.inl ⟨by first | rfl | (simp only [c12b0, c15b0, c17b0, c19b0, c20b0]; rfl), ?_⟩) ?_ ?_
        rotate_left
        ·intro w'
         go_simp
         with_reducible rfl
        rotate_left
        ·simp only [Act.put, siA, scz, scs, zW, zw]
         rfl
        refine take_ (i := 53) (N := some 84) (v := ?_) (a' := ?_) (bm 59 18014398509481983) rfl rfl (take_ofW T_.out V_.out (by kernel_rfl)) (fun _ _ _ h => h) (.inl ⟨by first | rfl | (simp only [c12b0, c15b0, c17b0, c19b0, c20b0]; rfl), ?_⟩) hh ?_ ?_
        rotate_left
        ·rintro w' ⟨s0, s1, s2, s3, s4, s5, s6, s7, s8, s9, s10, s11, s12, s13, s14, s15, s16, s17, s18, s19, s20, s21, s22, s23, s24⟩
         go_simp
         with_reducible rfl
        rotate_left
        ·simp only [Act.put, siA, scz, scs, zW, zw]
         rfl
        refine take_ (i := 54) (N := some 85) (v := ?_) (a' := ?_) (bm 59 36028797018963967) rfl rfl (take_ofW T_.out V_.out (by kernel_rfl)) (fun _ _ _ h => h) (.inl ⟨by first | rfl | (simp only [c12b0, c15b0, c17b0, c19b0, c20b0]; rfl), ?_⟩) hh ?_ ?_
        rotate_left
        ·rintro w' ⟨s0, s1, s2, s3, s4, s5, s6, s7, s8, s9, s10, s11, s12, s13, s14, s15, s16, s17, s18, s19, s20, s21, s22, s23, s24⟩
         go_simp
         with_reducible rfl
        rotate_left
        ·simp only [Act.put, siA, scz, scs, zW, zw]
         rfl
        refine one_ (i := 55) (N := some 86) (bm 59 72057594037927935) rfl rfl (one_of T_.out (by kernel_rfl)) (by decide) (fun K hK => ?_)
        refine goes_ Try.func16 (by kernel_rfl) rfl #[.agg #[.int .i64 t236, .int .i64 t237, .int .u32 t238, .int .u32 t239, .int .u16 t240], .agg #[.int .i64 3, .int .i64 t225, .int .u32 t226, .int .u32 t227, .int .u16 t228]] (by rfl) rfl rfl (by (try simp only [List.map_toArray, List.map_cons, List.map_nil]); first | done | rfl | (simp only [List.length_drop, List.length_take]; rfl)) ?_
        with_reducible refine (record_Order.calls k t236 t237 t238 t239 t240 3 t225 t226 t227 t228 t268 _ A23.out).mono ?_
        rintro e w85 ⟨rfl, hb⟩
        refine ⟨_, rfl, ?_⟩
        have n3_ := Aside0.mk (bb (g := g_k) (o := .cells #[.int .i64 3, .int .i64 t213, .int .u32 t214, .int .u32 t215, .int .u16 t216] 27 (0, 0)) (by (with_reducible repeat (first | refine bN ?_ _ | refine bw ?_ | refine bA ?_ _)); exact B_b.out) hb)
        have n4_ := Aside0.mk (bb (g := g_n) (o := .cells #[.int .i64 3, .int .i64 t219, .int .u32 t220, .int .u32 t221, .int .u16 t222] 27 (0, 0)) (by (with_reducible repeat (first | refine bN ?_ _ | refine bw ?_ | refine bA ?_ _)); exact B_c.out) hb)
        have n5_ := Aside0.mk (bb (g := g_q) (o := .cells #[.int .i64 3, .int .i64 t225, .int .u32 t226, .int .u32 t227, .int .u16 t228] 27 (0, 0)) (by (with_reducible repeat (first | refine bN ?_ _ | refine bw ?_ | refine bA ?_ _)); exact B_d.out) hb)
        have n6_ := Aside0.mk (bb (g := g_v) (o := .cells #[.int .i64 t230, .int .i64 t231, .int .u32 t232, .int .u32 t233, .int .u16 t234] 27 (0, 0)) (by (with_reducible repeat (first | refine bN ?_ _ | refine bw ?_ | refine bA ?_ _)); exact B_e.out) hb)
        have n7_ := Aside0.mk (bb (g := g_i) (o := .cells #[.int .i64 t236, .int .i64 t237, .int .u32 t238, .int .u32 t239, .int .u16 t240] 27 (0, 0)) (by (with_reducible repeat (first | refine bN ?_ _ | refine bw ?_ | refine bA ?_ _)); exact B_f.out) hb)
        have n8_ := Aside0.mk (below_step (by repeat (first | (with_reducible first | exact HB.out | apply bl | apply pN | apply b1 | refine bs ?_ G_y.out | refine bs ?_ G_0.out | refine bs ?_ G_2.out | refine bs ?_ G_4.out | refine bs ?_ GE223.out | refine bs ?_ GE229.out | refine bs ?_ GE235.out | refine bs ?_ GE241.out) | exact HB.out)) hb)
        clear B_b
        clear B_c
        clear B_d
        clear B_e
        clear B_f
        clear HB
        have B_b := n3_
        have B_c := n4_
        have B_d := n5_
        have B_e := n6_
        have B_f := n7_
        have HB := n8_
        clear n3_ n4_ n5_ n6_ n7_ n8_
        (try clear hb)
        (try clear hb2)
        (try clear hk)
        (try clear hi)
        refine hK.out _ _ ⟨(bc B_e.out 0).trans rfl, (bc B_e.out 1).trans rfl, (bc B_e.out 2).trans rfl, (bc B_e.out 3).trans rfl, (bc B_e.out 4).trans rfl, (bc B_c.out 0).trans rfl, (bc B_c.out 1).trans rfl, (bc B_c.out 2).trans rfl, (bc B_c.out 3).trans rfl, (bc B_c.out 4).trans rfl, (bc B_b.out 0).trans rfl, (bc B_b.out 1).trans rfl, (bc B_b.out 2).trans rfl, (bc B_b.out 3).trans rfl, (bc B_b.out 4).trans rfl, (bc B_f.out 0).trans rfl, (bc B_f.out 1).trans rfl, (bc B_f.out 2).trans rfl, (bc B_f.out 3).trans rfl, (bc B_f.out 4).trans rfl, (bc B_d.out 0).trans rfl, (bc B_d.out 1).trans rfl, (bc B_d.out 2).trans rfl, (bc B_d.out 3).trans rfl, (bc B_d.out 4).trans rfl⟩ (fun hh => ?_)
        clear hK K
        refine norm_ (a' := ?_) ?_ ?_
        rotate_left
        ·show Act.put _ (some 86) _ = _
         simp only [Act.put, siA, scz, scs, zW, zw]
         rfl
        refine pure_ (i := 56) (N := some 87) (v := ?_) (a' := ?_) (bm 59 144115188075855871) rfl rfl (any_of T_.out (by kernel_rfl)) (fun _ _ _ h => h) (.inl ⟨by first | rfl | (simp only [c12b0, c15b0, c17b0, c19b0, c20b0]; rfl), ?_⟩) ?_ ?_
        rotate_left
        ·intro w'
         go_simp
         with_reducible rfl
        rotate_left
        ·simp only [Act.put, siA, scz, scs, zW, zw]
         rfl
        refine pure_ (i := 57) (N := some 88) (v := ?_) (a' := ?_) (bm 59 288230376151711743) rfl rfl (any_of T_.out (by kernel_rfl)) (fun _ _ _ h => h) (.inl ⟨by first | rfl | (simp only [c12b0, c15b0, c17b0, c19b0, c20b0]; rfl), ?_⟩) ?_ ?_
        rotate_left
        ·intro w'
         go_simp
         with_reducible rfl
        rotate_left
        ·simp only [Act.put, siA, scz, scs, zW, zw]
         rfl
        refine pure_ (i := 58) (N := some 6) (v := ?_) (a' := ?_) (bm 59 576460752303423487) rfl rfl (any_of T_.out (by kernel_rfl)) (fun _ _ _ h => h) (.inl ⟨by first | rfl | (simp only [c12b0, c15b0, c17b0, c19b0, c20b0]; rfl), ?_⟩) ?_ ?_
        rotate_left
        ·intro w'
         go_simp
         with_reducible rfl
        rotate_left
        ·simp only [Act.put, siA, scz, scs, zW, zw]
         rfl
        refine done_ (done_of T_.out (by kernel_rfl)) ?_
        try go_wp2
        go_ret
        exact ⟨by first | rfl | (simp only [ne_nil, eq_nil]; rfl) | (simp [ne_nil, eq_nil]; done) | (simp [errW_none, errW_some] <;> rfl) | (simp [*, errW_none, errW_some] <;> rfl), by repeat (first | (with_reducible first | exact HB.out | apply bl | apply pN | apply b1 | refine bs ?_ G_y.out | refine bs ?_ G_0.out | refine bs ?_ G_2.out | refine bs ?_ G_4.out | refine bs ?_ GE223.out | refine bs ?_ GE229.out | refine bs ?_ GE235.out | refine bs ?_ GE241.out) | exact HB.out)⟩
       ·(first | rw [if_neg c22] at H | exact absurd rfl c22)
        have c22b0 : decide (0 ≤ t267) = false := decide_eq_false c22
        clear c22
        exact absurd H (by simp)
      ·(first | rw [if_neg c20] at H | exact absurd rfl c20)
       have c20b0 : (t236 == 3 && (t237 == t213 && (t238 == t214 && ((t239 == t215 && (t240 == t216)))))) = false := by simpa using c20
       (try (have c20b1 : decide (t236 = 3 && (t237 == t213 && (t238 == t214 && ((t239 == t215 && (t240 == t216)))))) = false := by simpa using c20))
       (try (have c20b2 : (t236 == 3 && (t237 == t213 && (t238 == t214 && ((t239 == t215 && (t240 == t216)))))) = false := by simpa using c20))
       (try (have c20b3 : ¬ (t236 = 3 && (t237 == t213 && (t238 == t214 && ((t239 == t215 && (t240 == t216)))))) := by simpa using c20))
       clear c20
       by_cases c86 : (t236 == 3 && (t237 == t219 && (t238 == t220 && ((t239 == t221 && (t240 == t222)))))) = true
       ·rw [if_pos c86] at H
        have c86b0 : (t236 == 3 && (t237 == t219 && (t238 == t220 && ((t239 == t221 && (t240 == t222)))))) = true := c86
        (try (have c86b1 : decide (t236 = 3 && (t237 == t219 && (t238 == t220 && ((t239 == t221 && (t240 == t222)))))) = true := by simpa using c86))
        (try (have c86b2 : (t236 == 3 && (t237 == t219 && (t238 == t220 && ((t239 == t221 && (t240 == t222)))))) = true := by simpa using c86))
        clear c86
        replace H := Option.bind_eq_some_iff.mp H
        obtain ⟨t269, A870, H⟩ := H
        replace H : (if t269 ≥ 0 then ((record_Order.f k t236 t237 t238 t239 t240 3 t225 t226 t227 t228).bind fun t270 => (some (decide (t270 ≥ 0)))) else (none)) = some r := H
        have A87 := Aside0.mk A870
        clear A870
        by_cases c88 : t269 ≥ 0
        ·rw [if_pos c88] at H
         have c88b0 : decide (0 ≤ t269) = true := decide_eq_true c88
         clear c88
         replace H := Option.bind_eq_some_iff.mp H
         obtain ⟨t270, A890, H⟩ := H
         replace H : (some (decide (t270 ≥ 0))) = some r := H
         have A89 := Aside0.mk A890
         clear A890
         obtain rfl := Option.some.inj H
         clear B_o B_r B_t
         refine start_ (n := 59) (S := fun w' => w'.cell? ⟨g_v, 0, none⟩ = some (.int .i64 t230) ∧ w'.cell? ⟨g_v, 1, none⟩ = some (.int .i64 t231) ∧ w'.cell? ⟨g_v, 2, none⟩ = some (.int .u32 t232) ∧ w'.cell? ⟨g_v, 3, none⟩ = some (.int .u32 t233) ∧ w'.cell? ⟨g_v, 4, none⟩ = some (.int .u16 t234) ∧ w'.cell? ⟨g_n, 0, none⟩ = some (.int .i64 3) ∧ w'.cell? ⟨g_n, 1, none⟩ = some (.int .i64 t219) ∧ w'.cell? ⟨g_n, 2, none⟩ = some (.int .u32 t220) ∧ w'.cell? ⟨g_n, 3, none⟩ = some (.int .u32 t221) ∧ w'.cell? ⟨g_n, 4, none⟩ = some (.int .u16 t222) ∧ w'.cell? ⟨g_k, 0, none⟩ = some (.int .i64 3) ∧ w'.cell? ⟨g_k, 1, none⟩ = some (.int .i64 t213) ∧ w'.cell? ⟨g_k, 2, none⟩ = some (.int .u32 t214) ∧ w'.cell? ⟨g_k, 3, none⟩ = some (.int .u32 t215) ∧ w'.cell? ⟨g_k, 4, none⟩ = some (.int .u16 t216) ∧ w'.cell? ⟨g_i, 0, none⟩ = some (.int .i64 t236) ∧ w'.cell? ⟨g_i, 1, none⟩ = some (.int .i64 t237) ∧ w'.cell? ⟨g_i, 2, none⟩ = some (.int .u32 t238) ∧ w'.cell? ⟨g_i, 3, none⟩ = some (.int .u32 t239) ∧ w'.cell? ⟨g_i, 4, none⟩ = some (.int .u16 t240) ∧ w'.cell? ⟨g_q, 0, none⟩ = some (.int .i64 3) ∧ w'.cell? ⟨g_q, 1, none⟩ = some (.int .i64 t225) ∧ w'.cell? ⟨g_q, 2, none⟩ = some (.int .u32 t226) ∧ w'.cell? ⟨g_q, 3, none⟩ = some (.int .u32 t227) ∧ w'.cell? ⟨g_q, 4, none⟩ = some (.int .u16 t228)) (ds := []) (bm 59 0) (by kernel_rfl) rfl rfl ⟨(bc B_e.out 0).trans rfl, (bc B_e.out 1).trans rfl, (bc B_e.out 2).trans rfl, (bc B_e.out 3).trans rfl, (bc B_e.out 4).trans rfl, (bc B_c.out 0).trans rfl, (bc B_c.out 1).trans rfl, (bc B_c.out 2).trans rfl, (bc B_c.out 3).trans rfl, (bc B_c.out 4).trans rfl, (bc B_b.out 0).trans rfl, (bc B_b.out 1).trans rfl, (bc B_b.out 2).trans rfl, (bc B_b.out 3).trans rfl, (bc B_b.out 4).trans rfl, (bc B_f.out 0).trans rfl, (bc B_f.out 1).trans rfl, (bc B_f.out 2).trans rfl, (bc B_f.out 3).trans rfl, (bc B_f.out 4).trans rfl, (bc B_d.out 0).trans rfl, (bc B_d.out 1).trans rfl, (bc B_d.out 2).trans rfl, (bc B_d.out 3).trans rfl, (bc B_d.out 4).trans rfl⟩ (fun hh => ?_); refine with_tabW law04_RecordJoins.tab12 law04_RecordJoins.bits12 (fun T_ V_ => ?_)
         generalize w77.drew = w144 at B_b B_c B_d B_e B_f HB hh ⊢
         refine pure_ (i := 0) (N := some 31) (v := ?_) (a' := ?_) (bm 59 1) rfl rfl (any_of T_.out (by kernel_rfl)) (fun _ _ _ h => h) (.inl ⟨by first | rfl | (simp only [c12b0, c15b0, c17b0, c19b0, c20b0, c86b0]; rfl), ?_⟩) ?_ ?_
         rotate_left
         ·intro w'
          go_simp
          with_reducible rfl
         rotate_left
         ·simp only [Act.put, siA, scz, scs, zW, zw]
          rfl
         refine pure_ (i := 1) (N := some 32) (v := ?_) (a' := ?_) (bm 59 3) rfl rfl (any_of T_.out (by kernel_rfl)) (fun _ _ _ h => h) (.inl ⟨by first | rfl | (simp only [c12b0, c15b0, c17b0, c19b0, c20b0, c86b0]; rfl), ?_⟩) ?_ ?_
         rotate_left
         ·intro w'
          go_simp
          with_reducible rfl
         rotate_left
         ·simp only [Act.put, siA, scz, scs, zW, zw]
          rfl
         refine take_ (i := 2) (N := some 33) (v := ?_) (a' := ?_) (bm 59 7) rfl rfl (take_ofW T_.out V_.out (by kernel_rfl)) (fun _ _ _ h => h) (.inl ⟨by first | rfl | (simp only [c12b0, c15b0, c17b0, c19b0, c20b0, c86b0]; rfl), ?_⟩) hh ?_ ?_
         rotate_left
         ·rintro w' ⟨s0, s1, s2, s3, s4, s5, s6, s7, s8, s9, s10, s11, s12, s13, s14, s15, s16, s17, s18, s19, s20, s21, s22, s23, s24⟩
          go_simp
          with_reducible rfl
         rotate_left
         ·simp only [Act.put, siA, scz, scs, zW, zw]
          rfl
         refine take_ (i := 3) (N := some 34) (v := ?_) (a' := ?_) (bm 59 15) rfl rfl (take_ofW T_.out V_.out (by kernel_rfl)) (fun _ _ _ h => h) (.inl ⟨by first | rfl | (simp only [c12b0, c15b0, c17b0, c19b0, c20b0, c86b0]; rfl), ?_⟩) hh ?_ ?_
         rotate_left
         ·rintro w' ⟨s0, s1, s2, s3, s4, s5, s6, s7, s8, s9, s10, s11, s12, s13, s14, s15, s16, s17, s18, s19, s20, s21, s22, s23, s24⟩
          go_simp
          with_reducible rfl
         rotate_left
         ·simp only [Act.put, siA, scz, scs, zW, zw]
          rfl
         refine take_ (i := 4) (N := some 35) (v := ?_) (a' := ?_) (bm 59 31) rfl rfl (take_ofW T_.out V_.out (by kernel_rfl)) (fun _ _ _ h => h) (.inl ⟨by first | rfl | (simp only [c12b0, c15b0, c17b0, c19b0, c20b0, c86b0]; rfl), ?_⟩) hh ?_ ?_
         rotate_left
         ·rintro w' ⟨s0, s1, s2, s3, s4, s5, s6, s7, s8, s9, s10, s11, s12, s13, s14, s15, s16, s17, s18, s19, s20, s21, s22, s23, s24⟩
          go_simp
          with_reducible rfl
         rotate_left
         ·simp only [Act.put, siA, scz, scs, zW, zw]
          rfl
         refine one_ (i := 5) (N := some 36) (bm 59 63) rfl rfl (one_of T_.out (by kernel_rfl)) (by decide) (fun K hK => ?_)
         refine goes_ Try.func20 (by kernel_rfl) rfl #[.agg #[.int .i64 3, .int .i64 t219, .int .u32 t220, .int .u32 t221, .int .u16 t222], .agg #[.int .i64 3, .int .i64 t213, .int .u32 t214, .int .u32 t215, .int .u16 t216]] (by rfl) rfl rfl (by (try simp only [List.map_toArray, List.map_cons, List.map_nil]); first | done | rfl | (simp only [List.length_drop, List.length_take]; rfl)) ?_
         with_reducible refine (record_Join.calls k 3 t219 t220 t221 t222 3 t213 t214 t215 t216 t242 t243 t244 t245 t246 _ A11.out).mono ?_
         rintro e w145 ⟨rfl, hb⟩
         refine ⟨_, rfl, ?_⟩
         have n3_ := Aside0.mk (bb (g := g_k) (o := .cells #[.int .i64 3, .int .i64 t213, .int .u32 t214, .int .u32 t215, .int .u16 t216] 27 (0, 0)) (by (with_reducible repeat (first | refine bN ?_ _ | refine bw ?_ | refine bA ?_ _)); exact B_b.out) hb)
         have n4_ := Aside0.mk (bb (g := g_n) (o := .cells #[.int .i64 3, .int .i64 t219, .int .u32 t220, .int .u32 t221, .int .u16 t222] 27 (0, 0)) (by (with_reducible repeat (first | refine bN ?_ _ | refine bw ?_ | refine bA ?_ _)); exact B_c.out) hb)
         have n5_ := Aside0.mk (bb (g := g_q) (o := .cells #[.int .i64 3, .int .i64 t225, .int .u32 t226, .int .u32 t227, .int .u16 t228] 27 (0, 0)) (by (with_reducible repeat (first | refine bN ?_ _ | refine bw ?_ | refine bA ?_ _)); exact B_d.out) hb)
         have n6_ := Aside0.mk (bb (g := g_v) (o := .cells #[.int .i64 t230, .int .i64 t231, .int .u32 t232, .int .u32 t233, .int .u16 t234] 27 (0, 0)) (by (with_reducible repeat (first | refine bN ?_ _ | refine bw ?_ | refine bA ?_ _)); exact B_e.out) hb)
         have n7_ := Aside0.mk (bb (g := g_i) (o := .cells #[.int .i64 t236, .int .i64 t237, .int .u32 t238, .int .u32 t239, .int .u16 t240] 27 (0, 0)) (by (with_reducible repeat (first | refine bN ?_ _ | refine bw ?_ | refine bA ?_ _)); exact B_f.out) hb)
         have n8_ := Aside0.mk (below_step (by repeat (first | (with_reducible first | exact HB.out | apply bl | apply pN | apply b1 | refine bs ?_ G_y.out | refine bs ?_ G_0.out | refine bs ?_ G_2.out | refine bs ?_ G_4.out | refine bs ?_ GE223.out | refine bs ?_ GE229.out | refine bs ?_ GE235.out | refine bs ?_ GE241.out) | exact HB.out)) hb)
         clear B_b
         clear B_c
         clear B_d
         clear B_e
         clear B_f
         clear HB
         have B_b := n3_
         have B_c := n4_
         have B_d := n5_
         have B_e := n6_
         have B_f := n7_
         have HB := n8_
         clear n3_ n4_ n5_ n6_ n7_ n8_
         (try clear hb)
         (try clear hb2)
         (try clear hk)
         (try clear hi)
         refine hK.out _ _ ⟨(bc B_e.out 0).trans rfl, (bc B_e.out 1).trans rfl, (bc B_e.out 2).trans rfl, (bc B_e.out 3).trans rfl, (bc B_e.out 4).trans rfl, (bc B_c.out 0).trans rfl, (bc B_c.out 1).trans rfl, (bc B_c.out 2).trans rfl, (bc B_c.out 3).trans rfl, (bc B_c.out 4).trans rfl, (bc B_b.out 0).trans rfl, (bc B_b.out 1).trans rfl, (bc B_b.out 2).trans rfl, (bc B_b.out 3).trans rfl, (bc B_b.out 4).trans rfl, (bc B_f.out 0).trans rfl, (bc B_f.out 1).trans rfl, (bc B_f.out 2).trans rfl, (bc B_f.out 3).trans rfl, (bc B_f.out 4).trans rfl, (bc B_d.out 0).trans rfl, (bc B_d.out 1).trans rfl, (bc B_d.out 2).trans rfl, (bc B_d.out 3).trans rfl, (bc B_d.out 4).trans rfl⟩ (fun hh => ?_)
         clear hK K
         refine norm_ (a' := ?_) ?_ ?_
         rotate_left
         ·show Act.put _ (some 36) _ = _
          simp only [Act.put, siA, scz, scs, zW, zw]
          rfl
         refine pure_ (i := 6) (N := some 37) (v := ?_) (a' := ?_) (bm 59 127) rfl rfl (any_of T_.out (by kernel_rfl)) (fun _ _ _ h => h) (.inl ⟨by first | rfl | (simp only [c12b0, c15b0, c17b0, c19b0, c20b0, c86b0]; rfl), ?_⟩) ?_ ?_
         rotate_left
         ·intro w'
          go_simp
          with_reducible rfl
         rotate_left
         ·simp only [Act.put, siA, scz, scs, zW, zw]
          rfl
         refine pure_ (i := 7) (N := some 38) (v := ?_) (a' := ?_) (bm 59 255) rfl rfl (any_of T_.out (by kernel_rfl)) (fun _ _ _ h => h) (.inl ⟨by first | rfl | (simp only [c12b0, c15b0, c17b0, c19b0, c20b0, c86b0]; rfl), ?_⟩) ?_ ?_
         rotate_left
         ·intro w'
          go_simp
          with_reducible rfl
         rotate_left
         ·simp only [Act.put, siA, scz, scs, zW, zw]
          rfl
         refine pure_ (i := 8) (N := some 39) (v := ?_) (a' := ?_) (bm 59 511) rfl rfl (any_of T_.out (by kernel_rfl)) (fun _ _ _ h => h) (.inl ⟨by first | rfl | (simp only [c12b0, c15b0, c17b0, c19b0, c20b0, c86b0]; rfl), ?_⟩) ?_ ?_
         rotate_left
         ·intro w'
          go_simp
          with_reducible rfl
         rotate_left
         ·simp only [Act.put, siA, scz, scs, zW, zw]
          rfl
         refine take_ (i := 9) (N := some 40) (v := ?_) (a' := ?_) (bm 59 1023) rfl rfl (take_ofW T_.out V_.out (by kernel_rfl)) (fun _ _ _ h => h) (.inl ⟨by first | rfl | (simp only [c12b0, c15b0, c17b0, c19b0, c20b0, c86b0]; rfl), ?_⟩) hh ?_ ?_
         rotate_left
         ·rintro w' ⟨s0, s1, s2, s3, s4, s5, s6, s7, s8, s9, s10, s11, s12, s13, s14, s15, s16, s17, s18, s19, s20, s21, s22, s23, s24⟩
          go_simp
          with_reducible rfl
         rotate_left
         ·simp only [Act.put, siA, scz, scs, zW, zw]
          rfl
         refine take_ (i := 10) (N := some 41) (v := ?_) (a' := ?_) (bm 59 2047) rfl rfl (take_ofW T_.out V_.out (by kernel_rfl)) (fun _ _ _ h => h) (.inl ⟨by first | rfl | (simp only [c12b0, c15b0, c17b0, c19b0, c20b0, c86b0]; rfl), ?_⟩) hh ?_ ?_
         rotate_left
         ·rintro w' ⟨s0, s1, s2, s3, s4, s5, s6, s7, s8, s9, s10, s11, s12, s13, s14, s15, s16, s17, s18, s19, s20, s21, s22, s23, s24⟩
          go_simp
          with_reducible rfl
         rotate_left
         ·simp only [Act.put, siA, scz, scs, zW, zw]
          rfl
         refine take_ (i := 11) (N := some 42) (v := ?_) (a' := ?_) (bm 59 4095) rfl rfl (take_ofW T_.out V_.out (by kernel_rfl)) (fun _ _ _ h => h) (.inl ⟨by first | rfl | (simp only [c12b0, c15b0, c17b0, c19b0, c20b0, c86b0]; rfl), ?_⟩) hh ?_ ?_
         rotate_left
         ·rintro w' ⟨s0, s1, s2, s3, s4, s5, s6, s7, s8, s9, s10, s11, s12, s13, s14, s15, s16, s17, s18, s19, s20, s21, s22, s23, s24⟩
          go_simp
          with_reducible rfl
         rotate_left
         ·simp only [Act.put, siA, scz, scs, zW, zw]
          rfl
         refine take_ (i := 12) (N := some 43) (v := ?_) (a' := ?_) (bm 59 8191) rfl rfl (take_ofW T_.out V_.out (by kernel_rfl)) (fun _ _ _ h => h) (.inl ⟨by first | rfl | (simp only [c12b0, c15b0, c17b0, c19b0, c20b0, c86b0]; rfl), ?_⟩) hh ?_ ?_
         rotate_left
         ·rintro w' ⟨s0, s1, s2, s3, s4, s5, s6, s7, s8, s9, s10, s11, s12, s13, s14, s15, s16, s17, s18, s19, s20, s21, s22, s23, s24⟩
          go_simp
          with_reducible rfl
         rotate_left
         ·simp only [Act.put, siA, scz, scs, zW, zw]
          rfl
         refine one_ (i := 13) (N := some 44) (bm 59 16383) rfl rfl (one_of T_.out (by kernel_rfl)) (by decide) (fun K hK => ?_)
         refine goes_ Try.func20 (by kernel_rfl) rfl #[.agg #[.int .i64 3, .int .i64 t219, .int .u32 t220, .int .u32 t221, .int .u16 t222], .agg #[.int .i64 3, .int .i64 t225, .int .u32 t226, .int .u32 t227, .int .u16 t228]] (by rfl) rfl rfl (by (try simp only [List.map_toArray, List.map_cons, List.map_nil]); first | done | rfl | (simp only [List.length_drop, List.length_take]; rfl)) ?_
         with_reducible refine (record_Join.calls k 3 t219 t220 t221 t222 3 t225 t226 t227 t228 t247 t248 t249 t250 t251 _ A13.out).mono ?_
         rintro e w146 ⟨rfl, hb⟩
         refine ⟨_, rfl, ?_⟩
         have n3_ := Aside0.mk (bb (g := g_k) (o := .cells #[.int .i64 3, .int .i64 t213, .int .u32 t214, .int .u32 t215, .int .u16 t216] 27 (0, 0)) (by (with_reducible repeat (first | refine bN ?_ _ | refine bw ?_ | refine bA ?_ _)); exact B_b.out) hb)
         have n4_ := Aside0.mk (bb (g := g_n) (o := .cells #[.int .i64 3, .int .i64 t219, .int .u32 t220, .int .u32 t221, .int .u16 t222] 27 (0, 0)) (by (with_reducible repeat (first | refine bN ?_ _ | refine bw ?_ | refine bA ?_ _)); exact B_c.out) hb)
         have n5_ := Aside0.mk (bb (g := g_q) (o := .cells #[.int .i64 3, .int .i64 t225, .int .u32 t226, .int .u32 t227, .int .u16 t228] 27 (0, 0)) (by (with_reducible repeat (first | refine bN ?_ _ | refine bw ?_ | refine bA ?_ _)); exact B_d.out) hb)
         have n6_ := Aside0.mk (bb (g := g_v) (o := .cells #[.int .i64 t230, .int .i64 t231, .int .u32 t232, .int .u32 t233, .int .u16 t234] 27 (0, 0)) (by (with_reducible repeat (first | refine bN ?_ _ | refine bw ?_ | refine bA ?_ _)); exact B_e.out) hb)
         have n7_ := Aside0.mk (bb (g := g_i) (o := .cells #[.int .i64 t236, .int .i64 t237, .int .u32 t238, .int .u32 t239, .int .u16 t240] 27 (0, 0)) (by (with_reducible repeat (first | refine bN ?_ _ | refine bw ?_ | refine bA ?_ _)); exact B_f.out) hb)
         have n8_ := Aside0.mk (below_step (by repeat (first | (with_reducible first | exact HB.out | apply bl | apply pN | apply b1 | refine bs ?_ G_y.out | refine bs ?_ G_0.out | refine bs ?_ G_2.out | refine bs ?_ G_4.out | refine bs ?_ GE223.out | refine bs ?_ GE229.out | refine bs ?_ GE235.out | refine bs ?_ GE241.out) | exact HB.out)) hb)
         clear B_b
         clear B_c
         clear B_d
         clear B_e
         clear B_f
         clear HB
         have B_b := n3_
         have B_c := n4_
         have B_d := n5_
         have B_e := n6_
         have B_f := n7_
         have HB := n8_
         clear n3_ n4_ n5_ n6_ n7_ n8_
         (try clear hb)
         (try clear hb2)
         (try clear hk)
         (try clear hi)
         refine hK.out _ _ ⟨(bc B_e.out 0).trans rfl, (bc B_e.out 1).trans rfl, (bc B_e.out 2).trans rfl, (bc B_e.out 3).trans rfl, (bc B_e.out 4).trans rfl, (bc B_c.out 0).trans rfl, (bc B_c.out 1).trans rfl, (bc B_c.out 2).trans rfl, (bc B_c.out 3).trans rfl, (bc B_c.out 4).trans rfl, (bc B_b.out 0).trans rfl, (bc B_b.out 1).trans rfl, (bc B_b.out 2).trans rfl, (bc B_b.out 3).trans rfl, (bc B_b.out 4).trans rfl, (bc B_f.out 0).trans rfl, (bc B_f.out 1).trans rfl, (bc B_f.out 2).trans rfl, (bc B_f.out 3).trans rfl, (bc B_f.out 4).trans rfl, (bc B_d.out 0).trans rfl, (bc B_d.out 1).trans rfl, (bc B_d.out 2).trans rfl, (bc B_d.out 3).trans rfl, (bc B_d.out 4).trans rfl⟩ (fun hh => ?_)
         clear hK K
         refine norm_ (a' := ?_) ?_ ?_
         rotate_left
         ·show Act.put _ (some 44) _ = _
          simp only [Act.put, siA, scz, scs, zW, zw]
          rfl
         refine one_ (i := 14) (N := some 45) (bm 59 32767) rfl rfl (one_of T_.out (by kernel_rfl)) (by decide) (fun K hK => ?_)
         refine goes_ Try.func20 (by kernel_rfl) rfl #[.agg #[.int .i64 3, .int .i64 t213, .int .u32 t214, .int .u32 t215, .int .u16 t216], .agg #[.int .i64 t247, .int .i64 t248, .int .u32 t249, .int .u32 t250, .int .u16 t251]] (by rfl) rfl rfl (by (try simp only [List.map_toArray, List.map_cons, List.map_nil]); first | done | rfl | (simp only [List.length_drop, List.length_take]; rfl)) ?_
         with_reducible refine (record_Join.calls k 3 t213 t214 t215 t216 t247 t248 t249 t250 t251 t252 t253 t254 t255 t256 _ A14.out).mono ?_
         rintro e w147 ⟨rfl, hb⟩
         refine ⟨_, rfl, ?_⟩
         have n3_ := Aside0.mk (bb (g := g_k) (o := .cells #[.int .i64 3, .int .i64 t213, .int .u32 t214, .int .u32 t215, .int .u16 t216] 27 (0, 0)) (by (with_reducible repeat (first | refine bN ?_ _ | refine bw ?_ | refine bA ?_ _)); exact B_b.out) hb)
         have n4_ := Aside0.mk (bb (g := g_n) (o := .cells #[.int .i64 3, .int .i64 t219, .int .u32 t220, .int .u32 t221, .int .u16 t222] 27 (0, 0)) (by (with_reducible repeat (first | refine bN ?_ _ | refine bw ?_ | refine bA ?_ _)); exact B_c.out) hb)
         have n5_ := Aside0.mk (bb (g := g_q) (o := .cells #[.int .i64 3, .int .i64 t225, .int .u32 t226, .int .u32 t227, .int .u16 t228] 27 (0, 0)) (by (with_reducible repeat (first | refine bN ?_ _ | refine bw ?_ | refine bA ?_ _)); exact B_d.out) hb)
         have n6_ := Aside0.mk (bb (g := g_v) (o := .cells #[.int .i64 t230, .int .i64 t231, .int .u32 t232, .int .u32 t233, .int .u16 t234] 27 (0, 0)) (by (with_reducible repeat (first | refine bN ?_ _ | refine bw ?_ | refine bA ?_ _)); exact B_e.out) hb)
         have n7_ := Aside0.mk (bb (g := g_i) (o := .cells #[.int .i64 t236, .int .i64 t237, .int .u32 t238, .int .u32 t239, .int .u16 t240] 27 (0, 0)) (by (with_reducible repeat (first | refine bN ?_ _ | refine bw ?_ | refine bA ?_ _)); exact B_f.out) hb)
         have n8_ := Aside0.mk (below_step (by repeat (first | (with_reducible first | exact HB.out | apply bl | apply pN | apply b1 | refine bs ?_ G_y.out | refine bs ?_ G_0.out | refine bs ?_ G_2.out | refine bs ?_ G_4.out | refine bs ?_ GE223.out | refine bs ?_ GE229.out | refine bs ?_ GE235.out | refine bs ?_ GE241.out) | exact HB.out)) hb)
         clear B_b
         clear B_c
         clear B_d
         clear B_e
         clear B_f
         clear HB
         have B_b := n3_
         have B_c := n4_
         have B_d := n5_
         have B_e := n6_
         have B_f := n7_
         have HB := n8_
         clear n3_ n4_ n5_ n6_ n7_ n8_
         (try clear hb)
         (try clear hb2)
         (try clear hk)
         (try clear hi)
         refine hK.out _ _ ⟨(bc B_e.out 0).trans rfl, (bc B_e.out 1).trans rfl, (bc B_e.out 2).trans rfl, (bc B_e.out 3).trans rfl, (bc B_e.out 4).trans rfl, (bc B_c.out 0).trans rfl, (bc B_c.out 1).trans rfl, (bc B_c.out 2).trans rfl, (bc B_c.out 3).trans rfl, (bc B_c.out 4).trans rfl, (bc B_b.out 0).trans rfl, (bc B_b.out 1).trans rfl, (bc B_b.out 2).trans rfl, (bc B_b.out 3).trans rfl, (bc B_b.out 4).trans rfl, (bc B_f.out 0).trans rfl, (bc B_f.out 1).trans rfl, (bc B_f.out 2).trans rfl, (bc B_f.out 3).trans rfl, (bc B_f.out 4).trans rfl, (bc B_d.out 0).trans rfl, (bc B_d.out 1).trans rfl, (bc B_d.out 2).trans rfl, (bc B_d.out 3).trans rfl, (bc B_d.out 4).trans rfl⟩ (fun hh => ?_)
         clear hK K
         refine norm_ (a' := ?_) ?_ ?_
         rotate_left
         ·show Act.put _ (some 45) _ = _
          simp only [Act.put, siA, scz, scs, zW, zw]
          rfl
         refine pure_ (i := 15) (N := some 46) (v := ?_) (a' := ?_) (bm 59 65535) rfl rfl (any_of T_.out (by kernel_rfl)) (fun _ _ _ h => h) (.inl ⟨by first | rfl | (simp only [c12b0, c15b0, c17b0, c19b0, c20b0, c86b0]; rfl), ?_⟩) ?_ ?_
         rotate_left
         ·intro w'
          go_simp
          with_reducible rfl
         rotate_left
         ·simp only [Act.put, siA, scz, scs, zW, zw]
          rfl
         refine pure_ (i := 16) (N := some 47) (v := ?_) (a' := ?_) (bm 59 131071) rfl rfl (any_of T_.out (by kernel_rfl)) (fun _ _ _ h => h) (.inl ⟨by first | rfl | (simp only [c12b0, c15b0, c17b0, c19b0, c20b0, c86b0]; rfl), ?_⟩) ?_ ?_
         rotate_left
         ·intro w'
          go_simp
          with_reducible rfl
         rotate_left
         ·simp only [Act.put, siA, scz, scs, zW, zw]
          rfl
         refine pure_ (i := 17) (N := some 48) (v := ?_) (a' := ?_) (bm 59 262143) rfl rfl (any_of T_.out (by kernel_rfl)) (fun _ _ _ h => h) (.inl ⟨by first | rfl | (simp only [c12b0, c15b0, c17b0, c19b0, c20b0, c86b0]; rfl), ?_⟩) ?_ ?_
         rotate_left
         ·intro w'
          go_simp
          with_reducible rfl
         rotate_left
         ·simp only [Act.put, siA, scz, scs, zW, zw]
          rfl
         refine take_ (i := 18) (N := some 49) (v := ?_) (a' := ?_) (bm 59 524287) rfl rfl (take_ofW T_.out V_.out (by kernel_rfl)) (fun _ _ _ h => h) (.inl ⟨by first | rfl | (simp only [c12b0, c15b0, c17b0, c19b0, c20b0, c86b0]; rfl), ?_⟩) hh ?_ ?_
         rotate_left
         ·rintro w' ⟨s0, s1, s2, s3, s4, s5, s6, s7, s8, s9, s10, s11, s12, s13, s14, s15, s16, s17, s18, s19, s20, s21, s22, s23, s24⟩
          go_simp
          with_reducible rfl
         rotate_left
         ·simp only [Act.put, siA, scz, scs, zW, zw]
          rfl
         refine take_ (i := 19) (N := some 50) (v := ?_) (a' := ?_) (bm 59 1048575) rfl rfl (take_ofW T_.out V_.out (by kernel_rfl)) (fun _ _ _ h => h) (.inl ⟨by first | rfl | (simp only [c12b0, c15b0, c17b0, c19b0, c20b0, c86b0]; rfl), ?_⟩) hh ?_ ?_
         rotate_left
         ·rintro w' ⟨s0, s1, s2, s3, s4, s5, s6, s7, s8, s9, s10, s11, s12, s13, s14, s15, s16, s17, s18, s19, s20, s21, s22, s23, s24⟩
          go_simp
          with_reducible rfl
         rotate_left
         ·simp only [Act.put, siA, scz, scs, zW, zw]
          rfl
         refine take_ (i := 21) (N := some 52) (v := ?_) (a' := ?_) (bm 59 3145727) rfl rfl (take_ofW T_.out V_.out (by kernel_rfl)) (fun _ _ _ h => h) (.inl ⟨by first | rfl | (simp only [c12b0, c15b0, c17b0, c19b0, c20b0, c86b0]; rfl), ?_⟩) hh ?_ ?_
         rotate_left
         ·rintro w' ⟨s0, s1, s2, s3, s4, s5, s6, s7, s8, s9, s10, s11, s12, s13, s14, s15, s16, s17, s18, s19, s20, s21, s22, s23, s24⟩
          go_simp
          with_reducible rfl
         rotate_left
         ·simp only [Act.put, siA, scz, scs, zW, zw]
          rfl
         refine one_ (i := 20) (N := some 51) (bm 59 4194303) rfl rfl (one_of T_.out (by kernel_rfl)) (by decide) (fun K hK => ?_)
         refine goes_ Try.func20 (by kernel_rfl) rfl #[.agg #[.int .i64 t236, .int .i64 t237, .int .u32 t238, .int .u32 t239, .int .u16 t240], .agg #[.int .i64 3, .int .i64 t213, .int .u32 t214, .int .u32 t215, .int .u16 t216]] (by rfl) rfl rfl (by (try simp only [List.map_toArray, List.map_cons, List.map_nil]); first | done | rfl | (simp only [List.length_drop, List.length_take]; rfl)) ?_
         with_reducible refine (record_Join.calls k t236 t237 t238 t239 t240 3 t213 t214 t215 t216 t257 t258 t259 t260 t261 _ A16.out).mono ?_
         rintro e w148 ⟨rfl, hb⟩
         refine ⟨_, rfl, ?_⟩
         have n3_ := Aside0.mk (bb (g := g_k) (o := .cells #[.int .i64 3, .int .i64 t213, .int .u32 t214, .int .u32 t215, .int .u16 t216] 27 (0, 0)) (by (with_reducible repeat (first | refine bN ?_ _ | refine bw ?_ | refine bA ?_ _)); exact B_b.out) hb)
         have n4_ := Aside0.mk (bb (g := g_n) (o := .cells #[.int .i64 3, .int .i64 t219, .int .u32 t220, .int .u32 t221, .int .u16 t222] 27 (0, 0)) (by (with_reducible repeat (first | refine bN ?_ _ | refine bw ?_ | refine bA ?_ _)); exact B_c.out) hb)
         have n5_ := Aside0.mk (bb (g := g_q) (o := .cells #[.int .i64 3, .int .i64 t225, .int .u32 t226, .int .u32 t227, .int .u16 t228] 27 (0, 0)) (by (with_reducible repeat (first | refine bN ?_ _ | refine bw ?_ | refine bA ?_ _)); exact B_d.out) hb)
         have n6_ := Aside0.mk (bb (g := g_v) (o := .cells #[.int .i64 t230, .int .i64 t231, .int .u32 t232, .int .u32 t233, .int .u16 t234] 27 (0, 0)) (by (with_reducible repeat (first | refine bN ?_ _ | refine bw ?_ | refine bA ?_ _)); exact B_e.out) hb)
         have n7_ := Aside0.mk (bb (g := g_i) (o := .cells #[.int .i64 t236, .int .i64 t237, .int .u32 t238, .int .u32 t239, .int .u16 t240] 27 (0, 0)) (by (with_reducible repeat (first | refine bN ?_ _ | refine bw ?_ | refine bA ?_ _)); exact B_f.out) hb)
         have n8_ := Aside0.mk (below_step (by repeat (first | (with_reducible first | exact HB.out | apply bl | apply pN | apply b1 | refine bs ?_ G_y.out | refine bs ?_ G_0.out | refine bs ?_ G_2.out | refine bs ?_ G_4.out | refine bs ?_ GE223.out | refine bs ?_ GE229.out | refine bs ?_ GE235.out | refine bs ?_ GE241.out) | exact HB.out)) hb)
         clear B_b
         clear B_c
         clear B_d
         clear B_e
         clear B_f
         clear HB
         have B_b := n3_
         have B_c := n4_
         have B_d := n5_
         have B_e := n6_
         have B_f := n7_
         have HB := n8_
         clear n3_ n4_ n5_ n6_ n7_ n8_
         (try clear hb)
         (try clear hb2)
         (try clear hk)
         (try clear hi)
         refine hK.out _ _ ⟨(bc B_e.out 0).trans rfl, (bc B_e.out 1).trans rfl, (bc B_e.out 2).trans rfl, (bc B_e.out 3).trans rfl, (bc B_e.out 4).trans rfl, (bc B_c.out 0).trans rfl, (bc B_c.out 1).trans rfl, (bc B_c.out 2).trans rfl, (bc B_c.out 3).trans rfl, (bc B_c.out 4).trans rfl, (bc B_b.out 0).trans rfl, (bc B_b.out 1).trans rfl, (bc B_b.out 2).trans rfl, (bc B_b.out 3).trans rfl, (bc B_b.out 4).trans rfl, (bc B_f.out 0).trans rfl, (bc B_f.out 1).trans rfl, (bc B_f.out 2).trans rfl, (bc B_f.out 3).trans rfl, (bc B_f.out 4).trans rfl, (bc B_d.out 0).trans rfl, (bc B_d.out 1).trans rfl, (bc B_d.out 2).trans rfl, (bc B_d.out 3).trans rfl, (bc B_d.out 4).trans rfl⟩ (fun hh => ?_)
         clear hK K
         refine norm_ (a' := ?_) ?_ ?_
         rotate_left
         ·show Act.put _ (some 51) _ = _
          simp only [Act.put, siA, scz, scs, zW, zw]
          rfl
         refine pure_ (i := 22) (N := some 53) (v := ?_) (a' := ?_) (bm 59 8388607) rfl rfl (any_of T_.out (by kernel_rfl)) (fun _ _ _ h => h) (.inl ⟨by first | rfl | (simp only [c12b0, c15b0, c17b0, c19b0, c20b0, c86b0]; rfl), ?_⟩) ?_ ?_
         rotate_left
         ·intro w'
          go_simp
          with_reducible rfl
         rotate_left
         ·simp only [Act.put, siA, scz, scs, zW, zw]
          rfl
         refine pure_ (i := 23) (N := some 54) (v := ?_) (a' := ?_) (bm 59 16777215) rfl rfl (any_of T_.out (by kernel_rfl)) (fun _ _ _ h => h) (.inl ⟨by first | rfl | (simp only [c12b0, c15b0, c17b0, c19b0, c20b0, c86b0]; rfl), ?_⟩) ?_ ?_
         rotate_left
         ·intro w'
          go_simp
          with_reducible rfl
         rotate_left
         ·simp only [Act.put, siA, scz, scs, zW, zw]
          rfl
         refine pure_ (i := 24) (N := some 55) (v := ?_) (a' := ?_) (bm 59 33554431) rfl rfl (any_of T_.out (by kernel_rfl)) (fun _ _ _ h => h) (.inl ⟨by first | rfl | (simp only [c12b0, c15b0, c17b0, c19b0, c20b0, c86b0]; rfl), ?_⟩) ?_ ?_
         rotate_left
         ·intro w'
          go_simp
          with_reducible rfl
         rotate_left
         ·simp only [Act.put, siA, scz, scs, zW, zw]
          rfl
         refine take_ (i := 25) (N := some 56) (v := ?_) (a' := ?_) (bm 59 67108863) rfl rfl (take_ofW T_.out V_.out (by kernel_rfl)) (fun _ _ _ h => h) (.inl ⟨by first | rfl | (simp only [c12b0, c15b0, c17b0, c19b0, c20b0, c86b0]; rfl), ?_⟩) hh ?_ ?_
         rotate_left
         ·rintro w' ⟨s0, s1, s2, s3, s4, s5, s6, s7, s8, s9, s10, s11, s12, s13, s14, s15, s16, s17, s18, s19, s20, s21, s22, s23, s24⟩
          go_simp
          with_reducible rfl
         rotate_left
         ·simp only [Act.put, siA, scz, scs, zW, zw]
          rfl
         refine take_ (i := 26) (N := some 57) (v := ?_) (a' := ?_) (bm 59 134217727) rfl rfl (take_ofW T_.out V_.out (by kernel_rfl)) (fun _ _ _ h => h) (.inl ⟨by first | rfl | (simp only [c12b0, c15b0, c17b0, c19b0, c20b0, c86b0]; rfl), ?_⟩) hh ?_ ?_
         rotate_left
         ·rintro w' ⟨s0, s1, s2, s3, s4, s5, s6, s7, s8, s9, s10, s11, s12, s13, s14, s15, s16, s17, s18, s19, s20, s21, s22, s23, s24⟩
          go_simp
          with_reducible rfl
         rotate_left
         ·simp only [Act.put, siA, scz, scs, zW, zw]
          rfl
         refine take_ (i := 28) (N := some 59) (v := ?_) (a' := ?_) (bm 59 402653183) rfl rfl (take_ofW T_.out V_.out (by kernel_rfl)) (fun _ _ _ h => h) (.inl ⟨by first | rfl | (simp only [c12b0, c15b0, c17b0, c19b0, c20b0, c86b0]; rfl), ?_⟩) hh ?_ ?_
         rotate_left
         ·rintro w' ⟨s0, s1, s2, s3, s4, s5, s6, s7, s8, s9, s10, s11, s12, s13, s14, s15, s16, s17, s18, s19, s20, s21, s22, s23, s24⟩
          go_simp
          with_reducible rfl
         rotate_left
         ·simp only [Act.put, siA, scz, scs, zW, zw]
          rfl
         refine one_ (i := 27) (N := some 58) (bm 59 536870911) rfl rfl (one_of T_.out (by kernel_rfl)) (by decide) (fun K hK => ?_)
         refine goes_ Try.func20 (by kernel_rfl) rfl #[.agg #[.int .i64 3, .int .i64 t213, .int .u32 t214, .int .u32 t215, .int .u16 t216], .agg #[.int .i64 3, .int .i64 t213, .int .u32 t214, .int .u32 t215, .int .u16 t216]] (by rfl) rfl rfl (by (try simp only [List.map_toArray, List.map_cons, List.map_nil]); first | done | rfl | (simp only [List.length_drop, List.length_take]; rfl)) ?_
         with_reducible refine (record_Join.calls k 3 t213 t214 t215 t216 3 t213 t214 t215 t216 t262 t263 t264 t265 t266 _ A18.out).mono ?_
         rintro e w149 ⟨rfl, hb⟩
         refine ⟨_, rfl, ?_⟩
         have n3_ := Aside0.mk (bb (g := g_k) (o := .cells #[.int .i64 3, .int .i64 t213, .int .u32 t214, .int .u32 t215, .int .u16 t216] 27 (0, 0)) (by (with_reducible repeat (first | refine bN ?_ _ | refine bw ?_ | refine bA ?_ _)); exact B_b.out) hb)
         have n4_ := Aside0.mk (bb (g := g_n) (o := .cells #[.int .i64 3, .int .i64 t219, .int .u32 t220, .int .u32 t221, .int .u16 t222] 27 (0, 0)) (by (with_reducible repeat (first | refine bN ?_ _ | refine bw ?_ | refine bA ?_ _)); exact B_c.out) hb)
         have n5_ := Aside0.mk (bb (g := g_q) (o := .cells #[.int .i64 3, .int .i64 t225, .int .u32 t226, .int .u32 t227, .int .u16 t228] 27 (0, 0)) (by (with_reducible repeat (first | refine bN ?_ _ | refine bw ?_ | refine bA ?_ _)); exact B_d.out) hb)
         have n6_ := Aside0.mk (bb (g := g_v) (o := .cells #[.int .i64 t230, .int .i64 t231, .int .u32 t232, .int .u32 t233, .int .u16 t234] 27 (0, 0)) (by (with_reducible repeat (first | refine bN ?_ _ | refine bw ?_ | refine bA ?_ _)); exact B_e.out) hb)
         have n7_ := Aside0.mk (bb (g := g_i) (o := .cells #[.int .i64 t236, .int .i64 t237, .int .u32 t238, .int .u32 t239, .int .u16 t240] 27 (0, 0)) (by (with_reducible repeat (first | refine bN ?_ _ | refine bw ?_ | refine bA ?_ _)); exact B_f.out) hb)
         have n8_ := Aside0.mk (below_step (by repeat (first | (with_reducible first | exact HB.out | apply bl | apply pN | apply b1 | refine bs ?_ G_y.out | refine bs ?_ G_0.out | refine bs ?_ G_2.out | refine bs ?_ G_4.out | refine bs ?_ GE223.out | refine bs ?_ GE229.out | refine bs ?_ GE235.out | refine bs ?_ GE241.out) | exact HB.out)) hb)
         clear B_b
         clear B_c
         clear B_d
         clear B_e
         clear B_f
         clear HB
         have B_b := n3_
         have B_c := n4_
         have B_d := n5_
         have B_e := n6_
         have B_f := n7_
         have HB := n8_
         clear n3_ n4_ n5_ n6_ n7_ n8_
         (try clear hb)
         (try clear hb2)
         (try clear hk)
         (try clear hi)
         refine hK.out _ _ ⟨(bc B_e.out 0).trans rfl, (bc B_e.out 1).trans rfl, (bc B_e.out 2).trans rfl, (bc B_e.out 3).trans rfl, (bc B_e.out 4).trans rfl, (bc B_c.out 0).trans rfl, (bc B_c.out 1).trans rfl, (bc B_c.out 2).trans rfl, (bc B_c.out 3).trans rfl, (bc B_c.out 4).trans rfl, (bc B_b.out 0).trans rfl, (bc B_b.out 1).trans rfl, (bc B_b.out 2).trans rfl, (bc B_b.out 3).trans rfl, (bc B_b.out 4).trans rfl, (bc B_f.out 0).trans rfl, (bc B_f.out 1).trans rfl, (bc B_f.out 2).trans rfl, (bc B_f.out 3).trans rfl, (bc B_f.out 4).trans rfl, (bc B_d.out 0).trans rfl, (bc B_d.out 1).trans rfl, (bc B_d.out 2).trans rfl, (bc B_d.out 3).trans rfl, (bc B_d.out 4).trans rfl⟩ (fun hh => ?_)
         clear hK K
         refine norm_ (a' := ?_) ?_ ?_
         rotate_left
         ·show Act.put _ (some 58) _ = _
          simp only [Act.put, siA, scz, scs, zW, zw]
          rfl
         refine pure_ (i := 29) (N := some 60) (v := ?_) (a' := ?_) (bm 59 1073741823) rfl rfl (any_of T_.out (by kernel_rfl)) (fun _ _ _ h => h) (.inl ⟨by first | rfl | (simp only [c12b0, c15b0, c17b0, c19b0, c20b0, c86b0]; rfl), ?_⟩) ?_ ?_
         rotate_left
         ·intro w'
          go_simp
          with_reducible rfl
         rotate_left
         ·simp only [Act.put, siA, scz, scs, zW, zw]
          rfl
         refine pure_ (i := 30) (N := some 61) (v := ?_) (a' := ?_) (bm 59 2147483647) rfl rfl (any_of T_.out (by kernel_rfl)) (fun _ _ _ h => h) (.inl ⟨by first | rfl | (simp only [c12b0, c15b0, c17b0, c19b0, c20b0, c86b0]; rfl), ?_⟩) ?_ ?_
         rotate_left
         ·intro w'
          go_simp
          with_reducible rfl
         rotate_left
         ·simp only [Act.put, siA, scz, scs, zW, zw]
          rfl
         refine pure_ (i := 31) (N := some 62) (v := ?_) (a' := ?_) (bm 59 4294967295) rfl rfl (any_of T_.out (by kernel_rfl)) (fun _ _ _ h => h) (.inl ⟨by first | rfl | (simp only [c12b0, c15b0, c17b0, c19b0, c20b0, c86b0]; rfl), ?_⟩) ?_ ?_
         rotate_left
         ·intro w'
          go_simp
          with_reducible rfl
         rotate_left
         ·simp only [Act.put, siA, scz, scs, zW, zw]
          rfl
         refine take_ (i := 32) (N := some 63) (v := ?_) (a' := ?_) (bm 59 8589934591) rfl rfl (take_ofW T_.out V_.out (by kernel_rfl)) (fun _ _ _ h => h) (.inl ⟨by first | rfl | (simp only [c12b0, c15b0, c17b0, c19b0, c20b0, c86b0]; rfl), ?_⟩) hh ?_ ?_
         rotate_left
         ·rintro w' ⟨s0, s1, s2, s3, s4, s5, s6, s7, s8, s9, s10, s11, s12, s13, s14, s15, s16, s17, s18, s19, s20, s21, s22, s23, s24⟩
          go_simp
          with_reducible rfl
         rotate_left
         ·simp only [Act.put, siA, scz, scs, zW, zw]
          rfl
         refine take_ (i := 33) (N := some 64) (v := ?_) (a' := ?_) (bm 59 17179869183) rfl rfl (take_ofW T_.out V_.out (by kernel_rfl)) (fun _ _ _ h => h) (.inl ⟨by first | rfl | (simp only [c12b0, c15b0, c17b0, c19b0, c20b0, c86b0]; rfl), ?_⟩) hh ?_ ?_
         rotate_left
         ·rintro w' ⟨s0, s1, s2, s3, s4, s5, s6, s7, s8, s9, s10, s11, s12, s13, s14, s15, s16, s17, s18, s19, s20, s21, s22, s23, s24⟩
          go_simp
          with_reducible rfl
         rotate_left
         ·simp only [Act.put, siA, scz, scs, zW, zw]
          rfl
         refine pure_ (i := 34) (N := some 65) (v := ?_) (a' := ?_) (bm 59 34359738367) rfl rfl (any_of T_.out (by kernel_rfl)) (fun _ _ _ h => h) (.inl ⟨by first | rfl | (simp only [c12b0, c15b0, c17b0, c19b0, c20b0, c86b0]; rfl), ?_⟩) ?_ ?_
         rotate_left
         ·intro w'
          go_simp
          with_reducible rfl
         rotate_left
         ·simp only [Act.put, siA, scz, scs, zW, zw]
          rfl
         refine pure_ (i := 35) (N := some 66) (v := ?_) (a' := ?_) (bm 59 68719476735) rfl rfl (any_of T_.out (by kernel_rfl)) (fun _ _ _ h => h) (.inl ⟨by first | rfl | (simp only [c12b0, c15b0, c17b0, c19b0, c20b0, c86b0]; rfl), ?_⟩) ?_ ?_
         rotate_left
         ·intro w'
          go_simp
          with_reducible rfl
         rotate_left
         ·simp only [Act.put, siA, scz, scs, zW, zw]
          rfl
         refine take_ (i := 36) (N := some 67) (v := ?_) (a' := ?_) (bm 59 137438953471) rfl rfl (take_ofW T_.out V_.out (by kernel_rfl)) (fun _ _ _ h => h) (.inl ⟨by first | rfl | (simp only [c12b0, c15b0, c17b0, c19b0, c20b0, c86b0]; rfl), ?_⟩) hh ?_ ?_
         rotate_left
         ·rintro w' ⟨s0, s1, s2, s3, s4, s5, s6, s7, s8, s9, s10, s11, s12, s13, s14, s15, s16, s17, s18, s19, s20, s21, s22, s23, s24⟩
          go_simp
          with_reducible rfl
         rotate_left
         ·simp only [Act.put, siA, scz, scs, zW, zw]
          rfl
         refine take_ (i := 37) (N := some 68) (v := ?_) (a' := ?_) (bm 59 274877906943) rfl rfl (take_ofW T_.out V_.out (by kernel_rfl)) (fun _ _ _ h => h) (.inl ⟨by first | rfl | (simp only [c12b0, c15b0, c17b0, c19b0, c20b0, c86b0]; rfl), ?_⟩) hh ?_ ?_
         rotate_left
         ·rintro w' ⟨s0, s1, s2, s3, s4, s5, s6, s7, s8, s9, s10, s11, s12, s13, s14, s15, s16, s17, s18, s19, s20, s21, s22, s23, s24⟩
          go_simp
          with_reducible rfl
         rotate_left
         ·simp only [Act.put, siA, scz, scs, zW, zw]
          rfl
         refine pure_ (i := 38) (N := some 69) (v := ?_) (a' := ?_) (bm 59 549755813887) rfl rfl (any_of T_.out (by kernel_rfl)) (fun _ _ _ h => h) (.inl ⟨by first | rfl | (simp only [c12b0, c15b0, c17b0, c19b0, c20b0, c86b0]; rfl), ?_⟩) ?_ ?_
         rotate_left
         ·intro w'
          go_simp
          with_reducible rfl
         rotate_left
         ·simp only [Act.put, siA, scz, scs, zW, zw]
          rfl
         refine pure_ (i := 39) (N := some 70) (v := ?_) (a' := ?_) (bm 59 1099511627775) rfl rfl (any_of T_.out (by kernel_rfl)) (fun _ _ _ h => h) (.inl ⟨by first | rfl | (simp only [c12b0, c15b0, c17b0, c19b0, c20b0, c86b0]; rfl), ?_⟩) ?_ ?_
         rotate_left
         ·intro w'
          go_simp
          with_reducible rfl
         rotate_left
         ·simp only [Act.put, siA, scz, scs, zW, zw]
          rfl
         refine pure_ (i := 40) (N := some 71) (v := ?_) (a' := ?_) (bm 59 2199023255551) rfl rfl (any_of T_.out (by kernel_rfl)) (fun _ _ _ h => h) (.inl ⟨by first | rfl | (simp only [c12b0, c15b0, c17b0, c19b0, c20b0, c86b0]; rfl), ?_⟩) ?_ ?_
         rotate_left
         ·intro w'
          go_simp
          with_reducible rfl
         rotate_left
         ·simp only [Act.put, siA, scz, scs, zW, zw]
          rfl
         refine pure_ (i := 41) (N := some 72) (v := undef) (a' := ?_) (bm 59 4398046511103) rfl rfl (any_of T_.out (by kernel_rfl)) (fun _ _ _ h => h) (Or.inr ⟨by rfl, rfl⟩) ?_ ?_
         rotate_left
         ·simp only [Act.put, siA, scz, scs, zW, zw]
          rfl
         refine pure_ (i := 42) (N := some 73) (v := undef) (a' := ?_) (bm 59 8796093022207) rfl rfl (any_of T_.out (by kernel_rfl)) (fun _ _ _ h => h) (Or.inr ⟨by rfl, rfl⟩) ?_ ?_
         rotate_left
         ·simp only [Act.put, siA, scz, scs, zW, zw]
          rfl
         refine pure_ (i := 43) (N := some 74) (v := undef) (a' := ?_) (bm 59 17592186044415) rfl rfl (any_of T_.out (by kernel_rfl)) (fun _ _ _ h => h) (Or.inr ⟨by rfl, rfl⟩) ?_ ?_
         rotate_left
         ·simp only [Act.put, siA, scz, scs, zW, zw]
          rfl
         refine pure_ (i := 44) (N := some 75) (v := ?_) (a' := ?_) (bm 59 35184372088831) rfl rfl (any_of T_.out (by kernel_rfl)) (fun _ _ _ h => h) (.inl ⟨by first | rfl | (simp only [c12b0, c15b0, c17b0, c19b0, c20b0, c86b0]; rfl), ?_⟩) ?_ ?_
         rotate_left
         ·intro w'
          go_simp
          with_reducible rfl
         rotate_left
         ·simp only [Act.put, siA, scz, scs, zW, zw]
          rfl
         refine pure_ (i := 45) (N := some 76) (v := ?_) (a' := ?_) (bm 59 70368744177663) rfl rfl (any_of T_.out (by kernel_rfl)) (fun _ _ _ h => h) (.inl ⟨by first | rfl | (simp only [c12b0, c15b0, c17b0, c19b0, c20b0, c86b0]; rfl), ?_⟩) ?_ ?_
         rotate_left
         ·intro w'
          go_simp
          with_reducible rfl
         rotate_left
         ·simp only [Act.put, siA, scz, scs, zW, zw]
          rfl
         refine pure_ (i := 46) (N := some 77) (v := ?_) (a' := ?_) (bm 59 140737488355327) rfl rfl (any_of T_.out (by kernel_rfl)) (fun _ _ _ h => h) (.inl ⟨by first | rfl | (simp only [c12b0, c15b0, c17b0, c19b0, c20b0, c86b0]; rfl), ?_⟩) ?_ ?_
         rotate_left
         ·intro w'
          go_simp
          with_reducible rfl
         rotate_left
         ·simp only [Act.put, siA, scz, scs, zW, zw]
          rfl
         refine take_ (i := 47) (N := some 78) (v := ?_) (a' := ?_) (bm 59 281474976710655) rfl rfl (take_ofW T_.out V_.out (by kernel_rfl)) (fun _ _ _ h => h) (.inl ⟨by first | rfl | (simp only [c12b0, c15b0, c17b0, c19b0, c20b0, c86b0]; rfl), ?_⟩) hh ?_ ?_
         rotate_left
         ·rintro w' ⟨s0, s1, s2, s3, s4, s5, s6, s7, s8, s9, s10, s11, s12, s13, s14, s15, s16, s17, s18, s19, s20, s21, s22, s23, s24⟩
          go_simp
          with_reducible rfl
         rotate_left
         ·simp only [Act.put, siA, scz, scs, zW, zw]
          rfl
         refine take_ (i := 48) (N := some 79) (v := ?_) (a' := ?_) (bm 59 562949953421311) rfl rfl (take_ofW T_.out V_.out (by kernel_rfl)) (fun _ _ _ h => h) (.inl ⟨by first | rfl | (simp only [c12b0, c15b0, c17b0, c19b0, c20b0, c86b0]; rfl), ?_⟩) hh ?_ ?_
         rotate_left
         ·rintro w' ⟨s0, s1, s2, s3, s4, s5, s6, s7, s8, s9, s10, s11, s12, s13, s14, s15, s16, s17, s18, s19, s20, s21, s22, s23, s24⟩
          go_simp
          with_reducible rfl
         rotate_left
         ·simp only [Act.put, siA, scz, scs, zW, zw]
          rfl
         refine one_ (i := 49) (N := some 80) (bm 59 1125899906842623) rfl rfl (one_of T_.out (by kernel_rfl)) (by decide) (fun K hK => ?_)
         refine goes_ Try.func16 (by kernel_rfl) rfl #[.agg #[.int .i64 t236, .int .i64 t237, .int .u32 t238, .int .u32 t239, .int .u16 t240], .agg #[.int .i64 3, .int .i64 t213, .int .u32 t214, .int .u32 t215, .int .u16 t216]] (by rfl) rfl rfl (by (try simp only [List.map_toArray, List.map_cons, List.map_nil]); first | done | rfl | (simp only [List.length_drop, List.length_take]; rfl)) ?_
         with_reducible refine (record_Order.calls k t236 t237 t238 t239 t240 3 t213 t214 t215 t216 t269 _ A87.out).mono ?_
         rintro e w150 ⟨rfl, hb⟩
         refine ⟨_, rfl, ?_⟩
         have n3_ := Aside0.mk (bb (g := g_k) (o := .cells #[.int .i64 3, .int .i64 t213, .int .u32 t214, .int .u32 t215, .int .u16 t216] 27 (0, 0)) (by (with_reducible repeat (first | refine bN ?_ _ | refine bw ?_ | refine bA ?_ _)); exact B_b.out) hb)
         have n4_ := Aside0.mk (bb (g := g_n) (o := .cells #[.int .i64 3, .int .i64 t219, .int .u32 t220, .int .u32 t221, .int .u16 t222] 27 (0, 0)) (by (with_reducible repeat (first | refine bN ?_ _ | refine bw ?_ | refine bA ?_ _)); exact B_c.out) hb)
         have n5_ := Aside0.mk (bb (g := g_q) (o := .cells #[.int .i64 3, .int .i64 t225, .int .u32 t226, .int .u32 t227, .int .u16 t228] 27 (0, 0)) (by (with_reducible repeat (first | refine bN ?_ _ | refine bw ?_ | refine bA ?_ _)); exact B_d.out) hb)
         have n6_ := Aside0.mk (bb (g := g_v) (o := .cells #[.int .i64 t230, .int .i64 t231, .int .u32 t232, .int .u32 t233, .int .u16 t234] 27 (0, 0)) (by (with_reducible repeat (first | refine bN ?_ _ | refine bw ?_ | refine bA ?_ _)); exact B_e.out) hb)
         have n7_ := Aside0.mk (bb (g := g_i) (o := .cells #[.int .i64 t236, .int .i64 t237, .int .u32 t238, .int .u32 t239, .int .u16 t240] 27 (0, 0)) (by (with_reducible repeat (first | refine bN ?_ _ | refine bw ?_ | refine bA ?_ _)); exact B_f.out) hb)
         have n8_ := Aside0.mk (below_step (by repeat (first | (with_reducible first | exact HB.out | apply bl | apply pN | apply b1 | refine bs ?_ G_y.out | refine bs ?_ G_0.out | refine bs ?_ G_2.out | refine bs ?_ G_4.out | refine bs ?_ GE223.out | refine bs ?_ GE229.out | refine bs ?_ GE235.out | refine bs ?_ GE241.out) | exact HB.out)) hb)
         clear B_b
         clear B_c
         clear B_d
         clear B_e
         clear B_f
         clear HB
         have B_b := n3_
         have B_c := n4_
         have B_d := n5_
         have B_e := n6_
         have B_f := n7_
         have HB := n8_
         clear n3_ n4_ n5_ n6_ n7_ n8_
         (try clear hb)
         (try clear hb2)
         (try clear hk)
         (try clear hi)
         refine hK.out _ _ ⟨(bc B_e.out 0).trans rfl, (bc B_e.out 1).trans rfl, (bc B_e.out 2).trans rfl, (bc B_e.out 3).trans rfl, (bc B_e.out 4).trans rfl, (bc B_c.out 0).trans rfl, (bc B_c.out 1).trans rfl, (bc B_c.out 2).trans rfl, (bc B_c.out 3).trans rfl, (bc B_c.out 4).trans rfl, (bc B_b.out 0).trans rfl, (bc B_b.out 1).trans rfl, (bc B_b.out 2).trans rfl, (bc B_b.out 3).trans rfl, (bc B_b.out 4).trans rfl, (bc B_f.out 0).trans rfl, (bc B_f.out 1).trans rfl, (bc B_f.out 2).trans rfl, (bc B_f.out 3).trans rfl, (bc B_f.out 4).trans rfl, (bc B_d.out 0).trans rfl, (bc B_d.out 1).trans rfl, (bc B_d.out 2).trans rfl, (bc B_d.out 3).trans rfl, (bc B_d.out 4).trans rfl⟩ (fun hh => ?_)
         clear hK K
         refine norm_ (a' := ?_) ?_ ?_
         rotate_left
         ·show Act.put _ (some 80) _ = _
          simp only [Act.put, siA, scz, scs, zW, zw]
          rfl
         refine pure_ (i := 50) (N := some 81) (v := ?_) (a' := ?_) (bm 59 2251799813685247) rfl rfl (any_of T_.out (by kernel_rfl)) (fun _ _ _ h => h) (.inl ⟨by first | rfl | (simp only [c12b0, c15b0, c17b0, c19b0, c20b0, c86b0]; rfl), ?_⟩) ?_ ?_
         rotate_left
         ·intro w'
          go_simp
          with_reducible rfl
         rotate_left
         ·simp only [Act.put, siA, scz, scs, zW, zw]
          rfl
         refine pure_ (i := 51) (N := some 82) (v := ?_) (a' := ?_) (bm 59 4503599627370495) rfl rfl (any_of T_.out (by kernel_rfl)) (fun _ _ _ h => h) (.inl ⟨by first | rfl | (simp only [c12b0, c15b0, c17b0, c19b0, c20b0, c86b0]; rfl), ?_⟩) ?_ ?_
         rotate_left
         ·intro w'
          go_simp
          with_reducible rfl
         rotate_left
         ·simp only [Act.put, siA, scz, scs, zW, zw]
          rfl
         refine pure_ (i := 52) (N := some 83) (v := ?_) (a' := ?_) (bm 59 9007199254740991) rfl rfl (any_of T_.out (by kernel_rfl)) (fun _ _ _ h => h) (.inl ⟨by first | rfl | (simp only [c12b0, c15b0, c17b0, c19b0, c20b0, c86b0]; rfl), ?_⟩) ?_ ?_
         rotate_left
         ·intro w'
          go_simp
          with_reducible rfl
         rotate_left
         ·simp only [Act.put, siA, scz, scs, zW, zw]
          rfl
         refine take_ (i := 53) (N := some 84) (v := ?_) (a' := ?_) (bm 59 18014398509481983) rfl rfl (take_ofW T_.out V_.out (by kernel_rfl)) (fun _ _ _ h => h) (.inl ⟨by first | rfl | (simp only [c12b0, c15b0, c17b0, c19b0, c20b0, c86b0]; rfl), ?_⟩) hh ?_ ?_
         rotate_left
         ·rintro w' ⟨s0, s1, s2, s3, s4, s5, s6, s7, s8, s9, s10, s11, s12, s13, s14, s15, s16, s17, s18, s19, s20, s21, s22, s23, s24⟩
          go_simp
          with_reducible rfl
         rotate_left
         ·simp only [Act.put, siA, scz, scs, zW, zw]
          rfl
         refine take_ (i := 54) (N := some 85) (v := ?_) (a' := ?_) (bm 59 36028797018963967) rfl rfl (take_ofW T_.out V_.out (by kernel_rfl)) (fun _ _ _ h => h) (.inl ⟨by first | rfl | (simp only [c12b0, c15b0, c17b0, c19b0, c20b0, c86b0]; rfl), ?_⟩) hh ?_ ?_
         rotate_left
         ·rintro w' ⟨s0, s1, s2, s3, s4, s5, s6, s7, s8, s9, s10, s11, s12, s13, s14, s15, s16, s17, s18, s19, s20, s21, s22, s23, s24⟩
          go_simp
          with_reducible rfl
         rotate_left
         ·simp only [Act.put, siA, scz, scs, zW, zw]
          rfl
         refine one_ (i := 55) (N := some 86) (bm 59 72057594037927935) rfl rfl (one_of T_.out (by kernel_rfl)) (by decide) (fun K hK => ?_)
         refine goes_ Try.func16 (by kernel_rfl) rfl #[.agg #[.int .i64 t236, .int .i64 t237, .int .u32 t238, .int .u32 t239, .int .u16 t240], .agg #[.int .i64 3, .int .i64 t225, .int .u32 t226, .int .u32 t227, .int .u16 t228]] (by rfl) rfl rfl (by (try simp only [List.map_toArray, List.map_cons, List.map_nil]); first | done | rfl | (simp only [List.length_drop, List.length_take]; rfl)) ?_
         with_reducible refine (record_Order.calls k t236 t237 t238 t239 t240 3 t225 t226 t227 t228 t270 _ A89.out).mono ?_
         rintro e w151 ⟨rfl, hb⟩
         refine ⟨_, rfl, ?_⟩
         have n3_ := Aside0.mk (bb (g := g_k) (o := .cells #[.int .i64 3, .int .i64 t213, .int .u32 t214, .int .u32 t215, .int .u16 t216] 27 (0, 0)) (by (with_reducible repeat (first | refine bN ?_ _ | refine bw ?_ | refine bA ?_ _)); exact B_b.out) hb)
         have n4_ := Aside0.mk (bb (g := g_n) (o := .cells #[.int .i64 3, .int .i64 t219, .int .u32 t220, .int .u32 t221, .int .u16 t222] 27 (0, 0)) (by (with_reducible repeat (first | refine bN ?_ _ | refine bw ?_ | refine bA ?_ _)); exact B_c.out) hb)
         have n5_ := Aside0.mk (bb (g := g_q) (o := .cells #[.int .i64 3, .int .i64 t225, .int .u32 t226, .int .u32 t227, .int .u16 t228] 27 (0, 0)) (by (with_reducible repeat (first | refine bN ?_ _ | refine bw ?_ | refine bA ?_ _)); exact B_d.out) hb)
         have n6_ := Aside0.mk (bb (g := g_v) (o := .cells #[.int .i64 t230, .int .i64 t231, .int .u32 t232, .int .u32 t233, .int .u16 t234] 27 (0, 0)) (by (with_reducible repeat (first | refine bN ?_ _ | refine bw ?_ | refine bA ?_ _)); exact B_e.out) hb)
         have n7_ := Aside0.mk (bb (g := g_i) (o := .cells #[.int .i64 t236, .int .i64 t237, .int .u32 t238, .int .u32 t239, .int .u16 t240] 27 (0, 0)) (by (with_reducible repeat (first | refine bN ?_ _ | refine bw ?_ | refine bA ?_ _)); exact B_f.out) hb)
         have n8_ := Aside0.mk (below_step (by repeat (first | (with_reducible first | exact HB.out | apply bl | apply pN | apply b1 | refine bs ?_ G_y.out | refine bs ?_ G_0.out | refine bs ?_ G_2.out | refine bs ?_ G_4.out | refine bs ?_ GE223.out | refine bs ?_ GE229.out | refine bs ?_ GE235.out | refine bs ?_ GE241.out) | exact HB.out)) hb)
         clear B_b
         clear B_c
         clear B_d
         clear B_e
         clear B_f
         clear HB
         have B_b := n3_
         have B_c := n4_
         have B_d := n5_
         have B_e := n6_
         have B_f := n7_
         have HB := n8_
         clear n3_ n4_ n5_ n6_ n7_ n8_
         (try clear hb)
         (try clear hb2)
         (try clear hk)
         (try clear hi)
         refine hK.out _ _ ⟨(bc B_e.out 0).trans rfl, (bc B_e.out 1).trans rfl, (bc B_e.out 2).trans rfl, (bc B_e.out 3).trans rfl, (bc B_e.out 4).trans rfl, (bc B_c.out 0).trans rfl, (bc B_c.out 1).trans rfl, (bc B_c.out 2).trans rfl, (bc B_c.out 3).trans rfl, (bc B_c.out 4).trans rfl, (bc B_b.out 0).trans rfl, (bc B_b.out 1).trans rfl, (bc B_b.out 2).trans rfl, (bc B_b.out 3).trans rfl, (bc B_b.out 4).trans rfl, (bc B_f.out 0).trans rfl, (bc B_f.out 1).trans rfl, (bc B_f.out 2).trans rfl, (bc B_f.out 3).trans rfl, (bc B_f.out 4).trans rfl, (bc B_d.out 0).trans rfl, (bc B_d.out 1).trans rfl, (bc B_d.out 2).trans rfl, (bc B_d.out 3).trans rfl, (bc B_d.out 4).trans rfl⟩ (fun hh => ?_)
         clear hK K
         refine norm_ (a' := ?_) ?_ ?_
         rotate_left
         ·show Act.put _ (some 86) _ = _
          simp only [Act.put, siA, scz, scs, zW, zw]
          rfl
         refine pure_ (i := 56) (N := some 87) (v := ?_) (a' := ?_) (bm 59 144115188075855871) rfl rfl (any_of T_.out (by kernel_rfl)) (fun _ _ _ h => h) (.inl ⟨by first | rfl | (simp only [c12b0, c15b0, c17b0, c19b0, c20b0, c86b0]; rfl), ?_⟩) ?_ ?_
         rotate_left
         ·intro w'
          go_simp
          with_reducible rfl
         rotate_left
         ·simp only [Act.put, siA, scz, scs, zW, zw]
          rfl
         refine pure_ (i := 57) (N := some 88) (v := ?_) (a' := ?_) (bm 59 288230376151711743) rfl rfl (any_of T_.out (by kernel_rfl)) (fun _ _ _ h => h) (.inl ⟨by first | rfl | (simp only [c12b0, c15b0, c17b0, c19b0, c20b0, c86b0]; rfl), ?_⟩) ?_ ?_
         rotate_left
         ·intro w'
          go_simp
          with_reducible rfl
         rotate_left
         ·simp only [Act.put, siA, scz, scs, zW, zw]
          rfl
         refine pure_ (i := 58) (N := some 6) (v := ?_) (a' := ?_) (bm 59 576460752303423487) rfl rfl (any_of T_.out (by kernel_rfl)) (fun _ _ _ h => h) (.inl ⟨by first | rfl | (simp only [c12b0, c15b0, c17b0, c19b0, c20b0, c86b0]; rfl), ?_⟩) ?_ ?_
         rotate_left
         ·intro w'
          go_simp
          with_reducible rfl
         rotate_left
         ·simp only [Act.put, siA, scz, scs, zW, zw]
          rfl
         refine done_ (done_of T_.out (by kernel_rfl)) ?_
         try go_wp2
         go_ret
         exact ⟨by first | rfl | (simp only [ne_nil, eq_nil]; rfl) | (simp [ne_nil, eq_nil]; done) | (simp [errW_none, errW_some] <;> rfl) | (simp [*, errW_none, errW_some] <;> rfl), by repeat (first | (with_reducible first | exact HB.out | apply bl | apply pN | apply b1 | refine bs ?_ G_y.out | refine bs ?_ G_0.out | refine bs ?_ G_2.out | refine bs ?_ G_4.out | refine bs ?_ GE223.out | refine bs ?_ GE229.out | refine bs ?_ GE235.out | refine bs ?_ GE241.out) | exact HB.out)⟩
        ·(first | rw [if_neg c88] at H | exact absurd rfl c88)
         have c88b0 : decide (0 ≤ t269) = false := decide_eq_false c88
         clear c88
         exact absurd H (by simp)
       ·(first | rw [if_neg c86] at H | exact absurd rfl c86)
        have c86b0 : (t236 == 3 && (t237 == t219 && (t238 == t220 && ((t239 == t221 && (t240 == t222)))))) = false := by simpa using c86
        (try (have c86b1 : decide (t236 = 3 && (t237 == t219 && (t238 == t220 && ((t239 == t221 && (t240 == t222)))))) = false := by simpa using c86))
        (try (have c86b2 : (t236 == 3 && (t237 == t219 && (t238 == t220 && ((t239 == t221 && (t240 == t222)))))) = false := by simpa using c86))
        (try (have c86b3 : ¬ (t236 = 3 && (t237 == t219 && (t238 == t220 && ((t239 == t221 && (t240 == t222)))))) := by simpa using c86))
        clear c86
        by_cases c152 : (t236 == 3 && (t237 == t225 && (t238 == t226 && ((t239 == t227 && (t240 == t228)))))) = true
        ·rw [if_pos c152] at H
         have c_u : (t236 == 3 && (t237 == t225 && (t238 == t226 && ((t239 == t227 && (t240 == t228)))))) = true := c152
         (try (have c152b1 : decide (t236 = 3 && (t237 == t225 && (t238 == t226 && ((t239 == t227 && (t240 == t228)))))) = true := by simpa using c152))
         (try (have c152b2 : (t236 == 3 && (t237 == t225 && (t238 == t226 && ((t239 == t227 && (t240 == t228)))))) = true := by simpa using c152))
         clear c152
         replace H := Option.bind_eq_some_iff.mp H
         obtain ⟨t271, A1530, H⟩ := H
         replace H : (if t271 ≥ 0 then ((record_Order.f k t236 t237 t238 t239 t240 3 t225 t226 t227 t228).bind fun t272 => (some (decide (t272 ≥ 0)))) else (none)) = some r := H
         have A153 := Aside0.mk A1530
         clear A1530
         by_cases c154 : t271 ≥ 0
         ·rw [if_pos c154] at H
          have c154b0 : decide (0 ≤ t271) = true := decide_eq_true c154
          clear c154
          replace H := Option.bind_eq_some_iff.mp H
          obtain ⟨t272, A1550, H⟩ := H
          replace H : (some (decide (t272 ≥ 0))) = some r := H
          have A155 := Aside0.mk A1550
          clear A1550
          obtain rfl := Option.some.inj H
          clear B_o B_r B_t
          refine start_ (n := 59) (S := fun w' => w'.cell? ⟨g_v, 0, none⟩ = some (.int .i64 t230) ∧ w'.cell? ⟨g_v, 1, none⟩ = some (.int .i64 t231) ∧ w'.cell? ⟨g_v, 2, none⟩ = some (.int .u32 t232) ∧ w'.cell? ⟨g_v, 3, none⟩ = some (.int .u32 t233) ∧ w'.cell? ⟨g_v, 4, none⟩ = some (.int .u16 t234) ∧ w'.cell? ⟨g_n, 0, none⟩ = some (.int .i64 3) ∧ w'.cell? ⟨g_n, 1, none⟩ = some (.int .i64 t219) ∧ w'.cell? ⟨g_n, 2, none⟩ = some (.int .u32 t220) ∧ w'.cell? ⟨g_n, 3, none⟩ = some (.int .u32 t221) ∧ w'.cell? ⟨g_n, 4, none⟩ = some (.int .u16 t222) ∧ w'.cell? ⟨g_k, 0, none⟩ = some (.int .i64 3) ∧ w'.cell? ⟨g_k, 1, none⟩ = some (.int .i64 t213) ∧ w'.cell? ⟨g_k, 2, none⟩ = some (.int .u32 t214) ∧ w'.cell? ⟨g_k, 3, none⟩ = some (.int .u32 t215) ∧ w'.cell? ⟨g_k, 4, none⟩ = some (.int .u16 t216) ∧ w'.cell? ⟨g_i, 0, none⟩ = some (.int .i64 t236) ∧ w'.cell? ⟨g_i, 1, none⟩ = some (.int .i64 t237) ∧ w'.cell? ⟨g_i, 2, none⟩ = some (.int .u32 t238) ∧ w'.cell? ⟨g_i, 3, none⟩ = some (.int .u32 t239) ∧ w'.cell? ⟨g_i, 4, none⟩ = some (.int .u16 t240) ∧ w'.cell? ⟨g_q, 0, none⟩ = some (.int .i64 3) ∧ w'.cell? ⟨g_q, 1, none⟩ = some (.int .i64 t225) ∧ w'.cell? ⟨g_q, 2, none⟩ = some (.int .u32 t226) ∧ w'.cell? ⟨g_q, 3, none⟩ = some (.int .u32 t227) ∧ w'.cell? ⟨g_q, 4, none⟩ = some (.int .u16 t228)) (ds := []) (bm 59 0) (by kernel_rfl) rfl rfl ⟨(bc B_e.out 0).trans rfl, (bc B_e.out 1).trans rfl, (bc B_e.out 2).trans rfl, (bc B_e.out 3).trans rfl, (bc B_e.out 4).trans rfl, (bc B_c.out 0).trans rfl, (bc B_c.out 1).trans rfl, (bc B_c.out 2).trans rfl, (bc B_c.out 3).trans rfl, (bc B_c.out 4).trans rfl, (bc B_b.out 0).trans rfl, (bc B_b.out 1).trans rfl, (bc B_b.out 2).trans rfl, (bc B_b.out 3).trans rfl, (bc B_b.out 4).trans rfl, (bc B_f.out 0).trans rfl, (bc B_f.out 1).trans rfl, (bc B_f.out 2).trans rfl, (bc B_f.out 3).trans rfl, (bc B_f.out 4).trans rfl, (bc B_d.out 0).trans rfl, (bc B_d.out 1).trans rfl, (bc B_d.out 2).trans rfl, (bc B_d.out 3).trans rfl, (bc B_d.out 4).trans rfl⟩ (fun hh => ?_); refine with_tabW law04_RecordJoins.tab12 law04_RecordJoins.bits12 (fun T_ V_ => ?_)
          generalize w77.drew = w210 at B_b B_c B_d B_e B_f HB hh ⊢
          refine pure_ (i := 0) (N := some 31) (v := ?_) (a' := ?_) (bm 59 1) rfl rfl (any_of T_.out (by kernel_rfl)) (fun _ _ _ h => h) (.inl ⟨by first | rfl | (simp only [c12b0, c15b0, c17b0, c19b0, c20b0, c86b0, c_u]; rfl), ?_⟩) ?_ ?_
          rotate_left
          ·intro w'
           go_simp
           with_reducible rfl
          rotate_left
          ·simp only [Act.put, siA, scz, scs, zW, zw]
           rfl
          refine pure_ (i := 1) (N := some 32) (v := ?_) (a' := ?_) (bm 59 3) rfl rfl (any_of T_.out (by kernel_rfl)) (fun _ _ _ h => h) (.inl ⟨by first | rfl | (simp only [c12b0, c15b0, c17b0, c19b0, c20b0, c86b0, c_u]; rfl), ?_⟩) ?_ ?_
          rotate_left
          ·intro w'
           go_simp
           with_reducible rfl
          rotate_left
          ·simp only [Act.put, siA, scz, scs, zW, zw]
           rfl
          refine take_ (i := 2) (N := some 33) (v := ?_) (a' := ?_) (bm 59 7) rfl rfl (take_ofW T_.out V_.out (by kernel_rfl)) (fun _ _ _ h => h) (.inl ⟨by first | rfl | (simp only [c12b0, c15b0, c17b0, c19b0, c20b0, c86b0, c_u]; rfl), ?_⟩) hh ?_ ?_
          rotate_left
          ·rintro w' ⟨s0, s1, s2, s3, s4, s5, s6, s7, s8, s9, s10, s11, s12, s13, s14, s15, s16, s17, s18, s19, s20, s21, s22, s23, s24⟩
           go_simp
           with_reducible rfl
          rotate_left
          ·simp only [Act.put, siA, scz, scs, zW, zw]
           rfl
          refine take_ (i := 3) (N := some 34) (v := ?_) (a' := ?_) (bm 59 15) rfl rfl (take_ofW T_.out V_.out (by kernel_rfl)) (fun _ _ _ h => h) (.inl ⟨by first | rfl | (simp only [c12b0, c15b0, c17b0, c19b0, c20b0, c86b0, c_u]; rfl), ?_⟩) hh ?_ ?_
          rotate_left
          ·rintro w' ⟨s0, s1, s2, s3, s4, s5, s6, s7, s8, s9, s10, s11, s12, s13, s14, s15, s16, s17, s18, s19, s20, s21, s22, s23, s24⟩
           go_simp
           with_reducible rfl
          rotate_left
          ·simp only [Act.put, siA, scz, scs, zW, zw]
           rfl
          refine take_ (i := 4) (N := some 35) (v := ?_) (a' := ?_) (bm 59 31) rfl rfl (take_ofW T_.out V_.out (by kernel_rfl)) (fun _ _ _ h => h) (.inl ⟨by first | rfl | (simp only [c12b0, c15b0, c17b0, c19b0, c20b0, c86b0, c_u]; rfl), ?_⟩) hh ?_ ?_
          rotate_left
          ·rintro w' ⟨s0, s1, s2, s3, s4, s5, s6, s7, s8, s9, s10, s11, s12, s13, s14, s15, s16, s17, s18, s19, s20, s21, s22, s23, s24⟩
           go_simp
           with_reducible rfl
          rotate_left
          ·simp only [Act.put, siA, scz, scs, zW, zw]
           rfl
          refine one_ (i := 5) (N := some 36) (bm 59 63) rfl rfl (one_of T_.out (by kernel_rfl)) (by decide) (fun K hK => ?_)
          refine goes_ Try.func20 (by kernel_rfl) rfl #[.agg #[.int .i64 3, .int .i64 t219, .int .u32 t220, .int .u32 t221, .int .u16 t222], .agg #[.int .i64 3, .int .i64 t213, .int .u32 t214, .int .u32 t215, .int .u16 t216]] (by rfl) rfl rfl (by (try simp only [List.map_toArray, List.map_cons, List.map_nil]); first | done | rfl | (simp only [List.length_drop, List.length_take]; rfl)) ?_
          with_reducible refine (record_Join.calls k 3 t219 t220 t221 t222 3 t213 t214 t215 t216 t242 t243 t244 t245 t246 _ A11.out).mono ?_
          rintro e w211 ⟨rfl, hb⟩
          refine ⟨_, rfl, ?_⟩
          have n3_ := Aside0.mk (bb (g := g_k) (o := .cells #[.int .i64 3, .int .i64 t213, .int .u32 t214, .int .u32 t215, .int .u16 t216] 27 (0, 0)) (by (with_reducible repeat (first | refine bN ?_ _ | refine bw ?_ | refine bA ?_ _)); exact B_b.out) hb)
          have n4_ := Aside0.mk (bb (g := g_n) (o := .cells #[.int .i64 3, .int .i64 t219, .int .u32 t220, .int .u32 t221, .int .u16 t222] 27 (0, 0)) (by (with_reducible repeat (first | refine bN ?_ _ | refine bw ?_ | refine bA ?_ _)); exact B_c.out) hb)
          have n5_ := Aside0.mk (bb (g := g_q) (o := .cells #[.int .i64 3, .int .i64 t225, .int .u32 t226, .int .u32 t227, .int .u16 t228] 27 (0, 0)) (by (with_reducible repeat (first | refine bN ?_ _ | refine bw ?_ | refine bA ?_ _)); exact B_d.out) hb)
          have n6_ := Aside0.mk (bb (g := g_v) (o := .cells #[.int .i64 t230, .int .i64 t231, .int .u32 t232, .int .u32 t233, .int .u16 t234] 27 (0, 0)) (by (with_reducible repeat (first | refine bN ?_ _ | refine bw ?_ | refine bA ?_ _)); exact B_e.out) hb)
          have n7_ := Aside0.mk (bb (g := g_i) (o := .cells #[.int .i64 t236, .int .i64 t237, .int .u32 t238, .int .u32 t239, .int .u16 t240] 27 (0, 0)) (by (with_reducible repeat (first | refine bN ?_ _ | refine bw ?_ | refine bA ?_ _)); exact B_f.out) hb)
          have n8_ := Aside0.mk (below_step (by repeat (first | (with_reducible first | exact HB.out | apply bl | apply pN | apply b1 | refine bs ?_ G_y.out | refine bs ?_ G_0.out | refine bs ?_ G_2.out | refine bs ?_ G_4.out | refine bs ?_ GE223.out | refine bs ?_ GE229.out | refine bs ?_ GE235.out | refine bs ?_ GE241.out) | exact HB.out)) hb)
          clear B_b
          clear B_c
          clear B_d
          clear B_e
          clear B_f
          clear HB
          have B_b := n3_
          have B_c := n4_
          have B_d := n5_
          have B_e := n6_
          have B_f := n7_
          have HB := n8_
          clear n3_ n4_ n5_ n6_ n7_ n8_
          (try clear hb)
          (try clear hb2)
          (try clear hk)
          (try clear hi)
          refine hK.out _ _ ⟨(bc B_e.out 0).trans rfl, (bc B_e.out 1).trans rfl, (bc B_e.out 2).trans rfl, (bc B_e.out 3).trans rfl, (bc B_e.out 4).trans rfl, (bc B_c.out 0).trans rfl, (bc B_c.out 1).trans rfl, (bc B_c.out 2).trans rfl, (bc B_c.out 3).trans rfl, (bc B_c.out 4).trans rfl, (bc B_b.out 0).trans rfl, (bc B_b.out 1).trans rfl, (bc B_b.out 2).trans rfl, (bc B_b.out 3).trans rfl, (bc B_b.out 4).trans rfl, (bc B_f.out 0).trans rfl, (bc B_f.out 1).trans rfl, (bc B_f.out 2).trans rfl, (bc B_f.out 3).trans rfl, (bc B_f.out 4).trans rfl, (bc B_d.out 0).trans rfl, (bc B_d.out 1).trans rfl, (bc B_d.out 2).trans rfl, (bc B_d.out 3).trans rfl, (bc B_d.out 4).trans rfl⟩ (fun hh => ?_)
          clear hK K
          refine norm_ (a' := ?_) ?_ ?_
          rotate_left
          ·show Act.put _ (some 36) _ = _
           simp only [Act.put, siA, scz, scs, zW, zw]
           rfl
          refine pure_ (i := 6) (N := some 37) (v := ?_) (a' := ?_) (bm 59 127) rfl rfl (any_of T_.out (by kernel_rfl)) (fun _ _ _ h => h) (.inl ⟨by first | rfl | (simp only [c12b0, c15b0, c17b0, c19b0, c20b0, c86b0, c_u]; rfl), ?_⟩) ?_ ?_
          rotate_left
          ·intro w'
           go_simp
           with_reducible rfl
          rotate_left
          ·simp only [Act.put, siA, scz, scs, zW, zw]
           rfl
          refine pure_ (i := 7) (N := some 38) (v := ?_) (a' := ?_) (bm 59 255) rfl rfl (any_of T_.out (by kernel_rfl)) (fun _ _ _ h => h) (.inl ⟨by first | rfl | (simp only [c12b0, c15b0, c17b0, c19b0, c20b0, c86b0, c_u]; rfl), ?_⟩) ?_ ?_
          rotate_left
          ·intro w'
           go_simp
           with_reducible rfl
          rotate_left
          ·simp only [Act.put, siA, scz, scs, zW, zw]
           rfl
          refine pure_ (i := 8) (N := some 39) (v := ?_) (a' := ?_) (bm 59 511) rfl rfl (any_of T_.out (by kernel_rfl)) (fun _ _ _ h => h) (.inl ⟨by first | rfl | (simp only [c12b0, c15b0, c17b0, c19b0, c20b0, c86b0, c_u]; rfl), ?_⟩) ?_ ?_
          rotate_left
          ·intro w'
           go_simp
           with_reducible rfl
          rotate_left
          ·simp only [Act.put, siA, scz, scs, zW, zw]
           rfl
          refine take_ (i := 9) (N := some 40) (v := ?_) (a' := ?_) (bm 59 1023) rfl rfl (take_ofW T_.out V_.out (by kernel_rfl)) (fun _ _ _ h => h) (.inl ⟨by first | rfl | (simp only [c12b0, c15b0, c17b0, c19b0, c20b0, c86b0, c_u]; rfl), ?_⟩) hh ?_ ?_
          rotate_left
          ·rintro w' ⟨s0, s1, s2, s3, s4, s5, s6, s7, s8, s9, s10, s11, s12, s13, s14, s15, s16, s17, s18, s19, s20, s21, s22, s23, s24⟩
           go_simp
           with_reducible rfl
          rotate_left
          ·simp only [Act.put, siA, scz, scs, zW, zw]
           rfl
          refine take_ (i := 10) (N := some 41) (v := ?_) (a' := ?_) (bm 59 2047) rfl rfl (take_ofW T_.out V_.out (by kernel_rfl)) (fun _ _ _ h => h) (.inl ⟨by first | rfl | (simp only [c12b0, c15b0, c17b0, c19b0, c20b0, c86b0, c_u]; rfl), ?_⟩) hh ?_ ?_
          rotate_left
          ·rintro w' ⟨s0, s1, s2, s3, s4, s5, s6, s7, s8, s9, s10, s11, s12, s13, s14, s15, s16, s17, s18, s19, s20, s21, s22, s23, s24⟩
           go_simp
           with_reducible rfl
          rotate_left
          ·simp only [Act.put, siA, scz, scs, zW, zw]
           rfl
          refine take_ (i := 11) (N := some 42) (v := ?_) (a' := ?_) (bm 59 4095) rfl rfl (take_ofW T_.out V_.out (by kernel_rfl)) (fun _ _ _ h => h) (.inl ⟨by first | rfl | (simp only [c12b0, c15b0, c17b0, c19b0, c20b0, c86b0, c_u]; rfl), ?_⟩) hh ?_ ?_
          rotate_left
          ·rintro w' ⟨s0, s1, s2, s3, s4, s5, s6, s7, s8, s9, s10, s11, s12, s13, s14, s15, s16, s17, s18, s19, s20, s21, s22, s23, s24⟩
           go_simp
           with_reducible rfl
          rotate_left
          ·simp only [Act.put, siA, scz, scs, zW, zw]
           rfl
          refine take_ (i := 12) (N := some 43) (v := ?_) (a' := ?_) (bm 59 8191) rfl rfl (take_ofW T_.out V_.out (by kernel_rfl)) (fun _ _ _ h => h) (.inl ⟨by first | rfl | (simp only [c12b0, c15b0, c17b0, c19b0, c20b0, c86b0, c_u]; rfl), ?_⟩) hh ?_ ?_
          rotate_left
          ·rintro w' ⟨s0, s1, s2, s3, s4, s5, s6, s7, s8, s9, s10, s11, s12, s13, s14, s15, s16, s17, s18, s19, s20, s21, s22, s23, s24⟩
           go_simp
           with_reducible rfl
          rotate_left
          ·simp only [Act.put, siA, scz, scs, zW, zw]
           rfl
          refine one_ (i := 13) (N := some 44) (bm 59 16383) rfl rfl (one_of T_.out (by kernel_rfl)) (by decide) (fun K hK => ?_)
          refine goes_ Try.func20 (by kernel_rfl) rfl #[.agg #[.int .i64 3, .int .i64 t219, .int .u32 t220, .int .u32 t221, .int .u16 t222], .agg #[.int .i64 3, .int .i64 t225, .int .u32 t226, .int .u32 t227, .int .u16 t228]] (by rfl) rfl rfl (by (try simp only [List.map_toArray, List.map_cons, List.map_nil]); first | done | rfl | (simp only [List.length_drop, List.length_take]; rfl)) ?_
          with_reducible refine (record_Join.calls k 3 t219 t220 t221 t222 3 t225 t226 t227 t228 t247 t248 t249 t250 t251 _ A13.out).mono ?_
          rintro e w212 ⟨rfl, hb⟩
          refine ⟨_, rfl, ?_⟩
          have n3_ := Aside0.mk (bb (g := g_k) (o := .cells #[.int .i64 3, .int .i64 t213, .int .u32 t214, .int .u32 t215, .int .u16 t216] 27 (0, 0)) (by (with_reducible repeat (first | refine bN ?_ _ | refine bw ?_ | refine bA ?_ _)); exact B_b.out) hb)
          have n4_ := Aside0.mk (bb (g := g_n) (o := .cells #[.int .i64 3, .int .i64 t219, .int .u32 t220, .int .u32 t221, .int .u16 t222] 27 (0, 0)) (by (with_reducible repeat (first | refine bN ?_ _ | refine bw ?_ | refine bA ?_ _)); exact B_c.out) hb)
          have n5_ := Aside0.mk (bb (g := g_q) (o := .cells #[.int .i64 3, .int .i64 t225, .int .u32 t226, .int .u32 t227, .int .u16 t228] 27 (0, 0)) (by (with_reducible repeat (first | refine bN ?_ _ | refine bw ?_ | refine bA ?_ _)); exact B_d.out) hb)
          have n6_ := Aside0.mk (bb (g := g_v) (o := .cells #[.int .i64 t230, .int .i64 t231, .int .u32 t232, .int .u32 t233, .int .u16 t234] 27 (0, 0)) (by (with_reducible repeat (first | refine bN ?_ _ | refine bw ?_ | refine bA ?_ _)); exact B_e.out) hb)
          have n7_ := Aside0.mk (bb (g := g_i) (o := .cells #[.int .i64 t236, .int .i64 t237, .int .u32 t238, .int .u32 t239, .int .u16 t240] 27 (0, 0)) (by (with_reducible repeat (first | refine bN ?_ _ | refine bw ?_ | refine bA ?_ _)); exact B_f.out) hb)
          have n8_ := Aside0.mk (below_step (by repeat (first | (with_reducible first | exact HB.out | apply bl | apply pN | apply b1 | refine bs ?_ G_y.out | refine bs ?_ G_0.out | refine bs ?_ G_2.out | refine bs ?_ G_4.out | refine bs ?_ GE223.out | refine bs ?_ GE229.out | refine bs ?_ GE235.out | refine bs ?_ GE241.out) | exact HB.out)) hb)
          clear B_b
          clear B_c
          clear B_d
          clear B_e
          clear B_f
          clear HB
          have B_b := n3_
          have B_c := n4_
          have B_d := n5_
          have B_e := n6_
          have B_f := n7_
          have HB := n8_
          clear n3_ n4_ n5_ n6_ n7_ n8_
          (try clear hb)
          (try clear hb2)
          (try clear hk)
          (try clear hi)
          refine hK.out _ _ ⟨(bc B_e.out 0).trans rfl, (bc B_e.out 1).trans rfl, (bc B_e.out 2).trans rfl, (bc B_e.out 3).trans rfl, (bc B_e.out 4).trans rfl, (bc B_c.out 0).trans rfl, (bc B_c.out 1).trans rfl, (bc B_c.out 2).trans rfl, (bc B_c.out 3).trans rfl, (bc B_c.out 4).trans rfl, (bc B_b.out 0).trans rfl, (bc B_b.out 1).trans rfl, (bc B_b.out 2).trans rfl, (bc B_b.out 3).trans rfl, (bc B_b.out 4).trans rfl, (bc B_f.out 0).trans rfl, (bc B_f.out 1).trans rfl, (bc B_f.out 2).trans rfl, (bc B_f.out 3).trans rfl, (bc B_f.out 4).trans rfl, (bc B_d.out 0).trans rfl, (bc B_d.out 1).trans rfl, (bc B_d.out 2).trans rfl, (bc B_d.out 3).trans rfl, (bc B_d.out 4).trans rfl⟩ (fun hh => ?_)
          clear hK K
          refine norm_ (a' := ?_) ?_ ?_
          rotate_left
          ·show Act.put _ (some 44) _ = _
           simp only [Act.put, siA, scz, scs, zW, zw]
           rfl
          refine one_ (i := 14) (N := some 45) (bm 59 32767) rfl rfl (one_of T_.out (by kernel_rfl)) (by decide) (fun K hK => ?_)
          refine goes_ Try.func20 (by kernel_rfl) rfl #[.agg #[.int .i64 3, .int .i64 t213, .int .u32 t214, .int .u32 t215, .int .u16 t216], .agg #[.int .i64 t247, .int .i64 t248, .int .u32 t249, .int .u32 t250, .int .u16 t251]] (by rfl) rfl rfl (by (try simp only [List.map_toArray, List.map_cons, List.map_nil]); first | done | rfl | (simp only [List.length_drop, List.length_take]; rfl)) ?_
          with_reducible refine (record_Join.calls k 3 t213 t214 t215 t216 t247 t248 t249 t250 t251 t252 t253 t254 t255 t256 _ A14.out).mono ?_
          rintro e w213 ⟨rfl, hb⟩
          refine ⟨_, rfl, ?_⟩
          have n3_ := Aside0.mk (bb (g := g_k) (o := .cells #[.int .i64 3, .int .i64 t213, .int .u32 t214, .int .u32 t215, .int .u16 t216] 27 (0, 0)) (by (with_reducible repeat (first | refine bN ?_ _ | refine bw ?_ | refine bA ?_ _)); exact B_b.out) hb)
          have n4_ := Aside0.mk (bb (g := g_n) (o := .cells #[.int .i64 3, .int .i64 t219, .int .u32 t220, .int .u32 t221, .int .u16 t222] 27 (0, 0)) (by (with_reducible repeat (first | refine bN ?_ _ | refine bw ?_ | refine bA ?_ _)); exact B_c.out) hb)
          have n5_ := Aside0.mk (bb (g := g_q) (o := .cells #[.int .i64 3, .int .i64 t225, .int .u32 t226, .int .u32 t227, .int .u16 t228] 27 (0, 0)) (by (with_reducible repeat (first | refine bN ?_ _ | refine bw ?_ | refine bA ?_ _)); exact B_d.out) hb)
          have n6_ := Aside0.mk (bb (g := g_v) (o := .cells #[.int .i64 t230, .int .i64 t231, .int .u32 t232, .int .u32 t233, .int .u16 t234] 27 (0, 0)) (by (with_reducible repeat (first | refine bN ?_ _ | refine bw ?_ | refine bA ?_ _)); exact B_e.out) hb)
          have n7_ := Aside0.mk (bb (g := g_i) (o := .cells #[.int .i64 t236, .int .i64 t237, .int .u32 t238, .int .u32 t239, .int .u16 t240] 27 (0, 0)) (by (with_reducible repeat (first | refine bN ?_ _ | refine bw ?_ | refine bA ?_ _)); exact B_f.out) hb)
          have n8_ := Aside0.mk (below_step (by repeat (first | (with_reducible first | exact HB.out | apply bl | apply pN | apply b1 | refine bs ?_ G_y.out | refine bs ?_ G_0.out | refine bs ?_ G_2.out | refine bs ?_ G_4.out | refine bs ?_ GE223.out | refine bs ?_ GE229.out | refine bs ?_ GE235.out | refine bs ?_ GE241.out) | exact HB.out)) hb)
          clear B_b
          clear B_c
          clear B_d
          clear B_e
          clear B_f
          clear HB
          have B_b := n3_
          have B_c := n4_
          have B_d := n5_
          have B_e := n6_
          have B_f := n7_
          have HB := n8_
          clear n3_ n4_ n5_ n6_ n7_ n8_
          (try clear hb)
          (try clear hb2)
          (try clear hk)
          (try clear hi)
          refine hK.out _ _ ⟨(bc B_e.out 0).trans rfl, (bc B_e.out 1).trans rfl, (bc B_e.out 2).trans rfl, (bc B_e.out 3).trans rfl, (bc B_e.out 4).trans rfl, (bc B_c.out 0).trans rfl, (bc B_c.out 1).trans rfl, (bc B_c.out 2).trans rfl, (bc B_c.out 3).trans rfl, (bc B_c.out 4).trans rfl, (bc B_b.out 0).trans rfl, (bc B_b.out 1).trans rfl, (bc B_b.out 2).trans rfl, (bc B_b.out 3).trans rfl, (bc B_b.out 4).trans rfl, (bc B_f.out 0).trans rfl, (bc B_f.out 1).trans rfl, (bc B_f.out 2).trans rfl, (bc B_f.out 3).trans rfl, (bc B_f.out 4).trans rfl, (bc B_d.out 0).trans rfl, (bc B_d.out 1).trans rfl, (bc B_d.out 2).trans rfl, (bc B_d.out 3).trans rfl, (bc B_d.out 4).trans rfl⟩ (fun hh => ?_)
          clear hK K
          refine norm_ (a' := ?_) ?_ ?_
          rotate_left
          ·show Act.put _ (some 45) _ = _
           simp only [Act.put, siA, scz, scs, zW, zw]
           rfl
          refine pure_ (i := 15) (N := some 46) (v := ?_) (a' := ?_) (bm 59 65535) rfl rfl (any_of T_.out (by kernel_rfl)) (fun _ _ _ h => h) (.inl ⟨by first | rfl | (simp only [c12b0, c15b0, c17b0, c19b0, c20b0, c86b0, c_u]; rfl), ?_⟩) ?_ ?_
          rotate_left
          ·intro w'
           go_simp
           with_reducible rfl
          rotate_left
          ·simp only [Act.put, siA, scz, scs, zW, zw]
           rfl
          refine pure_ (i := 16) (N := some 47) (v := ?_) (a' := ?_) (bm 59 131071) rfl rfl (any_of T_.out (by kernel_rfl)) (fun _ _ _ h => h) (.inl ⟨by first | rfl | (simp only [c12b0, c15b0, c17b0, c19b0, c20b0, c86b0, c_u]; rfl), ?_⟩) ?_ ?_
          rotate_left
          ·intro w'
           go_simp
           with_reducible rfl
          rotate_left
          ·simp only [Act.put, siA, scz, scs, zW, zw]
           rfl
          refine pure_ (i := 17) (N := some 48) (v := ?_) (a' := ?_) (bm 59 262143) rfl rfl (any_of T_.out (by kernel_rfl)) (fun _ _ _ h => h) (.inl ⟨by first | rfl | (simp only [c12b0, c15b0, c17b0, c19b0, c20b0, c86b0, c_u]; rfl), ?_⟩) ?_ ?_
          rotate_left
          ·intro w'
           go_simp
           with_reducible rfl
          rotate_left
          ·simp only [Act.put, siA, scz, scs, zW, zw]
           rfl
          refine take_ (i := 18) (N := some 49) (v := ?_) (a' := ?_) (bm 59 524287) rfl rfl (take_ofW T_.out V_.out (by kernel_rfl)) (fun _ _ _ h => h) (.inl ⟨by first | rfl | (simp only [c12b0, c15b0, c17b0, c19b0, c20b0, c86b0, c_u]; rfl), ?_⟩) hh ?_ ?_
          rotate_left
          ·rintro w' ⟨s0, s1, s2, s3, s4, s5, s6, s7, s8, s9, s10, s11, s12, s13, s14, s15, s16, s17, s18, s19, s20, s21, s22, s23, s24⟩
           go_simp
           with_reducible rfl
          rotate_left
          ·simp only [Act.put, siA, scz, scs, zW, zw]
           rfl
          refine take_ (i := 19) (N := some 50) (v := ?_) (a' := ?_) (bm 59 1048575) rfl rfl (take_ofW T_.out V_.out (by kernel_rfl)) (fun _ _ _ h => h) (.inl ⟨by first | rfl | (simp only [c12b0, c15b0, c17b0, c19b0, c20b0, c86b0, c_u]; rfl), ?_⟩) hh ?_ ?_
          rotate_left
          ·rintro w' ⟨s0, s1, s2, s3, s4, s5, s6, s7, s8, s9, s10, s11, s12, s13, s14, s15, s16, s17, s18, s19, s20, s21, s22, s23, s24⟩
           go_simp
           with_reducible rfl
          rotate_left
          ·simp only [Act.put, siA, scz, scs, zW, zw]
           rfl
          refine take_ (i := 21) (N := some 52) (v := ?_) (a' := ?_) (bm 59 3145727) rfl rfl (take_ofW T_.out V_.out (by kernel_rfl)) (fun _ _ _ h => h) (.inl ⟨by first | rfl | (simp only [c12b0, c15b0, c17b0, c19b0, c20b0, c86b0, c_u]; rfl), ?_⟩) hh ?_ ?_
          rotate_left
          ·rintro w' ⟨s0, s1, s2, s3, s4, s5, s6, s7, s8, s9, s10, s11, s12, s13, s14, s15, s16, s17, s18, s19, s20, s21, s22, s23, s24⟩
           go_simp
           with_reducible rfl
          rotate_left
          ·simp only [Act.put, siA, scz, scs, zW, zw]
           rfl
          refine one_ (i := 20) (N := some 51) (bm 59 4194303) rfl rfl (one_of T_.out (by kernel_rfl)) (by decide) (fun K hK => ?_)
          refine goes_ Try.func20 (by kernel_rfl) rfl #[.agg #[.int .i64 t236, .int .i64 t237, .int .u32 t238, .int .u32 t239, .int .u16 t240], .agg #[.int .i64 3, .int .i64 t213, .int .u32 t214, .int .u32 t215, .int .u16 t216]] (by rfl) rfl rfl (by (try simp only [List.map_toArray, List.map_cons, List.map_nil]); first | done | rfl | (simp only [List.length_drop, List.length_take]; rfl)) ?_
          with_reducible refine (record_Join.calls k t236 t237 t238 t239 t240 3 t213 t214 t215 t216 t257 t258 t259 t260 t261 _ A16.out).mono ?_
          rintro e w214 ⟨rfl, hb⟩
          refine ⟨_, rfl, ?_⟩
          have n3_ := Aside0.mk (bb (g := g_k) (o := .cells #[.int .i64 3, .int .i64 t213, .int .u32 t214, .int .u32 t215, .int .u16 t216] 27 (0, 0)) (by (with_reducible repeat (first | refine bN ?_ _ | refine bw ?_ | refine bA ?_ _)); exact B_b.out) hb)
          have n4_ := Aside0.mk (bb (g := g_n) (o := .cells #[.int .i64 3, .int .i64 t219, .int .u32 t220, .int .u32 t221, .int .u16 t222] 27 (0, 0)) (by (with_reducible repeat (first | refine bN ?_ _ | refine bw ?_ | refine bA ?_ _)); exact B_c.out) hb)
          have n5_ := Aside0.mk (bb (g := g_q) (o := .cells #[.int .i64 3, .int .i64 t225, .int .u32 t226, .int .u32 t227, .int .u16 t228] 27 (0, 0)) (by (with_reducible repeat (first | refine bN ?_ _ | refine bw ?_ | refine bA ?_ _)); exact B_d.out) hb)
          have n6_ := Aside0.mk (bb (g := g_v) (o := .cells #[.int .i64 t230, .int .i64 t231, .int .u32 t232, .int .u32 t233, .int .u16 t234] 27 (0, 0)) (by (with_reducible repeat (first | refine bN ?_ _ | refine bw ?_ | refine bA ?_ _)); exact B_e.out) hb)
          have n7_ := Aside0.mk (bb (g := g_i) (o := .cells #[.int .i64 t236, .int .i64 t237, .int .u32 t238, .int .u32 t239, .int .u16 t240] 27 (0, 0)) (by (with_reducible repeat (first | refine bN ?_ _ | refine bw ?_ | refine bA ?_ _)); exact B_f.out) hb)
          have n8_ := Aside0.mk (below_step (by repeat (first | (with_reducible first | exact HB.out | apply bl | apply pN | apply b1 | refine bs ?_ G_y.out | refine bs ?_ G_0.out | refine bs ?_ G_2.out | refine bs ?_ G_4.out | refine bs ?_ GE223.out | refine bs ?_ GE229.out | refine bs ?_ GE235.out | refine bs ?_ GE241.out) | exact HB.out)) hb)
          clear B_b
          clear B_c
          clear B_d
          clear B_e
          clear B_f
          clear HB
          have B_b := n3_
          have B_c := n4_
          have B_d := n5_
          have B_e := n6_
          have B_f := n7_
          have HB := n8_
          clear n3_ n4_ n5_ n6_ n7_ n8_
          (try clear hb)
          (try clear hb2)
          (try clear hk)
          (try clear hi)
          refine hK.out _ _ ⟨(bc B_e.out 0).trans rfl, (bc B_e.out 1).trans rfl, (bc B_e.out 2).trans rfl, (bc B_e.out 3).trans rfl, (bc B_e.out 4).trans rfl, (bc B_c.out 0).trans rfl, (bc B_c.out 1).trans rfl, (bc B_c.out 2).trans rfl, (bc B_c.out 3).trans rfl, (bc B_c.out 4).trans rfl, (bc B_b.out 0).trans rfl, (bc B_b.out 1).trans rfl, (bc B_b.out 2).trans rfl, (bc B_b.out 3).trans rfl, (bc B_b.out 4).trans rfl, (bc B_f.out 0).trans rfl, (bc B_f.out 1).trans rfl, (bc B_f.out 2).trans rfl, (bc B_f.out 3).trans rfl, (bc B_f.out 4).trans rfl, (bc B_d.out 0).trans rfl, (bc B_d.out 1).trans rfl, (bc B_d.out 2).trans rfl, (bc B_d.out 3).trans rfl, (bc B_d.out 4).trans rfl⟩ (fun hh => ?_)
          clear hK K
          refine norm_ (a' := ?_) ?_ ?_
          rotate_left
          ·show Act.put _ (some 51) _ = _
           simp only [Act.put, siA, scz, scs, zW, zw]
           rfl
          refine pure_ (i := 22) (N := some 53) (v := ?_) (a' := ?_) (bm 59 8388607) rfl rfl (any_of T_.out (by kernel_rfl)) (fun _ _ _ h => h) (.inl ⟨by first | rfl | (simp only [c12b0, c15b0, c17b0, c19b0, c20b0, c86b0, c_u]; rfl), ?_⟩) ?_ ?_
          rotate_left
          ·intro w'
           go_simp
           with_reducible rfl
          rotate_left
          ·simp only [Act.put, siA, scz, scs, zW, zw]
           rfl
          refine pure_ (i := 23) (N := some 54) (v := ?_) (a' := ?_) (bm 59 16777215) rfl rfl (any_of T_.out (by kernel_rfl)) (fun _ _ _ h => h) (.inl ⟨by first | rfl | (simp only [c12b0, c15b0, c17b0, c19b0, c20b0, c86b0, c_u]; rfl), ?_⟩) ?_ ?_
          rotate_left
          ·intro w'
           go_simp
           with_reducible rfl
          rotate_left
          ·simp only [Act.put, siA, scz, scs, zW, zw]
           rfl
          refine pure_ (i := 24) (N := some 55) (v := ?_) (a' := ?_) (bm 59 33554431) rfl rfl (any_of T_.out (by kernel_rfl)) (fun _ _ _ h => h) (.inl ⟨by first | rfl | (simp only [c12b0, c15b0, c17b0, c19b0, c20b0, c86b0, c_u]; rfl), ?_⟩) ?_ ?_
          rotate_left
          ·intro w'
           go_simp
           with_reducible rfl
          rotate_left
          ·simp only [Act.put, siA, scz, scs, zW, zw]
           rfl
          refine take_ (i := 25) (N := some 56) (v := ?_) (a' := ?_) (bm 59 67108863) rfl rfl (take_ofW T_.out V_.out (by kernel_rfl)) (fun _ _ _ h => h) (.inl ⟨by first | rfl | (simp only [c12b0, c15b0, c17b0, c19b0, c20b0, c86b0, c_u]; rfl), ?_⟩) hh ?_ ?_
          rotate_left
          ·rintro w' ⟨s0, s1, s2, s3, s4, s5, s6, s7, s8, s9, s10, s11, s12, s13, s14, s15, s16, s17, s18, s19, s20, s21, s22, s23, s24⟩
           go_simp
           with_reducible rfl
          rotate_left
          ·simp only [Act.put, siA, scz, scs, zW, zw]
           rfl
          refine take_ (i := 26) (N := some 57) (v := ?_) (a' := ?_) (bm 59 134217727) rfl rfl (take_ofW T_.out V_.out (by kernel_rfl)) (fun _ _ _ h => h) (.inl ⟨by first | rfl | (simp only [c12b0, c15b0, c17b0, c19b0, c20b0, c86b0, c_u]; rfl), ?_⟩) hh ?_ ?_
          rotate_left
          ·rintro w' ⟨s0, s1, s2, s3, s4, s5, s6, s7, s8, s9, s10, s11, s12, s13, s14, s15, s16, s17, s18, s19, s20, s21, s22, s23, s24⟩
           go_simp
           with_reducible rfl
          rotate_left
          ·simp only [Act.put, siA, scz, scs, zW, zw]
           rfl
          refine take_ (i := 28) (N := some 59) (v := ?_) (a' := ?_) (bm 59 402653183) rfl rfl (take_ofW T_.out V_.out (by kernel_rfl)) (fun _ _ _ h => h) (.inl ⟨by first | rfl | (simp only [c12b0, c15b0, c17b0, c19b0, c20b0, c86b0, c_u]; rfl), ?_⟩) hh ?_ ?_
          rotate_left
          ·rintro w' ⟨s0, s1, s2, s3, s4, s5, s6, s7, s8, s9, s10, s11, s12, s13, s14, s15, s16, s17, s18, s19, s20, s21, s22, s23, s24⟩
           go_simp
           with_reducible rfl
          rotate_left
          ·simp only [Act.put, siA, scz, scs, zW, zw]
           rfl
          refine one_ (i := 27) (N := some 58) (bm 59 536870911) rfl rfl (one_of T_.out (by kernel_rfl)) (by decide) (fun K hK => ?_)
          refine goes_ Try.func20 (by kernel_rfl) rfl #[.agg #[.int .i64 3, .int .i64 t213, .int .u32 t214, .int .u32 t215, .int .u16 t216], .agg #[.int .i64 3, .int .i64 t213, .int .u32 t214, .int .u32 t215, .int .u16 t216]] (by rfl) rfl rfl (by (try simp only [List.map_toArray, List.map_cons, List.map_nil]); first | done | rfl | (simp only [List.length_drop, List.length_take]; rfl)) ?_
          with_reducible refine (record_Join.calls k 3 t213 t214 t215 t216 3 t213 t214 t215 t216 t262 t263 t264 t265 t266 _ A18.out).mono ?_
          rintro e w215 ⟨rfl, hb⟩
          refine ⟨_, rfl, ?_⟩
          have n3_ := Aside0.mk (bb (g := g_k) (o := .cells #[.int .i64 3, .int .i64 t213, .int .u32 t214, .int .u32 t215, .int .u16 t216] 27 (0, 0)) (by (with_reducible repeat (first | refine bN ?_ _ | refine bw ?_ | refine bA ?_ _)); exact B_b.out) hb)
          have n4_ := Aside0.mk (bb (g := g_n) (o := .cells #[.int .i64 3, .int .i64 t219, .int .u32 t220, .int .u32 t221, .int .u16 t222] 27 (0, 0)) (by (with_reducible repeat (first | refine bN ?_ _ | refine bw ?_ | refine bA ?_ _)); exact B_c.out) hb)
          have n5_ := Aside0.mk (bb (g := g_q) (o := .cells #[.int .i64 3, .int .i64 t225, .int .u32 t226, .int .u32 t227, .int .u16 t228] 27 (0, 0)) (by (with_reducible repeat (first | refine bN ?_ _ | refine bw ?_ | refine bA ?_ _)); exact B_d.out) hb)
          have n6_ := Aside0.mk (bb (g := g_v) (o := .cells #[.int .i64 t230, .int .i64 t231, .int .u32 t232, .int .u32 t233, .int .u16 t234] 27 (0, 0)) (by (with_reducible repeat (first | refine bN ?_ _ | refine bw ?_ | refine bA ?_ _)); exact B_e.out) hb)
          have n7_ := Aside0.mk (bb (g := g_i) (o := .cells #[.int .i64 t236, .int .i64 t237, .int .u32 t238, .int .u32 t239, .int .u16 t240] 27 (0, 0)) (by (with_reducible repeat (first | refine bN ?_ _ | refine bw ?_ | refine bA ?_ _)); exact B_f.out) hb)
          have n8_ := Aside0.mk (below_step (by repeat (first | (with_reducible first | exact HB.out | apply bl | apply pN | apply b1 | refine bs ?_ G_y.out | refine bs ?_ G_0.out | refine bs ?_ G_2.out | refine bs ?_ G_4.out | refine bs ?_ GE223.out | refine bs ?_ GE229.out | refine bs ?_ GE235.out | refine bs ?_ GE241.out) | exact HB.out)) hb)
          clear B_b
          clear B_c
          clear B_d
          clear B_e
          clear B_f
          clear HB
          have B_b := n3_
          have B_c := n4_
          have B_d := n5_
          have B_e := n6_
          have B_f := n7_
          have HB := n8_
          clear n3_ n4_ n5_ n6_ n7_ n8_
          (try clear hb)
          (try clear hb2)
          (try clear hk)
          (try clear hi)
          refine hK.out _ _ ⟨(bc B_e.out 0).trans rfl, (bc B_e.out 1).trans rfl, (bc B_e.out 2).trans rfl, (bc B_e.out 3).trans rfl, (bc B_e.out 4).trans rfl, (bc B_c.out 0).trans rfl, (bc B_c.out 1).trans rfl, (bc B_c.out 2).trans rfl, (bc B_c.out 3).trans rfl, (bc B_c.out 4).trans rfl, (bc B_b.out 0).trans rfl, (bc B_b.out 1).trans rfl, (bc B_b.out 2).trans rfl, (bc B_b.out 3).trans rfl, (bc B_b.out 4).trans rfl, (bc B_f.out 0).trans rfl, (bc B_f.out 1).trans rfl, (bc B_f.out 2).trans rfl, (bc B_f.out 3).trans rfl, (bc B_f.out 4).trans rfl, (bc B_d.out 0).trans rfl, (bc B_d.out 1).trans rfl, (bc B_d.out 2).trans rfl, (bc B_d.out 3).trans rfl, (bc B_d.out 4).trans rfl⟩ (fun hh => ?_)
          clear hK K
          refine norm_ (a' := ?_) ?_ ?_
          rotate_left
          ·show Act.put _ (some 58) _ = _
           simp only [Act.put, siA, scz, scs, zW, zw]
           rfl
          refine pure_ (i := 29) (N := some 60) (v := ?_) (a' := ?_) (bm 59 1073741823) rfl rfl (any_of T_.out (by kernel_rfl)) (fun _ _ _ h => h) (.inl ⟨by first | rfl | (simp only [c12b0, c15b0, c17b0, c19b0, c20b0, c86b0, c_u]; rfl), ?_⟩) ?_ ?_
          rotate_left
          ·intro w'
           go_simp
           with_reducible rfl
          rotate_left
          ·simp only [Act.put, siA, scz, scs, zW, zw]
           rfl
          refine pure_ (i := 30) (N := some 61) (v := ?_) (a' := ?_) (bm 59 2147483647) rfl rfl (any_of T_.out (by kernel_rfl)) (fun _ _ _ h => h) (.inl ⟨by first | rfl | (simp only [c12b0, c15b0, c17b0, c19b0, c20b0, c86b0, c_u]; rfl), ?_⟩) ?_ ?_
          rotate_left
          ·intro w'
           go_simp
           with_reducible rfl
          rotate_left
          ·simp only [Act.put, siA, scz, scs, zW, zw]
           rfl
          refine pure_ (i := 31) (N := some 62) (v := ?_) (a' := ?_) (bm 59 4294967295) rfl rfl (any_of T_.out (by kernel_rfl)) (fun _ _ _ h => h) (.inl ⟨by first | rfl | (simp only [c12b0, c15b0, c17b0, c19b0, c20b0, c86b0, c_u]; rfl), ?_⟩) ?_ ?_
          rotate_left
          ·intro w'
           go_simp
           with_reducible rfl
          rotate_left
          ·simp only [Act.put, siA, scz, scs, zW, zw]
           rfl
          refine take_ (i := 32) (N := some 63) (v := ?_) (a' := ?_) (bm 59 8589934591) rfl rfl (take_ofW T_.out V_.out (by kernel_rfl)) (fun _ _ _ h => h) (.inl ⟨by first | rfl | (simp only [c12b0, c15b0, c17b0, c19b0, c20b0, c86b0, c_u]; rfl), ?_⟩) hh ?_ ?_
          rotate_left
          ·rintro w' ⟨s0, s1, s2, s3, s4, s5, s6, s7, s8, s9, s10, s11, s12, s13, s14, s15, s16, s17, s18, s19, s20, s21, s22, s23, s24⟩
           go_simp
           with_reducible rfl
          rotate_left
          ·simp only [Act.put, siA, scz, scs, zW, zw]
           rfl
          refine take_ (i := 33) (N := some 64) (v := ?_) (a' := ?_) (bm 59 17179869183) rfl rfl (take_ofW T_.out V_.out (by kernel_rfl)) (fun _ _ _ h => h) (.inl ⟨by first | rfl | (simp only [c12b0, c15b0, c17b0, c19b0, c20b0, c86b0, c_u]; rfl), ?_⟩) hh ?_ ?_
          rotate_left
          ·rintro w' ⟨s0, s1, s2, s3, s4, s5, s6, s7, s8, s9, s10, s11, s12, s13, s14, s15, s16, s17, s18, s19, s20, s21, s22, s23, s24⟩
           go_simp
           with_reducible rfl
          rotate_left
          ·simp only [Act.put, siA, scz, scs, zW, zw]
           rfl
          refine pure_ (i := 34) (N := some 65) (v := ?_) (a' := ?_) (bm 59 34359738367) rfl rfl (any_of T_.out (by kernel_rfl)) (fun _ _ _ h => h) (.inl ⟨by first | rfl | (simp only [c12b0, c15b0, c17b0, c19b0, c20b0, c86b0, c_u]; rfl), ?_⟩) ?_ ?_
          rotate_left
          ·intro w'
           go_simp
           with_reducible rfl
          rotate_left
          ·simp only [Act.put, siA, scz, scs, zW, zw]
           rfl
          refine pure_ (i := 35) (N := some 66) (v := ?_) (a' := ?_) (bm 59 68719476735) rfl rfl (any_of T_.out (by kernel_rfl)) (fun _ _ _ h => h) (.inl ⟨by first | rfl | (simp only [c12b0, c15b0, c17b0, c19b0, c20b0, c86b0, c_u]; rfl), ?_⟩) ?_ ?_
          rotate_left
          ·intro w'
           go_simp
           with_reducible rfl
          rotate_left
          ·simp only [Act.put, siA, scz, scs, zW, zw]
           rfl
          refine take_ (i := 36) (N := some 67) (v := ?_) (a' := ?_) (bm 59 137438953471) rfl rfl (take_ofW T_.out V_.out (by kernel_rfl)) (fun _ _ _ h => h) (.inl ⟨by first | rfl | (simp only [c12b0, c15b0, c17b0, c19b0, c20b0, c86b0, c_u]; rfl), ?_⟩) hh ?_ ?_
          rotate_left
          ·rintro w' ⟨s0, s1, s2, s3, s4, s5, s6, s7, s8, s9, s10, s11, s12, s13, s14, s15, s16, s17, s18, s19, s20, s21, s22, s23, s24⟩
           go_simp
           with_reducible rfl
          rotate_left
          ·simp only [Act.put, siA, scz, scs, zW, zw]
           rfl
          refine take_ (i := 37) (N := some 68) (v := ?_) (a' := ?_) (bm 59 274877906943) rfl rfl (take_ofW T_.out V_.out (by kernel_rfl)) (fun _ _ _ h => h) (.inl ⟨by first | rfl | (simp only [c12b0, c15b0, c17b0, c19b0, c20b0, c86b0, c_u]; rfl), ?_⟩) hh ?_ ?_
          rotate_left
          ·rintro w' ⟨s0, s1, s2, s3, s4, s5, s6, s7, s8, s9, s10, s11, s12, s13, s14, s15, s16, s17, s18, s19, s20, s21, s22, s23, s24⟩
           go_simp
           with_reducible rfl
          rotate_left
          ·simp only [Act.put, siA, scz, scs, zW, zw]
           rfl
          refine pure_ (i := 38) (N := some 69) (v := ?_) (a' := ?_) (bm 59 549755813887) rfl rfl (any_of T_.out (by kernel_rfl)) (fun _ _ _ h => h) (.inl ⟨by first | rfl | (simp only [c12b0, c15b0, c17b0, c19b0, c20b0, c86b0, c_u]; rfl), ?_⟩) ?_ ?_
          rotate_left
          ·intro w'
           go_simp
           with_reducible rfl
          rotate_left
          ·simp only [Act.put, siA, scz, scs, zW, zw]
           rfl
          refine pure_ (i := 39) (N := some 70) (v := ?_) (a' := ?_) (bm 59 1099511627775) rfl rfl (any_of T_.out (by kernel_rfl)) (fun _ _ _ h => h) (.inl ⟨by first | rfl | (simp only [c12b0, c15b0, c17b0, c19b0, c20b0, c86b0, c_u]; rfl), ?_⟩) ?_ ?_
          rotate_left
          ·intro w'
           go_simp
           with_reducible rfl
          rotate_left
          ·simp only [Act.put, siA, scz, scs, zW, zw]
           rfl
          refine pure_ (i := 40) (N := some 71) (v := ?_) (a' := ?_) (bm 59 2199023255551) rfl rfl (any_of T_.out (by kernel_rfl)) (fun _ _ _ h => h) (.inl ⟨by first | rfl | (simp only [c12b0, c15b0, c17b0, c19b0, c20b0, c86b0, c_u]; rfl), ?_⟩) ?_ ?_
          rotate_left
          ·intro w'
           go_simp
           with_reducible rfl
          rotate_left
          ·simp only [Act.put, siA, scz, scs, zW, zw]
           rfl
          refine take_ (i := 41) (N := some 72) (v := ?_) (a' := ?_) (bm 59 4398046511103) rfl rfl (take_ofW T_.out V_.out (by kernel_rfl)) (fun _ _ _ h => h) (.inl ⟨by first | rfl | (simp only [c12b0, c15b0, c17b0, c19b0, c20b0, c86b0, c_u]; rfl), ?_⟩) hh ?_ ?_
          rotate_left
          ·rintro w' ⟨s0, s1, s2, s3, s4, s5, s6, s7, s8, s9, s10, s11, s12, s13, s14, s15, s16, s17, s18, s19, s20, s21, s22, s23, s24⟩
           go_simp
           with_reducible rfl
          rotate_left
          ·simp only [Act.put, siA, scz, scs, zW, zw]
           rfl
          refine take_ (i := 42) (N := some 73) (v := ?_) (a' := ?_) (bm 59 8796093022207) rfl rfl (take_ofW T_.out V_.out (by kernel_rfl)) (fun _ _ _ h => h) (.inl ⟨by first | rfl | (simp only [c12b0, c15b0, c17b0, c19b0, c20b0, c86b0, c_u]; rfl), ?_⟩) hh ?_ ?_
          rotate_left
          ·rintro w' ⟨s0, s1, s2, s3, s4, s5, s6, s7, s8, s9, s10, s11, s12, s13, s14, s15, s16, s17, s18, s19, s20, s21, s22, s23, s24⟩
           go_simp
           with_reducible rfl
          rotate_left
          ·simp only [Act.put, siA, scz, scs, zW, zw]
           rfl
          refine pure_ (i := 43) (N := some 74) (v := ?_) (a' := ?_) (bm 59 17592186044415) rfl rfl (any_of T_.out (by kernel_rfl)) (fun _ _ _ h => h) (.inl ⟨by first | rfl | (simp only [c12b0, c15b0, c17b0, c19b0, c20b0, c86b0, c_u]; rfl), ?_⟩) ?_ ?_
          rotate_left
          ·intro w'
           go_simp
           with_reducible rfl
          rotate_left
          ·simp only [Act.put, siA, scz, scs, zW, zw]
           rfl
          refine pure_ (i := 44) (N := some 75) (v := ?_) (a' := ?_) (bm 59 35184372088831) rfl rfl (any_of T_.out (by kernel_rfl)) (fun _ _ _ h => h) (.inl ⟨by first | rfl | (simp only [c12b0, c15b0, c17b0, c19b0, c20b0, c86b0, c_u]; rfl), ?_⟩) ?_ ?_
          rotate_left
          ·intro w'
           go_simp
           with_reducible rfl
          rotate_left
          ·simp only [Act.put, siA, scz, scs, zW, zw]
           rfl
          refine pure_ (i := 45) (N := some 76) (v := ?_) (a' := ?_) (bm 59 70368744177663) rfl rfl (any_of T_.out (by kernel_rfl)) (fun _ _ _ h => h) (.inl ⟨by first | rfl | (simp only [c12b0, c15b0, c17b0, c19b0, c20b0, c86b0, c_u]; rfl), ?_⟩) ?_ ?_
          rotate_left
          ·intro w'
           go_simp
           with_reducible rfl
          rotate_left
          ·simp only [Act.put, siA, scz, scs, zW, zw]
           rfl
          refine pure_ (i := 46) (N := some 77) (v := ?_) (a' := ?_) (bm 59 140737488355327) rfl rfl (any_of T_.out (by kernel_rfl)) (fun _ _ _ h => h) (.inl ⟨by first | rfl | (simp only [c12b0, c15b0, c17b0, c19b0, c20b0, c86b0, c_u]; rfl), ?_⟩) ?_ ?_
          rotate_left
          ·intro w'
           go_simp
           with_reducible rfl
          rotate_left
          ·simp only [Act.put, siA, scz, scs, zW, zw]
           rfl
          refine take_ (i := 47) (N := some 78) (v := ?_) (a' := ?_) (bm 59 281474976710655) rfl rfl (take_ofW T_.out V_.out (by kernel_rfl)) (fun _ _ _ h => h) (.inl ⟨by first | rfl | (simp only [c12b0, c15b0, c17b0, c19b0, c20b0, c86b0, c_u]; rfl), ?_⟩) hh ?_ ?_
          rotate_left
          ·rintro w' ⟨s0, s1, s2, s3, s4, s5, s6, s7, s8, s9, s10, s11, s12, s13, s14, s15, s16, s17, s18, s19, s20, s21, s22, s23, s24⟩
           go_simp
           with_reducible rfl
          rotate_left
          ·simp only [Act.put, siA, scz, scs, zW, zw]
           rfl
          refine take_ (i := 48) (N := some 79) (v := ?_) (a' := ?_) (bm 59 562949953421311) rfl rfl (take_ofW T_.out V_.out (by kernel_rfl)) (fun _ _ _ h => h) (.inl ⟨by first | rfl | (simp only [c12b0, c15b0, c17b0, c19b0, c20b0, c86b0, c_u]; rfl), ?_⟩) hh ?_ ?_
          rotate_left
          ·rintro w' ⟨s0, s1, s2, s3, s4, s5, s6, s7, s8, s9, s10, s11, s12, s13, s14, s15, s16, s17, s18, s19, s20, s21, s22, s23, s24⟩
           go_simp
           with_reducible rfl
          rotate_left
          ·simp only [Act.put, siA, scz, scs, zW, zw]
           rfl
          refine one_ (i := 49) (N := some 80) (bm 59 1125899906842623) rfl rfl (one_of T_.out (by kernel_rfl)) (by decide) (fun K hK => ?_)
          refine goes_ Try.func16 (by kernel_rfl) rfl #[.agg #[.int .i64 t236, .int .i64 t237, .int .u32 t238, .int .u32 t239, .int .u16 t240], .agg #[.int .i64 3, .int .i64 t213, .int .u32 t214, .int .u32 t215, .int .u16 t216]] (by rfl) rfl rfl (by (try simp only [List.map_toArray, List.map_cons, List.map_nil]); first | done | rfl | (simp only [List.length_drop, List.length_take]; rfl)) ?_
          with_reducible refine (record_Order.calls k t236 t237 t238 t239 t240 3 t213 t214 t215 t216 t271 _ A153.out).mono ?_
          rintro e w216 ⟨rfl, hb⟩
          refine ⟨_, rfl, ?_⟩
          have n3_ := Aside0.mk (bb (g := g_k) (o := .cells #[.int .i64 3, .int .i64 t213, .int .u32 t214, .int .u32 t215, .int .u16 t216] 27 (0, 0)) (by (with_reducible repeat (first | refine bN ?_ _ | refine bw ?_ | refine bA ?_ _)); exact B_b.out) hb)
          have n4_ := Aside0.mk (bb (g := g_n) (o := .cells #[.int .i64 3, .int .i64 t219, .int .u32 t220, .int .u32 t221, .int .u16 t222] 27 (0, 0)) (by (with_reducible repeat (first | refine bN ?_ _ | refine bw ?_ | refine bA ?_ _)); exact B_c.out) hb)
          have n5_ := Aside0.mk (bb (g := g_q) (o := .cells #[.int .i64 3, .int .i64 t225, .int .u32 t226, .int .u32 t227, .int .u16 t228] 27 (0, 0)) (by (with_reducible repeat (first | refine bN ?_ _ | refine bw ?_ | refine bA ?_ _)); exact B_d.out) hb)
          have n6_ := Aside0.mk (bb (g := g_v) (o := .cells #[.int .i64 t230, .int .i64 t231, .int .u32 t232, .int .u32 t233, .int .u16 t234] 27 (0, 0)) (by (with_reducible repeat (first | refine bN ?_ _ | refine bw ?_ | refine bA ?_ _)); exact B_e.out) hb)
          have n7_ := Aside0.mk (bb (g := g_i) (o := .cells #[.int .i64 t236, .int .i64 t237, .int .u32 t238, .int .u32 t239, .int .u16 t240] 27 (0, 0)) (by (with_reducible repeat (first | refine bN ?_ _ | refine bw ?_ | refine bA ?_ _)); exact B_f.out) hb)
          have n8_ := Aside0.mk (below_step (by repeat (first | (with_reducible first | exact HB.out | apply bl | apply pN | apply b1 | refine bs ?_ G_y.out | refine bs ?_ G_0.out | refine bs ?_ G_2.out | refine bs ?_ G_4.out | refine bs ?_ GE223.out | refine bs ?_ GE229.out | refine bs ?_ GE235.out | refine bs ?_ GE241.out) | exact HB.out)) hb)
          clear B_b
          clear B_c
          clear B_d
          clear B_e
          clear B_f
          clear HB
          have B_b := n3_
          have B_c := n4_
          have B_d := n5_
          have B_e := n6_
          have B_f := n7_
          have HB := n8_
          clear n3_ n4_ n5_ n6_ n7_ n8_
          (try clear hb)
          (try clear hb2)
          (try clear hk)
          (try clear hi)
          refine hK.out _ _ ⟨(bc B_e.out 0).trans rfl, (bc B_e.out 1).trans rfl, (bc B_e.out 2).trans rfl, (bc B_e.out 3).trans rfl, (bc B_e.out 4).trans rfl, (bc B_c.out 0).trans rfl, (bc B_c.out 1).trans rfl, (bc B_c.out 2).trans rfl, (bc B_c.out 3).trans rfl, (bc B_c.out 4).trans rfl, (bc B_b.out 0).trans rfl, (bc B_b.out 1).trans rfl, (bc B_b.out 2).trans rfl, (bc B_b.out 3).trans rfl, (bc B_b.out 4).trans rfl, (bc B_f.out 0).trans rfl, (bc B_f.out 1).trans rfl, (bc B_f.out 2).trans rfl, (bc B_f.out 3).trans rfl, (bc B_f.out 4).trans rfl, (bc B_d.out 0).trans rfl, (bc B_d.out 1).trans rfl, (bc B_d.out 2).trans rfl, (bc B_d.out 3).trans rfl, (bc B_d.out 4).trans rfl⟩ (fun hh => ?_)
          clear hK K
          refine norm_ (a' := ?_) ?_ ?_
          rotate_left
          ·show Act.put _ (some 80) _ = _
           simp only [Act.put, siA, scz, scs, zW, zw]
           rfl
          refine pure_ (i := 50) (N := some 81) (v := ?_) (a' := ?_) (bm 59 2251799813685247) rfl rfl (any_of T_.out (by kernel_rfl)) (fun _ _ _ h => h) (.inl ⟨by first | rfl | (simp only [c12b0, c15b0, c17b0, c19b0, c20b0, c86b0, c_u]; rfl), ?_⟩) ?_ ?_
          rotate_left
          ·intro w'
           go_simp
           with_reducible rfl
          rotate_left
          ·simp only [Act.put, siA, scz, scs, zW, zw]
           rfl
          refine pure_ (i := 51) (N := some 82) (v := ?_) (a' := ?_) (bm 59 4503599627370495) rfl rfl (any_of T_.out (by kernel_rfl)) (fun _ _ _ h => h) (.inl ⟨by first | rfl | (simp only [c12b0, c15b0, c17b0, c19b0, c20b0, c86b0, c_u]; rfl), ?_⟩) ?_ ?_
          rotate_left
          ·intro w'
           go_simp
           with_reducible rfl
          rotate_left
          ·simp only [Act.put, siA, scz, scs, zW, zw]
           rfl
          refine pure_ (i := 52) (N := some 83) (v := ?_) (a' := ?_) (bm 59 9007199254740991) rfl rfl (any_of T_.out (by kernel_rfl)) (fun _ _ _ h => h) (.inl ⟨by first | rfl | (simp only [c12b0, c15b0, c17b0, c19b0, c20b0, c86b0, c_u]; rfl), ?_⟩) ?_ ?_
          rotate_left
          ·intro w'
           go_simp
           with_reducible rfl
          rotate_left
          ·simp only [Act.put, siA, scz, scs, zW, zw]
           rfl
          refine take_ (i := 53) (N := some 84) (v := ?_) (a' := ?_) (bm 59 18014398509481983) rfl rfl (take_ofW T_.out V_.out (by kernel_rfl)) (fun _ _ _ h => h) (.inl ⟨by first | rfl | (simp only [c12b0, c15b0, c17b0, c19b0, c20b0, c86b0, c_u]; rfl), ?_⟩) hh ?_ ?_
          rotate_left
          ·rintro w' ⟨s0, s1, s2, s3, s4, s5, s6, s7, s8, s9, s10, s11, s12, s13, s14, s15, s16, s17, s18, s19, s20, s21, s22, s23, s24⟩
           go_simp
           with_reducible rfl
          rotate_left
          ·simp only [Act.put, siA, scz, scs, zW, zw]
           rfl
          refine take_ (i := 54) (N := some 85) (v := ?_) (a' := ?_) (bm 59 36028797018963967) rfl rfl (take_ofW T_.out V_.out (by kernel_rfl)) (fun _ _ _ h => h) (.inl ⟨by first | rfl | (simp only [c12b0, c15b0, c17b0, c19b0, c20b0, c86b0, c_u]; rfl), ?_⟩) hh ?_ ?_
          rotate_left
          ·rintro w' ⟨s0, s1, s2, s3, s4, s5, s6, s7, s8, s9, s10, s11, s12, s13, s14, s15, s16, s17, s18, s19, s20, s21, s22, s23, s24⟩
           go_simp
           with_reducible rfl
          rotate_left
          ·simp only [Act.put, siA, scz, scs, zW, zw]
           rfl
          refine one_ (i := 55) (N := some 86) (bm 59 72057594037927935) rfl rfl (one_of T_.out (by kernel_rfl)) (by decide) (fun K hK => ?_)
          refine goes_ Try.func16 (by kernel_rfl) rfl #[.agg #[.int .i64 t236, .int .i64 t237, .int .u32 t238, .int .u32 t239, .int .u16 t240], .agg #[.int .i64 3, .int .i64 t225, .int .u32 t226, .int .u32 t227, .int .u16 t228]] (by rfl) rfl rfl (by (try simp only [List.map_toArray, List.map_cons, List.map_nil]); first | done | rfl | (simp only [List.length_drop, List.length_take]; rfl)) ?_
          with_reducible refine (record_Order.calls k t236 t237 t238 t239 t240 3 t225 t226 t227 t228 t272 _ A155.out).mono ?_
          rintro e w217 ⟨rfl, hb⟩
          refine ⟨_, rfl, ?_⟩
          have n3_ := Aside0.mk (bb (g := g_k) (o := .cells #[.int .i64 3, .int .i64 t213, .int .u32 t214, .int .u32 t215, .int .u16 t216] 27 (0, 0)) (by (with_reducible repeat (first | refine bN ?_ _ | refine bw ?_ | refine bA ?_ _)); exact B_b.out) hb)
          have n4_ := Aside0.mk (bb (g := g_n) (o := .cells #[.int .i64 3, .int .i64 t219, .int .u32 t220, .int .u32 t221, .int .u16 t222] 27 (0, 0)) (by (with_reducible repeat (first | refine bN ?_ _ | refine bw ?_ | refine bA ?_ _)); exact B_c.out) hb)
          have n5_ := Aside0.mk (bb (g := g_q) (o := .cells #[.int .i64 3, .int .i64 t225, .int .u32 t226, .int .u32 t227, .int .u16 t228] 27 (0, 0)) (by (with_reducible repeat (first | refine bN ?_ _ | refine bw ?_ | refine bA ?_ _)); exact B_d.out) hb)
          have n6_ := Aside0.mk (bb (g := g_v) (o := .cells #[.int .i64 t230, .int .i64 t231, .int .u32 t232, .int .u32 t233, .int .u16 t234] 27 (0, 0)) (by (with_reducible repeat (first | refine bN ?_ _ | refine bw ?_ | refine bA ?_ _)); exact B_e.out) hb)
          have n7_ := Aside0.mk (bb (g := g_i) (o := .cells #[.int .i64 t236, .int .i64 t237, .int .u32 t238, .int .u32 t239, .int .u16 t240] 27 (0, 0)) (by (with_reducible repeat (first | refine bN ?_ _ | refine bw ?_ | refine bA ?_ _)); exact B_f.out) hb)
          have n8_ := Aside0.mk (below_step (by repeat (first | (with_reducible first | exact HB.out | apply bl | apply pN | apply b1 | refine bs ?_ G_y.out | refine bs ?_ G_0.out | refine bs ?_ G_2.out | refine bs ?_ G_4.out | refine bs ?_ GE223.out | refine bs ?_ GE229.out | refine bs ?_ GE235.out | refine bs ?_ GE241.out) | exact HB.out)) hb)
          clear B_b
          clear B_c
          clear B_d
          clear B_e
          clear B_f
          clear HB
          have B_b := n3_
          have B_c := n4_
          have B_d := n5_
          have B_e := n6_
          have B_f := n7_
          have HB := n8_
          clear n3_ n4_ n5_ n6_ n7_ n8_
          (try clear hb)
          (try clear hb2)
          (try clear hk)
          (try clear hi)
          refine hK.out _ _ ⟨(bc B_e.out 0).trans rfl, (bc B_e.out 1).trans rfl, (bc B_e.out 2).trans rfl, (bc B_e.out 3).trans rfl, (bc B_e.out 4).trans rfl, (bc B_c.out 0).trans rfl, (bc B_c.out 1).trans rfl, (bc B_c.out 2).trans rfl, (bc B_c.out 3).trans rfl, (bc B_c.out 4).trans rfl, (bc B_b.out 0).trans rfl, (bc B_b.out 1).trans rfl, (bc B_b.out 2).trans rfl, (bc B_b.out 3).trans rfl, (bc B_b.out 4).trans rfl, (bc B_f.out 0).trans rfl, (bc B_f.out 1).trans rfl, (bc B_f.out 2).trans rfl, (bc B_f.out 3).trans rfl, (bc B_f.out 4).trans rfl, (bc B_d.out 0).trans rfl, (bc B_d.out 1).trans rfl, (bc B_d.out 2).trans rfl, (bc B_d.out 3).trans rfl, (bc B_d.out 4).trans rfl⟩ (fun hh => ?_)
          clear hK K
          refine norm_ (a' := ?_) ?_ ?_
          rotate_left
          ·show Act.put _ (some 86) _ = _
           simp only [Act.put, siA, scz, scs, zW, zw]
           rfl
          refine pure_ (i := 56) (N := some 87) (v := ?_) (a' := ?_) (bm 59 144115188075855871) rfl rfl (any_of T_.out (by kernel_rfl)) (fun _ _ _ h => h) (.inl ⟨by first | rfl | (simp only [c12b0, c15b0, c17b0, c19b0, c20b0, c86b0, c_u]; rfl), ?_⟩) ?_ ?_
          rotate_left
          ·intro w'
           go_simp
           with_reducible rfl
          rotate_left
          ·simp only [Act.put, siA, scz, scs, zW, zw]
           rfl
          refine pure_ (i := 57) (N := some 88) (v := ?_) (a' := ?_) (bm 59 288230376151711743) rfl rfl (any_of T_.out (by kernel_rfl)) (fun _ _ _ h => h) (.inl ⟨by first | rfl | (simp only [c12b0, c15b0, c17b0, c19b0, c20b0, c86b0, c_u]; rfl), ?_⟩) ?_ ?_
          rotate_left
          ·intro w'
           go_simp
           with_reducible rfl
          rotate_left
          ·simp only [Act.put, siA, scz, scs, zW, zw]
           rfl
          refine pure_ (i := 58) (N := some 6) (v := ?_) (a' := ?_) (bm 59 576460752303423487) rfl rfl (any_of T_.out (by kernel_rfl)) (fun _ _ _ h => h) (.inl ⟨by first | rfl | (simp only [c12b0, c15b0, c17b0, c19b0, c20b0, c86b0, c_u]; rfl), ?_⟩) ?_ ?_
          rotate_left
          ·intro w'
           go_simp
           with_reducible rfl
          rotate_left
          ·simp only [Act.put, siA, scz, scs, zW, zw]
           rfl
          refine done_ (done_of T_.out (by kernel_rfl)) ?_
          try go_wp2
          go_ret
          exact ⟨by first | rfl | (simp only [ne_nil, eq_nil]; rfl) | (simp [ne_nil, eq_nil]; done) | (simp [errW_none, errW_some] <;> rfl) | (simp [*, errW_none, errW_some] <;> rfl), by repeat (first | (with_reducible first | exact HB.out | apply bl | apply pN | apply b1 | refine bs ?_ G_y.out | refine bs ?_ G_0.out | refine bs ?_ G_2.out | refine bs ?_ G_4.out | refine bs ?_ GE223.out | refine bs ?_ GE229.out | refine bs ?_ GE235.out | refine bs ?_ GE241.out) | exact HB.out)⟩
         ·(first | rw [if_neg c154] at H | exact absurd rfl c154)
          have c154b0 : decide (0 ≤ t271) = false := decide_eq_false c154
          clear c154
          exact absurd H (by simp)
        ·(first | rw [if_neg c152] at H | exact absurd rfl c152)
         have c_u : (t236 == 3 && (t237 == t225 && (t238 == t226 && ((t239 == t227 && (t240 == t228)))))) = false := by simpa using c152
         (try (have c152b1 : decide (t236 = 3 && (t237 == t225 && (t238 == t226 && ((t239 == t227 && (t240 == t228)))))) = false := by simpa using c152))
         (try (have c152b2 : (t236 == 3 && (t237 == t225 && (t238 == t226 && ((t239 == t227 && (t240 == t228)))))) = false := by simpa using c152))
         (try (have c152b3 : ¬ (t236 = 3 && (t237 == t225 && (t238 == t226 && ((t239 == t227 && (t240 == t228)))))) := by simpa using c152))
         clear c152
         exact absurd H (by simp)
     ·(first | rw [if_neg c19] at H | exact absurd rfl c19)
      have c19b0 : (t262 == 3 && (t263 == t213 && (t264 == t214 && ((t265 == t215 && (t266 == t216)))))) = false := by simpa using c19
      (try (have c19b1 : decide (t262 = 3 && (t263 == t213 && (t264 == t214 && ((t265 == t215 && (t266 == t216)))))) = false := by simpa using c19))
      (try (have c19b2 : (t262 == 3 && (t263 == t213 && (t264 == t214 && ((t265 == t215 && (t266 == t216)))))) = false := by simpa using c19))
      (try (have c19b3 : ¬ (t262 = 3 && (t263 == t213 && (t264 == t214 && ((t265 == t215 && (t266 == t216)))))) := by simpa using c19))
      clear c19
      exact absurd H (by simp)
    ·(first | rw [if_neg c17] at H | exact absurd rfl c17)
     have c17b0 : (t257 == t236 && (t258 == t237 && (t259 == t238 && ((t260 == t239 && (t261 == t240)))))) = false := by simpa using c17
     (try (have c17b1 : decide (t257 = t236 && (t258 == t237 && (t259 == t238 && ((t260 == t239 && (t261 == t240)))))) = false := by simpa using c17))
     (try (have c17b2 : (t257 == t236 && (t258 == t237 && (t259 == t238 && ((t260 == t239 && (t261 == t240)))))) = false := by simpa using c17))
     (try (have c17b3 : ¬ (t257 = t236 && (t258 == t237 && (t259 == t238 && ((t260 == t239 && (t261 == t240)))))) := by simpa using c17))
     clear c17
     exact absurd H (by simp)
   ·(first | rw [if_neg c15] at H | exact absurd rfl c15)
    have c15b0 : (t236 == t252 && (t237 == t253 && (t238 == t254 && ((t239 == t255 && (t240 == t256)))))) = false := by simpa using c15
    (try (have c15b1 : decide (t236 = t252 && (t237 == t253 && (t238 == t254 && ((t239 == t255 && (t240 == t256)))))) = false := by simpa using c15))
    (try (have c15b2 : (t236 == t252 && (t237 == t253 && (t238 == t254 && ((t239 == t255 && (t240 == t256)))))) = false := by simpa using c15))
    (try (have c15b3 : ¬ (t236 = t252 && (t237 == t253 && (t238 == t254 && ((t239 == t255 && (t240 == t256)))))) := by simpa using c15))
    clear c15
    exact absurd H (by simp)
  ·(first | rw [if_neg c12] at H | exact absurd rfl c12)
   have c12b0 : (t230 == t242 && (t231 == t243 && (t232 == t244 && ((t233 == t245 && (t234 == t246)))))) = false := by simpa using c12
   (try (have c12b1 : decide (t230 = t242 && (t231 == t243 && (t232 == t244 && ((t233 == t245 && (t234 == t246)))))) = false := by simpa using c12))
   (try (have c12b2 : (t230 == t242 && (t231 == t243 && (t232 == t244 && ((t233 == t245 && (t234 == t246)))))) = false := by simpa using c12))
   (try (have c12b3 : ¬ (t230 = t242 && (t231 == t243 && (t232 == t244 && ((t233 == t245 && (t234 == t246)))))) := by simpa using c12))
   clear c12
   exact absurd H (by simp)
 ·replace c5 := Bool.eq_false_iff.mpr c5
  (first | subst c5 | clear c5)
  have H1 : (none) = some r := by rw [if_neg (show ¬ (false = true) by decide)] at H; exact H
  clear H
  have H := H1
  clear H1
  exact absurd H (by simp)

/-- THE ONE PURE STATEMENT of law04_RecordJoins: yours. -/
def law04_RecordJoins.Pure : Prop := ∀ (a0_0 : Int) (a0_1 : Int) (a0_2 : Int) (a0_3 : Int) (a0_4 : Int) (a0_5 : Bool) (a1_0 : Int) (a1_1 : Int) (a1_2 : Int) (a1_3 : Int) (a1_4 : Int) (a1_5 : Bool) (a2_0 : Int) (a2_1 : Int) (a2_2 : Int) (a2_3 : Int) (a2_4 : Int) (a2_5 : Bool), (Lit.int .i64 a0_0).wf = true → (Lit.int .i64 a0_1).wf = true → (Lit.int .u32 a0_2).wf = true → (Lit.int .u32 a0_3).wf = true → (Lit.int .u16 a0_4).wf = true → (Lit.int .i64 a1_0).wf = true → (Lit.int .i64 a1_1).wf = true → (Lit.int .u32 a1_2).wf = true → (Lit.int .u32 a1_3).wf = true → (Lit.int .u16 a1_4).wf = true → (Lit.int .i64 a2_0).wf = true → (Lit.int .i64 a2_1).wf = true → (Lit.int .u32 a2_2).wf = true → (Lit.int .u32 a2_3).wf = true → (Lit.int .u16 a2_4).wf = true → ∃ k, law04_RecordJoins.f k a0_0 a0_1 a0_2 a0_3 a0_4 a0_5 a1_0 a1_1 a1_2 a1_3 a1_4 a1_5 a2_0 a2_1 a2_2 a2_3 a2_4 a2_5 = some true
theorem law04_RecordJoins.walk (P : law04_RecordJoins.Pure) (a0_0 : Int) (a0_1 : Int) (a0_2 : Int) (a0_3 : Int) (a0_4 : Int) (a0_5 : Bool) (a1_0 : Int) (a1_1 : Int) (a1_2 : Int) (a1_3 : Int) (a1_4 : Int) (a1_5 : Bool) (a2_0 : Int) (a2_1 : Int) (a2_2 : Int) (a2_3 : Int) (a2_4 : Int) (a2_5 : Bool) (w : World) (w0_0 : (Lit.int .i64 a0_0).wf = true) (w0_1 : (Lit.int .i64 a0_1).wf = true) (w0_2 : (Lit.int .u32 a0_2).wf = true) (w0_3 : (Lit.int .u32 a0_3).wf = true) (w0_4 : (Lit.int .u16 a0_4).wf = true) (w1_0 : (Lit.int .i64 a1_0).wf = true) (w1_1 : (Lit.int .i64 a1_1).wf = true) (w1_2 : (Lit.int .u32 a1_2).wf = true) (w1_3 : (Lit.int .u32 a1_3).wf = true) (w1_4 : (Lit.int .u16 a1_4).wf = true) (w2_0 : (Lit.int .i64 a2_0).wf = true) (w2_1 : (Lit.int .i64 a2_1).wf = true) (w2_2 : (Lit.int .u32 a2_2).wf = true) (w2_3 : (Lit.int .u32 a2_3).wf = true) (w2_4 : (Lit.int .u16 a2_4).wf = true) :
  Calls Try.prog 5 #[.agg #[.int .i64 a0_0, .int .i64 a0_1, .int .u32 a0_2, .int .u32 a0_3, .int .u16 a0_4, .bool a0_5], .agg #[.int .i64 a1_0, .int .i64 a1_1, .int .u32 a1_2, .int .u32 a1_3, .int .u16 a1_4, .bool a1_5], .agg #[.int .i64 a2_0, .int .i64 a2_1, .int .u32 a2_2, .int .u32 a2_3, .int .u16 a2_4, .bool a2_5]] w fun e w' => e = .returned (.bool true) ∧ Below w.heap.size w w' := by
 obtain ⟨k, h⟩ := P a0_0 a0_1 a0_2 a0_3 a0_4 a0_5 a1_0 a1_1 a1_2 a1_3 a1_4 a1_5 a2_0 a2_1 a2_2 a2_3 a2_4 a2_5 w0_0 w0_1 w0_2 w0_3 w0_4 w1_0 w1_1 w1_2 w1_3 w1_4 w2_0 w2_1 w2_2 w2_3 w2_4
 refine (law04_RecordJoins.calls k a0_0 a0_1 a0_2 a0_3 a0_4 a0_5 a1_0 a1_1 a1_2 a1_3 a1_4 a1_5 a2_0 a2_1 a2_2 a2_3 a2_4 a2_5 true w h).mono ?_
 rintro e w' ⟨rfl, hd⟩
 exact ⟨rfl, hd⟩

end Go.Proofs.Ytalibiaplhmfhaa.PA
