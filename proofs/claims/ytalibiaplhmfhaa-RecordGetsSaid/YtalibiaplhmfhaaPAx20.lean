/- Written by xprint.py, a program of this session: Go functions that the laws reach, each as a plain Lean function, and the proof that the Go code comes to what it says. No condition but those that each theorem names. -/
import Derived.Test.YtalibiaplhmfhaaPAx0
import Derived.Test.YtalibiaplhmfhaaPAx3
import Derived.Test.YtalibiaplhmfhaaPAx11
import Derived.Test.YtalibiaplhmfhaaPAx12
import Derived.Test.YtalibiaplhmfhaaPAx13
import Derived.Test.YtalibiaplhmfhaaPAx15
import Derived.Test.YtalibiaplhmfhaaPAx16
import Derived.Test.YtalibiaplhmfhaaPAx19
import Derived.WalkSpells
import Derived.WalkLawsBesides
import Derived.Laws.IdiomStrings
import Derived.Laws.BytesArg
import Derived.Test.YtalibiaplhmfhaaXAux
namespace Go.Proofs.Ytalibiaplhmfhaa.PA
open Go.RowKit Go.Proofs.YtalibiaplhmfhaaW.PrintWords Go.Proofs.YtalibiaplhmfhaaW.PrintLast Go.Proofs.YtalibiaplhmfhaaW.PrintMore
open Go.Proofs.YtalibiaplhmfhaaX (bm)
attribute [local go_sem] max2_int min2_int max_two min_two max_three min_three max_four min_four   -- for this text's walks alone
set_option linter.unusedVariables false
set_option linter.unusedSimpArgs false

attribute [local go_sem high] eqA34
/-! ### law04_RecordGets: function 4 -/
def law04_RecordGets.f (k : Nat) (a0_0 : Int) (a0_1 : Int) (a0_2 : Int) (a0_3 : Int) (a0_4 : Int) (a0_5 : Bool) (a1 : ByteArray) (a2 : Bool) (a3 : Int) (a4 : Int) : Option (Bool) := (law04_examples.f k).bind fun t250 => (if t250 = true then (if a2 = true then ((law04_Thing_thing.f a0_0 a0_1 a0_2 a0_3 a0_4 a0_5).bind fun bt251 => ((law04_refRecord.f bt251.1 bt251.2.1 bt251.2.2.1 bt251.2.2.2.1 bt251.2.2.2.2).bind fun bt256 => ((ref04_Record_Put.f k bt256.1 bt256.2.1 bt256.2.2.1 bt256.2.2.2.1 bt256.2.2.2.2).bind fun bt261 => (if bt261.1.size + a1.size ≤ 9223372036854775807 then ((law04_bend.f (bt261.1 ++ a1) a3 a4).bind fun t263 => ((record_Get.f k t263).bind fun bt264 => ((ref04_Get.f k t263).bind fun bt272 => ((law04_refRecord.f bt264.1 bt264.2.1 bt264.2.2.1 bt264.2.2.2.1 bt264.2.2.2.2.1).bind fun bt280 => (if (bt280.1 == bt272.1 && (bt280.2.1 == bt272.2.1 && (bt280.2.2.1 == bt272.2.2.1 && ((bt280.2.2.2.1 == bt272.2.2.2.1 && (bt280.2.2.2.2 == bt272.2.2.2.2.1)))))) = true then (if bt264.2.2.2.2.2.1.toList = bt272.2.2.2.2.2.1.toList then (some (bt264.2.2.2.2.2.2 == bt272.2.2.2.2.2.2)) else (none)) else (none)))))) else (none))))) else ((record_Get.f k a1).bind fun bt285 => ((ref04_Get.f k a1).bind fun bt293 => ((law04_refRecord.f bt285.1 bt285.2.1 bt285.2.2.1 bt285.2.2.2.1 bt285.2.2.2.2.1).bind fun bt301 => (if (bt301.1 == bt293.1 && (bt301.2.1 == bt293.2.1 && (bt301.2.2.1 == bt293.2.2.1 && ((bt301.2.2.2.1 == bt293.2.2.2.1 && (bt301.2.2.2.2 == bt293.2.2.2.2.1)))))) = true then (if bt285.2.2.2.2.2.1.toList = bt293.2.2.2.2.2.1.toList then (some (bt285.2.2.2.2.2.2 == bt293.2.2.2.2.2.2)) else (none)) else (none)))))) else (none))
theorem law04_RecordGets.mono : ∀ a0 a1 a2 a3 a4 a5 a6 a7 a8 a9 k, LeO (law04_RecordGets.f k a0 a1 a2 a3 a4 a5 a6 a7 a8 a9) (law04_RecordGets.f (k + 1) a0 a1 a2 a3 a4 a5 a6 a7 a8 a9) := by
 intro a0 a1 a2 a3 a4 a5 a6 a7 a8 a9 k
 unfold law04_RecordGets.f
 repeat' first
   | (with_reducible exact record_Get.mono _ _)
   | (with_reducible exact law04_examples.mono _)
   | (with_reducible exact ref04_Get.mono _ _)
   | (with_reducible exact ref04_Record_Put.mono _ _ _ _ _ _)
   | (with_reducible exact LeO.refl _)
   | (with_reducible exact LeO.none _)
   | (with_reducible refine LeO.ite ?_ ?_)
   | (with_reducible refine LeO.bind ?_ (fun _ => ?_))
   | exact record_Get.mono _ _
   | exact law04_examples.mono _
   | exact ref04_Get.mono _ _
   | exact ref04_Record_Put.mono _ _ _ _ _ _
   | exact LeO.none _
   | refine LeO.ite ?_ ?_
   | refine LeO.bind ?_ (fun _ => ?_)
def law04_RecordGets.T9 : Bool × List (List Nat × List Nat) := (true, [([], []), ([0], [0]), ([1], [1]), ([2, 1, 1], [1, 2]), ([1], [1]), ([3, 4, 1], [1, 3, 4]), ([1, 5], [1, 5]), ([6, 3], [6]), ([7], [7]), ([7], [7]), ([8, 9, 7], [7, 8, 9]), ([7, 10], [7, 10]), ([11, 7], [11]), ([12], [12]), ([12], [12]), ([13, 14, 12], [12, 13, 14]), ([12, 15], [12, 15]), ([16, 12, 0, 1, 2, 3, 4, 5, 6, 7, 8, 9, 10, 11, 12, 13, 14, 15, 16], [16])])
def law04_RecordGets.B9 : List Nat := [0, 1, 3, 7, 3, 31, 63, 127, 255, 255, 1023, 2047, 4095, 8191, 8191, 32767, 65535, 131071]
theorem law04_RecordGets.tab9 : rtab .any (opsOf Try.f4 9) = law04_RecordGets.T9 := by kernel_rfl
theorem law04_RecordGets.bits9 : waitsOk law04_RecordGets.T9.2 law04_RecordGets.B9 = true := by kernel_rfl
set_option maxHeartbeats 8000000 in
set_option maxRecDepth 100000 in
theorem law04_RecordGets.calls (k : Nat) (a0_0 : Int) (a0_1 : Int) (a0_2 : Int) (a0_3 : Int) (a0_4 : Int) (a0_5 : Bool) (a1 : ByteArray) (a2 : Bool) (a3 : Int) (a4 : Int) (r : Bool) (w : World) (h : law04_RecordGets.f k a0_0 a0_1 a0_2 a0_3 a0_4 a0_5 a1 a2 a3 a4 = some r) :
  Calls Try.prog 4 #[.agg #[.int .i64 a0_0, .int .i64 a0_1, .int .u32 a0_2, .int .u32 a0_3, .int .u16 a0_4, .bool a0_5], .string a1, .bool a2, .int .i64 a3, .int .u8 a4] w fun e w' => e = .returned (.bool r) ∧ Below w.heap.size w w' := by
 have hu29 := Try.underlying29
 have hu27 := Try.underlying27
 have hu34 := Try.underlying34
 have HB := Aside0.mk (Below.refl w.heap.size w)
 have H : ((law04_examples.f k).bind fun t250 => (if t250 = true then (if a2 = true then ((law04_Thing_thing.f a0_0 a0_1 a0_2 a0_3 a0_4 a0_5).bind fun bt251 => ((law04_refRecord.f bt251.1 bt251.2.1 bt251.2.2.1 bt251.2.2.2.1 bt251.2.2.2.2).bind fun bt256 => ((ref04_Record_Put.f k bt256.1 bt256.2.1 bt256.2.2.1 bt256.2.2.2.1 bt256.2.2.2.2).bind fun bt261 => (if bt261.1.size + a1.size ≤ 9223372036854775807 then ((law04_bend.f (bt261.1 ++ a1) a3 a4).bind fun t263 => ((record_Get.f k t263).bind fun bt264 => ((ref04_Get.f k t263).bind fun bt272 => ((law04_refRecord.f bt264.1 bt264.2.1 bt264.2.2.1 bt264.2.2.2.1 bt264.2.2.2.2.1).bind fun bt280 => (if (bt280.1 == bt272.1 && (bt280.2.1 == bt272.2.1 && (bt280.2.2.1 == bt272.2.2.1 && ((bt280.2.2.2.1 == bt272.2.2.2.1 && (bt280.2.2.2.2 == bt272.2.2.2.2.1)))))) = true then (if bt264.2.2.2.2.2.1.toList = bt272.2.2.2.2.2.1.toList then (some (bt264.2.2.2.2.2.2 == bt272.2.2.2.2.2.2)) else (none)) else (none)))))) else (none))))) else ((record_Get.f k a1).bind fun bt285 => ((ref04_Get.f k a1).bind fun bt293 => ((law04_refRecord.f bt285.1 bt285.2.1 bt285.2.2.1 bt285.2.2.2.1 bt285.2.2.2.2.1).bind fun bt301 => (if (bt301.1 == bt293.1 && (bt301.2.1 == bt293.2.1 && (bt301.2.2.1 == bt293.2.2.1 && ((bt301.2.2.2.1 == bt293.2.2.2.1 && (bt301.2.2.2.2 == bt293.2.2.2.2.1)))))) = true then (if bt285.2.2.2.2.2.1.toList = bt293.2.2.2.2.2.1.toList then (some (bt285.2.2.2.2.2.2 == bt293.2.2.2.2.2.2)) else (none)) else (none)))))) else (none))) = some r := h
 clear h
 replace H := Option.bind_eq_some_iff.mp H
 obtain ⟨t250, A60, H⟩ := H
 replace H : (if t250 = true then (if a2 = true then ((law04_Thing_thing.f a0_0 a0_1 a0_2 a0_3 a0_4 a0_5).bind fun bt251 => ((law04_refRecord.f bt251.1 bt251.2.1 bt251.2.2.1 bt251.2.2.2.1 bt251.2.2.2.2).bind fun bt256 => ((ref04_Record_Put.f k bt256.1 bt256.2.1 bt256.2.2.1 bt256.2.2.2.1 bt256.2.2.2.2).bind fun bt261 => (if bt261.1.size + a1.size ≤ 9223372036854775807 then ((law04_bend.f (bt261.1 ++ a1) a3 a4).bind fun t263 => ((record_Get.f k t263).bind fun bt264 => ((ref04_Get.f k t263).bind fun bt272 => ((law04_refRecord.f bt264.1 bt264.2.1 bt264.2.2.1 bt264.2.2.2.1 bt264.2.2.2.2.1).bind fun bt280 => (if (bt280.1 == bt272.1 && (bt280.2.1 == bt272.2.1 && (bt280.2.2.1 == bt272.2.2.1 && ((bt280.2.2.2.1 == bt272.2.2.2.1 && (bt280.2.2.2.2 == bt272.2.2.2.2.1)))))) = true then (if bt264.2.2.2.2.2.1.toList = bt272.2.2.2.2.2.1.toList then (some (bt264.2.2.2.2.2.2 == bt272.2.2.2.2.2.2)) else (none)) else (none)))))) else (none))))) else ((record_Get.f k a1).bind fun bt285 => ((ref04_Get.f k a1).bind fun bt293 => ((law04_refRecord.f bt285.1 bt285.2.1 bt285.2.2.1 bt285.2.2.2.1 bt285.2.2.2.2.1).bind fun bt301 => (if (bt301.1 == bt293.1 && (bt301.2.1 == bt293.2.1 && (bt301.2.2.1 == bt293.2.2.1 && ((bt301.2.2.2.1 == bt293.2.2.2.1 && (bt301.2.2.2.2 == bt293.2.2.2.2.1)))))) = true then (if bt285.2.2.2.2.2.1.toList = bt293.2.2.2.2.2.1.toList then (some (bt285.2.2.2.2.2.2 == bt293.2.2.2.2.2.2)) else (none)) else (none)))))) else (none)) = some r := H
 have A6 := Aside0.mk A60
 clear A60
 by_cases c7 : t250 = true
 ·(first | subst c7 | clear c7)
  have H1 : (if a2 = true then ((law04_Thing_thing.f a0_0 a0_1 a0_2 a0_3 a0_4 a0_5).bind fun bt251 => ((law04_refRecord.f bt251.1 bt251.2.1 bt251.2.2.1 bt251.2.2.2.1 bt251.2.2.2.2).bind fun bt256 => ((ref04_Record_Put.f k bt256.1 bt256.2.1 bt256.2.2.1 bt256.2.2.2.1 bt256.2.2.2.2).bind fun bt261 => (if bt261.1.size + a1.size ≤ 9223372036854775807 then ((law04_bend.f (bt261.1 ++ a1) a3 a4).bind fun t263 => ((record_Get.f k t263).bind fun bt264 => ((ref04_Get.f k t263).bind fun bt272 => ((law04_refRecord.f bt264.1 bt264.2.1 bt264.2.2.1 bt264.2.2.2.1 bt264.2.2.2.2.1).bind fun bt280 => (if (bt280.1 == bt272.1 && (bt280.2.1 == bt272.2.1 && (bt280.2.2.1 == bt272.2.2.1 && ((bt280.2.2.2.1 == bt272.2.2.2.1 && (bt280.2.2.2.2 == bt272.2.2.2.2.1)))))) = true then (if bt264.2.2.2.2.2.1.toList = bt272.2.2.2.2.2.1.toList then (some (bt264.2.2.2.2.2.2 == bt272.2.2.2.2.2.2)) else (none)) else (none)))))) else (none))))) else ((record_Get.f k a1).bind fun bt285 => ((ref04_Get.f k a1).bind fun bt293 => ((law04_refRecord.f bt285.1 bt285.2.1 bt285.2.2.1 bt285.2.2.2.1 bt285.2.2.2.2.1).bind fun bt301 => (if (bt301.1 == bt293.1 && (bt301.2.1 == bt293.2.1 && (bt301.2.2.1 == bt293.2.2.1 && ((bt301.2.2.2.1 == bt293.2.2.2.1 && (bt301.2.2.2.2 == bt293.2.2.2.2.1)))))) = true then (if bt285.2.2.2.2.2.1.toList = bt293.2.2.2.2.2.1.toList then (some (bt285.2.2.2.2.2.2 == bt293.2.2.2.2.2.2)) else (none)) else (none)))))) = some r := by first | (rw [if_pos rfl] at H; exact H) | (rw [if_pos trivial] at H; exact H)
  clear H
  have H := H1
  clear H1
  by_cases c8 : a2 = true
  ·(first | subst c8 | clear c8)
   have H1 : ((law04_Thing_thing.f a0_0 a0_1 a0_2 a0_3 a0_4 a0_5).bind fun bt251 => ((law04_refRecord.f bt251.1 bt251.2.1 bt251.2.2.1 bt251.2.2.2.1 bt251.2.2.2.2).bind fun bt256 => ((ref04_Record_Put.f k bt256.1 bt256.2.1 bt256.2.2.1 bt256.2.2.2.1 bt256.2.2.2.2).bind fun bt261 => (if bt261.1.size + a1.size ≤ 9223372036854775807 then ((law04_bend.f (bt261.1 ++ a1) a3 a4).bind fun t263 => ((record_Get.f k t263).bind fun bt264 => ((ref04_Get.f k t263).bind fun bt272 => ((law04_refRecord.f bt264.1 bt264.2.1 bt264.2.2.1 bt264.2.2.2.1 bt264.2.2.2.2.1).bind fun bt280 => (if (bt280.1 == bt272.1 && (bt280.2.1 == bt272.2.1 && (bt280.2.2.1 == bt272.2.2.1 && ((bt280.2.2.2.1 == bt272.2.2.2.1 && (bt280.2.2.2.2 == bt272.2.2.2.2.1)))))) = true then (if bt264.2.2.2.2.2.1.toList = bt272.2.2.2.2.2.1.toList then (some (bt264.2.2.2.2.2.2 == bt272.2.2.2.2.2.2)) else (none)) else (none)))))) else (none))))) = some r := by first | (rw [if_pos rfl] at H; exact H) | (rw [if_pos trivial] at H; exact H)
   clear H
   have H := H1
   clear H1
   replace H := Option.bind_eq_some_iff.mp H
   obtain ⟨⟨t251, t252, t253, t254, t255⟩, A90, H⟩ := H
   replace H : ((law04_refRecord.f t251 t252 t253 t254 t255).bind fun bt256 => ((ref04_Record_Put.f k bt256.1 bt256.2.1 bt256.2.2.1 bt256.2.2.2.1 bt256.2.2.2.2).bind fun bt261 => (if bt261.1.size + a1.size ≤ 9223372036854775807 then ((law04_bend.f (bt261.1 ++ a1) a3 a4).bind fun t263 => ((record_Get.f k t263).bind fun bt264 => ((ref04_Get.f k t263).bind fun bt272 => ((law04_refRecord.f bt264.1 bt264.2.1 bt264.2.2.1 bt264.2.2.2.1 bt264.2.2.2.2.1).bind fun bt280 => (if (bt280.1 == bt272.1 && (bt280.2.1 == bt272.2.1 && (bt280.2.2.1 == bt272.2.2.1 && ((bt280.2.2.2.1 == bt272.2.2.2.1 && (bt280.2.2.2.2 == bt272.2.2.2.2.1)))))) = true then (if bt264.2.2.2.2.2.1.toList = bt272.2.2.2.2.2.1.toList then (some (bt264.2.2.2.2.2.2 == bt272.2.2.2.2.2.2)) else (none)) else (none)))))) else (none)))) = some r := H
   have A9 := Aside0.mk A90
   clear A90
   replace H := Option.bind_eq_some_iff.mp H
   obtain ⟨⟨t256, t257, t258, t259, t260⟩, A100, H⟩ := H
   replace H : ((ref04_Record_Put.f k t256 t257 t258 t259 t260).bind fun bt261 => (if bt261.1.size + a1.size ≤ 9223372036854775807 then ((law04_bend.f (bt261.1 ++ a1) a3 a4).bind fun t263 => ((record_Get.f k t263).bind fun bt264 => ((ref04_Get.f k t263).bind fun bt272 => ((law04_refRecord.f bt264.1 bt264.2.1 bt264.2.2.1 bt264.2.2.2.1 bt264.2.2.2.2.1).bind fun bt280 => (if (bt280.1 == bt272.1 && (bt280.2.1 == bt272.2.1 && (bt280.2.2.1 == bt272.2.2.1 && ((bt280.2.2.2.1 == bt272.2.2.2.1 && (bt280.2.2.2.2 == bt272.2.2.2.2.1)))))) = true then (if bt264.2.2.2.2.2.1.toList = bt272.2.2.2.2.2.1.toList then (some (bt264.2.2.2.2.2.2 == bt272.2.2.2.2.2.2)) else (none)) else (none)))))) else (none))) = some r := H
   have A10 := Aside0.mk A100
   clear A100
   replace H := Option.bind_eq_some_iff.mp H
   obtain ⟨⟨t261, t262⟩, A110, H⟩ := H
   replace H : (if t261.size + a1.size ≤ 9223372036854775807 then ((law04_bend.f (t261 ++ a1) a3 a4).bind fun t263 => ((record_Get.f k t263).bind fun bt264 => ((ref04_Get.f k t263).bind fun bt272 => ((law04_refRecord.f bt264.1 bt264.2.1 bt264.2.2.1 bt264.2.2.2.1 bt264.2.2.2.2.1).bind fun bt280 => (if (bt280.1 == bt272.1 && (bt280.2.1 == bt272.2.1 && (bt280.2.2.1 == bt272.2.2.1 && ((bt280.2.2.2.1 == bt272.2.2.2.1 && (bt280.2.2.2.2 == bt272.2.2.2.2.1)))))) = true then (if bt264.2.2.2.2.2.1.toList = bt272.2.2.2.2.2.1.toList then (some (bt264.2.2.2.2.2.2 == bt272.2.2.2.2.2.2)) else (none)) else (none)))))) else (none)) = some r := H
   have A11 := Aside0.mk A110
   clear A110
   by_cases c12 : t261.size + a1.size ≤ 9223372036854775807
   ·rw [if_pos c12] at H
    obtain ⟨yc12, hyc12⟩ : ∃ y_ : ByteArray, t261 ++ a1 = y_ := ⟨_, rfl⟩
    (try rw [hyc12] at H)
    have c12b0 := eq_true c12
    have c12b1 : decide (t261.size + a1.size ≤ 9223372036854775807) = true := decide_eq_true c12
    try have c12b2 : (9223372036854775807 < t261.size + a1.size) = False := eq_false (Nat.not_lt.2 c12)
    replace H := Option.bind_eq_some_iff.mp H
    obtain ⟨t263, A130, H⟩ := H
    replace H : ((record_Get.f k t263).bind fun bt264 => ((ref04_Get.f k t263).bind fun bt272 => ((law04_refRecord.f bt264.1 bt264.2.1 bt264.2.2.1 bt264.2.2.2.1 bt264.2.2.2.2.1).bind fun bt280 => (if (bt280.1 == bt272.1 && (bt280.2.1 == bt272.2.1 && (bt280.2.2.1 == bt272.2.2.1 && ((bt280.2.2.2.1 == bt272.2.2.2.1 && (bt280.2.2.2.2 == bt272.2.2.2.2.1)))))) = true then (if bt264.2.2.2.2.2.1.toList = bt272.2.2.2.2.2.1.toList then (some (bt264.2.2.2.2.2.2 == bt272.2.2.2.2.2.2)) else (none)) else (none))))) = some r := H
    have A13 := Aside0.mk A130
    clear A130
    replace H := Option.bind_eq_some_iff.mp H
    obtain ⟨⟨t264, t265, t266, t267, t268, t269, t270⟩, A140, H⟩ := H
    replace H : ((ref04_Get.f k t263).bind fun bt272 => ((law04_refRecord.f t264 t265 t266 t267 t268).bind fun bt280 => (if (bt280.1 == bt272.1 && (bt280.2.1 == bt272.2.1 && (bt280.2.2.1 == bt272.2.2.1 && ((bt280.2.2.2.1 == bt272.2.2.2.1 && (bt280.2.2.2.2 == bt272.2.2.2.2.1)))))) = true then (if t269.toList = bt272.2.2.2.2.2.1.toList then (some (t270 == bt272.2.2.2.2.2.2)) else (none)) else (none)))) = some r := H
    have A14 := Aside0.mk A140
    clear A140
    replace H := Option.bind_eq_some_iff.mp H
    obtain ⟨⟨t272, t273, t274, t275, t276, t277, t278⟩, A150, H⟩ := H
    replace H : ((law04_refRecord.f t264 t265 t266 t267 t268).bind fun bt280 => (if (bt280.1 == t272 && (bt280.2.1 == t273 && (bt280.2.2.1 == t274 && ((bt280.2.2.2.1 == t275 && (bt280.2.2.2.2 == t276)))))) = true then (if t269.toList = t277.toList then (some (t270 == t278)) else (none)) else (none))) = some r := H
    have A15 := Aside0.mk A150
    clear A150
    replace H := Option.bind_eq_some_iff.mp H
    obtain ⟨⟨t280, t281, t282, t283, t284⟩, A160, H⟩ := H
    replace H : (if (t280 == t272 && (t281 == t273 && (t282 == t274 && ((t283 == t275 && (t284 == t276)))))) = true then (if t269.toList = t277.toList then (some (t270 == t278)) else (none)) else (none)) = some r := H
    have A16 := Aside0.mk A160
    clear A160
    by_cases c17 : (t280 == t272 && (t281 == t273 && (t282 == t274 && ((t283 == t275 && (t284 == t276)))))) = true
    ·rw [if_pos c17] at H
     have c17b0 : (t280 == t272 && (t281 == t273 && (t282 == t274 && ((t283 == t275 && (t284 == t276)))))) = true := c17
     (try (have c17b1 : decide (t280 = t272 && (t281 == t273 && (t282 == t274 && ((t283 == t275 && (t284 == t276)))))) = true := by simpa using c17))
     (try (have c17b2 : (t280 == t272 && (t281 == t273 && (t282 == t274 && ((t283 == t275 && (t284 == t276)))))) = true := by simpa using c17))
     clear c17
     by_cases c18 : t269.toList = t277.toList
     ·rw [if_pos c18] at H
      have c18b0 : (t269.toList == t277.toList) = true := beq_iff_eq.mpr c18
      have c18b1 : (t269.toList != t277.toList) = false := bne_eq_false_iff_eq.mpr c18
      clear c18
      obtain rfl := Option.some.inj H
      go_enter Try.func4, Try.ntmps4
      try go_wp2_with (first | ((with_reducible refine gate_dst (N := 5) rfl ?_); refine box_event ?hg (N := 5) ?hd (cs := #[.int .i64 a0_0, .int .i64 a0_1, .int .u32 a0_2, .int .u32 a0_3, .int .u16 a0_4, .bool a0_5]) (t := 29) ?hr ?_; (case hd => rfl); (case hg => rfl); (case hr => first | (go_simp; done) | (go_simp; rfl)); intro gb249 hg w19 hbox hb; have n0_ := Aside0.mk (below_step (by repeat (first | (with_reducible first | exact HB.out | apply below_alloc | apply pw_below_drewN | apply below_drew1) | exact HB.out)) hb); have n1_ := Aside0.mk (hbox); have n2_ := Aside0.mk ((by rw [hg]; exact (below_size (by repeat (first | (with_reducible first | exact HB.out | apply below_alloc | apply pw_below_drewN | apply below_drew1) | exact HB.out))) : w.heap.size ≤ gb249)); have n3_ := Aside0.mk ((by rw [hg]; exact (below_size (by repeat (first | (with_reducible first | exact HB.out | apply below_alloc | apply pw_below_drewN | apply below_drew1) | exact HB.out))) : w.heap.size ≤ gb249)); clear HB; have HB := n0_; have BK249 := n1_; have GW249 := n2_; have GE249 := n3_; clear n0_ n1_ n2_ n3_; clear hb hbox hg) | ((with_reducible refine gate_callee (f := 9) rfl ?_); refine goesL_ (some 20) rfl rfl Try.func9 (by kernel_rfl) rfl #[] rfl (by (try simp only [List.map_toArray, List.map_cons, List.map_nil]); first | done | rfl | (simp only [List.length_drop, List.length_take]; rfl)) ?_; (with_reducible refine (law04_examples.calls k  true _ A6.out).mono ?_); rintro e w20 ⟨rfl, hb⟩; refine ⟨_, rfl, ?_⟩; have n0_ := Aside0.mk (blk_below (g := gb249) (o := .cells #[.int .i64 a0_0, .int .i64 a0_1, .int .u32 a0_2, .int .u32 a0_3, .int .u16 a0_4, .bool a0_5] 29 (0, 0)) (by (with_reducible repeat (first | refine blk_drewN ?_ _ | refine blk_drew ?_ | refine blk_alloc ?_ _)); exact BK249.out) hb); have n1_ := Aside0.mk (below_step (by repeat (first | (with_reducible first | exact HB.out | apply below_alloc | apply pw_below_drewN | apply below_drew1 | refine below_set ?_ GE249.out) | exact HB.out)) hb); clear BK249; clear HB; have BK249 := n0_; have HB := n1_; clear n0_ n1_; (try clear hb); (try clear hb2); (try clear hk); (try clear hi); have hcz21_0 : w20.cell? ⟨gb249, 0, none⟩ = some (.int .i64 a0_0) := (blk_cell BK249.out 0).trans rfl; have hcz21_1 : w20.cell? ⟨gb249, 1, none⟩ = some (.int .i64 a0_1) := (blk_cell BK249.out 1).trans rfl; have hcz21_2 : w20.cell? ⟨gb249, 2, none⟩ = some (.int .u32 a0_2) := (blk_cell BK249.out 2).trans rfl; have hcz21_3 : w20.cell? ⟨gb249, 3, none⟩ = some (.int .u32 a0_3) := (blk_cell BK249.out 3).trans rfl; have hcz21_4 : w20.cell? ⟨gb249, 4, none⟩ = some (.int .u16 a0_4) := (blk_cell BK249.out 4).trans rfl; have hcz21_5 : w20.cell? ⟨gb249, 5, none⟩ = some (.bool a0_5) := (blk_cell BK249.out 5).trans rfl; have hfz21_0 := blk_frozen BK249.out 0; have hfz21_1 := blk_frozen BK249.out 1; have hfz21_2 := blk_frozen BK249.out 2; have hfz21_3 := blk_frozen BK249.out 3; have hfz21_4 := blk_frozen BK249.out 4; have hfz21_5 := blk_frozen BK249.out 5) | ((with_reducible refine gate_callee (f := 10) rfl ?_); refine goesL_ (some 26) rfl rfl Try.func10 (by kernel_rfl) rfl #[.agg #[.int .i64 a0_0, .int .i64 a0_1, .int .u32 a0_2, .int .u32 a0_3, .int .u16 a0_4, .bool a0_5]] rfl (by (try simp only [List.map_toArray, List.map_cons, List.map_nil]); first | done | rfl | (simp only [List.length_drop, List.length_take]; rfl)) ?_; (with_reducible refine (law04_Thing_thing.calls a0_0 a0_1 a0_2 a0_3 a0_4 a0_5 t251 t252 t253 t254 t255 _ A9.out).mono ?_); rintro e w22 ⟨rfl, hb⟩; refine ⟨_, rfl, ?_⟩; have n0_ := Aside0.mk (blk_below (g := gb249) (o := .cells #[.int .i64 a0_0, .int .i64 a0_1, .int .u32 a0_2, .int .u32 a0_3, .int .u16 a0_4, .bool a0_5] 29 (0, 0)) (by (with_reducible repeat (first | refine blk_drewN ?_ _ | refine blk_drew ?_ | refine blk_alloc ?_ _)); exact BK249.out) hb); have n1_ := Aside0.mk (below_step (by repeat (first | (with_reducible first | exact HB.out | apply below_alloc | apply pw_below_drewN | apply below_drew1 | refine below_set ?_ GE249.out) | exact HB.out)) hb); clear BK249; clear HB; have BK249 := n0_; have HB := n1_; clear n0_ n1_; (try clear hb); (try clear hb2); (try clear hk); (try clear hi)) | ((with_reducible refine gate_callee (f := 11) rfl ?_); refine goesL_ (some 27) rfl rfl Try.func11 (by kernel_rfl) rfl #[.agg #[.int .i64 t251, .int .i64 t252, .int .u32 t253, .int .u32 t254, .int .u16 t255]] rfl (by (try simp only [List.map_toArray, List.map_cons, List.map_nil]); first | done | rfl | (simp only [List.length_drop, List.length_take]; rfl)) ?_; (with_reducible refine (law04_refRecord.calls t251 t252 t253 t254 t255 t256 t257 t258 t259 t260 _ A10.out).mono ?_); rintro e w23 ⟨rfl, hb⟩; refine ⟨_, rfl, ?_⟩; have n0_ := Aside0.mk (blk_below (g := gb249) (o := .cells #[.int .i64 a0_0, .int .i64 a0_1, .int .u32 a0_2, .int .u32 a0_3, .int .u16 a0_4, .bool a0_5] 29 (0, 0)) (by (with_reducible repeat (first | refine blk_drewN ?_ _ | refine blk_drew ?_ | refine blk_alloc ?_ _)); exact BK249.out) hb); have n1_ := Aside0.mk (below_step (by repeat (first | (with_reducible first | exact HB.out | apply below_alloc | apply pw_below_drewN | apply below_drew1 | refine below_set ?_ GE249.out) | exact HB.out)) hb); clear BK249; clear HB; have BK249 := n0_; have HB := n1_; clear n0_ n1_; (try clear hb); (try clear hb2); (try clear hk); (try clear hi)) | ((with_reducible refine gate_callee (f := 13) rfl ?_); refine goesL_ (some 28) rfl rfl Try.func13 (by kernel_rfl) rfl #[.agg #[.int .i64 t256, .int .i64 t257, .int .u32 t258, .int .u32 t259, .int .u16 t260]] rfl (by (try simp only [List.map_toArray, List.map_cons, List.map_nil]); first | done | rfl | (simp only [List.length_drop, List.length_take]; rfl)) ?_; (with_reducible refine (ref04_Record_Put.calls k t256 t257 t258 t259 t260 t261 t262 _ A11.out).mono ?_); rintro e w24 ⟨rfl, hb⟩; refine ⟨_, rfl, ?_⟩; have n0_ := Aside0.mk (blk_below (g := gb249) (o := .cells #[.int .i64 a0_0, .int .i64 a0_1, .int .u32 a0_2, .int .u32 a0_3, .int .u16 a0_4, .bool a0_5] 29 (0, 0)) (by (with_reducible repeat (first | refine blk_drewN ?_ _ | refine blk_drew ?_ | refine blk_alloc ?_ _)); exact BK249.out) hb); have n1_ := Aside0.mk (below_step (by repeat (first | (with_reducible first | exact HB.out | apply below_alloc | apply pw_below_drewN | apply below_drew1 | refine below_set ?_ GE249.out) | exact HB.out)) hb); clear BK249; clear HB; have BK249 := n0_; have HB := n1_; clear n0_ n1_; (try clear hb); (try clear hb2); (try clear hk); (try clear hi)) | ((with_reducible refine gate_callee (f := 26) rfl ?_); refine goesL_ (some 36) rfl rfl Try.func26 (by kernel_rfl) rfl #[.string yc12, .int .i64 a3, .int .u8 a4] rfl (by (try simp only [List.map_toArray, List.map_cons, List.map_nil]); first | done | rfl | (simp only [List.length_drop, List.length_take]; rfl)) ?_; (with_reducible refine (law04_bend.calls yc12 a3 a4 t263 _ A13.out).mono ?_); rintro e w25 ⟨rfl, hb⟩; refine ⟨_, rfl, ?_⟩; have n0_ := Aside0.mk (blk_below (g := gb249) (o := .cells #[.int .i64 a0_0, .int .i64 a0_1, .int .u32 a0_2, .int .u32 a0_3, .int .u16 a0_4, .bool a0_5] 29 (0, 0)) (by (with_reducible repeat (first | refine blk_drewN ?_ _ | refine blk_drew ?_ | refine blk_alloc ?_ _)); exact BK249.out) hb); have n1_ := Aside0.mk (below_step (by repeat (first | (with_reducible first | exact HB.out | apply below_alloc | apply pw_below_drewN | apply below_drew1 | refine below_set ?_ GE249.out) | exact HB.out)) hb); clear BK249; clear HB; have BK249 := n0_; have HB := n1_; clear n0_ n1_; (try clear hb); (try clear hb2); (try clear hk); (try clear hi)) | ((with_reducible refine gate_callee (f := 27) rfl ?_); refine goesL_ (some 39) rfl rfl Try.func27 (by kernel_rfl) rfl #[.string t263] rfl (by (try simp only [List.map_toArray, List.map_cons, List.map_nil]); first | done | rfl | (simp only [List.length_drop, List.length_take]; rfl)) ?_; (with_reducible refine (record_Get.calls k t263 t264 t265 t266 t267 t268 t269 t270 _ A14.out).mono ?_); rintro e w26 ⟨rfl, hb⟩; refine ⟨_, rfl, ?_⟩; have n0_ := Aside0.mk (blk_below (g := gb249) (o := .cells #[.int .i64 a0_0, .int .i64 a0_1, .int .u32 a0_2, .int .u32 a0_3, .int .u16 a0_4, .bool a0_5] 29 (0, 0)) (by (with_reducible repeat (first | refine blk_drewN ?_ _ | refine blk_drew ?_ | refine blk_alloc ?_ _)); exact BK249.out) hb); have n1_ := Aside0.mk (below_step (by repeat (first | (with_reducible first | exact HB.out | apply below_alloc | apply pw_below_drewN | apply below_drew1 | refine below_set ?_ GE249.out) | exact HB.out)) hb); clear BK249; clear HB; have BK249 := n0_; have HB := n1_; clear n0_ n1_; (try clear hb); (try clear hb2); (try clear hk); (try clear hi)) | ((with_reducible refine gate_dst (N := 14) rfl ?_); refine box_event ?hg (N := 14) ?hd (cs := #[.int .i64 0, .int .i64 0, .int .u32 0, .int .u32 0, .int .u16 0]) (t := 27) ?hr ?_; (case hd => rfl); (case hg => rfl); (case hr => first | (go_simp; done) | (go_simp; rfl)); intro gb271 hg w27 hbox hb; have n0_ := Aside0.mk (blk_below (g := gb249) (o := .cells #[.int .i64 a0_0, .int .i64 a0_1, .int .u32 a0_2, .int .u32 a0_3, .int .u16 a0_4, .bool a0_5] 29 (0, 0)) (by (with_reducible repeat (first | refine blk_drewN ?_ _ | refine blk_drew ?_ | refine blk_alloc ?_ _)); exact BK249.out) hb); have n1_ := Aside0.mk (below_step (by repeat (first | (with_reducible first | exact HB.out | apply below_alloc | apply pw_below_drewN | apply below_drew1 | refine below_set ?_ GE249.out) | exact HB.out)) hb); have n2_ := Aside0.mk (hbox); have n3_ := Aside0.mk ((by rw [hg]; exact (below_size (by repeat (first | (with_reducible first | exact HB.out | apply below_alloc | apply pw_below_drewN | apply below_drew1 | refine below_set ?_ GE249.out) | exact HB.out))) : w.heap.size ≤ gb271)); have n4_ := Aside0.mk ((by rw [hg]; exact (below_size (by repeat (first | (with_reducible first | exact HB.out | apply below_alloc | apply pw_below_drewN | apply below_drew1 | refine below_set ?_ GE249.out) | exact HB.out))) : w.heap.size ≤ gb271)); have n5_ := Aside0.mk ((by rw [hg]; exact Nat.ne_of_lt (blk_lt (g := gb249) (o := .cells #[.int .i64 a0_0, .int .i64 a0_1, .int .u32 a0_2, .int .u32 a0_3, .int .u16 a0_4, .bool a0_5] 29 (0, 0)) (by (with_reducible repeat (first | refine blk_drewN ?_ _ | refine blk_drew ?_ | refine blk_alloc ?_ _)); exact BK249.out)) : gb249 ≠ gb271)); have n6_ := Aside0.mk ((by rw [hg]; exact Nat.ne_of_gt (blk_lt (g := gb249) (o := .cells #[.int .i64 a0_0, .int .i64 a0_1, .int .u32 a0_2, .int .u32 a0_3, .int .u16 a0_4, .bool a0_5] 29 (0, 0)) (by (with_reducible repeat (first | refine blk_drewN ?_ _ | refine blk_drew ?_ | refine blk_alloc ?_ _)); exact BK249.out)) : gb271 ≠ gb249)); clear BK249; clear HB; have BK249 := n0_; have HB := n1_; have BK271 := n2_; have GW271 := n3_; have GE271 := n4_; have NB249_271 := n5_; have NB271_249 := n6_; clear n0_ n1_ n2_ n3_ n4_ n5_ n6_; clear hb hbox hg; have hnb28 := NB271_249.out; have hnc28 := NB249_271.out; have hcz29_0 : w27.cell? ⟨gb271, 0, none⟩ = some (.int .i64 0) := (blk_cell BK271.out 0).trans rfl; have hcz29_1 : w27.cell? ⟨gb271, 1, none⟩ = some (.int .i64 0) := (blk_cell BK271.out 1).trans rfl; have hcz29_2 : w27.cell? ⟨gb271, 2, none⟩ = some (.int .u32 0) := (blk_cell BK271.out 2).trans rfl; have hcz29_3 : w27.cell? ⟨gb271, 3, none⟩ = some (.int .u32 0) := (blk_cell BK271.out 3).trans rfl; have hcz29_4 : w27.cell? ⟨gb271, 4, none⟩ = some (.int .u16 0) := (blk_cell BK271.out 4).trans rfl; have hfz29_0 := blk_frozen BK271.out 0; have hfz29_1 := blk_frozen BK271.out 1; have hfz29_2 := blk_frozen BK271.out 2; have hfz29_3 := blk_frozen BK271.out 3; have hfz29_4 := blk_frozen BK271.out 4) | ((with_reducible refine gate_callee (f := 28) rfl ?_); refine goesL_ (some 45) rfl rfl Try.func28 (by kernel_rfl) rfl #[.string t263] rfl (by (try simp only [List.map_toArray, List.map_cons, List.map_nil]); first | done | rfl | (simp only [List.length_drop, List.length_take]; rfl)) ?_; (with_reducible refine (ref04_Get.calls k t263 t272 t273 t274 t275 t276 t277 t278 _ A15.out).mono ?_); rintro e w30 ⟨rfl, hb⟩; refine ⟨_, rfl, ?_⟩; have n0_ := Aside0.mk (blk_below (g := gb249) (o := .cells #[.int .i64 a0_0, .int .i64 a0_1, .int .u32 a0_2, .int .u32 a0_3, .int .u16 a0_4, .bool a0_5] 29 (0, 0)) (by (with_reducible repeat (first | refine blk_drewN ?_ _ | refine blk_drew ?_ | refine blk_alloc ?_ _)); refine blk_far ?_ NB249_271.out _; (with_reducible repeat (first | refine blk_drewN ?_ _ | refine blk_drew ?_ | refine blk_alloc ?_ _)); refine blk_far ?_ NB249_271.out _; (with_reducible repeat (first | refine blk_drewN ?_ _ | refine blk_drew ?_ | refine blk_alloc ?_ _)); refine blk_far ?_ NB249_271.out _; (with_reducible repeat (first | refine blk_drewN ?_ _ | refine blk_drew ?_ | refine blk_alloc ?_ _)); refine blk_far ?_ NB249_271.out _; (with_reducible repeat (first | refine blk_drewN ?_ _ | refine blk_drew ?_ | refine blk_alloc ?_ _)); refine blk_far ?_ NB249_271.out _; (with_reducible repeat (first | refine blk_drewN ?_ _ | refine blk_drew ?_ | refine blk_alloc ?_ _)); exact BK249.out) hb); have n1_ := Aside0.mk (blk_below (g := gb271) (o := .cells #[.int .i64 t264, .int .i64 t265, .int .u32 t266, .int .u32 t267, .int .u16 t268] 27 (0, 0)) (by (with_reducible repeat (first | refine blk_drewN ?_ _ | refine blk_drew ?_ | refine blk_alloc ?_ _)); refine blk_put (cs := #[.int .i64 t264, .int .i64 t265, .int .u32 t266, .int .u32 t267, .int .u16 0]) ?_ 4 _ rfl; (with_reducible repeat (first | refine blk_drewN ?_ _ | refine blk_drew ?_ | refine blk_alloc ?_ _)); refine blk_put (cs := #[.int .i64 t264, .int .i64 t265, .int .u32 t266, .int .u32 0, .int .u16 0]) ?_ 3 _ rfl; (with_reducible repeat (first | refine blk_drewN ?_ _ | refine blk_drew ?_ | refine blk_alloc ?_ _)); refine blk_put (cs := #[.int .i64 t264, .int .i64 t265, .int .u32 0, .int .u32 0, .int .u16 0]) ?_ 2 _ rfl; (with_reducible repeat (first | refine blk_drewN ?_ _ | refine blk_drew ?_ | refine blk_alloc ?_ _)); refine blk_put (cs := #[.int .i64 t264, .int .i64 0, .int .u32 0, .int .u32 0, .int .u16 0]) ?_ 1 _ rfl; (with_reducible repeat (first | refine blk_drewN ?_ _ | refine blk_drew ?_ | refine blk_alloc ?_ _)); refine blk_put (cs := #[.int .i64 0, .int .i64 0, .int .u32 0, .int .u32 0, .int .u16 0]) ?_ 0 _ rfl; (with_reducible repeat (first | refine blk_drewN ?_ _ | refine blk_drew ?_ | refine blk_alloc ?_ _)); exact BK271.out) hb); have n2_ := Aside0.mk (below_step (by repeat (first | (with_reducible first | exact HB.out | apply below_alloc | apply pw_below_drewN | apply below_drew1 | refine below_set ?_ GE249.out | refine below_set ?_ GE271.out) | exact HB.out)) hb); clear BK249; clear BK271; clear HB; have BK249 := n0_; have BK271 := n1_; have HB := n2_; clear n0_ n1_ n2_; (try clear hb); (try clear hb2); (try clear hk); (try clear hi)) | ((with_reducible refine gate_dst (N := 17) rfl ?_); refine box_event ?hg (N := 17) ?hd (cs := #[.int .i64 0, .int .i64 0, .int .u32 0, .int .u32 0, .int .u16 0]) (t := 34) ?hr ?_; (case hd => rfl); (case hg => rfl); (case hr => first | (go_simp; done) | (go_simp; rfl)); intro gb279 hg w31 hbox hb; have n0_ := Aside0.mk (blk_below (g := gb249) (o := .cells #[.int .i64 a0_0, .int .i64 a0_1, .int .u32 a0_2, .int .u32 a0_3, .int .u16 a0_4, .bool a0_5] 29 (0, 0)) (by (with_reducible repeat (first | refine blk_drewN ?_ _ | refine blk_drew ?_ | refine blk_alloc ?_ _)); exact BK249.out) hb); have n1_ := Aside0.mk (blk_below (g := gb271) (o := .cells #[.int .i64 t264, .int .i64 t265, .int .u32 t266, .int .u32 t267, .int .u16 t268] 27 (0, 0)) (by (with_reducible repeat (first | refine blk_drewN ?_ _ | refine blk_drew ?_ | refine blk_alloc ?_ _)); exact BK271.out) hb); have n2_ := Aside0.mk (below_step (by repeat (first | (with_reducible first | exact HB.out | apply below_alloc | apply pw_below_drewN | apply below_drew1 | refine below_set ?_ GE249.out | refine below_set ?_ GE271.out) | exact HB.out)) hb); have n3_ := Aside0.mk (hbox); have n4_ := Aside0.mk ((by rw [hg]; exact (below_size (by repeat (first | (with_reducible first | exact HB.out | apply below_alloc | apply pw_below_drewN | apply below_drew1 | refine below_set ?_ GE249.out | refine below_set ?_ GE271.out) | exact HB.out))) : w.heap.size ≤ gb279)); have n5_ := Aside0.mk ((by rw [hg]; exact (below_size (by repeat (first | (with_reducible first | exact HB.out | apply below_alloc | apply pw_below_drewN | apply below_drew1 | refine below_set ?_ GE249.out | refine below_set ?_ GE271.out) | exact HB.out))) : w.heap.size ≤ gb279)); have n6_ := Aside0.mk ((by rw [hg]; exact Nat.ne_of_lt (blk_lt (g := gb249) (o := .cells #[.int .i64 a0_0, .int .i64 a0_1, .int .u32 a0_2, .int .u32 a0_3, .int .u16 a0_4, .bool a0_5] 29 (0, 0)) (by (with_reducible repeat (first | refine blk_drewN ?_ _ | refine blk_drew ?_ | refine blk_alloc ?_ _)); exact BK249.out)) : gb249 ≠ gb279)); have n7_ := Aside0.mk ((by rw [hg]; exact Nat.ne_of_gt (blk_lt (g := gb249) (o := .cells #[.int .i64 a0_0, .int .i64 a0_1, .int .u32 a0_2, .int .u32 a0_3, .int .u16 a0_4, .bool a0_5] 29 (0, 0)) (by (with_reducible repeat (first | refine blk_drewN ?_ _ | refine blk_drew ?_ | refine blk_alloc ?_ _)); exact BK249.out)) : gb279 ≠ gb249)); have n8_ := Aside0.mk ((by rw [hg]; exact Nat.ne_of_lt (blk_lt (g := gb271) (o := .cells #[.int .i64 t264, .int .i64 t265, .int .u32 t266, .int .u32 t267, .int .u16 t268] 27 (0, 0)) (by (with_reducible repeat (first | refine blk_drewN ?_ _ | refine blk_drew ?_ | refine blk_alloc ?_ _)); exact BK271.out)) : gb271 ≠ gb279)); have n9_ := Aside0.mk ((by rw [hg]; exact Nat.ne_of_gt (blk_lt (g := gb271) (o := .cells #[.int .i64 t264, .int .i64 t265, .int .u32 t266, .int .u32 t267, .int .u16 t268] 27 (0, 0)) (by (with_reducible repeat (first | refine blk_drewN ?_ _ | refine blk_drew ?_ | refine blk_alloc ?_ _)); exact BK271.out)) : gb279 ≠ gb271)); clear BK249; clear BK271; clear HB; have BK249 := n0_; have BK271 := n1_; have HB := n2_; have BK279 := n3_; have GW279 := n4_; have GE279 := n5_; have NB249_279 := n6_; have NB279_249 := n7_; have NB271_279 := n8_; have NB279_271 := n9_; clear n0_ n1_ n2_ n3_ n4_ n5_ n6_ n7_ n8_ n9_; clear hb hbox hg; have hnb32 := NB279_249.out; have hnc32 := NB249_279.out; have hnb33 := NB279_271.out; have hnc33 := NB271_279.out; have hcz34_0 : w31.cell? ⟨gb279, 0, none⟩ = some (.int .i64 0) := (blk_cell BK279.out 0).trans rfl; have hcz34_1 : w31.cell? ⟨gb279, 1, none⟩ = some (.int .i64 0) := (blk_cell BK279.out 1).trans rfl; have hcz34_2 : w31.cell? ⟨gb279, 2, none⟩ = some (.int .u32 0) := (blk_cell BK279.out 2).trans rfl; have hcz34_3 : w31.cell? ⟨gb279, 3, none⟩ = some (.int .u32 0) := (blk_cell BK279.out 3).trans rfl; have hcz34_4 : w31.cell? ⟨gb279, 4, none⟩ = some (.int .u16 0) := (blk_cell BK279.out 4).trans rfl; have hfz34_0 := blk_frozen BK279.out 0; have hfz34_1 := blk_frozen BK279.out 1; have hfz34_2 := blk_frozen BK279.out 2; have hfz34_3 := blk_frozen BK279.out 3; have hfz34_4 := blk_frozen BK279.out 4))
      have n0_ : Aside0 ((((((w31.setCell ⟨gb279, 0, none⟩ (.int .i64 t272)).setCell ⟨gb279, 1, none⟩ (.int .i64 t273)).setCell ⟨gb279, 2, none⟩ (.int .u32 t274)).setCell ⟨gb279, 3, none⟩ (.int .u32 t275)).setCell ⟨gb279, 4, none⟩ (.int .u16 t276)).heap[gb249]? = some (.cells #[.int .i64 a0_0, .int .i64 a0_1, .int .u32 a0_2, .int .u32 a0_3, .int .u16 a0_4, .bool a0_5] 29 (0, 0))) := ⟨by (with_reducible repeat (first | refine blk_drewN ?_ _ | refine blk_drew ?_ | refine blk_alloc ?_ _)); refine blk_far ?_ NB249_279.out _; (with_reducible repeat (first | refine blk_drewN ?_ _ | refine blk_drew ?_ | refine blk_alloc ?_ _)); refine blk_far ?_ NB249_279.out _; (with_reducible repeat (first | refine blk_drewN ?_ _ | refine blk_drew ?_ | refine blk_alloc ?_ _)); refine blk_far ?_ NB249_279.out _; (with_reducible repeat (first | refine blk_drewN ?_ _ | refine blk_drew ?_ | refine blk_alloc ?_ _)); refine blk_far ?_ NB249_279.out _; (with_reducible repeat (first | refine blk_drewN ?_ _ | refine blk_drew ?_ | refine blk_alloc ?_ _)); refine blk_far ?_ NB249_279.out _; (with_reducible repeat (first | refine blk_drewN ?_ _ | refine blk_drew ?_ | refine blk_alloc ?_ _)); exact BK249.out⟩
      have n1_ : Aside0 ((((((w31.setCell ⟨gb279, 0, none⟩ (.int .i64 t272)).setCell ⟨gb279, 1, none⟩ (.int .i64 t273)).setCell ⟨gb279, 2, none⟩ (.int .u32 t274)).setCell ⟨gb279, 3, none⟩ (.int .u32 t275)).setCell ⟨gb279, 4, none⟩ (.int .u16 t276)).heap[gb271]? = some (.cells #[.int .i64 t264, .int .i64 t265, .int .u32 t266, .int .u32 t267, .int .u16 t268] 27 (0, 0))) := ⟨by (with_reducible repeat (first | refine blk_drewN ?_ _ | refine blk_drew ?_ | refine blk_alloc ?_ _)); refine blk_far ?_ NB271_279.out _; (with_reducible repeat (first | refine blk_drewN ?_ _ | refine blk_drew ?_ | refine blk_alloc ?_ _)); refine blk_far ?_ NB271_279.out _; (with_reducible repeat (first | refine blk_drewN ?_ _ | refine blk_drew ?_ | refine blk_alloc ?_ _)); refine blk_far ?_ NB271_279.out _; (with_reducible repeat (first | refine blk_drewN ?_ _ | refine blk_drew ?_ | refine blk_alloc ?_ _)); refine blk_far ?_ NB271_279.out _; (with_reducible repeat (first | refine blk_drewN ?_ _ | refine blk_drew ?_ | refine blk_alloc ?_ _)); refine blk_far ?_ NB271_279.out _; (with_reducible repeat (first | refine blk_drewN ?_ _ | refine blk_drew ?_ | refine blk_alloc ?_ _)); exact BK271.out⟩
      have n2_ : Aside0 ((((((w31.setCell ⟨gb279, 0, none⟩ (.int .i64 t272)).setCell ⟨gb279, 1, none⟩ (.int .i64 t273)).setCell ⟨gb279, 2, none⟩ (.int .u32 t274)).setCell ⟨gb279, 3, none⟩ (.int .u32 t275)).setCell ⟨gb279, 4, none⟩ (.int .u16 t276)).heap[gb279]? = some (.cells #[.int .i64 t272, .int .i64 t273, .int .u32 t274, .int .u32 t275, .int .u16 t276] 34 (0, 0))) := ⟨by (with_reducible repeat (first | refine blk_drewN ?_ _ | refine blk_drew ?_ | refine blk_alloc ?_ _)); refine blk_put (cs := #[.int .i64 t272, .int .i64 t273, .int .u32 t274, .int .u32 t275, .int .u16 0]) ?_ 4 _ rfl; (with_reducible repeat (first | refine blk_drewN ?_ _ | refine blk_drew ?_ | refine blk_alloc ?_ _)); refine blk_put (cs := #[.int .i64 t272, .int .i64 t273, .int .u32 t274, .int .u32 0, .int .u16 0]) ?_ 3 _ rfl; (with_reducible repeat (first | refine blk_drewN ?_ _ | refine blk_drew ?_ | refine blk_alloc ?_ _)); refine blk_put (cs := #[.int .i64 t272, .int .i64 t273, .int .u32 0, .int .u32 0, .int .u16 0]) ?_ 2 _ rfl; (with_reducible repeat (first | refine blk_drewN ?_ _ | refine blk_drew ?_ | refine blk_alloc ?_ _)); refine blk_put (cs := #[.int .i64 t272, .int .i64 0, .int .u32 0, .int .u32 0, .int .u16 0]) ?_ 1 _ rfl; (with_reducible repeat (first | refine blk_drewN ?_ _ | refine blk_drew ?_ | refine blk_alloc ?_ _)); refine blk_put (cs := #[.int .i64 0, .int .i64 0, .int .u32 0, .int .u32 0, .int .u16 0]) ?_ 0 _ rfl; (with_reducible repeat (first | refine blk_drewN ?_ _ | refine blk_drew ?_ | refine blk_alloc ?_ _)); exact BK279.out⟩
      have n3_ : Aside0 (Below w.heap.size w (((((w31.setCell ⟨gb279, 0, none⟩ (.int .i64 t272)).setCell ⟨gb279, 1, none⟩ (.int .i64 t273)).setCell ⟨gb279, 2, none⟩ (.int .u32 t274)).setCell ⟨gb279, 3, none⟩ (.int .u32 t275)).setCell ⟨gb279, 4, none⟩ (.int .u16 t276))) := ⟨by repeat (first | (with_reducible first | exact HB.out | apply below_alloc | apply pw_below_drewN | apply below_drew1 | refine below_set ?_ GE249.out | refine below_set ?_ GE271.out | refine below_set ?_ GE279.out) | exact HB.out)⟩
      (try clear BK249)
      (try clear BK271)
      (try clear BK279)
      (try clear HB)
      generalize (((((w31.setCell ⟨gb279, 0, none⟩ (.int .i64 t272)).setCell ⟨gb279, 1, none⟩ (.int .i64 t273)).setCell ⟨gb279, 2, none⟩ (.int .u32 t274)).setCell ⟨gb279, 3, none⟩ (.int .u32 t275)).setCell ⟨gb279, 4, none⟩ (.int .u16 t276)) = w35 at n0_ n1_ n2_ n3_ ⊢
      have BK249 := n0_
      have BK271 := n1_
      have BK279 := n2_
      have HB := n3_
      clear n0_ n1_ n2_ n3_
      have n0_ := Aside0.mk (blk_drew BK249.out)
      have n1_ := Aside0.mk (blk_drew BK271.out)
      have n2_ := Aside0.mk (blk_drew BK279.out)
      have n3_ := Aside0.mk (below_drew1 HB.out)
      clear BK249
      clear BK271
      clear BK279
      clear HB
      have BK249 := n0_
      have BK271 := n1_
      have BK279 := n2_
      have HB := n3_
      clear n0_ n1_ n2_ n3_
      refine start_ (n := 18) (S := fun w' => w'.cell? ⟨gb271, 0, none⟩ = some (.int .i64 t264) ∧ w'.cell? ⟨gb271, 1, none⟩ = some (.int .i64 t265) ∧ w'.cell? ⟨gb271, 2, none⟩ = some (.int .u32 t266) ∧ w'.cell? ⟨gb271, 3, none⟩ = some (.int .u32 t267) ∧ w'.cell? ⟨gb271, 4, none⟩ = some (.int .u16 t268) ∧ w'.cell? ⟨gb279, 0, none⟩ = some (.int .i64 t272) ∧ w'.cell? ⟨gb279, 1, none⟩ = some (.int .i64 t273) ∧ w'.cell? ⟨gb279, 2, none⟩ = some (.int .u32 t274) ∧ w'.cell? ⟨gb279, 3, none⟩ = some (.int .u32 t275) ∧ w'.cell? ⟨gb279, 4, none⟩ = some (.int .u16 t276)) (ds := []) (bm 18 0) (by kernel_rfl) rfl rfl ⟨(blk_cell BK271.out 0).trans rfl, (blk_cell BK271.out 1).trans rfl, (blk_cell BK271.out 2).trans rfl, (blk_cell BK271.out 3).trans rfl, (blk_cell BK271.out 4).trans rfl, (blk_cell BK279.out 0).trans rfl, (blk_cell BK279.out 1).trans rfl, (blk_cell BK279.out 2).trans rfl, (blk_cell BK279.out 3).trans rfl, (blk_cell BK279.out 4).trans rfl⟩ (fun hHeld => ?_); refine with_tabW law04_RecordGets.tab9 law04_RecordGets.bits9 (fun HT_ HW_ => ?_)
      generalize w35.drew = w36 at BK249 BK271 BK279 HB hHeld ⊢
      refine pure_ (i := 0) (N := some 49) (v := ?_) (a' := ?_) (bm 18 1) rfl rfl (any_of HT_.out (by kernel_rfl)) (fun _ _ _ h => h) (Or.inl ⟨by first | rfl | (simp only [c17b0, c18b0]; rfl), ?_⟩) ?_ ?_
      rotate_left
      ·intro w'
       go_simp
       with_reducible rfl
      rotate_left
      ·simp only [Act.put, List.setIfInBounds_toArray, List.set_cons_zero, List.set_cons_succ, i64_w, i32_w]
       rfl
      refine pure_ (i := 1) (N := some 50) (v := ?_) (a' := ?_) (bm 18 3) rfl rfl (any_of HT_.out (by kernel_rfl)) (fun _ _ _ h => h) (Or.inl ⟨by first | rfl | (simp only [c17b0, c18b0]; rfl), ?_⟩) ?_ ?_
      rotate_left
      ·intro w'
       go_simp
       with_reducible rfl
      rotate_left
      ·simp only [Act.put, List.setIfInBounds_toArray, List.set_cons_zero, List.set_cons_succ, i64_w, i32_w]
       rfl
      refine take_ (i := 2) (N := some 51) (v := ?_) (a' := ?_) (bm 18 7) rfl rfl (take_ofW HT_.out HW_.out (by kernel_rfl)) (fun _ _ _ h => h) (Or.inl ⟨by first | rfl | (simp only [c17b0, c18b0]; rfl), ?_⟩) hHeld ?_ ?_
      rotate_left
      ·rintro w' ⟨s0, s1, s2, s3, s4, s5, s6, s7, s8, s9⟩
       go_simp
       with_reducible rfl
      rotate_left
      ·simp only [Act.put, List.setIfInBounds_toArray, List.set_cons_zero, List.set_cons_succ, i64_w, i32_w]
       rfl
      refine take_ (i := 4) (N := some 53) (v := ?_) (a' := ?_) (bm 18 23) rfl rfl (take_ofW HT_.out HW_.out (by kernel_rfl)) (fun _ _ _ h => h) (Or.inl ⟨by first | rfl | (simp only [c17b0, c18b0]; rfl), ?_⟩) hHeld ?_ ?_
      rotate_left
      ·rintro w' ⟨s0, s1, s2, s3, s4, s5, s6, s7, s8, s9⟩
       go_simp
       with_reducible rfl
      rotate_left
      ·simp only [Act.put, List.setIfInBounds_toArray, List.set_cons_zero, List.set_cons_succ, i64_w, i32_w]
       rfl
      refine one_ (i := 3) (N := some 52) (bm 18 31) rfl rfl (one_of HT_.out (by kernel_rfl)) (by decide) (fun K hK => ?_)
      refine goes_ Try.func11 (by kernel_rfl) rfl #[.agg #[.int .i64 t264, .int .i64 t265, .int .u32 t266, .int .u32 t267, .int .u16 t268]] (by rfl) rfl rfl (by (try simp only [List.map_toArray, List.map_cons, List.map_nil]); first | done | rfl | (simp only [List.length_drop, List.length_take]; rfl)) ?_
      with_reducible refine (law04_refRecord.calls t264 t265 t266 t267 t268 t280 t281 t282 t283 t284 _ A16.out).mono ?_
      rintro e w37 ⟨rfl, hb⟩
      refine ⟨_, rfl, ?_⟩
      have n0_ := Aside0.mk (blk_below (g := gb249) (o := .cells #[.int .i64 a0_0, .int .i64 a0_1, .int .u32 a0_2, .int .u32 a0_3, .int .u16 a0_4, .bool a0_5] 29 (0, 0)) (by (with_reducible repeat (first | refine blk_drewN ?_ _ | refine blk_drew ?_ | refine blk_alloc ?_ _)); exact BK249.out) hb)
      have n1_ := Aside0.mk (blk_below (g := gb271) (o := .cells #[.int .i64 t264, .int .i64 t265, .int .u32 t266, .int .u32 t267, .int .u16 t268] 27 (0, 0)) (by (with_reducible repeat (first | refine blk_drewN ?_ _ | refine blk_drew ?_ | refine blk_alloc ?_ _)); exact BK271.out) hb)
      have n2_ := Aside0.mk (blk_below (g := gb279) (o := .cells #[.int .i64 t272, .int .i64 t273, .int .u32 t274, .int .u32 t275, .int .u16 t276] 34 (0, 0)) (by (with_reducible repeat (first | refine blk_drewN ?_ _ | refine blk_drew ?_ | refine blk_alloc ?_ _)); exact BK279.out) hb)
      have n3_ := Aside0.mk (below_step (by repeat (first | (with_reducible first | exact HB.out | apply below_alloc | apply pw_below_drewN | apply below_drew1 | refine below_set ?_ GE249.out | refine below_set ?_ GE271.out | refine below_set ?_ GE279.out) | exact HB.out)) hb)
      clear BK249
      clear BK271
      clear BK279
      clear HB
      have BK249 := n0_
      have BK271 := n1_
      have BK279 := n2_
      have HB := n3_
      clear n0_ n1_ n2_ n3_
      (try clear hb)
      (try clear hb2)
      (try clear hk)
      (try clear hi)
      refine hK.out _ _ ⟨(blk_cell BK271.out 0).trans rfl, (blk_cell BK271.out 1).trans rfl, (blk_cell BK271.out 2).trans rfl, (blk_cell BK271.out 3).trans rfl, (blk_cell BK271.out 4).trans rfl, (blk_cell BK279.out 0).trans rfl, (blk_cell BK279.out 1).trans rfl, (blk_cell BK279.out 2).trans rfl, (blk_cell BK279.out 3).trans rfl, (blk_cell BK279.out 4).trans rfl⟩ (fun hHeld => ?_)
      clear hK K
      refine norm_ (a' := ?_) ?_ ?_
      rotate_left
      ·show Act.put _ (some 52) _ = _
       simp only [Act.put, List.setIfInBounds_toArray, List.set_cons_zero, List.set_cons_succ, i64_w, i32_w]
       rfl
      refine pure_ (i := 5) (N := some 54) (v := ?_) (a' := ?_) (bm 18 63) rfl rfl (any_of HT_.out (by kernel_rfl)) (fun _ _ _ h => h) (Or.inl ⟨by first | rfl | (simp only [c17b0, c18b0]; rfl), ?_⟩) ?_ ?_
      rotate_left
      ·intro w'
       go_simp
       with_reducible rfl
      rotate_left
      ·simp only [Act.put, List.setIfInBounds_toArray, List.set_cons_zero, List.set_cons_succ, i64_w, i32_w]
       rfl
      refine pure_ (i := 6) (N := some 55) (v := ?_) (a' := ?_) (bm 18 127) rfl rfl (any_of HT_.out (by kernel_rfl)) (fun _ _ _ h => h) (Or.inl ⟨by first | rfl | (simp only [c17b0, c18b0]; rfl), ?_⟩) ?_ ?_
      rotate_left
      ·intro w'
       go_simp
       with_reducible rfl
      rotate_left
      ·simp only [Act.put, List.setIfInBounds_toArray, List.set_cons_zero, List.set_cons_succ, i64_w, i32_w]
       rfl
      refine pure_ (i := 7) (N := some 56) (v := ?_) (a' := ?_) (bm 18 255) rfl rfl (any_of HT_.out (by kernel_rfl)) (fun _ _ _ h => h) (Or.inl ⟨by first | rfl | (simp only [c17b0, c18b0]; rfl), ?_⟩) ?_ ?_
      rotate_left
      ·intro w'
       go_simp
       with_reducible rfl
      rotate_left
      ·simp only [Act.put, List.setIfInBounds_toArray, List.set_cons_zero, List.set_cons_succ, i64_w, i32_w]
       rfl
      refine pure_ (i := 8) (N := some 57) (v := ?_) (a' := ?_) (bm 18 511) rfl rfl (any_of HT_.out (by kernel_rfl)) (fun _ _ _ h => h) (Or.inl ⟨by first | rfl | (simp only [c17b0, c18b0]; rfl), ?_⟩) ?_ ?_
      rotate_left
      ·intro w'
       go_simp
       with_reducible rfl
      rotate_left
      ·simp only [Act.put, List.setIfInBounds_toArray, List.set_cons_zero, List.set_cons_succ, i64_w, i32_w]
       rfl
      refine pure_ (i := 9) (N := some 58) (v := ?_) (a' := ?_) (bm 18 1023) rfl rfl (any_of HT_.out (by kernel_rfl)) (fun _ _ _ h => h) (Or.inl ⟨by first | rfl | (simp only [c17b0, c18b0]; rfl), ?_⟩) ?_ ?_
      rotate_left
      ·intro w'
       go_simp
       with_reducible rfl
      rotate_left
      ·simp only [Act.put, List.setIfInBounds_toArray, List.set_cons_zero, List.set_cons_succ, i64_w, i32_w]
       rfl
      refine pure_ (i := 10) (N := some 59) (v := ?_) (a' := ?_) (bm 18 2047) rfl rfl (any_of HT_.out (by kernel_rfl)) (fun _ _ _ h => h) (Or.inl ⟨by first | rfl | (simp only [c17b0, c18b0]; rfl), ?_⟩) ?_ ?_
      rotate_left
      ·intro w'
       go_simp
       with_reducible rfl
      rotate_left
      ·simp only [Act.put, List.setIfInBounds_toArray, List.set_cons_zero, List.set_cons_succ, i64_w, i32_w]
       rfl
      refine pure_ (i := 11) (N := some 60) (v := ?_) (a' := ?_) (bm 18 4095) rfl rfl (any_of HT_.out (by kernel_rfl)) (fun _ _ _ h => h) (Or.inl ⟨by first | rfl | (simp only [c17b0, c18b0]; rfl), ?_⟩) ?_ ?_
      rotate_left
      ·intro w'
       go_simp
       with_reducible rfl
      rotate_left
      ·simp only [Act.put, List.setIfInBounds_toArray, List.set_cons_zero, List.set_cons_succ, i64_w, i32_w]
       rfl
      refine pure_ (i := 12) (N := some 61) (v := ?_) (a' := ?_) (bm 18 8191) rfl rfl (any_of HT_.out (by kernel_rfl)) (fun _ _ _ h => h) (Or.inl ⟨by first | rfl | (simp only [c17b0, c18b0]; rfl), ?_⟩) ?_ ?_
      rotate_left
      ·intro w'
       go_simp
       with_reducible rfl
      rotate_left
      ·simp only [Act.put, List.setIfInBounds_toArray, List.set_cons_zero, List.set_cons_succ, i64_w, i32_w]
       rfl
      refine pure_ (i := 13) (N := some 62) (v := ?_) (a' := ?_) (bm 18 16383) rfl rfl (any_of HT_.out (by kernel_rfl)) (fun _ _ _ h => h) (Or.inl ⟨by first | rfl | (simp only [c17b0, c18b0]; rfl), ?_⟩) ?_ ?_
      rotate_left
      ·intro w'
       go_simp
       with_reducible rfl
      rotate_left
      ·simp only [Act.put, List.setIfInBounds_toArray, List.set_cons_zero, List.set_cons_succ, i64_w, i32_w]
       rfl
      refine pure_ (i := 14) (N := some 63) (v := ?_) (a' := ?_) (bm 18 32767) rfl rfl (any_of HT_.out (by kernel_rfl)) (fun _ _ _ h => h) (Or.inl ⟨by first | rfl | (simp only [c17b0, c18b0]; rfl), ?_⟩) ?_ ?_
      rotate_left
      ·intro w'
       go_simp
       with_reducible rfl
      rotate_left
      ·simp only [Act.put, List.setIfInBounds_toArray, List.set_cons_zero, List.set_cons_succ, i64_w, i32_w]
       rfl
      refine pure_ (i := 15) (N := some 64) (v := ?_) (a' := ?_) (bm 18 65535) rfl rfl (any_of HT_.out (by kernel_rfl)) (fun _ _ _ h => h) (Or.inl ⟨by first | rfl | (simp only [c17b0, c18b0]; rfl), ?_⟩) ?_ ?_
      rotate_left
      ·intro w'
       go_simp
       with_reducible rfl
      rotate_left
      ·simp only [Act.put, List.setIfInBounds_toArray, List.set_cons_zero, List.set_cons_succ, i64_w, i32_w]
       rfl
      refine pure_ (i := 16) (N := some 65) (v := ?_) (a' := ?_) (bm 18 131071) rfl rfl (any_of HT_.out (by kernel_rfl)) (fun _ _ _ h => h) (Or.inl ⟨by first | rfl | (simp only [c17b0, c18b0]; rfl), ?_⟩) ?_ ?_
      rotate_left
      ·intro w'
       go_simp
       with_reducible rfl
      rotate_left
      ·simp only [Act.put, List.setIfInBounds_toArray, List.set_cons_zero, List.set_cons_succ, i64_w, i32_w]
       rfl
      refine pure_ (i := 17) (N := some 10) (v := ?_) (a' := ?_) (bm 18 262143) rfl rfl (any_of HT_.out (by kernel_rfl)) (fun _ _ _ h => h) (Or.inl ⟨by first | rfl | (simp only [c17b0, c18b0]; rfl), ?_⟩) ?_ ?_
      rotate_left
      ·intro w'
       go_simp
       with_reducible rfl
      rotate_left
      ·simp only [Act.put, List.setIfInBounds_toArray, List.set_cons_zero, List.set_cons_succ, i64_w, i32_w]
       rfl
      refine done_ (done_of HT_.out (by kernel_rfl)) ?_
      try go_wp2
      go_ret
      exact ⟨by first | rfl | (simp only [Go.Proofs.YtalibiaplhmfhaaX.ne_nil, Go.Proofs.YtalibiaplhmfhaaX.eq_nil]; rfl) | (simp [Go.Proofs.YtalibiaplhmfhaaX.ne_nil, Go.Proofs.YtalibiaplhmfhaaX.eq_nil]; done) | (simp [errW_none, errW_some] <;> rfl) | (simp [*, errW_none, errW_some] <;> rfl), by repeat (first | (with_reducible first | exact HB.out | apply below_alloc | apply pw_below_drewN | apply below_drew1 | refine below_set ?_ GE249.out | refine below_set ?_ GE271.out | refine below_set ?_ GE279.out) | exact HB.out)⟩
     ·(first | rw [if_neg c18] at H | exact absurd rfl c18)
      have c18b0 : (t269.toList == t277.toList) = false := beq_eq_false_iff_ne.mpr c18
      have c18b1 : (t269.toList != t277.toList) = true := bne_iff_ne.mpr c18
      exact absurd H (by simp)
    ·(first | rw [if_neg c17] at H | exact absurd rfl c17)
     have c17b0 : (t280 == t272 && (t281 == t273 && (t282 == t274 && ((t283 == t275 && (t284 == t276)))))) = false := by simpa using c17
     (try (have c17b1 : decide (t280 = t272 && (t281 == t273 && (t282 == t274 && ((t283 == t275 && (t284 == t276)))))) = false := by simpa using c17))
     (try (have c17b2 : (t280 == t272 && (t281 == t273 && (t282 == t274 && ((t283 == t275 && (t284 == t276)))))) = false := by simpa using c17))
     (try (have c17b3 : ¬ (t280 = t272 && (t281 == t273 && (t282 == t274 && ((t283 == t275 && (t284 == t276)))))) := by simpa using c17))
     clear c17
     exact absurd H (by simp)
   ·(first | rw [if_neg c12] at H | exact absurd rfl c12)
    exact absurd H (by simp)
  ·replace c8 := Bool.eq_false_iff.mpr c8
   (first | subst c8 | clear c8)
   have H1 : ((record_Get.f k a1).bind fun bt285 => ((ref04_Get.f k a1).bind fun bt293 => ((law04_refRecord.f bt285.1 bt285.2.1 bt285.2.2.1 bt285.2.2.2.1 bt285.2.2.2.2.1).bind fun bt301 => (if (bt301.1 == bt293.1 && (bt301.2.1 == bt293.2.1 && (bt301.2.2.1 == bt293.2.2.1 && ((bt301.2.2.2.1 == bt293.2.2.2.1 && (bt301.2.2.2.2 == bt293.2.2.2.2.1)))))) = true then (if bt285.2.2.2.2.2.1.toList = bt293.2.2.2.2.2.1.toList then (some (bt285.2.2.2.2.2.2 == bt293.2.2.2.2.2.2)) else (none)) else (none))))) = some r := by rw [if_neg (show ¬ (false = true) by decide)] at H; exact H
   clear H
   have H := H1
   clear H1
   replace H := Option.bind_eq_some_iff.mp H
   obtain ⟨⟨t285, t286, t287, t288, t289, t290, t291⟩, A380, H⟩ := H
   replace H : ((ref04_Get.f k a1).bind fun bt293 => ((law04_refRecord.f t285 t286 t287 t288 t289).bind fun bt301 => (if (bt301.1 == bt293.1 && (bt301.2.1 == bt293.2.1 && (bt301.2.2.1 == bt293.2.2.1 && ((bt301.2.2.2.1 == bt293.2.2.2.1 && (bt301.2.2.2.2 == bt293.2.2.2.2.1)))))) = true then (if t290.toList = bt293.2.2.2.2.2.1.toList then (some (t291 == bt293.2.2.2.2.2.2)) else (none)) else (none)))) = some r := H
   have A38 := Aside0.mk A380
   clear A380
   replace H := Option.bind_eq_some_iff.mp H
   obtain ⟨⟨t293, t294, t295, t296, t297, t298, t299⟩, A390, H⟩ := H
   replace H : ((law04_refRecord.f t285 t286 t287 t288 t289).bind fun bt301 => (if (bt301.1 == t293 && (bt301.2.1 == t294 && (bt301.2.2.1 == t295 && ((bt301.2.2.2.1 == t296 && (bt301.2.2.2.2 == t297)))))) = true then (if t290.toList = t298.toList then (some (t291 == t299)) else (none)) else (none))) = some r := H
   have A39 := Aside0.mk A390
   clear A390
   replace H := Option.bind_eq_some_iff.mp H
   obtain ⟨⟨t301, t302, t303, t304, t305⟩, A400, H⟩ := H
   replace H : (if (t301 == t293 && (t302 == t294 && (t303 == t295 && ((t304 == t296 && (t305 == t297)))))) = true then (if t290.toList = t298.toList then (some (t291 == t299)) else (none)) else (none)) = some r := H
   have A40 := Aside0.mk A400
   clear A400
   by_cases c41 : (t301 == t293 && (t302 == t294 && (t303 == t295 && ((t304 == t296 && (t305 == t297)))))) = true
   ·rw [if_pos c41] at H
    have c41b0 : (t301 == t293 && (t302 == t294 && (t303 == t295 && ((t304 == t296 && (t305 == t297)))))) = true := c41
    (try (have c41b1 : decide (t301 = t293 && (t302 == t294 && (t303 == t295 && ((t304 == t296 && (t305 == t297)))))) = true := by simpa using c41))
    (try (have c41b2 : (t301 == t293 && (t302 == t294 && (t303 == t295 && ((t304 == t296 && (t305 == t297)))))) = true := by simpa using c41))
    clear c41
    by_cases c42 : t290.toList = t298.toList
    ·rw [if_pos c42] at H
     have c42b0 : (t290.toList == t298.toList) = true := beq_iff_eq.mpr c42
     have c42b1 : (t290.toList != t298.toList) = false := bne_eq_false_iff_eq.mpr c42
     clear c42
     obtain rfl := Option.some.inj H
     go_enter Try.func4, Try.ntmps4
     try go_wp2_with (first | ((with_reducible refine gate_dst (N := 5) rfl ?_); refine box_event ?hg (N := 5) ?hd (cs := #[.int .i64 a0_0, .int .i64 a0_1, .int .u32 a0_2, .int .u32 a0_3, .int .u16 a0_4, .bool a0_5]) (t := 29) ?hr ?_; (case hd => rfl); (case hg => rfl); (case hr => first | (go_simp; done) | (go_simp; rfl)); intro gb249 hg w43 hbox hb; have n0_ := Aside0.mk (below_step (by repeat (first | (with_reducible first | exact HB.out | apply below_alloc | apply pw_below_drewN | apply below_drew1) | exact HB.out)) hb); have n1_ := Aside0.mk (hbox); have n2_ := Aside0.mk ((by rw [hg]; exact (below_size (by repeat (first | (with_reducible first | exact HB.out | apply below_alloc | apply pw_below_drewN | apply below_drew1) | exact HB.out))) : w.heap.size ≤ gb249)); have n3_ := Aside0.mk ((by rw [hg]; exact (below_size (by repeat (first | (with_reducible first | exact HB.out | apply below_alloc | apply pw_below_drewN | apply below_drew1) | exact HB.out))) : w.heap.size ≤ gb249)); clear HB; have HB := n0_; have BK249 := n1_; have GW249 := n2_; have GE249 := n3_; clear n0_ n1_ n2_ n3_; clear hb hbox hg) | ((with_reducible refine gate_callee (f := 9) rfl ?_); refine goesL_ (some 20) rfl rfl Try.func9 (by kernel_rfl) rfl #[] rfl (by (try simp only [List.map_toArray, List.map_cons, List.map_nil]); first | done | rfl | (simp only [List.length_drop, List.length_take]; rfl)) ?_; (with_reducible refine (law04_examples.calls k  true _ A6.out).mono ?_); rintro e w44 ⟨rfl, hb⟩; refine ⟨_, rfl, ?_⟩; have n0_ := Aside0.mk (blk_below (g := gb249) (o := .cells #[.int .i64 a0_0, .int .i64 a0_1, .int .u32 a0_2, .int .u32 a0_3, .int .u16 a0_4, .bool a0_5] 29 (0, 0)) (by (with_reducible repeat (first | refine blk_drewN ?_ _ | refine blk_drew ?_ | refine blk_alloc ?_ _)); exact BK249.out) hb); have n1_ := Aside0.mk (below_step (by repeat (first | (with_reducible first | exact HB.out | apply below_alloc | apply pw_below_drewN | apply below_drew1 | refine below_set ?_ GE249.out) | exact HB.out)) hb); clear BK249; clear HB; have BK249 := n0_; have HB := n1_; clear n0_ n1_; (try clear hb); (try clear hb2); (try clear hk); (try clear hi)) | ((with_reducible refine gate_callee (f := 27) rfl ?_); refine goesL_ (some 39) rfl rfl Try.func27 (by kernel_rfl) rfl #[.string a1] rfl (by (try simp only [List.map_toArray, List.map_cons, List.map_nil]); first | done | rfl | (simp only [List.length_drop, List.length_take]; rfl)) ?_; (with_reducible refine (record_Get.calls k a1 t285 t286 t287 t288 t289 t290 t291 _ A38.out).mono ?_); rintro e w45 ⟨rfl, hb⟩; refine ⟨_, rfl, ?_⟩; have n0_ := Aside0.mk (blk_below (g := gb249) (o := .cells #[.int .i64 a0_0, .int .i64 a0_1, .int .u32 a0_2, .int .u32 a0_3, .int .u16 a0_4, .bool a0_5] 29 (0, 0)) (by (with_reducible repeat (first | refine blk_drewN ?_ _ | refine blk_drew ?_ | refine blk_alloc ?_ _)); exact BK249.out) hb); have n1_ := Aside0.mk (below_step (by repeat (first | (with_reducible first | exact HB.out | apply below_alloc | apply pw_below_drewN | apply below_drew1 | refine below_set ?_ GE249.out) | exact HB.out)) hb); clear BK249; clear HB; have BK249 := n0_; have HB := n1_; clear n0_ n1_; (try clear hb); (try clear hb2); (try clear hk); (try clear hi)) | ((with_reducible refine gate_dst (N := 14) rfl ?_); refine box_event ?hg (N := 14) ?hd (cs := #[.int .i64 0, .int .i64 0, .int .u32 0, .int .u32 0, .int .u16 0]) (t := 27) ?hr ?_; (case hd => rfl); (case hg => rfl); (case hr => first | (go_simp; done) | (go_simp; rfl)); intro gb292 hg w46 hbox hb; have n0_ := Aside0.mk (blk_below (g := gb249) (o := .cells #[.int .i64 a0_0, .int .i64 a0_1, .int .u32 a0_2, .int .u32 a0_3, .int .u16 a0_4, .bool a0_5] 29 (0, 0)) (by (with_reducible repeat (first | refine blk_drewN ?_ _ | refine blk_drew ?_ | refine blk_alloc ?_ _)); exact BK249.out) hb); have n1_ := Aside0.mk (below_step (by repeat (first | (with_reducible first | exact HB.out | apply below_alloc | apply pw_below_drewN | apply below_drew1 | refine below_set ?_ GE249.out) | exact HB.out)) hb); have n2_ := Aside0.mk (hbox); have n3_ := Aside0.mk ((by rw [hg]; exact (below_size (by repeat (first | (with_reducible first | exact HB.out | apply below_alloc | apply pw_below_drewN | apply below_drew1 | refine below_set ?_ GE249.out) | exact HB.out))) : w.heap.size ≤ gb292)); have n4_ := Aside0.mk ((by rw [hg]; exact (below_size (by repeat (first | (with_reducible first | exact HB.out | apply below_alloc | apply pw_below_drewN | apply below_drew1 | refine below_set ?_ GE249.out) | exact HB.out))) : w.heap.size ≤ gb292)); have n5_ := Aside0.mk ((by rw [hg]; exact Nat.ne_of_lt (blk_lt (g := gb249) (o := .cells #[.int .i64 a0_0, .int .i64 a0_1, .int .u32 a0_2, .int .u32 a0_3, .int .u16 a0_4, .bool a0_5] 29 (0, 0)) (by (with_reducible repeat (first | refine blk_drewN ?_ _ | refine blk_drew ?_ | refine blk_alloc ?_ _)); exact BK249.out)) : gb249 ≠ gb292)); have n6_ := Aside0.mk ((by rw [hg]; exact Nat.ne_of_gt (blk_lt (g := gb249) (o := .cells #[.int .i64 a0_0, .int .i64 a0_1, .int .u32 a0_2, .int .u32 a0_3, .int .u16 a0_4, .bool a0_5] 29 (0, 0)) (by (with_reducible repeat (first | refine blk_drewN ?_ _ | refine blk_drew ?_ | refine blk_alloc ?_ _)); exact BK249.out)) : gb292 ≠ gb249)); clear BK249; clear HB; have BK249 := n0_; have HB := n1_; have BK292 := n2_; have GW292 := n3_; have GE292 := n4_; have NB249_292 := n5_; have NB292_249 := n6_; clear n0_ n1_ n2_ n3_ n4_ n5_ n6_; clear hb hbox hg; have hnb47 := NB292_249.out; have hnc47 := NB249_292.out; have hcz48_0 : w46.cell? ⟨gb292, 0, none⟩ = some (.int .i64 0) := (blk_cell BK292.out 0).trans rfl; have hcz48_1 : w46.cell? ⟨gb292, 1, none⟩ = some (.int .i64 0) := (blk_cell BK292.out 1).trans rfl; have hcz48_2 : w46.cell? ⟨gb292, 2, none⟩ = some (.int .u32 0) := (blk_cell BK292.out 2).trans rfl; have hcz48_3 : w46.cell? ⟨gb292, 3, none⟩ = some (.int .u32 0) := (blk_cell BK292.out 3).trans rfl; have hcz48_4 : w46.cell? ⟨gb292, 4, none⟩ = some (.int .u16 0) := (blk_cell BK292.out 4).trans rfl; have hfz48_0 := blk_frozen BK292.out 0; have hfz48_1 := blk_frozen BK292.out 1; have hfz48_2 := blk_frozen BK292.out 2; have hfz48_3 := blk_frozen BK292.out 3; have hfz48_4 := blk_frozen BK292.out 4) | ((with_reducible refine gate_callee (f := 28) rfl ?_); refine goesL_ (some 45) rfl rfl Try.func28 (by kernel_rfl) rfl #[.string a1] rfl (by (try simp only [List.map_toArray, List.map_cons, List.map_nil]); first | done | rfl | (simp only [List.length_drop, List.length_take]; rfl)) ?_; (with_reducible refine (ref04_Get.calls k a1 t293 t294 t295 t296 t297 t298 t299 _ A39.out).mono ?_); rintro e w49 ⟨rfl, hb⟩; refine ⟨_, rfl, ?_⟩; have n0_ := Aside0.mk (blk_below (g := gb249) (o := .cells #[.int .i64 a0_0, .int .i64 a0_1, .int .u32 a0_2, .int .u32 a0_3, .int .u16 a0_4, .bool a0_5] 29 (0, 0)) (by (with_reducible repeat (first | refine blk_drewN ?_ _ | refine blk_drew ?_ | refine blk_alloc ?_ _)); refine blk_far ?_ NB249_292.out _; (with_reducible repeat (first | refine blk_drewN ?_ _ | refine blk_drew ?_ | refine blk_alloc ?_ _)); refine blk_far ?_ NB249_292.out _; (with_reducible repeat (first | refine blk_drewN ?_ _ | refine blk_drew ?_ | refine blk_alloc ?_ _)); refine blk_far ?_ NB249_292.out _; (with_reducible repeat (first | refine blk_drewN ?_ _ | refine blk_drew ?_ | refine blk_alloc ?_ _)); refine blk_far ?_ NB249_292.out _; (with_reducible repeat (first | refine blk_drewN ?_ _ | refine blk_drew ?_ | refine blk_alloc ?_ _)); refine blk_far ?_ NB249_292.out _; (with_reducible repeat (first | refine blk_drewN ?_ _ | refine blk_drew ?_ | refine blk_alloc ?_ _)); exact BK249.out) hb); have n1_ := Aside0.mk (blk_below (g := gb292) (o := .cells #[.int .i64 t285, .int .i64 t286, .int .u32 t287, .int .u32 t288, .int .u16 t289] 27 (0, 0)) (by (with_reducible repeat (first | refine blk_drewN ?_ _ | refine blk_drew ?_ | refine blk_alloc ?_ _)); refine blk_put (cs := #[.int .i64 t285, .int .i64 t286, .int .u32 t287, .int .u32 t288, .int .u16 0]) ?_ 4 _ rfl; (with_reducible repeat (first | refine blk_drewN ?_ _ | refine blk_drew ?_ | refine blk_alloc ?_ _)); refine blk_put (cs := #[.int .i64 t285, .int .i64 t286, .int .u32 t287, .int .u32 0, .int .u16 0]) ?_ 3 _ rfl; (with_reducible repeat (first | refine blk_drewN ?_ _ | refine blk_drew ?_ | refine blk_alloc ?_ _)); refine blk_put (cs := #[.int .i64 t285, .int .i64 t286, .int .u32 0, .int .u32 0, .int .u16 0]) ?_ 2 _ rfl; (with_reducible repeat (first | refine blk_drewN ?_ _ | refine blk_drew ?_ | refine blk_alloc ?_ _)); refine blk_put (cs := #[.int .i64 t285, .int .i64 0, .int .u32 0, .int .u32 0, .int .u16 0]) ?_ 1 _ rfl; (with_reducible repeat (first | refine blk_drewN ?_ _ | refine blk_drew ?_ | refine blk_alloc ?_ _)); refine blk_put (cs := #[.int .i64 0, .int .i64 0, .int .u32 0, .int .u32 0, .int .u16 0]) ?_ 0 _ rfl; (with_reducible repeat (first | refine blk_drewN ?_ _ | refine blk_drew ?_ | refine blk_alloc ?_ _)); exact BK292.out) hb); have n2_ := Aside0.mk (below_step (by repeat (first | (with_reducible first | exact HB.out | apply below_alloc | apply pw_below_drewN | apply below_drew1 | refine below_set ?_ GE249.out | refine below_set ?_ GE292.out) | exact HB.out)) hb); clear BK249; clear BK292; clear HB; have BK249 := n0_; have BK292 := n1_; have HB := n2_; clear n0_ n1_ n2_; (try clear hb); (try clear hb2); (try clear hk); (try clear hi)) | ((with_reducible refine gate_dst (N := 17) rfl ?_); refine box_event ?hg (N := 17) ?hd (cs := #[.int .i64 0, .int .i64 0, .int .u32 0, .int .u32 0, .int .u16 0]) (t := 34) ?hr ?_; (case hd => rfl); (case hg => rfl); (case hr => first | (go_simp; done) | (go_simp; rfl)); intro gb300 hg w50 hbox hb; have n0_ := Aside0.mk (blk_below (g := gb249) (o := .cells #[.int .i64 a0_0, .int .i64 a0_1, .int .u32 a0_2, .int .u32 a0_3, .int .u16 a0_4, .bool a0_5] 29 (0, 0)) (by (with_reducible repeat (first | refine blk_drewN ?_ _ | refine blk_drew ?_ | refine blk_alloc ?_ _)); exact BK249.out) hb); have n1_ := Aside0.mk (blk_below (g := gb292) (o := .cells #[.int .i64 t285, .int .i64 t286, .int .u32 t287, .int .u32 t288, .int .u16 t289] 27 (0, 0)) (by (with_reducible repeat (first | refine blk_drewN ?_ _ | refine blk_drew ?_ | refine blk_alloc ?_ _)); exact BK292.out) hb); have n2_ := Aside0.mk (below_step (by repeat (first | (with_reducible first | exact HB.out | apply below_alloc | apply pw_below_drewN | apply below_drew1 | refine below_set ?_ GE249.out | refine below_set ?_ GE292.out) | exact HB.out)) hb); have n3_ := Aside0.mk (hbox); have n4_ := Aside0.mk ((by rw [hg]; exact (below_size (by repeat (first | (with_reducible first | exact HB.out | apply below_alloc | apply pw_below_drewN | apply below_drew1 | refine below_set ?_ GE249.out | refine below_set ?_ GE292.out) | exact HB.out))) : w.heap.size ≤ gb300)); have n5_ := Aside0.mk ((by rw [hg]; exact (below_size (by repeat (first | (with_reducible first | exact HB.out | apply below_alloc | apply pw_below_drewN | apply below_drew1 | refine below_set ?_ GE249.out | refine below_set ?_ GE292.out) | exact HB.out))) : w.heap.size ≤ gb300)); have n6_ := Aside0.mk ((by rw [hg]; exact Nat.ne_of_lt (blk_lt (g := gb249) (o := .cells #[.int .i64 a0_0, .int .i64 a0_1, .int .u32 a0_2, .int .u32 a0_3, .int .u16 a0_4, .bool a0_5] 29 (0, 0)) (by (with_reducible repeat (first | refine blk_drewN ?_ _ | refine blk_drew ?_ | refine blk_alloc ?_ _)); exact BK249.out)) : gb249 ≠ gb300)); have n7_ := Aside0.mk ((by rw [hg]; exact Nat.ne_of_gt (blk_lt (g := gb249) (o := .cells #[.int .i64 a0_0, .int .i64 a0_1, .int .u32 a0_2, .int .u32 a0_3, .int .u16 a0_4, .bool a0_5] 29 (0, 0)) (by (with_reducible repeat (first | refine blk_drewN ?_ _ | refine blk_drew ?_ | refine blk_alloc ?_ _)); exact BK249.out)) : gb300 ≠ gb249)); have n8_ := Aside0.mk ((by rw [hg]; exact Nat.ne_of_lt (blk_lt (g := gb292) (o := .cells #[.int .i64 t285, .int .i64 t286, .int .u32 t287, .int .u32 t288, .int .u16 t289] 27 (0, 0)) (by (with_reducible repeat (first | refine blk_drewN ?_ _ | refine blk_drew ?_ | refine blk_alloc ?_ _)); exact BK292.out)) : gb292 ≠ gb300)); have n9_ := Aside0.mk ((by rw [hg]; exact Nat.ne_of_gt (blk_lt (g := gb292) (o := .cells #[.int .i64 t285, .int .i64 t286, .int .u32 t287, .int .u32 t288, .int .u16 t289] 27 (0, 0)) (by (with_reducible repeat (first | refine blk_drewN ?_ _ | refine blk_drew ?_ | refine blk_alloc ?_ _)); exact BK292.out)) : gb300 ≠ gb292)); clear BK249; clear BK292; clear HB; have BK249 := n0_; have BK292 := n1_; have HB := n2_; have BK300 := n3_; have GW300 := n4_; have GE300 := n5_; have NB249_300 := n6_; have NB300_249 := n7_; have NB292_300 := n8_; have NB300_292 := n9_; clear n0_ n1_ n2_ n3_ n4_ n5_ n6_ n7_ n8_ n9_; clear hb hbox hg; have hnb51 := NB300_249.out; have hnc51 := NB249_300.out; have hnb52 := NB300_292.out; have hnc52 := NB292_300.out; have hcz53_0 : w50.cell? ⟨gb300, 0, none⟩ = some (.int .i64 0) := (blk_cell BK300.out 0).trans rfl; have hcz53_1 : w50.cell? ⟨gb300, 1, none⟩ = some (.int .i64 0) := (blk_cell BK300.out 1).trans rfl; have hcz53_2 : w50.cell? ⟨gb300, 2, none⟩ = some (.int .u32 0) := (blk_cell BK300.out 2).trans rfl; have hcz53_3 : w50.cell? ⟨gb300, 3, none⟩ = some (.int .u32 0) := (blk_cell BK300.out 3).trans rfl; have hcz53_4 : w50.cell? ⟨gb300, 4, none⟩ = some (.int .u16 0) := (blk_cell BK300.out 4).trans rfl; have hfz53_0 := blk_frozen BK300.out 0; have hfz53_1 := blk_frozen BK300.out 1; have hfz53_2 := blk_frozen BK300.out 2; have hfz53_3 := blk_frozen BK300.out 3; have hfz53_4 := blk_frozen BK300.out 4))
     have n0_ : Aside0 ((((((w50.setCell ⟨gb300, 0, none⟩ (.int .i64 t293)).setCell ⟨gb300, 1, none⟩ (.int .i64 t294)).setCell ⟨gb300, 2, none⟩ (.int .u32 t295)).setCell ⟨gb300, 3, none⟩ (.int .u32 t296)).setCell ⟨gb300, 4, none⟩ (.int .u16 t297)).heap[gb249]? = some (.cells #[.int .i64 a0_0, .int .i64 a0_1, .int .u32 a0_2, .int .u32 a0_3, .int .u16 a0_4, .bool a0_5] 29 (0, 0))) := ⟨by (with_reducible repeat (first | refine blk_drewN ?_ _ | refine blk_drew ?_ | refine blk_alloc ?_ _)); refine blk_far ?_ NB249_300.out _; (with_reducible repeat (first | refine blk_drewN ?_ _ | refine blk_drew ?_ | refine blk_alloc ?_ _)); refine blk_far ?_ NB249_300.out _; (with_reducible repeat (first | refine blk_drewN ?_ _ | refine blk_drew ?_ | refine blk_alloc ?_ _)); refine blk_far ?_ NB249_300.out _; (with_reducible repeat (first | refine blk_drewN ?_ _ | refine blk_drew ?_ | refine blk_alloc ?_ _)); refine blk_far ?_ NB249_300.out _; (with_reducible repeat (first | refine blk_drewN ?_ _ | refine blk_drew ?_ | refine blk_alloc ?_ _)); refine blk_far ?_ NB249_300.out _; (with_reducible repeat (first | refine blk_drewN ?_ _ | refine blk_drew ?_ | refine blk_alloc ?_ _)); exact BK249.out⟩
     have n1_ : Aside0 ((((((w50.setCell ⟨gb300, 0, none⟩ (.int .i64 t293)).setCell ⟨gb300, 1, none⟩ (.int .i64 t294)).setCell ⟨gb300, 2, none⟩ (.int .u32 t295)).setCell ⟨gb300, 3, none⟩ (.int .u32 t296)).setCell ⟨gb300, 4, none⟩ (.int .u16 t297)).heap[gb292]? = some (.cells #[.int .i64 t285, .int .i64 t286, .int .u32 t287, .int .u32 t288, .int .u16 t289] 27 (0, 0))) := ⟨by (with_reducible repeat (first | refine blk_drewN ?_ _ | refine blk_drew ?_ | refine blk_alloc ?_ _)); refine blk_far ?_ NB292_300.out _; (with_reducible repeat (first | refine blk_drewN ?_ _ | refine blk_drew ?_ | refine blk_alloc ?_ _)); refine blk_far ?_ NB292_300.out _; (with_reducible repeat (first | refine blk_drewN ?_ _ | refine blk_drew ?_ | refine blk_alloc ?_ _)); refine blk_far ?_ NB292_300.out _; (with_reducible repeat (first | refine blk_drewN ?_ _ | refine blk_drew ?_ | refine blk_alloc ?_ _)); refine blk_far ?_ NB292_300.out _; (with_reducible repeat (first | refine blk_drewN ?_ _ | refine blk_drew ?_ | refine blk_alloc ?_ _)); refine blk_far ?_ NB292_300.out _; (with_reducible repeat (first | refine blk_drewN ?_ _ | refine blk_drew ?_ | refine blk_alloc ?_ _)); exact BK292.out⟩
     have n2_ : Aside0 ((((((w50.setCell ⟨gb300, 0, none⟩ (.int .i64 t293)).setCell ⟨gb300, 1, none⟩ (.int .i64 t294)).setCell ⟨gb300, 2, none⟩ (.int .u32 t295)).setCell ⟨gb300, 3, none⟩ (.int .u32 t296)).setCell ⟨gb300, 4, none⟩ (.int .u16 t297)).heap[gb300]? = some (.cells #[.int .i64 t293, .int .i64 t294, .int .u32 t295, .int .u32 t296, .int .u16 t297] 34 (0, 0))) := ⟨by (with_reducible repeat (first | refine blk_drewN ?_ _ | refine blk_drew ?_ | refine blk_alloc ?_ _)); refine blk_put (cs := #[.int .i64 t293, .int .i64 t294, .int .u32 t295, .int .u32 t296, .int .u16 0]) ?_ 4 _ rfl; (with_reducible repeat (first | refine blk_drewN ?_ _ | refine blk_drew ?_ | refine blk_alloc ?_ _)); refine blk_put (cs := #[.int .i64 t293, .int .i64 t294, .int .u32 t295, .int .u32 0, .int .u16 0]) ?_ 3 _ rfl; (with_reducible repeat (first | refine blk_drewN ?_ _ | refine blk_drew ?_ | refine blk_alloc ?_ _)); refine blk_put (cs := #[.int .i64 t293, .int .i64 t294, .int .u32 0, .int .u32 0, .int .u16 0]) ?_ 2 _ rfl; (with_reducible repeat (first | refine blk_drewN ?_ _ | refine blk_drew ?_ | refine blk_alloc ?_ _)); refine blk_put (cs := #[.int .i64 t293, .int .i64 0, .int .u32 0, .int .u32 0, .int .u16 0]) ?_ 1 _ rfl; (with_reducible repeat (first | refine blk_drewN ?_ _ | refine blk_drew ?_ | refine blk_alloc ?_ _)); refine blk_put (cs := #[.int .i64 0, .int .i64 0, .int .u32 0, .int .u32 0, .int .u16 0]) ?_ 0 _ rfl; (with_reducible repeat (first | refine blk_drewN ?_ _ | refine blk_drew ?_ | refine blk_alloc ?_ _)); exact BK300.out⟩
     have n3_ : Aside0 (Below w.heap.size w (((((w50.setCell ⟨gb300, 0, none⟩ (.int .i64 t293)).setCell ⟨gb300, 1, none⟩ (.int .i64 t294)).setCell ⟨gb300, 2, none⟩ (.int .u32 t295)).setCell ⟨gb300, 3, none⟩ (.int .u32 t296)).setCell ⟨gb300, 4, none⟩ (.int .u16 t297))) := ⟨by repeat (first | (with_reducible first | exact HB.out | apply below_alloc | apply pw_below_drewN | apply below_drew1 | refine below_set ?_ GE249.out | refine below_set ?_ GE292.out | refine below_set ?_ GE300.out) | exact HB.out)⟩
     (try clear BK249)
     (try clear BK292)
     (try clear BK300)
     (try clear HB)
     generalize (((((w50.setCell ⟨gb300, 0, none⟩ (.int .i64 t293)).setCell ⟨gb300, 1, none⟩ (.int .i64 t294)).setCell ⟨gb300, 2, none⟩ (.int .u32 t295)).setCell ⟨gb300, 3, none⟩ (.int .u32 t296)).setCell ⟨gb300, 4, none⟩ (.int .u16 t297)) = w54 at n0_ n1_ n2_ n3_ ⊢
     have BK249 := n0_
     have BK292 := n1_
     have BK300 := n2_
     have HB := n3_
     clear n0_ n1_ n2_ n3_
     have n0_ := Aside0.mk (blk_drew BK249.out)
     have n1_ := Aside0.mk (blk_drew BK292.out)
     have n2_ := Aside0.mk (blk_drew BK300.out)
     have n3_ := Aside0.mk (below_drew1 HB.out)
     clear BK249
     clear BK292
     clear BK300
     clear HB
     have BK249 := n0_
     have BK292 := n1_
     have BK300 := n2_
     have HB := n3_
     clear n0_ n1_ n2_ n3_
     refine start_ (n := 18) (S := fun w' => w'.cell? ⟨gb292, 0, none⟩ = some (.int .i64 t285) ∧ w'.cell? ⟨gb292, 1, none⟩ = some (.int .i64 t286) ∧ w'.cell? ⟨gb292, 2, none⟩ = some (.int .u32 t287) ∧ w'.cell? ⟨gb292, 3, none⟩ = some (.int .u32 t288) ∧ w'.cell? ⟨gb292, 4, none⟩ = some (.int .u16 t289) ∧ w'.cell? ⟨gb300, 0, none⟩ = some (.int .i64 t293) ∧ w'.cell? ⟨gb300, 1, none⟩ = some (.int .i64 t294) ∧ w'.cell? ⟨gb300, 2, none⟩ = some (.int .u32 t295) ∧ w'.cell? ⟨gb300, 3, none⟩ = some (.int .u32 t296) ∧ w'.cell? ⟨gb300, 4, none⟩ = some (.int .u16 t297)) (ds := []) (bm 18 0) (by kernel_rfl) rfl rfl ⟨(blk_cell BK292.out 0).trans rfl, (blk_cell BK292.out 1).trans rfl, (blk_cell BK292.out 2).trans rfl, (blk_cell BK292.out 3).trans rfl, (blk_cell BK292.out 4).trans rfl, (blk_cell BK300.out 0).trans rfl, (blk_cell BK300.out 1).trans rfl, (blk_cell BK300.out 2).trans rfl, (blk_cell BK300.out 3).trans rfl, (blk_cell BK300.out 4).trans rfl⟩ (fun hHeld => ?_); refine with_tabW law04_RecordGets.tab9 law04_RecordGets.bits9 (fun HT_ HW_ => ?_)
     generalize w54.drew = w55 at BK249 BK292 BK300 HB hHeld ⊢
     refine pure_ (i := 0) (N := some 49) (v := ?_) (a' := ?_) (bm 18 1) rfl rfl (any_of HT_.out (by kernel_rfl)) (fun _ _ _ h => h) (Or.inl ⟨by first | rfl | (simp only [c41b0, c42b0]; rfl), ?_⟩) ?_ ?_
     rotate_left
     ·intro w'
      go_simp
      with_reducible rfl
     rotate_left
     ·simp only [Act.put, List.setIfInBounds_toArray, List.set_cons_zero, List.set_cons_succ, i64_w, i32_w]
      rfl
     refine pure_ (i := 1) (N := some 50) (v := ?_) (a' := ?_) (bm 18 3) rfl rfl (any_of HT_.out (by kernel_rfl)) (fun _ _ _ h => h) (Or.inl ⟨by first | rfl | (simp only [c41b0, c42b0]; rfl), ?_⟩) ?_ ?_
     rotate_left
     ·intro w'
      go_simp
      with_reducible rfl
     rotate_left
     ·simp only [Act.put, List.setIfInBounds_toArray, List.set_cons_zero, List.set_cons_succ, i64_w, i32_w]
      rfl
     refine take_ (i := 2) (N := some 51) (v := ?_) (a' := ?_) (bm 18 7) rfl rfl (take_ofW HT_.out HW_.out (by kernel_rfl)) (fun _ _ _ h => h) (Or.inl ⟨by first | rfl | (simp only [c41b0, c42b0]; rfl), ?_⟩) hHeld ?_ ?_
     rotate_left
     ·rintro w' ⟨s0, s1, s2, s3, s4, s5, s6, s7, s8, s9⟩
      go_simp
      with_reducible rfl
     rotate_left
     ·simp only [Act.put, List.setIfInBounds_toArray, List.set_cons_zero, List.set_cons_succ, i64_w, i32_w]
      rfl
     refine take_ (i := 4) (N := some 53) (v := ?_) (a' := ?_) (bm 18 23) rfl rfl (take_ofW HT_.out HW_.out (by kernel_rfl)) (fun _ _ _ h => h) (Or.inl ⟨by first | rfl | (simp only [c41b0, c42b0]; rfl), ?_⟩) hHeld ?_ ?_
     rotate_left
     ·rintro w' ⟨s0, s1, s2, s3, s4, s5, s6, s7, s8, s9⟩
      go_simp
      with_reducible rfl
     rotate_left
     ·simp only [Act.put, List.setIfInBounds_toArray, List.set_cons_zero, List.set_cons_succ, i64_w, i32_w]
      rfl
     refine one_ (i := 3) (N := some 52) (bm 18 31) rfl rfl (one_of HT_.out (by kernel_rfl)) (by decide) (fun K hK => ?_)
     refine goes_ Try.func11 (by kernel_rfl) rfl #[.agg #[.int .i64 t285, .int .i64 t286, .int .u32 t287, .int .u32 t288, .int .u16 t289]] (by rfl) rfl rfl (by (try simp only [List.map_toArray, List.map_cons, List.map_nil]); first | done | rfl | (simp only [List.length_drop, List.length_take]; rfl)) ?_
     with_reducible refine (law04_refRecord.calls t285 t286 t287 t288 t289 t301 t302 t303 t304 t305 _ A40.out).mono ?_
     rintro e w56 ⟨rfl, hb⟩
     refine ⟨_, rfl, ?_⟩
     have n0_ := Aside0.mk (blk_below (g := gb249) (o := .cells #[.int .i64 a0_0, .int .i64 a0_1, .int .u32 a0_2, .int .u32 a0_3, .int .u16 a0_4, .bool a0_5] 29 (0, 0)) (by (with_reducible repeat (first | refine blk_drewN ?_ _ | refine blk_drew ?_ | refine blk_alloc ?_ _)); exact BK249.out) hb)
     have n1_ := Aside0.mk (blk_below (g := gb292) (o := .cells #[.int .i64 t285, .int .i64 t286, .int .u32 t287, .int .u32 t288, .int .u16 t289] 27 (0, 0)) (by (with_reducible repeat (first | refine blk_drewN ?_ _ | refine blk_drew ?_ | refine blk_alloc ?_ _)); exact BK292.out) hb)
     have n2_ := Aside0.mk (blk_below (g := gb300) (o := .cells #[.int .i64 t293, .int .i64 t294, .int .u32 t295, .int .u32 t296, .int .u16 t297] 34 (0, 0)) (by (with_reducible repeat (first | refine blk_drewN ?_ _ | refine blk_drew ?_ | refine blk_alloc ?_ _)); exact BK300.out) hb)
     have n3_ := Aside0.mk (below_step (by repeat (first | (with_reducible first | exact HB.out | apply below_alloc | apply pw_below_drewN | apply below_drew1 | refine below_set ?_ GE249.out | refine below_set ?_ GE292.out | refine below_set ?_ GE300.out) | exact HB.out)) hb)
     clear BK249
     clear BK292
     clear BK300
     clear HB
     have BK249 := n0_
     have BK292 := n1_
     have BK300 := n2_
     have HB := n3_
     clear n0_ n1_ n2_ n3_
     (try clear hb)
     (try clear hb2)
     (try clear hk)
     (try clear hi)
     refine hK.out _ _ ⟨(blk_cell BK292.out 0).trans rfl, (blk_cell BK292.out 1).trans rfl, (blk_cell BK292.out 2).trans rfl, (blk_cell BK292.out 3).trans rfl, (blk_cell BK292.out 4).trans rfl, (blk_cell BK300.out 0).trans rfl, (blk_cell BK300.out 1).trans rfl, (blk_cell BK300.out 2).trans rfl, (blk_cell BK300.out 3).trans rfl, (blk_cell BK300.out 4).trans rfl⟩ (fun hHeld => ?_)
     clear hK K
     refine norm_ (a' := ?_) ?_ ?_
     rotate_left
     ·show Act.put _ (some 52) _ = _
      simp only [Act.put, List.setIfInBounds_toArray, List.set_cons_zero, List.set_cons_succ, i64_w, i32_w]
      rfl
     refine pure_ (i := 5) (N := some 54) (v := ?_) (a' := ?_) (bm 18 63) rfl rfl (any_of HT_.out (by kernel_rfl)) (fun _ _ _ h => h) (Or.inl ⟨by first | rfl | (simp only [c41b0, c42b0]; rfl), ?_⟩) ?_ ?_
     rotate_left
     ·intro w'
      go_simp
      with_reducible rfl
     rotate_left
     ·simp only [Act.put, List.setIfInBounds_toArray, List.set_cons_zero, List.set_cons_succ, i64_w, i32_w]
      rfl
     refine pure_ (i := 6) (N := some 55) (v := ?_) (a' := ?_) (bm 18 127) rfl rfl (any_of HT_.out (by kernel_rfl)) (fun _ _ _ h => h) (Or.inl ⟨by first | rfl | (simp only [c41b0, c42b0]; rfl), ?_⟩) ?_ ?_
     rotate_left
     ·intro w'
      go_simp
      with_reducible rfl
     rotate_left
     ·simp only [Act.put, List.setIfInBounds_toArray, List.set_cons_zero, List.set_cons_succ, i64_w, i32_w]
      rfl
     refine pure_ (i := 7) (N := some 56) (v := ?_) (a' := ?_) (bm 18 255) rfl rfl (any_of HT_.out (by kernel_rfl)) (fun _ _ _ h => h) (Or.inl ⟨by first | rfl | (simp only [c41b0, c42b0]; rfl), ?_⟩) ?_ ?_
     rotate_left
     ·intro w'
      go_simp
      with_reducible rfl
     rotate_left
     ·simp only [Act.put, List.setIfInBounds_toArray, List.set_cons_zero, List.set_cons_succ, i64_w, i32_w]
      rfl
     refine pure_ (i := 8) (N := some 57) (v := ?_) (a' := ?_) (bm 18 511) rfl rfl (any_of HT_.out (by kernel_rfl)) (fun _ _ _ h => h) (Or.inl ⟨by first | rfl | (simp only [c41b0, c42b0]; rfl), ?_⟩) ?_ ?_
     rotate_left
     ·intro w'
      go_simp
      with_reducible rfl
     rotate_left
     ·simp only [Act.put, List.setIfInBounds_toArray, List.set_cons_zero, List.set_cons_succ, i64_w, i32_w]
      rfl
     refine pure_ (i := 9) (N := some 58) (v := ?_) (a' := ?_) (bm 18 1023) rfl rfl (any_of HT_.out (by kernel_rfl)) (fun _ _ _ h => h) (Or.inl ⟨by first | rfl | (simp only [c41b0, c42b0]; rfl), ?_⟩) ?_ ?_
     rotate_left
     ·intro w'
      go_simp
      with_reducible rfl
     rotate_left
     ·simp only [Act.put, List.setIfInBounds_toArray, List.set_cons_zero, List.set_cons_succ, i64_w, i32_w]
      rfl
     refine pure_ (i := 10) (N := some 59) (v := ?_) (a' := ?_) (bm 18 2047) rfl rfl (any_of HT_.out (by kernel_rfl)) (fun _ _ _ h => h) (Or.inl ⟨by first | rfl | (simp only [c41b0, c42b0]; rfl), ?_⟩) ?_ ?_
     rotate_left
     ·intro w'
      go_simp
      with_reducible rfl
     rotate_left
     ·simp only [Act.put, List.setIfInBounds_toArray, List.set_cons_zero, List.set_cons_succ, i64_w, i32_w]
      rfl
     refine pure_ (i := 11) (N := some 60) (v := ?_) (a' := ?_) (bm 18 4095) rfl rfl (any_of HT_.out (by kernel_rfl)) (fun _ _ _ h => h) (Or.inl ⟨by first | rfl | (simp only [c41b0, c42b0]; rfl), ?_⟩) ?_ ?_
     rotate_left
     ·intro w'
      go_simp
      with_reducible rfl
     rotate_left
     ·simp only [Act.put, List.setIfInBounds_toArray, List.set_cons_zero, List.set_cons_succ, i64_w, i32_w]
      rfl
     refine pure_ (i := 12) (N := some 61) (v := ?_) (a' := ?_) (bm 18 8191) rfl rfl (any_of HT_.out (by kernel_rfl)) (fun _ _ _ h => h) (Or.inl ⟨by first | rfl | (simp only [c41b0, c42b0]; rfl), ?_⟩) ?_ ?_
     rotate_left
     ·intro w'
      go_simp
      with_reducible rfl
     rotate_left
     ·simp only [Act.put, List.setIfInBounds_toArray, List.set_cons_zero, List.set_cons_succ, i64_w, i32_w]
      rfl
     refine pure_ (i := 13) (N := some 62) (v := ?_) (a' := ?_) (bm 18 16383) rfl rfl (any_of HT_.out (by kernel_rfl)) (fun _ _ _ h => h) (Or.inl ⟨by first | rfl | (simp only [c41b0, c42b0]; rfl), ?_⟩) ?_ ?_
     rotate_left
     ·intro w'
      go_simp
      with_reducible rfl
     rotate_left
     ·simp only [Act.put, List.setIfInBounds_toArray, List.set_cons_zero, List.set_cons_succ, i64_w, i32_w]
      rfl
     refine pure_ (i := 14) (N := some 63) (v := ?_) (a' := ?_) (bm 18 32767) rfl rfl (any_of HT_.out (by kernel_rfl)) (fun _ _ _ h => h) (Or.inl ⟨by first | rfl | (simp only [c41b0, c42b0]; rfl), ?_⟩) ?_ ?_
     rotate_left
     ·intro w'
      go_simp
      with_reducible rfl
     rotate_left
     ·simp only [Act.put, List.setIfInBounds_toArray, List.set_cons_zero, List.set_cons_succ, i64_w, i32_w]
      rfl
     refine pure_ (i := 15) (N := some 64) (v := ?_) (a' := ?_) (bm 18 65535) rfl rfl (any_of HT_.out (by kernel_rfl)) (fun _ _ _ h => h) (Or.inl ⟨by first | rfl | (simp only [c41b0, c42b0]; rfl), ?_⟩) ?_ ?_
     rotate_left
     ·intro w'
      go_simp
      with_reducible rfl
     rotate_left
     ·simp only [Act.put, List.setIfInBounds_toArray, List.set_cons_zero, List.set_cons_succ, i64_w, i32_w]
      rfl
     refine pure_ (i := 16) (N := some 65) (v := ?_) (a' := ?_) (bm 18 131071) rfl rfl (any_of HT_.out (by kernel_rfl)) (fun _ _ _ h => h) (Or.inl ⟨by first | rfl | (simp only [c41b0, c42b0]; rfl), ?_⟩) ?_ ?_
     rotate_left
     ·intro w'
      go_simp
      with_reducible rfl
     rotate_left
     ·simp only [Act.put, List.setIfInBounds_toArray, List.set_cons_zero, List.set_cons_succ, i64_w, i32_w]
      rfl
     refine pure_ (i := 17) (N := some 10) (v := ?_) (a' := ?_) (bm 18 262143) rfl rfl (any_of HT_.out (by kernel_rfl)) (fun _ _ _ h => h) (Or.inl ⟨by first | rfl | (simp only [c41b0, c42b0]; rfl), ?_⟩) ?_ ?_
     rotate_left
     ·intro w'
      go_simp
      with_reducible rfl
     rotate_left
     ·simp only [Act.put, List.setIfInBounds_toArray, List.set_cons_zero, List.set_cons_succ, i64_w, i32_w]
      rfl
     refine done_ (done_of HT_.out (by kernel_rfl)) ?_
     try go_wp2
     go_ret
     exact ⟨by first | rfl | (simp only [Go.Proofs.YtalibiaplhmfhaaX.ne_nil, Go.Proofs.YtalibiaplhmfhaaX.eq_nil]; rfl) | (simp [Go.Proofs.YtalibiaplhmfhaaX.ne_nil, Go.Proofs.YtalibiaplhmfhaaX.eq_nil]; done) | (simp [errW_none, errW_some] <;> rfl) | (simp [*, errW_none, errW_some] <;> rfl), by repeat (first | (with_reducible first | exact HB.out | apply below_alloc | apply pw_below_drewN | apply below_drew1 | refine below_set ?_ GE249.out | refine below_set ?_ GE292.out | refine below_set ?_ GE300.out) | exact HB.out)⟩
    ·(first | rw [if_neg c42] at H | exact absurd rfl c42)
     have c42b0 : (t290.toList == t298.toList) = false := beq_eq_false_iff_ne.mpr c42
     have c42b1 : (t290.toList != t298.toList) = true := bne_iff_ne.mpr c42
     exact absurd H (by simp)
   ·(first | rw [if_neg c41] at H | exact absurd rfl c41)
    have c41b0 : (t301 == t293 && (t302 == t294 && (t303 == t295 && ((t304 == t296 && (t305 == t297)))))) = false := by simpa using c41
    (try (have c41b1 : decide (t301 = t293 && (t302 == t294 && (t303 == t295 && ((t304 == t296 && (t305 == t297)))))) = false := by simpa using c41))
    (try (have c41b2 : (t301 == t293 && (t302 == t294 && (t303 == t295 && ((t304 == t296 && (t305 == t297)))))) = false := by simpa using c41))
    (try (have c41b3 : ¬ (t301 = t293 && (t302 == t294 && (t303 == t295 && ((t304 == t296 && (t305 == t297)))))) := by simpa using c41))
    clear c41
    exact absurd H (by simp)
 ·replace c7 := Bool.eq_false_iff.mpr c7
  (first | subst c7 | clear c7)
  have H1 : (none) = some r := by rw [if_neg (show ¬ (false = true) by decide)] at H; exact H
  clear H
  have H := H1
  clear H1
  exact absurd H (by simp)

/-- THE ONE PURE STATEMENT of law04_RecordGets: yours. -/
def law04_RecordGets.Pure : Prop := ∀ (a0_0 : Int) (a0_1 : Int) (a0_2 : Int) (a0_3 : Int) (a0_4 : Int) (a0_5 : Bool) (a1 : ByteArray) (a2 : Bool) (a3 : Int) (a4 : Int), (Lit.int .i64 a0_0).wf = true → (Lit.int .i64 a0_1).wf = true → (Lit.int .u32 a0_2).wf = true → (Lit.int .u32 a0_3).wf = true → (Lit.int .u16 a0_4).wf = true → a1.size ≤ 140737488351232 → (Lit.int .i64 a3).wf = true → (Lit.int .u8 a4).wf = true → ∃ k, law04_RecordGets.f k a0_0 a0_1 a0_2 a0_3 a0_4 a0_5 a1 a2 a3 a4 = some true
theorem law04_RecordGets.walk (P : law04_RecordGets.Pure) (a0_0 : Int) (a0_1 : Int) (a0_2 : Int) (a0_3 : Int) (a0_4 : Int) (a0_5 : Bool) (a1 : ByteArray) (a2 : Bool) (a3 : Int) (a4 : Int) (w : World) (w0_0 : (Lit.int .i64 a0_0).wf = true) (w0_1 : (Lit.int .i64 a0_1).wf = true) (w0_2 : (Lit.int .u32 a0_2).wf = true) (w0_3 : (Lit.int .u32 a0_3).wf = true) (w0_4 : (Lit.int .u16 a0_4).wf = true) (w1 : a1.size ≤ 140737488351232) (w3 : (Lit.int .i64 a3).wf = true) (w4 : (Lit.int .u8 a4).wf = true) :
  Calls Try.prog 4 #[.agg #[.int .i64 a0_0, .int .i64 a0_1, .int .u32 a0_2, .int .u32 a0_3, .int .u16 a0_4, .bool a0_5], .string a1, .bool a2, .int .i64 a3, .int .u8 a4] w fun e w' => e = .returned (.bool true) ∧ Below w.heap.size w w' := by
 obtain ⟨k, h⟩ := P a0_0 a0_1 a0_2 a0_3 a0_4 a0_5 a1 a2 a3 a4 w0_0 w0_1 w0_2 w0_3 w0_4 w1 w3 w4
 refine (law04_RecordGets.calls k a0_0 a0_1 a0_2 a0_3 a0_4 a0_5 a1 a2 a3 a4 true w h).mono ?_
 rintro e w' ⟨rfl, hd⟩
 exact ⟨rfl, hd⟩

end Go.Proofs.Ytalibiaplhmfhaa.PA
