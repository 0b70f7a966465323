/- Written by xprint.py, a program of this session: Go functions that the laws reach, each as a plain Lean function, and the proof that the Go code comes to what it says. No condition but those that each theorem names. -/
import Derived.Test.YtalibiaplhmfhaaPAx0
import Derived.Test.YtalibiaplhmfhaaPAx2
import Derived.Test.YtalibiaplhmfhaaPAx4
import Derived.Test.YtalibiaplhmfhaaPAx5
import Derived.Test.YtalibiaplhmfhaaPAx8
import Derived.Test.YtalibiaplhmfhaaPAx11
import Derived.WalkSpells
import Derived.WalkLawsBesides
import Derived.Laws.IdiomStrings
import Derived.Laws.BytesArg
import Derived.Test.YtalibiaplhmfhaaXAux
namespace Go.Proofs.Ytalibiaplhmfhaa.PA
open Go.RowKit Go.Proofs.YtalibiaplhmfhaaW.PrintWords Go.Proofs.YtalibiaplhmfhaaW.PrintLast Go.Proofs.YtalibiaplhmfhaaW.PrintMore
open Go.Proofs.YtalibiaplhmfhaaX (bm)
attribute [local go_sem] max2_int min2_int max_two min_two max_three min_three max_four min_four   -- for this text's walks alone
set_option linter.unusedVariables false
set_option linter.unusedSimpArgs false

attribute [local go_sem high] eqA27
/-! ### law04_examples: function 9 -/
def law04_examples.f (k : Nat)  : Option (Bool) := (record_Record_Put.f 1 0 2 1 1).bind fun bt185 => (if bt185.1.size + 1 ≤ 9223372036854775807 then ((record_Get.f k (bt185.1 ++ (⟨#[120]⟩ : ByteArray))).bind fun bt187 => ((record_Over.f k 1 0 2 1 1 1 2 1 1 1).bind fun t195 => (if t195 = true then ((record_Over.f k 1 2 1 1 1 1 0 2 1 1).bind fun t196 => (if t196 = true then (none) else ((record_Join.f k 1 0 2 1 1 1 2 1 1 1).bind fun bt197 => (if (bt197.1 == 1 && (bt197.2.1 == 0 && (bt197.2.2.1 == 2 && ((bt197.2.2.2.1 == 1 && (bt197.2.2.2.2 == 1)))))) = true then (if bt185.1.toList = ([1, 0, 0, 0, 0, 2, 0, 0, 0, 1, 0, 1] : List UInt8) then (if bt185.2 = true then (if (bt187.1 == 1 && (bt187.2.1 == 0 && (bt187.2.2.1 == 2 && ((bt187.2.2.2.1 == 1 && (bt187.2.2.2.2.1 == 1)))))) = true then (if bt187.2.2.2.2.2.1.toList = ([120] : List UInt8) then (if bt187.2.2.2.2.2.2 = true then ((record_Record_Live.f 1 0 2 1 1).bind fun t202 => (if t202 = true then ((record_Record_Live.f 1 2 1 1 1).bind fun t203 => (if t203 = true then (none) else ((record_Word.f 1).bind fun t204 => (if t204.toList = ([115, 117, 115, 112, 101, 99, 116] : List UInt8) then ((record_Right.f 0 0 0 0 0).bind fun t205 => (some (!t205))) else (none))))) else (none))) else (none)) else (none)) else (none)) else (none)) else (none)) else (none))))) else (none)))) else (none))
theorem law04_examples.mono : ∀ k, LeO (law04_examples.f k ) (law04_examples.f (k + 1) ) := by
 intro  k
 unfold law04_examples.f
 repeat' first
   | (with_reducible exact record_Get.mono _ _)
   | (with_reducible exact record_Join.mono _ _ _ _ _ _ _ _ _ _ _)
   | (with_reducible exact record_Over.mono _ _ _ _ _ _ _ _ _ _ _)
   | (with_reducible exact LeO.refl _)
   | (with_reducible exact LeO.none _)
   | (with_reducible refine LeO.ite ?_ ?_)
   | (with_reducible refine LeO.bind ?_ (fun _ => ?_))
   | exact record_Get.mono _ _
   | exact record_Join.mono _ _ _ _ _ _ _ _ _ _ _
   | exact record_Over.mono _ _ _ _ _ _ _ _ _ _ _
   | exact LeO.none _
   | refine LeO.ite ?_ ?_
   | refine LeO.bind ?_ (fun _ => ?_)
def law04_examples.T5 : Bool × List (List Nat × List Nat) := (true, [([], []), ([], []), ([0, 1], [0, 1]), ([2, 2], [2]), ([3], [3]), ([3], [3]), ([4, 5, 3, 3], [3, 4, 5]), ([6, 3], [3, 6]), ([3, 7], [3, 7]), ([8, 6], [8]), ([9], [9]), ([9], [9]), ([10, 11, 9, 9], [9, 10, 11]), ([9], [9]), ([12, 13, 9], [9, 12, 13]), ([9, 14], [9, 14]), ([15, 12], [15]), ([16], [16]), ([17, 16], [16, 17]), ([16, 18], [16, 18]), ([19, 16], [19]), ([20], [20]), ([20, 21], [20, 21]), ([22, 20], [22]), ([23], [23]), ([23], [23]), ([24, 25, 23], [23, 24, 25]), ([23, 26], [23, 26]), ([27, 23], [27]), ([28], [28]), ([29, 28], [28, 29]), ([28, 30], [28, 30]), ([31, 28], [31]), ([32], [32]), ([32, 33], [32, 33]), ([34, 32], [34]), ([35], [35]), ([36, 35, 35], [35, 36]), ([35, 37], [35, 37]), ([38, 37], [38]), ([39], [39]), ([40, 39, 39], [39, 40]), ([41, 39], [39, 41]), ([39, 42], [39, 42]), ([43, 41], [43]), ([44, 44], [44]), ([45, 44], [44, 45]), ([44, 46], [44, 46]), ([47, 45], [47]), ([48], [48]), ([49, 48, 48], [48, 49]), ([50, 48], [48, 50]), ([48, 51], [48, 51]), ([52, 50, 0, 1, 2, 3, 4, 5, 6, 7, 8, 9, 10, 11, 12, 13, 14, 15, 16, 17, 18, 19, 20, 21, 22, 23, 24, 25, 26, 27, 28, 29, 30, 31, 32, 33, 34, 35, 36, 37, 38, 39, 40, 41, 42, 43, 44, 45, 46, 47, 48, 49, 50, 51, 52], [52])])
def law04_examples.B5 : List Nat := [0, 0, 3, 7, 15, 15, 63, 127, 255, 511, 1023, 1023, 4095, 1023, 16383, 32767, 65535, 131071, 262143, 524287, 1048575, 2097151, 4194303, 8388607, 16777215, 16777215, 67108863, 134217727, 268435455, 536870911, 1073741823, 2147483647, 4294967295, 8589934591, 17179869183, 34359738367, 68719476735, 137438953471, 274877906943, 549755813887, 1099511627775, 2199023255551, 4398046511103, 8796093022207, 17592186044415, 35184372088831, 70368744177663, 140737488355327, 281474976710655, 562949953421311, 1125899906842623, 2251799813685247, 4503599627370495, 9007199254740991]
theorem law04_examples.tab5 : rtab .any (opsOf Try.f9 5) = law04_examples.T5 := by kernel_rfl
theorem law04_examples.bits5 : waitsOk law04_examples.T5.2 law04_examples.B5 = true := by kernel_rfl
set_option maxHeartbeats 8000000 in
set_option maxRecDepth 100000 in
theorem law04_examples.calls (k : Nat)  (r : Bool) (w : World) (h : law04_examples.f k  = some r) :
  Calls Try.prog 9 #[] w fun e w' => e = .returned (.bool r) ∧ Below w.heap.size w w' := by
 have hu25 := Try.underlying25
 have hu27 := Try.underlying27
 have HB := Aside0.mk (Below.refl w.heap.size w)
 have H : ((record_Record_Put.f 1 0 2 1 1).bind fun bt185 => (if bt185.1.size + 1 ≤ 9223372036854775807 then ((record_Get.f k (bt185.1 ++ (⟨#[120]⟩ : ByteArray))).bind fun bt187 => ((record_Over.f k 1 0 2 1 1 1 2 1 1 1).bind fun t195 => (if t195 = true then ((record_Over.f k 1 2 1 1 1 1 0 2 1 1).bind fun t196 => (if t196 = true then (none) else ((record_Join.f k 1 0 2 1 1 1 2 1 1 1).bind fun bt197 => (if (bt197.1 == 1 && (bt197.2.1 == 0 && (bt197.2.2.1 == 2 && ((bt197.2.2.2.1 == 1 && (bt197.2.2.2.2 == 1)))))) = true then (if bt185.1.toList = ([1, 0, 0, 0, 0, 2, 0, 0, 0, 1, 0, 1] : List UInt8) then (if bt185.2 = true then (if (bt187.1 == 1 && (bt187.2.1 == 0 && (bt187.2.2.1 == 2 && ((bt187.2.2.2.1 == 1 && (bt187.2.2.2.2.1 == 1)))))) = true then (if bt187.2.2.2.2.2.1.toList = ([120] : List UInt8) then (if bt187.2.2.2.2.2.2 = true then ((record_Record_Live.f 1 0 2 1 1).bind fun t202 => (if t202 = true then ((record_Record_Live.f 1 2 1 1 1).bind fun t203 => (if t203 = true then (none) else ((record_Word.f 1).bind fun t204 => (if t204.toList = ([115, 117, 115, 112, 101, 99, 116] : List UInt8) then ((record_Right.f 0 0 0 0 0).bind fun t205 => (some (!t205))) else (none))))) else (none))) else (none)) else (none)) else (none)) else (none)) else (none)) else (none))))) else (none)))) else (none))) = some r := h
 clear h
 replace H := Option.bind_eq_some_iff.mp H
 obtain ⟨⟨t185, t186⟩, A10, H⟩ := H
 replace H : (if t185.size + 1 ≤ 9223372036854775807 then ((record_Get.f k (t185 ++ (⟨#[120]⟩ : ByteArray))).bind fun bt187 => ((record_Over.f k 1 0 2 1 1 1 2 1 1 1).bind fun t195 => (if t195 = true then ((record_Over.f k 1 2 1 1 1 1 0 2 1 1).bind fun t196 => (if t196 = true then (none) else ((record_Join.f k 1 0 2 1 1 1 2 1 1 1).bind fun bt197 => (if (bt197.1 == 1 && (bt197.2.1 == 0 && (bt197.2.2.1 == 2 && ((bt197.2.2.2.1 == 1 && (bt197.2.2.2.2 == 1)))))) = true then (if t185.toList = ([1, 0, 0, 0, 0, 2, 0, 0, 0, 1, 0, 1] : List UInt8) then (if t186 = true then (if (bt187.1 == 1 && (bt187.2.1 == 0 && (bt187.2.2.1 == 2 && ((bt187.2.2.2.1 == 1 && (bt187.2.2.2.2.1 == 1)))))) = true then (if bt187.2.2.2.2.2.1.toList = ([120] : List UInt8) then (if bt187.2.2.2.2.2.2 = true then ((record_Record_Live.f 1 0 2 1 1).bind fun t202 => (if t202 = true then ((record_Record_Live.f 1 2 1 1 1).bind fun t203 => (if t203 = true then (none) else ((record_Word.f 1).bind fun t204 => (if t204.toList = ([115, 117, 115, 112, 101, 99, 116] : List UInt8) then ((record_Right.f 0 0 0 0 0).bind fun t205 => (some (!t205))) else (none))))) else (none))) else (none)) else (none)) else (none)) else (none)) else (none)) else (none))))) else (none)))) else (none)) = some r := H
 have A1 := Aside0.mk A10
 clear A10
 by_cases c2 : t185.size + 1 ≤ 9223372036854775807
 ·rw [if_pos c2] at H
  have c2b0 := eq_true c2
  have c2b1 : decide (t185.size + 1 ≤ 9223372036854775807) = true := decide_eq_true c2
  try have c2b2 : (9223372036854775807 < t185.size + 1) = False := eq_false (Nat.not_lt.2 c2)
  replace H := Option.bind_eq_some_iff.mp H
  obtain ⟨⟨t187, t188, t189, t190, t191, t192, t193⟩, A30, H⟩ := H
  replace H : ((record_Over.f k 1 0 2 1 1 1 2 1 1 1).bind fun t195 => (if t195 = true then ((record_Over.f k 1 2 1 1 1 1 0 2 1 1).bind fun t196 => (if t196 = true then (none) else ((record_Join.f k 1 0 2 1 1 1 2 1 1 1).bind fun bt197 => (if (bt197.1 == 1 && (bt197.2.1 == 0 && (bt197.2.2.1 == 2 && ((bt197.2.2.2.1 == 1 && (bt197.2.2.2.2 == 1)))))) = true then (if t185.toList = ([1, 0, 0, 0, 0, 2, 0, 0, 0, 1, 0, 1] : List UInt8) then (if t186 = true then (if (t187 == 1 && (t188 == 0 && (t189 == 2 && ((t190 == 1 && (t191 == 1)))))) = true then (if t192.toList = ([120] : List UInt8) then (if t193 = true then ((record_Record_Live.f 1 0 2 1 1).bind fun t202 => (if t202 = true then ((record_Record_Live.f 1 2 1 1 1).bind fun t203 => (if t203 = true then (none) else ((record_Word.f 1).bind fun t204 => (if t204.toList = ([115, 117, 115, 112, 101, 99, 116] : List UInt8) then ((record_Right.f 0 0 0 0 0).bind fun t205 => (some (!t205))) else (none))))) else (none))) else (none)) else (none)) else (none)) else (none)) else (none)) else (none))))) else (none))) = some r := H
  have A3 := Aside0.mk A30
  clear A30
  replace H := Option.bind_eq_some_iff.mp H
  obtain ⟨t195, A40, H⟩ := H
  replace H : (if t195 = true then ((record_Over.f k 1 2 1 1 1 1 0 2 1 1).bind fun t196 => (if t196 = true then (none) else ((record_Join.f k 1 0 2 1 1 1 2 1 1 1).bind fun bt197 => (if (bt197.1 == 1 && (bt197.2.1 == 0 && (bt197.2.2.1 == 2 && ((bt197.2.2.2.1 == 1 && (bt197.2.2.2.2 == 1)))))) = true then (if t185.toList = ([1, 0, 0, 0, 0, 2, 0, 0, 0, 1, 0, 1] : List UInt8) then (if t186 = true then (if (t187 == 1 && (t188 == 0 && (t189 == 2 && ((t190 == 1 && (t191 == 1)))))) = true then (if t192.toList = ([120] : List UInt8) then (if t193 = true then ((record_Record_Live.f 1 0 2 1 1).bind fun t202 => (if t202 = true then ((record_Record_Live.f 1 2 1 1 1).bind fun t203 => (if t203 = true then (none) else ((record_Word.f 1).bind fun t204 => (if t204.toList = ([115, 117, 115, 112, 101, 99, 116] : List UInt8) then ((record_Right.f 0 0 0 0 0).bind fun t205 => (some (!t205))) else (none))))) else (none))) else (none)) else (none)) else (none)) else (none)) else (none)) else (none))))) else (none)) = some r := H
  have A4 := Aside0.mk A40
  clear A40
  by_cases c5 : t195 = true
  ·(first | subst c5 | clear c5)
   have H1 : ((record_Over.f k 1 2 1 1 1 1 0 2 1 1).bind fun t196 => (if t196 = true then (none) else ((record_Join.f k 1 0 2 1 1 1 2 1 1 1).bind fun bt197 => (if (bt197.1 == 1 && (bt197.2.1 == 0 && (bt197.2.2.1 == 2 && ((bt197.2.2.2.1 == 1 && (bt197.2.2.2.2 == 1)))))) = true then (if t185.toList = ([1, 0, 0, 0, 0, 2, 0, 0, 0, 1, 0, 1] : List UInt8) then (if t186 = true then (if (t187 == 1 && (t188 == 0 && (t189 == 2 && ((t190 == 1 && (t191 == 1)))))) = true then (if t192.toList = ([120] : List UInt8) then (if t193 = true then ((record_Record_Live.f 1 0 2 1 1).bind fun t202 => (if t202 = true then ((record_Record_Live.f 1 2 1 1 1).bind fun t203 => (if t203 = true then (none) else ((record_Word.f 1).bind fun t204 => (if t204.toList = ([115, 117, 115, 112, 101, 99, 116] : List UInt8) then ((record_Right.f 0 0 0 0 0).bind fun t205 => (some (!t205))) else (none))))) else (none))) else (none)) else (none)) else (none)) else (none)) else (none)) else (none))))) = some r := by first | (rw [if_pos rfl] at H; exact H) | (rw [if_pos trivial] at H; exact H)
   clear H
   have H := H1
   clear H1
   replace H := Option.bind_eq_some_iff.mp H
   obtain ⟨t196, A60, H⟩ := H
   replace H : (if t196 = true then (none) else ((record_Join.f k 1 0 2 1 1 1 2 1 1 1).bind fun bt197 => (if (bt197.1 == 1 && (bt197.2.1 == 0 && (bt197.2.2.1 == 2 && ((bt197.2.2.2.1 == 1 && (bt197.2.2.2.2 == 1)))))) = true then (if t185.toList = ([1, 0, 0, 0, 0, 2, 0, 0, 0, 1, 0, 1] : List UInt8) then (if t186 = true then (if (t187 == 1 && (t188 == 0 && (t189 == 2 && ((t190 == 1 && (t191 == 1)))))) = true then (if t192.toList = ([120] : List UInt8) then (if t193 = true then ((record_Record_Live.f 1 0 2 1 1).bind fun t202 => (if t202 = true then ((record_Record_Live.f 1 2 1 1 1).bind fun t203 => (if t203 = true then (none) else ((record_Word.f 1).bind fun t204 => (if t204.toList = ([115, 117, 115, 112, 101, 99, 116] : List UInt8) then ((record_Right.f 0 0 0 0 0).bind fun t205 => (some (!t205))) else (none))))) else (none))) else (none)) else (none)) else (none)) else (none)) else (none)) else (none)))) = some r := H
   have A6 := Aside0.mk A60
   clear A60
   by_cases c7 : t196 = true
   ·(first | subst c7 | clear c7)
    have H1 : (none) = some r := by first | (rw [if_pos rfl] at H; exact H) | (rw [if_pos trivial] at H; exact H)
    clear H
    have H := H1
    clear H1
    exact absurd H (by simp)
   ·replace c7 := Bool.eq_false_iff.mpr c7
    (first | subst c7 | clear c7)
    have H1 : ((record_Join.f k 1 0 2 1 1 1 2 1 1 1).bind fun bt197 => (if (bt197.1 == 1 && (bt197.2.1 == 0 && (bt197.2.2.1 == 2 && ((bt197.2.2.2.1 == 1 && (bt197.2.2.2.2 == 1)))))) = true then (if t185.toList = ([1, 0, 0, 0, 0, 2, 0, 0, 0, 1, 0, 1] : List UInt8) then (if t186 = true then (if (t187 == 1 && (t188 == 0 && (t189 == 2 && ((t190 == 1 && (t191 == 1)))))) = true then (if t192.toList = ([120] : List UInt8) then (if t193 = true then ((record_Record_Live.f 1 0 2 1 1).bind fun t202 => (if t202 = true then ((record_Record_Live.f 1 2 1 1 1).bind fun t203 => (if t203 = true then (none) else ((record_Word.f 1).bind fun t204 => (if t204.toList = ([115, 117, 115, 112, 101, 99, 116] : List UInt8) then ((record_Right.f 0 0 0 0 0).bind fun t205 => (some (!t205))) else (none))))) else (none))) else (none)) else (none)) else (none)) else (none)) else (none)) else (none))) = some r := by rw [if_neg (show ¬ (false = true) by decide)] at H; exact H
    clear H
    have H := H1
    clear H1
    replace H := Option.bind_eq_some_iff.mp H
    obtain ⟨⟨t197, t198, t199, t200, t201⟩, A80, H⟩ := H
    replace H : (if (t197 == 1 && (t198 == 0 && (t199 == 2 && ((t200 == 1 && (t201 == 1)))))) = true then (if t185.toList = ([1, 0, 0, 0, 0, 2, 0, 0, 0, 1, 0, 1] : List UInt8) then (if t186 = true then (if (t187 == 1 && (t188 == 0 && (t189 == 2 && ((t190 == 1 && (t191 == 1)))))) = true then (if t192.toList = ([120] : List UInt8) then (if t193 = true then ((record_Record_Live.f 1 0 2 1 1).bind fun t202 => (if t202 = true then ((record_Record_Live.f 1 2 1 1 1).bind fun t203 => (if t203 = true then (none) else ((record_Word.f 1).bind fun t204 => (if t204.toList = ([115, 117, 115, 112, 101, 99, 116] : List UInt8) then ((record_Right.f 0 0 0 0 0).bind fun t205 => (some (!t205))) else (none))))) else (none))) else (none)) else (none)) else (none)) else (none)) else (none)) else (none)) = some r := H
    have A8 := Aside0.mk A80
    clear A80
    by_cases c9 : (t197 == 1 && (t198 == 0 && (t199 == 2 && ((t200 == 1 && (t201 == 1)))))) = true
    ·rw [if_pos c9] at H
     have c9b0 : (t197 == 1 && (t198 == 0 && (t199 == 2 && ((t200 == 1 && (t201 == 1)))))) = true := c9
     (try (have c9b1 : decide (t197 = 1 && (t198 == 0 && (t199 == 2 && ((t200 == 1 && (t201 == 1)))))) = true := by simpa using c9))
     (try (have c9b2 : (t197 == 1 && (t198 == 0 && (t199 == 2 && ((t200 == 1 && (t201 == 1)))))) = true := by simpa using c9))
     clear c9
     by_cases c10 : t185.toList = ([1, 0, 0, 0, 0, 2, 0, 0, 0, 1, 0, 1] : List UInt8)
     ·rw [if_pos c10] at H
      have c10b0 : (t185.toList == ([1, 0, 0, 0, 0, 2, 0, 0, 0, 1, 0, 1] : List UInt8)) = true := beq_iff_eq.mpr c10
      have c10b1 : (t185.toList != ([1, 0, 0, 0, 0, 2, 0, 0, 0, 1, 0, 1] : List UInt8)) = false := bne_eq_false_iff_eq.mpr c10
      clear c10
      by_cases c11 : t186 = true
      ·(first | subst c11 | clear c11)
       have H1 : (if (t187 == 1 && (t188 == 0 && (t189 == 2 && ((t190 == 1 && (t191 == 1)))))) = true then (if t192.toList = ([120] : List UInt8) then (if t193 = true then ((record_Record_Live.f 1 0 2 1 1).bind fun t202 => (if t202 = true then ((record_Record_Live.f 1 2 1 1 1).bind fun t203 => (if t203 = true then (none) else ((record_Word.f 1).bind fun t204 => (if t204.toList = ([115, 117, 115, 112, 101, 99, 116] : List UInt8) then ((record_Right.f 0 0 0 0 0).bind fun t205 => (some (!t205))) else (none))))) else (none))) else (none)) else (none)) else (none)) = some r := by first | (rw [if_pos rfl] at H; exact H) | (rw [if_pos trivial] at H; exact H)
       clear H
       have H := H1
       clear H1
       by_cases c12 : (t187 == 1 && (t188 == 0 && (t189 == 2 && ((t190 == 1 && (t191 == 1)))))) = true
       ·rw [if_pos c12] at H
        have c12b0 : (t187 == 1 && (t188 == 0 && (t189 == 2 && ((t190 == 1 && (t191 == 1)))))) = true := c12
        (try (have c12b1 : decide (t187 = 1 && (t188 == 0 && (t189 == 2 && ((t190 == 1 && (t191 == 1)))))) = true := by simpa using c12))
        (try (have c12b2 : (t187 == 1 && (t188 == 0 && (t189 == 2 && ((t190 == 1 && (t191 == 1)))))) = true := by simpa using c12))
        clear c12
        by_cases c13 : t192.toList = ([120] : List UInt8)
        ·rw [if_pos c13] at H
         have c13b0 : (t192.toList == ([120] : List UInt8)) = true := beq_iff_eq.mpr c13
         have c13b1 : (t192.toList != ([120] : List UInt8)) = false := bne_eq_false_iff_eq.mpr c13
         clear c13
         by_cases c14 : t193 = true
         ·(first | subst c14 | clear c14)
          have H1 : ((record_Record_Live.f 1 0 2 1 1).bind fun t202 => (if t202 = true then ((record_Record_Live.f 1 2 1 1 1).bind fun t203 => (if t203 = true then (none) else ((record_Word.f 1).bind fun t204 => (if t204.toList = ([115, 117, 115, 112, 101, 99, 116] : List UInt8) then ((record_Right.f 0 0 0 0 0).bind fun t205 => (some (!t205))) else (none))))) else (none))) = some r := by first | (rw [if_pos rfl] at H; exact H) | (rw [if_pos trivial] at H; exact H)
          clear H
          have H := H1
          clear H1
          replace H := Option.bind_eq_some_iff.mp H
          obtain ⟨t202, A150, H⟩ := H
          replace H : (if t202 = true then ((record_Record_Live.f 1 2 1 1 1).bind fun t203 => (if t203 = true then (none) else ((record_Word.f 1).bind fun t204 => (if t204.toList = ([115, 117, 115, 112, 101, 99, 116] : List UInt8) then ((record_Right.f 0 0 0 0 0).bind fun t205 => (some (!t205))) else (none))))) else (none)) = some r := H
          have A15 := Aside0.mk A150
          clear A150
          by_cases c16 : t202 = true
          ·(first | subst c16 | clear c16)
           have H1 : ((record_Record_Live.f 1 2 1 1 1).bind fun t203 => (if t203 = true then (none) else ((record_Word.f 1).bind fun t204 => (if t204.toList = ([115, 117, 115, 112, 101, 99, 116] : List UInt8) then ((record_Right.f 0 0 0 0 0).bind fun t205 => (some (!t205))) else (none))))) = some r := by first | (rw [if_pos rfl] at H; exact H) | (rw [if_pos trivial] at H; exact H)
           clear H
           have H := H1
           clear H1
           replace H := Option.bind_eq_some_iff.mp H
           obtain ⟨t203, A170, H⟩ := H
           replace H : (if t203 = true then (none) else ((record_Word.f 1).bind fun t204 => (if t204.toList = ([115, 117, 115, 112, 101, 99, 116] : List UInt8) then ((record_Right.f 0 0 0 0 0).bind fun t205 => (some (!t205))) else (none)))) = some r := H
           have A17 := Aside0.mk A170
           clear A170
           by_cases c18 : t203 = true
           ·(first | subst c18 | clear c18)
            have H1 : (none) = some r := by first | (rw [if_pos rfl] at H; exact H) | (rw [if_pos trivial] at H; exact H)
            clear H
            have H := H1
            clear H1
            exact absurd H (by simp)
           ·replace c18 := Bool.eq_false_iff.mpr c18
            (first | subst c18 | clear c18)
            have H1 : ((record_Word.f 1).bind fun t204 => (if t204.toList = ([115, 117, 115, 112, 101, 99, 116] : List UInt8) then ((record_Right.f 0 0 0 0 0).bind fun t205 => (some (!t205))) else (none))) = some r := by rw [if_neg (show ¬ (false = true) by decide)] at H; exact H
            clear H
            have H := H1
            clear H1
            replace H := Option.bind_eq_some_iff.mp H
            obtain ⟨t204, A190, H⟩ := H
            replace H : (if t204.toList = ([115, 117, 115, 112, 101, 99, 116] : List UInt8) then ((record_Right.f 0 0 0 0 0).bind fun t205 => (some (!t205))) else (none)) = some r := H
            have A19 := Aside0.mk A190
            clear A190
            by_cases c20 : t204.toList = ([115, 117, 115, 112, 101, 99, 116] : List UInt8)
            ·rw [if_pos c20] at H
             have c20b0 : (t204.toList == ([115, 117, 115, 112, 101, 99, 116] : List UInt8)) = true := beq_iff_eq.mpr c20
             have c20b1 : (t204.toList != ([115, 117, 115, 112, 101, 99, 116] : List UInt8)) = false := bne_eq_false_iff_eq.mpr c20
             clear c20
             replace H := Option.bind_eq_some_iff.mp H
             obtain ⟨t205, A210, H⟩ := H
             replace H : (some (!t205)) = some r := H
             have A21 := Aside0.mk A210
             clear A210
             obtain rfl := Option.some.inj H
             go_enter Try.func9, Try.ntmps9
             try go_wp2_with (first | ((with_reducible refine gate_dst (N := 1) rfl ?_); refine box_event ?hg (N := 1) ?hd (cs := #[.int .i64 0, .int .i64 0, .int .u32 0, .int .u32 0, .int .u16 0]) (t := 27) ?hr ?_; (case hd => rfl); (case hg => rfl); (case hr => first | (go_simp; done) | (go_simp; rfl)); intro gb183 hg w22 hbox hb; have n0_ := Aside0.mk (below_step (by repeat (first | (with_reducible first | exact HB.out | apply below_alloc | apply pw_below_drewN | apply below_drew1) | exact HB.out)) hb); have n1_ := Aside0.mk (hbox); have n2_ := Aside0.mk ((by rw [hg]; exact (below_size (by repeat (first | (with_reducible first | exact HB.out | apply below_alloc | apply pw_below_drewN | apply below_drew1) | exact HB.out))) : w.heap.size ≤ gb183)); have n3_ := Aside0.mk ((by rw [hg]; exact (below_size (by repeat (first | (with_reducible first | exact HB.out | apply below_alloc | apply pw_below_drewN | apply below_drew1) | exact HB.out))) : w.heap.size ≤ gb183)); clear HB; have HB := n0_; have BK183 := n1_; have GW183 := n2_; have GE183 := n3_; clear n0_ n1_ n2_ n3_; clear hb hbox hg; have hcz23_0 : w22.cell? ⟨gb183, 0, none⟩ = some (.int .i64 0) := (blk_cell BK183.out 0).trans rfl; have hcz23_1 : w22.cell? ⟨gb183, 1, none⟩ = some (.int .i64 0) := (blk_cell BK183.out 1).trans rfl; have hcz23_2 : w22.cell? ⟨gb183, 2, none⟩ = some (.int .u32 0) := (blk_cell BK183.out 2).trans rfl; have hcz23_3 : w22.cell? ⟨gb183, 3, none⟩ = some (.int .u32 0) := (blk_cell BK183.out 3).trans rfl; have hcz23_4 : w22.cell? ⟨gb183, 4, none⟩ = some (.int .u16 0) := (blk_cell BK183.out 4).trans rfl; have hfz23_0 := blk_frozen BK183.out 0; have hfz23_1 := blk_frozen BK183.out 1; have hfz23_2 := blk_frozen BK183.out 2; have hfz23_3 := blk_frozen BK183.out 3; have hfz23_4 := blk_frozen BK183.out 4) | ((with_reducible refine gate_dst (N := 2) rfl ?_); refine box_event ?hg (N := 2) ?hd (cs := #[.int .i64 0, .int .i64 0, .int .u32 0, .int .u32 0, .int .u16 0]) (t := 27) ?hr ?_; (case hd => rfl); (case hg => rfl); (case hr => first | (go_simp; done) | (go_simp; rfl)); intro gb184 hg w24 hbox hb; have n0_ := Aside0.mk (blk_below (g := gb183) (o := .cells #[.int .i64 1, .int .i64 0, .int .u32 2, .int .u32 1, .int .u16 1] 27 (0, 0)) (by (with_reducible repeat (first | refine blk_drewN ?_ _ | refine blk_drew ?_ | refine blk_alloc ?_ _)); refine blk_put (cs := #[.int .i64 1, .int .i64 0, .int .u32 2, .int .u32 1, .int .u16 0]) ?_ 4 _ rfl; (with_reducible repeat (first | refine blk_drewN ?_ _ | refine blk_drew ?_ | refine blk_alloc ?_ _)); refine blk_put (cs := #[.int .i64 1, .int .i64 0, .int .u32 2, .int .u32 0, .int .u16 0]) ?_ 3 _ rfl; (with_reducible repeat (first | refine blk_drewN ?_ _ | refine blk_drew ?_ | refine blk_alloc ?_ _)); refine blk_put (cs := #[.int .i64 1, .int .i64 0, .int .u32 0, .int .u32 0, .int .u16 0]) ?_ 2 _ rfl; (with_reducible repeat (first | refine blk_drewN ?_ _ | refine blk_drew ?_ | refine blk_alloc ?_ _)); refine blk_put (cs := #[.int .i64 1, .int .i64 0, .int .u32 0, .int .u32 0, .int .u16 0]) ?_ 1 _ rfl; (with_reducible repeat (first | refine blk_drewN ?_ _ | refine blk_drew ?_ | refine blk_alloc ?_ _)); refine blk_put (cs := #[.int .i64 0, .int .i64 0, .int .u32 0, .int .u32 0, .int .u16 0]) ?_ 0 _ rfl; (with_reducible repeat (first | refine blk_drewN ?_ _ | refine blk_drew ?_ | refine blk_alloc ?_ _)); exact BK183.out) hb); have n1_ := Aside0.mk (below_step (by repeat (first | (with_reducible first | exact HB.out | apply below_alloc | apply pw_below_drewN | apply below_drew1 | refine below_set ?_ GE183.out) | exact HB.out)) hb); have n2_ := Aside0.mk (hbox); have n3_ := Aside0.mk ((by rw [hg]; exact (below_size (by repeat (first | (with_reducible first | exact HB.out | apply below_alloc | apply pw_below_drewN | apply below_drew1 | refine below_set ?_ GE183.out) | exact HB.out))) : w.heap.size ≤ gb184)); have n4_ := Aside0.mk ((by rw [hg]; exact (below_size (by repeat (first | (with_reducible first | exact HB.out | apply below_alloc | apply pw_below_drewN | apply below_drew1 | refine below_set ?_ GE183.out) | exact HB.out))) : w.heap.size ≤ gb184)); have n5_ := Aside0.mk ((by rw [hg]; exact Nat.ne_of_lt (blk_lt (g := gb183) (o := .cells #[.int .i64 1, .int .i64 0, .int .u32 2, .int .u32 1, .int .u16 1] 27 (0, 0)) (by (with_reducible repeat (first | refine blk_drewN ?_ _ | refine blk_drew ?_ | refine blk_alloc ?_ _)); refine blk_put (cs := #[.int .i64 1, .int .i64 0, .int .u32 2, .int .u32 1, .int .u16 0]) ?_ 4 _ rfl; (with_reducible repeat (first | refine blk_drewN ?_ _ | refine blk_drew ?_ | refine blk_alloc ?_ _)); refine blk_put (cs := #[.int .i64 1, .int .i64 0, .int .u32 2, .int .u32 0, .int .u16 0]) ?_ 3 _ rfl; (with_reducible repeat (first | refine blk_drewN ?_ _ | refine blk_drew ?_ | refine blk_alloc ?_ _)); refine blk_put (cs := #[.int .i64 1, .int .i64 0, .int .u32 0, .int .u32 0, .int .u16 0]) ?_ 2 _ rfl; (with_reducible repeat (first | refine blk_drewN ?_ _ | refine blk_drew ?_ | refine blk_alloc ?_ _)); refine blk_put (cs := #[.int .i64 1, .int .i64 0, .int .u32 0, .int .u32 0, .int .u16 0]) ?_ 1 _ rfl; (with_reducible repeat (first | refine blk_drewN ?_ _ | refine blk_drew ?_ | refine blk_alloc ?_ _)); refine blk_put (cs := #[.int .i64 0, .int .i64 0, .int .u32 0, .int .u32 0, .int .u16 0]) ?_ 0 _ rfl; (with_reducible repeat (first | refine blk_drewN ?_ _ | refine blk_drew ?_ | refine blk_alloc ?_ _)); exact BK183.out)) : gb183 ≠ gb184)); have n6_ := Aside0.mk ((by rw [hg]; exact Nat.ne_of_gt (blk_lt (g := gb183) (o := .cells #[.int .i64 1, .int .i64 0, .int .u32 2, .int .u32 1, .int .u16 1] 27 (0, 0)) (by (with_reducible repeat (first | refine blk_drewN ?_ _ | refine blk_drew ?_ | refine blk_alloc ?_ _)); refine blk_put (cs := #[.int .i64 1, .int .i64 0, .int .u32 2, .int .u32 1, .int .u16 0]) ?_ 4 _ rfl; (with_reducible repeat (first | refine blk_drewN ?_ _ | refine blk_drew ?_ | refine blk_alloc ?_ _)); refine blk_put (cs := #[.int .i64 1, .int .i64 0, .int .u32 2, .int .u32 0, .int .u16 0]) ?_ 3 _ rfl; (with_reducible repeat (first | refine blk_drewN ?_ _ | refine blk_drew ?_ | refine blk_alloc ?_ _)); refine blk_put (cs := #[.int .i64 1, .int .i64 0, .int .u32 0, .int .u32 0, .int .u16 0]) ?_ 2 _ rfl; (with_reducible repeat (first | refine blk_drewN ?_ _ | refine blk_drew ?_ | refine blk_alloc ?_ _)); refine blk_put (cs := #[.int .i64 1, .int .i64 0, .int .u32 0, .int .u32 0, .int .u16 0]) ?_ 1 _ rfl; (with_reducible repeat (first | refine blk_drewN ?_ _ | refine blk_drew ?_ | refine blk_alloc ?_ _)); refine blk_put (cs := #[.int .i64 0, .int .i64 0, .int .u32 0, .int .u32 0, .int .u16 0]) ?_ 0 _ rfl; (with_reducible repeat (first | refine blk_drewN ?_ _ | refine blk_drew ?_ | refine blk_alloc ?_ _)); exact BK183.out)) : gb184 ≠ gb183)); clear BK183; clear HB; have BK183 := n0_; have HB := n1_; have BK184 := n2_; have GW184 := n3_; have GE184 := n4_; have NB183_184 := n5_; have NB184_183 := n6_; clear n0_ n1_ n2_ n3_ n4_ n5_ n6_; clear hb hbox hg; have hnb25 := NB184_183.out; have hnc25 := NB183_184.out; have hcz26_0 : w24.cell? ⟨gb184, 0, none⟩ = some (.int .i64 0) := (blk_cell BK184.out 0).trans rfl; have hcz26_1 : w24.cell? ⟨gb184, 1, none⟩ = some (.int .i64 0) := (blk_cell BK184.out 1).trans rfl; have hcz26_2 : w24.cell? ⟨gb184, 2, none⟩ = some (.int .u32 0) := (blk_cell BK184.out 2).trans rfl; have hcz26_3 : w24.cell? ⟨gb184, 3, none⟩ = some (.int .u32 0) := (blk_cell BK184.out 3).trans rfl; have hcz26_4 : w24.cell? ⟨gb184, 4, none⟩ = some (.int .u16 0) := (blk_cell BK184.out 4).trans rfl; have hfz26_0 := blk_frozen BK184.out 0; have hfz26_1 := blk_frozen BK184.out 1; have hfz26_2 := blk_frozen BK184.out 2; have hfz26_3 := blk_frozen BK184.out 3; have hfz26_4 := blk_frozen BK184.out 4; have hcz27_0 : w24.cell? ⟨gb183, 0, none⟩ = some (.int .i64 1) := (blk_cell BK183.out 0).trans rfl; have hcz27_1 : w24.cell? ⟨gb183, 1, none⟩ = some (.int .i64 0) := (blk_cell BK183.out 1).trans rfl; have hcz27_2 : w24.cell? ⟨gb183, 2, none⟩ = some (.int .u32 2) := (blk_cell BK183.out 2).trans rfl; have hcz27_3 : w24.cell? ⟨gb183, 3, none⟩ = some (.int .u32 1) := (blk_cell BK183.out 3).trans rfl; have hcz27_4 : w24.cell? ⟨gb183, 4, none⟩ = some (.int .u16 1) := (blk_cell BK183.out 4).trans rfl; have hfz27_0 := blk_frozen BK183.out 0; have hfz27_1 := blk_frozen BK183.out 1; have hfz27_2 := blk_frozen BK183.out 2; have hfz27_3 := blk_frozen BK183.out 3; have hfz27_4 := blk_frozen BK183.out 4) | ((with_reducible refine gate_callee (f := 12) rfl ?_); refine goesL_ (some 14) rfl rfl Try.func12 (by kernel_rfl) rfl #[.agg #[.int .i64 1, .int .i64 0, .int .u32 2, .int .u32 1, .int .u16 1]] rfl (by (try simp only [List.map_toArray, List.map_cons, List.map_nil]); first | done | rfl | (simp only [List.length_drop, List.length_take]; rfl)) ?_; (with_reducible refine (record_Record_Put.calls 1 0 2 1 1 t185 true _ A1.out).mono ?_); rintro e w28 ⟨rfl, hb⟩; refine ⟨_, rfl, ?_⟩; have n0_ := Aside0.mk (blk_below (g := gb183) (o := .cells #[.int .i64 1, .int .i64 0, .int .u32 2, .int .u32 1, .int .u16 1] 27 (0, 0)) (by (with_reducible repeat (first | refine blk_drewN ?_ _ | refine blk_drew ?_ | refine blk_alloc ?_ _)); refine blk_far ?_ NB183_184.out _; (with_reducible repeat (first | refine blk_drewN ?_ _ | refine blk_drew ?_ | refine blk_alloc ?_ _)); refine blk_far ?_ NB183_184.out _; (with_reducible repeat (first | refine blk_drewN ?_ _ | refine blk_drew ?_ | refine blk_alloc ?_ _)); refine blk_far ?_ NB183_184.out _; (with_reducible repeat (first | refine blk_drewN ?_ _ | refine blk_drew ?_ | refine blk_alloc ?_ _)); refine blk_far ?_ NB183_184.out _; (with_reducible repeat (first | refine blk_drewN ?_ _ | refine blk_drew ?_ | refine blk_alloc ?_ _)); refine blk_far ?_ NB183_184.out _; (with_reducible repeat (first | refine blk_drewN ?_ _ | refine blk_drew ?_ | refine blk_alloc ?_ _)); exact BK183.out) hb); have n1_ := Aside0.mk (blk_below (g := gb184) (o := .cells #[.int .i64 1, .int .i64 2, .int .u32 1, .int .u32 1, .int .u16 1] 27 (0, 0)) (by (with_reducible repeat (first | refine blk_drewN ?_ _ | refine blk_drew ?_ | refine blk_alloc ?_ _)); refine blk_put (cs := #[.int .i64 1, .int .i64 2, .int .u32 1, .int .u32 1, .int .u16 0]) ?_ 4 _ rfl; (with_reducible repeat (first | refine blk_drewN ?_ _ | refine blk_drew ?_ | refine blk_alloc ?_ _)); refine blk_put (cs := #[.int .i64 1, .int .i64 2, .int .u32 1, .int .u32 0, .int .u16 0]) ?_ 3 _ rfl; (with_reducible repeat (first | refine blk_drewN ?_ _ | refine blk_drew ?_ | refine blk_alloc ?_ _)); refine blk_put (cs := #[.int .i64 1, .int .i64 2, .int .u32 0, .int .u32 0, .int .u16 0]) ?_ 2 _ rfl; (with_reducible repeat (first | refine blk_drewN ?_ _ | refine blk_drew ?_ | refine blk_alloc ?_ _)); refine blk_put (cs := #[.int .i64 1, .int .i64 0, .int .u32 0, .int .u32 0, .int .u16 0]) ?_ 1 _ rfl; (with_reducible repeat (first | refine blk_drewN ?_ _ | refine blk_drew ?_ | refine blk_alloc ?_ _)); refine blk_put (cs := #[.int .i64 0, .int .i64 0, .int .u32 0, .int .u32 0, .int .u16 0]) ?_ 0 _ rfl; (with_reducible repeat (first | refine blk_drewN ?_ _ | refine blk_drew ?_ | refine blk_alloc ?_ _)); exact BK184.out) hb); have n2_ := Aside0.mk (below_step (by repeat (first | (with_reducible first | exact HB.out | apply below_alloc | apply pw_below_drewN | apply below_drew1 | refine below_set ?_ GE183.out | refine below_set ?_ GE184.out) | exact HB.out)) hb); clear BK183; clear BK184; clear HB; have BK183 := n0_; have BK184 := n1_; have HB := n2_; clear n0_ n1_ n2_; (try clear hb); (try clear hb2); (try clear hk); (try clear hi)) | ((with_reducible refine gate_callee (f := 27) rfl ?_); refine goesL_ (some 20) rfl rfl Try.func27 (by kernel_rfl) rfl #[.string (t185 ++ (⟨#[120]⟩ : ByteArray))] rfl (by (try simp only [List.map_toArray, List.map_cons, List.map_nil]); first | done | rfl | (simp only [List.length_drop, List.length_take]; rfl)) ?_; (with_reducible refine (record_Get.calls k (t185 ++ (⟨#[120]⟩ : ByteArray)) t187 t188 t189 t190 t191 t192 true _ A3.out).mono ?_); rintro e w29 ⟨rfl, hb⟩; refine ⟨_, rfl, ?_⟩; have n0_ := Aside0.mk (blk_below (g := gb183) (o := .cells #[.int .i64 1, .int .i64 0, .int .u32 2, .int .u32 1, .int .u16 1] 27 (0, 0)) (by (with_reducible repeat (first | refine blk_drewN ?_ _ | refine blk_drew ?_ | refine blk_alloc ?_ _)); exact BK183.out) hb); have n1_ := Aside0.mk (blk_below (g := gb184) (o := .cells #[.int .i64 1, .int .i64 2, .int .u32 1, .int .u32 1, .int .u16 1] 27 (0, 0)) (by (with_reducible repeat (first | refine blk_drewN ?_ _ | refine blk_drew ?_ | refine blk_alloc ?_ _)); exact BK184.out) hb); have n2_ := Aside0.mk (below_step (by repeat (first | (with_reducible first | exact HB.out | apply below_alloc | apply pw_below_drewN | apply below_drew1 | refine below_set ?_ GE183.out | refine below_set ?_ GE184.out) | exact HB.out)) hb); clear BK183; clear BK184; clear HB; have BK183 := n0_; have BK184 := n1_; have HB := n2_; clear n0_ n1_ n2_; (try clear hb); (try clear hb2); (try clear hk); (try clear hi)) | ((with_reducible refine gate_dst (N := 5) rfl ?_); refine box_event ?hg (N := 5) ?hd (cs := #[.int .i64 0, .int .i64 0, .int .u32 0, .int .u32 0, .int .u16 0]) (t := 27) ?hr ?_; (case hd => rfl); (case hg => rfl); (case hr => first | (go_simp; done) | (go_simp; rfl)); intro gb194 hg w30 hbox hb; have n0_ := Aside0.mk (blk_below (g := gb183) (o := .cells #[.int .i64 1, .int .i64 0, .int .u32 2, .int .u32 1, .int .u16 1] 27 (0, 0)) (by (with_reducible repeat (first | refine blk_drewN ?_ _ | refine blk_drew ?_ | refine blk_alloc ?_ _)); exact BK183.out) hb); have n1_ := Aside0.mk (blk_below (g := gb184) (o := .cells #[.int .i64 1, .int .i64 2, .int .u32 1, .int .u32 1, .int .u16 1] 27 (0, 0)) (by (with_reducible repeat (first | refine blk_drewN ?_ _ | refine blk_drew ?_ | refine blk_alloc ?_ _)); exact BK184.out) hb); have n2_ := Aside0.mk (below_step (by repeat (first | (with_reducible first | exact HB.out | apply below_alloc | apply pw_below_drewN | apply below_drew1 | refine below_set ?_ GE183.out | refine below_set ?_ GE184.out) | exact HB.out)) hb); have n3_ := Aside0.mk (hbox); have n4_ := Aside0.mk ((by rw [hg]; exact (below_size (by repeat (first | (with_reducible first | exact HB.out | apply below_alloc | apply pw_below_drewN | apply below_drew1 | refine below_set ?_ GE183.out | refine below_set ?_ GE184.out) | exact HB.out))) : w.heap.size ≤ gb194)); have n5_ := Aside0.mk ((by rw [hg]; exact (below_size (by repeat (first | (with_reducible first | exact HB.out | apply below_alloc | apply pw_below_drewN | apply below_drew1 | refine below_set ?_ GE183.out | refine below_set ?_ GE184.out) | exact HB.out))) : w.heap.size ≤ gb194)); have n6_ := Aside0.mk ((by rw [hg]; exact Nat.ne_of_lt (blk_lt (g := gb183) (o := .cells #[.int .i64 1, .int .i64 0, .int .u32 2, .int .u32 1, .int .u16 1] 27 (0, 0)) (by (with_reducible repeat (first | refine blk_drewN ?_ _ | refine blk_drew ?_ | refine blk_alloc ?_ _)); exact BK183.out)) : gb183 ≠ gb194)); have n7_ := Aside0.mk ((by rw [hg]; exact Nat.ne_of_gt (blk_lt (g := gb183) (o := .cells #[.int .i64 1, .int .i64 0, .int .u32 2, .int .u32 1, .int .u16 1] 27 (0, 0)) (by (with_reducible repeat (first | refine blk_drewN ?_ _ | refine blk_drew ?_ | refine blk_alloc ?_ _)); exact BK183.out)) : gb194 ≠ gb183)); have n8_ := Aside0.mk ((by rw [hg]; exact Nat.ne_of_lt (blk_lt (g := gb184) (o := .cells #[.int .i64 1, .int .i64 2, .int .u32 1, .int .u32 1, .int .u16 1] 27 (0, 0)) (by (with_reducible repeat (first | refine blk_drewN ?_ _ | refine blk_drew ?_ | refine blk_alloc ?_ _)); exact BK184.out)) : gb184 ≠ gb194)); have n9_ := Aside0.mk ((by rw [hg]; exact Nat.ne_of_gt (blk_lt (g := gb184) (o := .cells #[.int .i64 1, .int .i64 2, .int .u32 1, .int .u32 1, .int .u16 1] 27 (0, 0)) (by (with_reducible repeat (first | refine blk_drewN ?_ _ | refine blk_drew ?_ | refine blk_alloc ?_ _)); exact BK184.out)) : gb194 ≠ gb184)); clear BK183; clear BK184; clear HB; have BK183 := n0_; have BK184 := n1_; have HB := n2_; have BK194 := n3_; have GW194 := n4_; have GE194 := n5_; have NB183_194 := n6_; have NB194_183 := n7_; have NB184_194 := n8_; have NB194_184 := n9_; clear n0_ n1_ n2_ n3_ n4_ n5_ n6_ n7_ n8_ n9_; clear hb hbox hg; have hnb31 := NB194_183.out; have hnc31 := NB183_194.out; have hnb32 := NB194_184.out; have hnc32 := NB184_194.out; have hcz33_0 : w30.cell? ⟨gb194, 0, none⟩ = some (.int .i64 0) := (blk_cell BK194.out 0).trans rfl; have hcz33_1 : w30.cell? ⟨gb194, 1, none⟩ = some (.int .i64 0) := (blk_cell BK194.out 1).trans rfl; have hcz33_2 : w30.cell? ⟨gb194, 2, none⟩ = some (.int .u32 0) := (blk_cell BK194.out 2).trans rfl; have hcz33_3 : w30.cell? ⟨gb194, 3, none⟩ = some (.int .u32 0) := (blk_cell BK194.out 3).trans rfl; have hcz33_4 : w30.cell? ⟨gb194, 4, none⟩ = some (.int .u16 0) := (blk_cell BK194.out 4).trans rfl; have hfz33_0 := blk_frozen BK194.out 0; have hfz33_1 := blk_frozen BK194.out 1; have hfz33_2 := blk_frozen BK194.out 2; have hfz33_3 := blk_frozen BK194.out 3; have hfz33_4 := blk_frozen BK194.out 4))
             have n0_ : Aside0 ((((((w30.setCell ⟨gb194, 0, none⟩ (.int .i64 t187)).setCell ⟨gb194, 1, none⟩ (.int .i64 t188)).setCell ⟨gb194, 2, none⟩ (.int .u32 t189)).setCell ⟨gb194, 3, none⟩ (.int .u32 t190)).setCell ⟨gb194, 4, none⟩ (.int .u16 t191)).heap[gb183]? = some (.cells #[.int .i64 1, .int .i64 0, .int .u32 2, .int .u32 1, .int .u16 1] 27 (0, 0))) := ⟨by (with_reducible repeat (first | refine blk_drewN ?_ _ | refine blk_drew ?_ | refine blk_alloc ?_ _)); refine blk_far ?_ NB183_194.out _; (with_reducible repeat (first | refine blk_drewN ?_ _ | refine blk_drew ?_ | refine blk_alloc ?_ _)); refine blk_far ?_ NB183_194.out _; (with_reducible repeat (first | refine blk_drewN ?_ _ | refine blk_drew ?_ | refine blk_alloc ?_ _)); refine blk_far ?_ NB183_194.out _; (with_reducible repeat (first | refine blk_drewN ?_ _ | refine blk_drew ?_ | refine blk_alloc ?_ _)); refine blk_far ?_ NB183_194.out _; (with_reducible repeat (first | refine blk_drewN ?_ _ | refine blk_drew ?_ | refine blk_alloc ?_ _)); refine blk_far ?_ NB183_194.out _; (with_reducible repeat (first | refine blk_drewN ?_ _ | refine blk_drew ?_ | refine blk_alloc ?_ _)); exact BK183.out⟩
             have n1_ : Aside0 ((((((w30.setCell ⟨gb194, 0, none⟩ (.int .i64 t187)).setCell ⟨gb194, 1, none⟩ (.int .i64 t188)).setCell ⟨gb194, 2, none⟩ (.int .u32 t189)).setCell ⟨gb194, 3, none⟩ (.int .u32 t190)).setCell ⟨gb194, 4, none⟩ (.int .u16 t191)).heap[gb184]? = some (.cells #[.int .i64 1, .int .i64 2, .int .u32 1, .int .u32 1, .int .u16 1] 27 (0, 0))) := ⟨by (with_reducible repeat (first | refine blk_drewN ?_ _ | refine blk_drew ?_ | refine blk_alloc ?_ _)); refine blk_far ?_ NB184_194.out _; (with_reducible repeat (first | refine blk_drewN ?_ _ | refine blk_drew ?_ | refine blk_alloc ?_ _)); refine blk_far ?_ NB184_194.out _; (with_reducible repeat (first | refine blk_drewN ?_ _ | refine blk_drew ?_ | refine blk_alloc ?_ _)); refine blk_far ?_ NB184_194.out _; (with_reducible repeat (first | refine blk_drewN ?_ _ | refine blk_drew ?_ | refine blk_alloc ?_ _)); refine blk_far ?_ NB184_194.out _; (with_reducible repeat (first | refine blk_drewN ?_ _ | refine blk_drew ?_ | refine blk_alloc ?_ _)); refine blk_far ?_ NB184_194.out _; (with_reducible repeat (first | refine blk_drewN ?_ _ | refine blk_drew ?_ | refine blk_alloc ?_ _)); exact BK184.out⟩
             have n2_ : Aside0 ((((((w30.setCell ⟨gb194, 0, none⟩ (.int .i64 t187)).setCell ⟨gb194, 1, none⟩ (.int .i64 t188)).setCell ⟨gb194, 2, none⟩ (.int .u32 t189)).setCell ⟨gb194, 3, none⟩ (.int .u32 t190)).setCell ⟨gb194, 4, none⟩ (.int .u16 t191)).heap[gb194]? = some (.cells #[.int .i64 t187, .int .i64 t188, .int .u32 t189, .int .u32 t190, .int .u16 t191] 27 (0, 0))) := ⟨by (with_reducible repeat (first | refine blk_drewN ?_ _ | refine blk_drew ?_ | refine blk_alloc ?_ _)); refine blk_put (cs := #[.int .i64 t187, .int .i64 t188, .int .u32 t189, .int .u32 t190, .int .u16 0]) ?_ 4 _ rfl; (with_reducible repeat (first | refine blk_drewN ?_ _ | refine blk_drew ?_ | refine blk_alloc ?_ _)); refine blk_put (cs := #[.int .i64 t187, .int .i64 t188, .int .u32 t189, .int .u32 0, .int .u16 0]) ?_ 3 _ rfl; (with_reducible repeat (first | refine blk_drewN ?_ _ | refine blk_drew ?_ | refine blk_alloc ?_ _)); refine blk_put (cs := #[.int .i64 t187, .int .i64 t188, .int .u32 0, .int .u32 0, .int .u16 0]) ?_ 2 _ rfl; (with_reducible repeat (first | refine blk_drewN ?_ _ | refine blk_drew ?_ | refine blk_alloc ?_ _)); refine blk_put (cs := #[.int .i64 t187, .int .i64 0, .int .u32 0, .int .u32 0, .int .u16 0]) ?_ 1 _ rfl; (with_reducible repeat (first | refine blk_drewN ?_ _ | refine blk_drew ?_ | refine blk_alloc ?_ _)); refine blk_put (cs := #[.int .i64 0, .int .i64 0, .int .u32 0, .int .u32 0, .int .u16 0]) ?_ 0 _ rfl; (with_reducible repeat (first | refine blk_drewN ?_ _ | refine blk_drew ?_ | refine blk_alloc ?_ _)); exact BK194.out⟩
             have n3_ : Aside0 (Below w.heap.size w (((((w30.setCell ⟨gb194, 0, none⟩ (.int .i64 t187)).setCell ⟨gb194, 1, none⟩ (.int .i64 t188)).setCell ⟨gb194, 2, none⟩ (.int .u32 t189)).setCell ⟨gb194, 3, none⟩ (.int .u32 t190)).setCell ⟨gb194, 4, none⟩ (.int .u16 t191))) := ⟨by repeat (first | (with_reducible first | exact HB.out | apply below_alloc | apply pw_below_drewN | apply below_drew1 | refine below_set ?_ GE183.out | refine below_set ?_ GE184.out | refine below_set ?_ GE194.out) | exact HB.out)⟩
             (try clear BK183)
             (try clear BK184)
             (try clear BK194)
             (try clear HB)
             generalize (((((w30.setCell ⟨gb194, 0, none⟩ (.int .i64 t187)).setCell ⟨gb194, 1, none⟩ (.int .i64 t188)).setCell ⟨gb194, 2, none⟩ (.int .u32 t189)).setCell ⟨gb194, 3, none⟩ (.int .u32 t190)).setCell ⟨gb194, 4, none⟩ (.int .u16 t191)) = w34 at n0_ n1_ n2_ n3_ ⊢
             have BK183 := n0_
             have BK184 := n1_
             have BK194 := n2_
             have HB := n3_
             clear n0_ n1_ n2_ n3_
             have n0_ := Aside0.mk (blk_drew BK183.out)
             have n1_ := Aside0.mk (blk_drew BK184.out)
             have n2_ := Aside0.mk (blk_drew BK194.out)
             have n3_ := Aside0.mk (below_drew1 HB.out)
             clear BK183
             clear BK184
             clear BK194
             clear HB
             have BK183 := n0_
             have BK184 := n1_
             have BK194 := n2_
             have HB := n3_
             clear n0_ n1_ n2_ n3_
             refine start_ (n := 54) (S := fun w' => w'.cell? ⟨gb183, 0, none⟩ = some (.int .i64 1) ∧ w'.cell? ⟨gb183, 1, none⟩ = some (.int .i64 0) ∧ w'.cell? ⟨gb183, 2, none⟩ = some (.int .u32 2) ∧ w'.cell? ⟨gb183, 3, none⟩ = some (.int .u32 1) ∧ w'.cell? ⟨gb183, 4, none⟩ = some (.int .u16 1) ∧ w'.cell? ⟨gb184, 0, none⟩ = some (.int .i64 1) ∧ w'.cell? ⟨gb184, 1, none⟩ = some (.int .i64 2) ∧ w'.cell? ⟨gb184, 2, none⟩ = some (.int .u32 1) ∧ w'.cell? ⟨gb184, 3, none⟩ = some (.int .u32 1) ∧ w'.cell? ⟨gb184, 4, none⟩ = some (.int .u16 1) ∧ w'.cell? ⟨gb194, 0, none⟩ = some (.int .i64 t187) ∧ w'.cell? ⟨gb194, 1, none⟩ = some (.int .i64 t188) ∧ w'.cell? ⟨gb194, 2, none⟩ = some (.int .u32 t189) ∧ w'.cell? ⟨gb194, 3, none⟩ = some (.int .u32 t190) ∧ w'.cell? ⟨gb194, 4, none⟩ = some (.int .u16 t191)) (ds := []) (bm 54 0) (by kernel_rfl) rfl rfl ⟨(blk_cell BK183.out 0).trans rfl, (blk_cell BK183.out 1).trans rfl, (blk_cell BK183.out 2).trans rfl, (blk_cell BK183.out 3).trans rfl, (blk_cell BK183.out 4).trans rfl, (blk_cell BK184.out 0).trans rfl, (blk_cell BK184.out 1).trans rfl, (blk_cell BK184.out 2).trans rfl, (blk_cell BK184.out 3).trans rfl, (blk_cell BK184.out 4).trans rfl, (blk_cell BK194.out 0).trans rfl, (blk_cell BK194.out 1).trans rfl, (blk_cell BK194.out 2).trans rfl, (blk_cell BK194.out 3).trans rfl, (blk_cell BK194.out 4).trans rfl⟩ (fun hHeld => ?_); refine with_tabW law04_examples.tab5 law04_examples.bits5 (fun HT_ HW_ => ?_)
             generalize w34.drew = w35 at BK183 BK184 BK194 HB hHeld ⊢
             refine take_ (i := 0) (N := some 24) (v := ?_) (a' := ?_) (bm 54 1) rfl rfl (take_ofW HT_.out HW_.out (by kernel_rfl)) (fun _ _ _ h => h) (Or.inl ⟨by first | rfl | (simp only [c9b0, c10b0, c12b0, c13b0, c20b0]; rfl), ?_⟩) hHeld ?_ ?_
             rotate_left
             ·rintro w' ⟨s0, s1, s2, s3, s4, s5, s6, s7, s8, s9, s10, s11, s12, s13, s14⟩
              go_simp
              with_reducible rfl
             rotate_left
             ·simp only [Act.put, List.setIfInBounds_toArray, List.set_cons_zero, List.set_cons_succ, i64_w, i32_w]
              rfl
             refine take_ (i := 1) (N := some 25) (v := ?_) (a' := ?_) (bm 54 3) rfl rfl (take_ofW HT_.out HW_.out (by kernel_rfl)) (fun _ _ _ h => h) (Or.inl ⟨by first | rfl | (simp only [c9b0, c10b0, c12b0, c13b0, c20b0]; rfl), ?_⟩) hHeld ?_ ?_
             rotate_left
             ·rintro w' ⟨s0, s1, s2, s3, s4, s5, s6, s7, s8, s9, s10, s11, s12, s13, s14⟩
              go_simp
              with_reducible rfl
             rotate_left
             ·simp only [Act.put, List.setIfInBounds_toArray, List.set_cons_zero, List.set_cons_succ, i64_w, i32_w]
              rfl
             refine one_ (i := 2) (N := some 26) (bm 54 7) rfl rfl (one_of HT_.out (by kernel_rfl)) (by decide) (fun K hK => ?_)
             refine goes_ Try.func18 (by kernel_rfl) rfl #[.agg #[.int .i64 1, .int .i64 0, .int .u32 2, .int .u32 1, .int .u16 1], .agg #[.int .i64 1, .int .i64 2, .int .u32 1, .int .u32 1, .int .u16 1]] (by rfl) rfl rfl (by (try simp only [List.map_toArray, List.map_cons, List.map_nil]); first | done | rfl | (simp only [List.length_drop, List.length_take]; rfl)) ?_
             with_reducible refine (record_Over.calls k 1 0 2 1 1 1 2 1 1 1 true _ A4.out).mono ?_
             rintro e w36 ⟨rfl, hb⟩
             refine ⟨_, rfl, ?_⟩
             have n0_ := Aside0.mk (blk_below (g := gb183) (o := .cells #[.int .i64 1, .int .i64 0, .int .u32 2, .int .u32 1, .int .u16 1] 27 (0, 0)) (by (with_reducible repeat (first | refine blk_drewN ?_ _ | refine blk_drew ?_ | refine blk_alloc ?_ _)); exact BK183.out) hb)
             have n1_ := Aside0.mk (blk_below (g := gb184) (o := .cells #[.int .i64 1, .int .i64 2, .int .u32 1, .int .u32 1, .int .u16 1] 27 (0, 0)) (by (with_reducible repeat (first | refine blk_drewN ?_ _ | refine blk_drew ?_ | refine blk_alloc ?_ _)); exact BK184.out) hb)
             have n2_ := Aside0.mk (blk_below (g := gb194) (o := .cells #[.int .i64 t187, .int .i64 t188, .int .u32 t189, .int .u32 t190, .int .u16 t191] 27 (0, 0)) (by (with_reducible repeat (first | refine blk_drewN ?_ _ | refine blk_drew ?_ | refine blk_alloc ?_ _)); exact BK194.out) hb)
             have n3_ := Aside0.mk (below_step (by repeat (first | (with_reducible first | exact HB.out | apply below_alloc | apply pw_below_drewN | apply below_drew1 | refine below_set ?_ GE183.out | refine below_set ?_ GE184.out | refine below_set ?_ GE194.out) | exact HB.out)) hb)
             clear BK183
             clear BK184
             clear BK194
             clear HB
             have BK183 := n0_
             have BK184 := n1_
             have BK194 := n2_
             have HB := n3_
             clear n0_ n1_ n2_ n3_
             (try clear hb)
             (try clear hb2)
             (try clear hk)
             (try clear hi)
             refine hK.out _ _ ⟨(blk_cell BK183.out 0).trans rfl, (blk_cell BK183.out 1).trans rfl, (blk_cell BK183.out 2).trans rfl, (blk_cell BK183.out 3).trans rfl, (blk_cell BK183.out 4).trans rfl, (blk_cell BK184.out 0).trans rfl, (blk_cell BK184.out 1).trans rfl, (blk_cell BK184.out 2).trans rfl, (blk_cell BK184.out 3).trans rfl, (blk_cell BK184.out 4).trans rfl, (blk_cell BK194.out 0).trans rfl, (blk_cell BK194.out 1).trans rfl, (blk_cell BK194.out 2).trans rfl, (blk_cell BK194.out 3).trans rfl, (blk_cell BK194.out 4).trans rfl⟩ (fun hHeld => ?_)
             clear hK K
             refine norm_ (a' := ?_) ?_ ?_
             rotate_left
             ·show Act.put _ (some 26) _ = _
              simp only [Act.put, List.setIfInBounds_toArray, List.set_cons_zero, List.set_cons_succ, i64_w, i32_w]
              rfl
             refine pure_ (i := 3) (N := some 27) (v := ?_) (a' := ?_) (bm 54 15) rfl rfl (any_of HT_.out (by kernel_rfl)) (fun _ _ _ h => h) (Or.inl ⟨by first | rfl | (simp only [c9b0, c10b0, c12b0, c13b0, c20b0]; rfl), ?_⟩) ?_ ?_
             rotate_left
             ·intro w'
              go_simp
              with_reducible rfl
             rotate_left
             ·simp only [Act.put, List.setIfInBounds_toArray, List.set_cons_zero, List.set_cons_succ, i64_w, i32_w]
              rfl
             refine take_ (i := 4) (N := some 28) (v := ?_) (a' := ?_) (bm 54 31) rfl rfl (take_ofW HT_.out HW_.out (by kernel_rfl)) (fun _ _ _ h => h) (Or.inl ⟨by first | rfl | (simp only [c9b0, c10b0, c12b0, c13b0, c20b0]; rfl), ?_⟩) hHeld ?_ ?_
             rotate_left
             ·rintro w' ⟨s0, s1, s2, s3, s4, s5, s6, s7, s8, s9, s10, s11, s12, s13, s14⟩
              go_simp
              with_reducible rfl
             rotate_left
             ·simp only [Act.put, List.setIfInBounds_toArray, List.set_cons_zero, List.set_cons_succ, i64_w, i32_w]
              rfl
             refine take_ (i := 5) (N := some 29) (v := ?_) (a' := ?_) (bm 54 63) rfl rfl (take_ofW HT_.out HW_.out (by kernel_rfl)) (fun _ _ _ h => h) (Or.inl ⟨by first | rfl | (simp only [c9b0, c10b0, c12b0, c13b0, c20b0]; rfl), ?_⟩) hHeld ?_ ?_
             rotate_left
             ·rintro w' ⟨s0, s1, s2, s3, s4, s5, s6, s7, s8, s9, s10, s11, s12, s13, s14⟩
              go_simp
              with_reducible rfl
             rotate_left
             ·simp only [Act.put, List.setIfInBounds_toArray, List.set_cons_zero, List.set_cons_succ, i64_w, i32_w]
              rfl
             refine one_ (i := 6) (N := some 30) (bm 54 127) rfl rfl (one_of HT_.out (by kernel_rfl)) (by decide) (fun K hK => ?_)
             refine goes_ Try.func18 (by kernel_rfl) rfl #[.agg #[.int .i64 1, .int .i64 2, .int .u32 1, .int .u32 1, .int .u16 1], .agg #[.int .i64 1, .int .i64 0, .int .u32 2, .int .u32 1, .int .u16 1]] (by rfl) rfl rfl (by (try simp only [List.map_toArray, List.map_cons, List.map_nil]); first | done | rfl | (simp only [List.length_drop, List.length_take]; rfl)) ?_
             with_reducible refine (record_Over.calls k 1 2 1 1 1 1 0 2 1 1 false _ A6.out).mono ?_
             rintro e w37 ⟨rfl, hb⟩
             refine ⟨_, rfl, ?_⟩
             have n0_ := Aside0.mk (blk_below (g := gb183) (o := .cells #[.int .i64 1, .int .i64 0, .int .u32 2, .int .u32 1, .int .u16 1] 27 (0, 0)) (by (with_reducible repeat (first | refine blk_drewN ?_ _ | refine blk_drew ?_ | refine blk_alloc ?_ _)); exact BK183.out) hb)
             have n1_ := Aside0.mk (blk_below (g := gb184) (o := .cells #[.int .i64 1, .int .i64 2, .int .u32 1, .int .u32 1, .int .u16 1] 27 (0, 0)) (by (with_reducible repeat (first | refine blk_drewN ?_ _ | refine blk_drew ?_ | refine blk_alloc ?_ _)); exact BK184.out) hb)
             have n2_ := Aside0.mk (blk_below (g := gb194) (o := .cells #[.int .i64 t187, .int .i64 t188, .int .u32 t189, .int .u32 t190, .int .u16 t191] 27 (0, 0)) (by (with_reducible repeat (first | refine blk_drewN ?_ _ | refine blk_drew ?_ | refine blk_alloc ?_ _)); exact BK194.out) hb)
             have n3_ := Aside0.mk (below_step (by repeat (first | (with_reducible first | exact HB.out | apply below_alloc | apply pw_below_drewN | apply below_drew1 | refine below_set ?_ GE183.out | refine below_set ?_ GE184.out | refine below_set ?_ GE194.out) | exact HB.out)) hb)
             clear BK183
             clear BK184
             clear BK194
             clear HB
             have BK183 := n0_
             have BK184 := n1_
             have BK194 := n2_
             have HB := n3_
             clear n0_ n1_ n2_ n3_
             (try clear hb)
             (try clear hb2)
             (try clear hk)
             (try clear hi)
             refine hK.out _ _ ⟨(blk_cell BK183.out 0).trans rfl, (blk_cell BK183.out 1).trans rfl, (blk_cell BK183.out 2).trans rfl, (blk_cell BK183.out 3).trans rfl, (blk_cell BK183.out 4).trans rfl, (blk_cell BK184.out 0).trans rfl, (blk_cell BK184.out 1).trans rfl, (blk_cell BK184.out 2).trans rfl, (blk_cell BK184.out 3).trans rfl, (blk_cell BK184.out 4).trans rfl, (blk_cell BK194.out 0).trans rfl, (blk_cell BK194.out 1).trans rfl, (blk_cell BK194.out 2).trans rfl, (blk_cell BK194.out 3).trans rfl, (blk_cell BK194.out 4).trans rfl⟩ (fun hHeld => ?_)
             clear hK K
             refine norm_ (a' := ?_) ?_ ?_
             rotate_left
             ·show Act.put _ (some 30) _ = _
              simp only [Act.put, List.setIfInBounds_toArray, List.set_cons_zero, List.set_cons_succ, i64_w, i32_w]
              rfl
             refine pure_ (i := 7) (N := some 31) (v := ?_) (a' := ?_) (bm 54 255) rfl rfl (any_of HT_.out (by kernel_rfl)) (fun _ _ _ h => h) (Or.inl ⟨by first | rfl | (simp only [c9b0, c10b0, c12b0, c13b0, c20b0]; rfl), ?_⟩) ?_ ?_
             rotate_left
             ·intro w'
              go_simp
              with_reducible rfl
             rotate_left
             ·simp only [Act.put, List.setIfInBounds_toArray, List.set_cons_zero, List.set_cons_succ, i64_w, i32_w]
              rfl
             refine pure_ (i := 8) (N := some 32) (v := ?_) (a' := ?_) (bm 54 511) rfl rfl (any_of HT_.out (by kernel_rfl)) (fun _ _ _ h => h) (Or.inl ⟨by first | rfl | (simp only [c9b0, c10b0, c12b0, c13b0, c20b0]; rfl), ?_⟩) ?_ ?_
             rotate_left
             ·intro w'
              go_simp
              with_reducible rfl
             rotate_left
             ·simp only [Act.put, List.setIfInBounds_toArray, List.set_cons_zero, List.set_cons_succ, i64_w, i32_w]
              rfl
             refine pure_ (i := 9) (N := some 33) (v := ?_) (a' := ?_) (bm 54 1023) rfl rfl (any_of HT_.out (by kernel_rfl)) (fun _ _ _ h => h) (Or.inl ⟨by first | rfl | (simp only [c9b0, c10b0, c12b0, c13b0, c20b0]; rfl), ?_⟩) ?_ ?_
             rotate_left
             ·intro w'
              go_simp
              with_reducible rfl
             rotate_left
             ·simp only [Act.put, List.setIfInBounds_toArray, List.set_cons_zero, List.set_cons_succ, i64_w, i32_w]
              rfl
             refine take_ (i := 10) (N := some 34) (v := ?_) (a' := ?_) (bm 54 2047) rfl rfl (take_ofW HT_.out HW_.out (by kernel_rfl)) (fun _ _ _ h => h) (Or.inl ⟨by first | rfl | (simp only [c9b0, c10b0, c12b0, c13b0, c20b0]; rfl), ?_⟩) hHeld ?_ ?_
             rotate_left
             ·rintro w' ⟨s0, s1, s2, s3, s4, s5, s6, s7, s8, s9, s10, s11, s12, s13, s14⟩
              go_simp
              with_reducible rfl
             rotate_left
             ·simp only [Act.put, List.setIfInBounds_toArray, List.set_cons_zero, List.set_cons_succ, i64_w, i32_w]
              rfl
             refine take_ (i := 11) (N := some 35) (v := ?_) (a' := ?_) (bm 54 4095) rfl rfl (take_ofW HT_.out HW_.out (by kernel_rfl)) (fun _ _ _ h => h) (Or.inl ⟨by first | rfl | (simp only [c9b0, c10b0, c12b0, c13b0, c20b0]; rfl), ?_⟩) hHeld ?_ ?_
             rotate_left
             ·rintro w' ⟨s0, s1, s2, s3, s4, s5, s6, s7, s8, s9, s10, s11, s12, s13, s14⟩
              go_simp
              with_reducible rfl
             rotate_left
             ·simp only [Act.put, List.setIfInBounds_toArray, List.set_cons_zero, List.set_cons_succ, i64_w, i32_w]
              rfl
             refine take_ (i := 13) (N := some 37) (v := ?_) (a' := ?_) (bm 54 12287) rfl rfl (take_ofW HT_.out HW_.out (by kernel_rfl)) (fun _ _ _ h => h) (Or.inl ⟨by first | rfl | (simp only [c9b0, c10b0, c12b0, c13b0, c20b0]; rfl), ?_⟩) hHeld ?_ ?_
             rotate_left
             ·rintro w' ⟨s0, s1, s2, s3, s4, s5, s6, s7, s8, s9, s10, s11, s12, s13, s14⟩
              go_simp
              with_reducible rfl
             rotate_left
             ·simp only [Act.put, List.setIfInBounds_toArray, List.set_cons_zero, List.set_cons_succ, i64_w, i32_w]
              rfl
             refine one_ (i := 12) (N := some 36) (bm 54 16383) rfl rfl (one_of HT_.out (by kernel_rfl)) (by decide) (fun K hK => ?_)
             refine goes_ Try.func20 (by kernel_rfl) rfl #[.agg #[.int .i64 1, .int .i64 0, .int .u32 2, .int .u32 1, .int .u16 1], .agg #[.int .i64 1, .int .i64 2, .int .u32 1, .int .u32 1, .int .u16 1]] (by rfl) rfl rfl (by (try simp only [List.map_toArray, List.map_cons, List.map_nil]); first | done | rfl | (simp only [List.length_drop, List.length_take]; rfl)) ?_
             with_reducible refine (record_Join.calls k 1 0 2 1 1 1 2 1 1 1 t197 t198 t199 t200 t201 _ A8.out).mono ?_
             rintro e w38 ⟨rfl, hb⟩
             refine ⟨_, rfl, ?_⟩
             have n0_ := Aside0.mk (blk_below (g := gb183) (o := .cells #[.int .i64 1, .int .i64 0, .int .u32 2, .int .u32 1, .int .u16 1] 27 (0, 0)) (by (with_reducible repeat (first | refine blk_drewN ?_ _ | refine blk_drew ?_ | refine blk_alloc ?_ _)); exact BK183.out) hb)
             have n1_ := Aside0.mk (blk_below (g := gb184) (o := .cells #[.int .i64 1, .int .i64 2, .int .u32 1, .int .u32 1, .int .u16 1] 27 (0, 0)) (by (with_reducible repeat (first | refine blk_drewN ?_ _ | refine blk_drew ?_ | refine blk_alloc ?_ _)); exact BK184.out) hb)
             have n2_ := Aside0.mk (blk_below (g := gb194) (o := .cells #[.int .i64 t187, .int .i64 t188, .int .u32 t189, .int .u32 t190, .int .u16 t191] 27 (0, 0)) (by (with_reducible repeat (first | refine blk_drewN ?_ _ | refine blk_drew ?_ | refine blk_alloc ?_ _)); exact BK194.out) hb)
             have n3_ := Aside0.mk (below_step (by repeat (first | (with_reducible first | exact HB.out | apply below_alloc | apply pw_below_drewN | apply below_drew1 | refine below_set ?_ GE183.out | refine below_set ?_ GE184.out | refine below_set ?_ GE194.out) | exact HB.out)) hb)
             clear BK183
             clear BK184
             clear BK194
             clear HB
             have BK183 := n0_
             have BK184 := n1_
             have BK194 := n2_
             have HB := n3_
             clear n0_ n1_ n2_ n3_
             (try clear hb)
             (try clear hb2)
             (try clear hk)
             (try clear hi)
             refine hK.out _ _ ⟨(blk_cell BK183.out 0).trans rfl, (blk_cell BK183.out 1).trans rfl, (blk_cell BK183.out 2).trans rfl, (blk_cell BK183.out 3).trans rfl, (blk_cell BK183.out 4).trans rfl, (blk_cell BK184.out 0).trans rfl, (blk_cell BK184.out 1).trans rfl, (blk_cell BK184.out 2).trans rfl, (blk_cell BK184.out 3).trans rfl, (blk_cell BK184.out 4).trans rfl, (blk_cell BK194.out 0).trans rfl, (blk_cell BK194.out 1).trans rfl, (blk_cell BK194.out 2).trans rfl, (blk_cell BK194.out 3).trans rfl, (blk_cell BK194.out 4).trans rfl⟩ (fun hHeld => ?_)
             clear hK K
             refine norm_ (a' := ?_) ?_ ?_
             rotate_left
             ·show Act.put _ (some 36) _ = _
              simp only [Act.put, List.setIfInBounds_toArray, List.set_cons_zero, List.set_cons_succ, i64_w, i32_w]
              rfl
             refine pure_ (i := 14) (N := some 38) (v := ?_) (a' := ?_) (bm 54 32767) rfl rfl (any_of HT_.out (by kernel_rfl)) (fun _ _ _ h => h) (Or.inl ⟨by first | rfl | (simp only [c9b0, c10b0, c12b0, c13b0, c20b0]; rfl), ?_⟩) ?_ ?_
             rotate_left
             ·intro w'
              go_simp
              with_reducible rfl
             rotate_left
             ·simp only [Act.put, List.setIfInBounds_toArray, List.set_cons_zero, List.set_cons_succ, i64_w, i32_w]
              rfl
             refine pure_ (i := 15) (N := some 39) (v := ?_) (a' := ?_) (bm 54 65535) rfl rfl (any_of HT_.out (by kernel_rfl)) (fun _ _ _ h => h) (Or.inl ⟨by first | rfl | (simp only [c9b0, c10b0, c12b0, c13b0, c20b0]; rfl), ?_⟩) ?_ ?_
             rotate_left
             ·intro w'
              go_simp
              with_reducible rfl
             rotate_left
             ·simp only [Act.put, List.setIfInBounds_toArray, List.set_cons_zero, List.set_cons_succ, i64_w, i32_w]
              rfl
             refine pure_ (i := 16) (N := some 40) (v := ?_) (a' := ?_) (bm 54 131071) rfl rfl (any_of HT_.out (by kernel_rfl)) (fun _ _ _ h => h) (Or.inl ⟨by first | rfl | (simp only [c9b0, c10b0, c12b0, c13b0, c20b0]; rfl), ?_⟩) ?_ ?_
             rotate_left
             ·intro w'
              go_simp
              with_reducible rfl
             rotate_left
             ·simp only [Act.put, List.setIfInBounds_toArray, List.set_cons_zero, List.set_cons_succ, i64_w, i32_w]
              rfl
             refine pure_ (i := 17) (N := some 41) (v := ?_) (a' := ?_) (bm 54 262143) rfl rfl (any_of HT_.out (by kernel_rfl)) (fun _ _ _ h => h) (Or.inl ⟨by first | rfl | (simp only [c9b0, c10b0, c12b0, c13b0, c20b0]; rfl), ?_⟩) ?_ ?_
             rotate_left
             ·intro w'
              go_simp
              with_reducible rfl
             rotate_left
             ·simp only [Act.put, List.setIfInBounds_toArray, List.set_cons_zero, List.set_cons_succ, i64_w, i32_w]
              rfl
             refine pure_ (i := 18) (N := some 42) (v := ?_) (a' := ?_) (bm 54 524287) rfl rfl (any_of HT_.out (by kernel_rfl)) (fun _ _ _ h => h) (Or.inl ⟨by first | rfl | (simp only [c9b0, c10b0, c12b0, c13b0, c20b0]; rfl), ?_⟩) ?_ ?_
             rotate_left
             ·intro w'
              go_simp
              with_reducible rfl
             rotate_left
             ·simp only [Act.put, List.setIfInBounds_toArray, List.set_cons_zero, List.set_cons_succ, i64_w, i32_w]
              rfl
             refine pure_ (i := 19) (N := some 43) (v := ?_) (a' := ?_) (bm 54 1048575) rfl rfl (any_of HT_.out (by kernel_rfl)) (fun _ _ _ h => h) (Or.inl ⟨by first | rfl | (simp only [c9b0, c10b0, c12b0, c13b0, c20b0]; rfl), ?_⟩) ?_ ?_
             rotate_left
             ·intro w'
              go_simp
              with_reducible rfl
             rotate_left
             ·simp only [Act.put, List.setIfInBounds_toArray, List.set_cons_zero, List.set_cons_succ, i64_w, i32_w]
              rfl
             refine pure_ (i := 20) (N := some 44) (v := ?_) (a' := ?_) (bm 54 2097151) rfl rfl (any_of HT_.out (by kernel_rfl)) (fun _ _ _ h => h) (Or.inl ⟨by first | rfl | (simp only [c9b0, c10b0, c12b0, c13b0, c20b0]; rfl), ?_⟩) ?_ ?_
             rotate_left
             ·intro w'
              go_simp
              with_reducible rfl
             rotate_left
             ·simp only [Act.put, List.setIfInBounds_toArray, List.set_cons_zero, List.set_cons_succ, i64_w, i32_w]
              rfl
             refine pure_ (i := 21) (N := some 45) (v := ?_) (a' := ?_) (bm 54 4194303) rfl rfl (any_of HT_.out (by kernel_rfl)) (fun _ _ _ h => h) (Or.inl ⟨by first | rfl | (simp only [c9b0, c10b0, c12b0, c13b0, c20b0]; rfl), ?_⟩) ?_ ?_
             rotate_left
             ·intro w'
              go_simp
              with_reducible rfl
             rotate_left
             ·simp only [Act.put, List.setIfInBounds_toArray, List.set_cons_zero, List.set_cons_succ, i64_w, i32_w]
              rfl
             refine pure_ (i := 22) (N := some 46) (v := ?_) (a' := ?_) (bm 54 8388607) rfl rfl (any_of HT_.out (by kernel_rfl)) (fun _ _ _ h => h) (Or.inl ⟨by first | rfl | (simp only [c9b0, c10b0, c12b0, c13b0, c20b0]; rfl), ?_⟩) ?_ ?_
             rotate_left
             ·intro w'
              go_simp
              with_reducible rfl
             rotate_left
             ·simp only [Act.put, List.setIfInBounds_toArray, List.set_cons_zero, List.set_cons_succ, i64_w, i32_w]
              rfl
             refine pure_ (i := 23) (N := some 47) (v := ?_) (a' := ?_) (bm 54 16777215) rfl rfl (any_of HT_.out (by kernel_rfl)) (fun _ _ _ h => h) (Or.inl ⟨by first | rfl | (simp only [c9b0, c10b0, c12b0, c13b0, c20b0]; rfl), ?_⟩) ?_ ?_
             rotate_left
             ·intro w'
              go_simp
              with_reducible rfl
             rotate_left
             ·simp only [Act.put, List.setIfInBounds_toArray, List.set_cons_zero, List.set_cons_succ, i64_w, i32_w]
              rfl
             refine take_ (i := 24) (N := some 48) (v := ?_) (a' := ?_) (bm 54 33554431) rfl rfl (take_ofW HT_.out HW_.out (by kernel_rfl)) (fun _ _ _ h => h) (Or.inl ⟨by first | rfl | (simp only [c9b0, c10b0, c12b0, c13b0, c20b0]; rfl), ?_⟩) hHeld ?_ ?_
             rotate_left
             ·rintro w' ⟨s0, s1, s2, s3, s4, s5, s6, s7, s8, s9, s10, s11, s12, s13, s14⟩
              go_simp
              with_reducible rfl
             rotate_left
             ·simp only [Act.put, List.setIfInBounds_toArray, List.set_cons_zero, List.set_cons_succ, i64_w, i32_w]
              rfl
             refine take_ (i := 25) (N := some 49) (v := ?_) (a' := ?_) (bm 54 67108863) rfl rfl (take_ofW HT_.out HW_.out (by kernel_rfl)) (fun _ _ _ h => h) (Or.inl ⟨by first | rfl | (simp only [c9b0, c10b0, c12b0, c13b0, c20b0]; rfl), ?_⟩) hHeld ?_ ?_
             rotate_left
             ·rintro w' ⟨s0, s1, s2, s3, s4, s5, s6, s7, s8, s9, s10, s11, s12, s13, s14⟩
              go_simp
              with_reducible rfl
             rotate_left
             ·simp only [Act.put, List.setIfInBounds_toArray, List.set_cons_zero, List.set_cons_succ, i64_w, i32_w]
              rfl
             refine pure_ (i := 26) (N := some 50) (v := ?_) (a' := ?_) (bm 54 134217727) rfl rfl (any_of HT_.out (by kernel_rfl)) (fun _ _ _ h => h) (Or.inl ⟨by first | rfl | (simp only [c9b0, c10b0, c12b0, c13b0, c20b0]; rfl), ?_⟩) ?_ ?_
             rotate_left
             ·intro w'
              go_simp
              with_reducible rfl
             rotate_left
             ·simp only [Act.put, List.setIfInBounds_toArray, List.set_cons_zero, List.set_cons_succ, i64_w, i32_w]
              rfl
             refine pure_ (i := 27) (N := some 51) (v := ?_) (a' := ?_) (bm 54 268435455) rfl rfl (any_of HT_.out (by kernel_rfl)) (fun _ _ _ h => h) (Or.inl ⟨by first | rfl | (simp only [c9b0, c10b0, c12b0, c13b0, c20b0]; rfl), ?_⟩) ?_ ?_
             rotate_left
             ·intro w'
              go_simp
              with_reducible rfl
             rotate_left
             ·simp only [Act.put, List.setIfInBounds_toArray, List.set_cons_zero, List.set_cons_succ, i64_w, i32_w]
              rfl
             refine pure_ (i := 28) (N := some 52) (v := ?_) (a' := ?_) (bm 54 536870911) rfl rfl (any_of HT_.out (by kernel_rfl)) (fun _ _ _ h => h) (Or.inl ⟨by first | rfl | (simp only [c9b0, c10b0, c12b0, c13b0, c20b0]; rfl), ?_⟩) ?_ ?_
             rotate_left
             ·intro w'
              go_simp
              with_reducible rfl
             rotate_left
             ·simp only [Act.put, List.setIfInBounds_toArray, List.set_cons_zero, List.set_cons_succ, i64_w, i32_w]
              rfl
             refine pure_ (i := 29) (N := some 53) (v := ?_) (a' := ?_) (bm 54 1073741823) rfl rfl (any_of HT_.out (by kernel_rfl)) (fun _ _ _ h => h) (Or.inl ⟨by first | rfl | (simp only [c9b0, c10b0, c12b0, c13b0, c20b0]; rfl), ?_⟩) ?_ ?_
             rotate_left
             ·intro w'
              go_simp
              with_reducible rfl
             rotate_left
             ·simp only [Act.put, List.setIfInBounds_toArray, List.set_cons_zero, List.set_cons_succ, i64_w, i32_w]
              rfl
             refine pure_ (i := 30) (N := some 54) (v := ?_) (a' := ?_) (bm 54 2147483647) rfl rfl (any_of HT_.out (by kernel_rfl)) (fun _ _ _ h => h) (Or.inl ⟨by first | rfl | (simp only [c9b0, c10b0, c12b0, c13b0, c20b0]; rfl), ?_⟩) ?_ ?_
             rotate_left
             ·intro w'
              go_simp
              with_reducible rfl
             rotate_left
             ·simp only [Act.put, List.setIfInBounds_toArray, List.set_cons_zero, List.set_cons_succ, i64_w, i32_w]
              rfl
             refine pure_ (i := 31) (N := some 55) (v := ?_) (a' := ?_) (bm 54 4294967295) rfl rfl (any_of HT_.out (by kernel_rfl)) (fun _ _ _ h => h) (Or.inl ⟨by first | rfl | (simp only [c9b0, c10b0, c12b0, c13b0, c20b0]; rfl), ?_⟩) ?_ ?_
             rotate_left
             ·intro w'
              go_simp
              with_reducible rfl
             rotate_left
             ·simp only [Act.put, List.setIfInBounds_toArray, List.set_cons_zero, List.set_cons_succ, i64_w, i32_w]
              rfl
             refine pure_ (i := 32) (N := some 56) (v := ?_) (a' := ?_) (bm 54 8589934591) rfl rfl (any_of HT_.out (by kernel_rfl)) (fun _ _ _ h => h) (Or.inl ⟨by first | rfl | (simp only [c9b0, c10b0, c12b0, c13b0, c20b0]; rfl), ?_⟩) ?_ ?_
             rotate_left
             ·intro w'
              go_simp
              with_reducible rfl
             rotate_left
             ·simp only [Act.put, List.setIfInBounds_toArray, List.set_cons_zero, List.set_cons_succ, i64_w, i32_w]
              rfl
             refine pure_ (i := 33) (N := some 57) (v := ?_) (a' := ?_) (bm 54 17179869183) rfl rfl (any_of HT_.out (by kernel_rfl)) (fun _ _ _ h => h) (Or.inl ⟨by first | rfl | (simp only [c9b0, c10b0, c12b0, c13b0, c20b0]; rfl), ?_⟩) ?_ ?_
             rotate_left
             ·intro w'
              go_simp
              with_reducible rfl
             rotate_left
             ·simp only [Act.put, List.setIfInBounds_toArray, List.set_cons_zero, List.set_cons_succ, i64_w, i32_w]
              rfl
             refine pure_ (i := 34) (N := some 58) (v := ?_) (a' := ?_) (bm 54 34359738367) rfl rfl (any_of HT_.out (by kernel_rfl)) (fun _ _ _ h => h) (Or.inl ⟨by first | rfl | (simp only [c9b0, c10b0, c12b0, c13b0, c20b0]; rfl), ?_⟩) ?_ ?_
             rotate_left
             ·intro w'
              go_simp
              with_reducible rfl
             rotate_left
             ·simp only [Act.put, List.setIfInBounds_toArray, List.set_cons_zero, List.set_cons_succ, i64_w, i32_w]
              rfl
             refine pure_ (i := 35) (N := some 59) (v := ?_) (a' := ?_) (bm 54 68719476735) rfl rfl (any_of HT_.out (by kernel_rfl)) (fun _ _ _ h => h) (Or.inl ⟨by first | rfl | (simp only [c9b0, c10b0, c12b0, c13b0, c20b0]; rfl), ?_⟩) ?_ ?_
             rotate_left
             ·intro w'
              go_simp
              with_reducible rfl
             rotate_left
             ·simp only [Act.put, List.setIfInBounds_toArray, List.set_cons_zero, List.set_cons_succ, i64_w, i32_w]
              rfl
             refine take_ (i := 36) (N := some 60) (v := ?_) (a' := ?_) (bm 54 137438953471) rfl rfl (take_ofW HT_.out HW_.out (by kernel_rfl)) (fun _ _ _ h => h) (Or.inl ⟨by first | rfl | (simp only [c9b0, c10b0, c12b0, c13b0, c20b0]; rfl), ?_⟩) hHeld ?_ ?_
             rotate_left
             ·rintro w' ⟨s0, s1, s2, s3, s4, s5, s6, s7, s8, s9, s10, s11, s12, s13, s14⟩
              go_simp
              with_reducible rfl
             rotate_left
             ·simp only [Act.put, List.setIfInBounds_toArray, List.set_cons_zero, List.set_cons_succ, i64_w, i32_w]
              rfl
             refine one_ (i := 37) (N := some 61) (bm 54 274877906943) rfl rfl (one_of HT_.out (by kernel_rfl)) (by decide) (fun K hK => ?_)
             refine goes_ Try.func22 (by kernel_rfl) rfl #[.agg #[.int .i64 1, .int .i64 0, .int .u32 2, .int .u32 1, .int .u16 1]] (by rfl) rfl rfl (by (try simp only [List.map_toArray, List.map_cons, List.map_nil]); first | done | rfl | (simp only [List.length_drop, List.length_take]; rfl)) ?_
             with_reducible refine (record_Record_Live.calls 1 0 2 1 1 true _ A15.out).mono ?_
             rintro e w39 ⟨rfl, hb⟩
             refine ⟨_, rfl, ?_⟩
             have n0_ := Aside0.mk (blk_below (g := gb183) (o := .cells #[.int .i64 1, .int .i64 0, .int .u32 2, .int .u32 1, .int .u16 1] 27 (0, 0)) (by (with_reducible repeat (first | refine blk_drewN ?_ _ | refine blk_drew ?_ | refine blk_alloc ?_ _)); exact BK183.out) hb)
             have n1_ := Aside0.mk (blk_below (g := gb184) (o := .cells #[.int .i64 1, .int .i64 2, .int .u32 1, .int .u32 1, .int .u16 1] 27 (0, 0)) (by (with_reducible repeat (first | refine blk_drewN ?_ _ | refine blk_drew ?_ | refine blk_alloc ?_ _)); exact BK184.out) hb)
             have n2_ := Aside0.mk (blk_below (g := gb194) (o := .cells #[.int .i64 t187, .int .i64 t188, .int .u32 t189, .int .u32 t190, .int .u16 t191] 27 (0, 0)) (by (with_reducible repeat (first | refine blk_drewN ?_ _ | refine blk_drew ?_ | refine blk_alloc ?_ _)); exact BK194.out) hb)
             have n3_ := Aside0.mk (below_step (by repeat (first | (with_reducible first | exact HB.out | apply below_alloc | apply pw_below_drewN | apply below_drew1 | refine below_set ?_ GE183.out | refine below_set ?_ GE184.out | refine below_set ?_ GE194.out) | exact HB.out)) hb)
             clear BK183
             clear BK184
             clear BK194
             clear HB
             have BK183 := n0_
             have BK184 := n1_
             have BK194 := n2_
             have HB := n3_
             clear n0_ n1_ n2_ n3_
             (try clear hb)
             (try clear hb2)
             (try clear hk)
             (try clear hi)
             refine hK.out _ _ ⟨(blk_cell BK183.out 0).trans rfl, (blk_cell BK183.out 1).trans rfl, (blk_cell BK183.out 2).trans rfl, (blk_cell BK183.out 3).trans rfl, (blk_cell BK183.out 4).trans rfl, (blk_cell BK184.out 0).trans rfl, (blk_cell BK184.out 1).trans rfl, (blk_cell BK184.out 2).trans rfl, (blk_cell BK184.out 3).trans rfl, (blk_cell BK184.out 4).trans rfl, (blk_cell BK194.out 0).trans rfl, (blk_cell BK194.out 1).trans rfl, (blk_cell BK194.out 2).trans rfl, (blk_cell BK194.out 3).trans rfl, (blk_cell BK194.out 4).trans rfl⟩ (fun hHeld => ?_)
             clear hK K
             refine norm_ (a' := ?_) ?_ ?_
             rotate_left
             ·show Act.put _ (some 61) _ = _
              simp only [Act.put, List.setIfInBounds_toArray, List.set_cons_zero, List.set_cons_succ, i64_w, i32_w]
              rfl
             refine pure_ (i := 38) (N := some 62) (v := ?_) (a' := ?_) (bm 54 549755813887) rfl rfl (any_of HT_.out (by kernel_rfl)) (fun _ _ _ h => h) (Or.inl ⟨by first | rfl | (simp only [c9b0, c10b0, c12b0, c13b0, c20b0]; rfl), ?_⟩) ?_ ?_
             rotate_left
             ·intro w'
              go_simp
              with_reducible rfl
             rotate_left
             ·simp only [Act.put, List.setIfInBounds_toArray, List.set_cons_zero, List.set_cons_succ, i64_w, i32_w]
              rfl
             refine pure_ (i := 39) (N := some 63) (v := ?_) (a' := ?_) (bm 54 1099511627775) rfl rfl (any_of HT_.out (by kernel_rfl)) (fun _ _ _ h => h) (Or.inl ⟨by first | rfl | (simp only [c9b0, c10b0, c12b0, c13b0, c20b0]; rfl), ?_⟩) ?_ ?_
             rotate_left
             ·intro w'
              go_simp
              with_reducible rfl
             rotate_left
             ·simp only [Act.put, List.setIfInBounds_toArray, List.set_cons_zero, List.set_cons_succ, i64_w, i32_w]
              rfl
             refine take_ (i := 40) (N := some 64) (v := ?_) (a' := ?_) (bm 54 2199023255551) rfl rfl (take_ofW HT_.out HW_.out (by kernel_rfl)) (fun _ _ _ h => h) (Or.inl ⟨by first | rfl | (simp only [c9b0, c10b0, c12b0, c13b0, c20b0]; rfl), ?_⟩) hHeld ?_ ?_
             rotate_left
             ·rintro w' ⟨s0, s1, s2, s3, s4, s5, s6, s7, s8, s9, s10, s11, s12, s13, s14⟩
              go_simp
              with_reducible rfl
             rotate_left
             ·simp only [Act.put, List.setIfInBounds_toArray, List.set_cons_zero, List.set_cons_succ, i64_w, i32_w]
              rfl
             refine one_ (i := 41) (N := some 65) (bm 54 4398046511103) rfl rfl (one_of HT_.out (by kernel_rfl)) (by decide) (fun K hK => ?_)
             refine goes_ Try.func22 (by kernel_rfl) rfl #[.agg #[.int .i64 1, .int .i64 2, .int .u32 1, .int .u32 1, .int .u16 1]] (by rfl) rfl rfl (by (try simp only [List.map_toArray, List.map_cons, List.map_nil]); first | done | rfl | (simp only [List.length_drop, List.length_take]; rfl)) ?_
             with_reducible refine (record_Record_Live.calls 1 2 1 1 1 false _ A17.out).mono ?_
             rintro e w40 ⟨rfl, hb⟩
             refine ⟨_, rfl, ?_⟩
             have n0_ := Aside0.mk (blk_below (g := gb183) (o := .cells #[.int .i64 1, .int .i64 0, .int .u32 2, .int .u32 1, .int .u16 1] 27 (0, 0)) (by (with_reducible repeat (first | refine blk_drewN ?_ _ | refine blk_drew ?_ | refine blk_alloc ?_ _)); exact BK183.out) hb)
             have n1_ := Aside0.mk (blk_below (g := gb184) (o := .cells #[.int .i64 1, .int .i64 2, .int .u32 1, .int .u32 1, .int .u16 1] 27 (0, 0)) (by (with_reducible repeat (first | refine blk_drewN ?_ _ | refine blk_drew ?_ | refine blk_alloc ?_ _)); exact BK184.out) hb)
             have n2_ := Aside0.mk (blk_below (g := gb194) (o := .cells #[.int .i64 t187, .int .i64 t188, .int .u32 t189, .int .u32 t190, .int .u16 t191] 27 (0, 0)) (by (with_reducible repeat (first | refine blk_drewN ?_ _ | refine blk_drew ?_ | refine blk_alloc ?_ _)); exact BK194.out) hb)
             have n3_ := Aside0.mk (below_step (by repeat (first | (with_reducible first | exact HB.out | apply below_alloc | apply pw_below_drewN | apply below_drew1 | refine below_set ?_ GE183.out | refine below_set ?_ GE184.out | refine below_set ?_ GE194.out) | exact HB.out)) hb)
             clear BK183
             clear BK184
             clear BK194
             clear HB
             have BK183 := n0_
             have BK184 := n1_
             have BK194 := n2_
             have HB := n3_
             clear n0_ n1_ n2_ n3_
             (try clear hb)
             (try clear hb2)
             (try clear hk)
             (try clear hi)
             refine hK.out _ _ ⟨(blk_cell BK183.out 0).trans rfl, (blk_cell BK183.out 1).trans rfl, (blk_cell BK183.out 2).trans rfl, (blk_cell BK183.out 3).trans rfl, (blk_cell BK183.out 4).trans rfl, (blk_cell BK184.out 0).trans rfl, (blk_cell BK184.out 1).trans rfl, (blk_cell BK184.out 2).trans rfl, (blk_cell BK184.out 3).trans rfl, (blk_cell BK184.out 4).trans rfl, (blk_cell BK194.out 0).trans rfl, (blk_cell BK194.out 1).trans rfl, (blk_cell BK194.out 2).trans rfl, (blk_cell BK194.out 3).trans rfl, (blk_cell BK194.out 4).trans rfl⟩ (fun hHeld => ?_)
             clear hK K
             refine norm_ (a' := ?_) ?_ ?_
             rotate_left
             ·show Act.put _ (some 65) _ = _
              simp only [Act.put, List.setIfInBounds_toArray, List.set_cons_zero, List.set_cons_succ, i64_w, i32_w]
              rfl
             refine pure_ (i := 42) (N := some 66) (v := ?_) (a' := ?_) (bm 54 8796093022207) rfl rfl (any_of HT_.out (by kernel_rfl)) (fun _ _ _ h => h) (Or.inl ⟨by first | rfl | (simp only [c9b0, c10b0, c12b0, c13b0, c20b0]; rfl), ?_⟩) ?_ ?_
             rotate_left
             ·intro w'
              go_simp
              with_reducible rfl
             rotate_left
             ·simp only [Act.put, List.setIfInBounds_toArray, List.set_cons_zero, List.set_cons_succ, i64_w, i32_w]
              rfl
             refine pure_ (i := 43) (N := some 67) (v := ?_) (a' := ?_) (bm 54 17592186044415) rfl rfl (any_of HT_.out (by kernel_rfl)) (fun _ _ _ h => h) (Or.inl ⟨by first | rfl | (simp only [c9b0, c10b0, c12b0, c13b0, c20b0]; rfl), ?_⟩) ?_ ?_
             rotate_left
             ·intro w'
              go_simp
              with_reducible rfl
             rotate_left
             ·simp only [Act.put, List.setIfInBounds_toArray, List.set_cons_zero, List.set_cons_succ, i64_w, i32_w]
              rfl
             refine pure_ (i := 44) (N := some 68) (v := ?_) (a' := ?_) (bm 54 35184372088831) rfl rfl (any_of HT_.out (by kernel_rfl)) (fun _ _ _ h => h) (Or.inl ⟨by first | rfl | (simp only [c9b0, c10b0, c12b0, c13b0, c20b0]; rfl), ?_⟩) ?_ ?_
             rotate_left
             ·intro w'
              go_simp
              with_reducible rfl
             rotate_left
             ·simp only [Act.put, List.setIfInBounds_toArray, List.set_cons_zero, List.set_cons_succ, i64_w, i32_w]
              rfl
             refine one_ (i := 45) (N := some 69) (bm 54 70368744177663) rfl rfl (one_of HT_.out (by kernel_rfl)) (by decide) (fun K hK => ?_)
             refine goes_ Try.func24 (by kernel_rfl) rfl #[.int .i64 1] (by rfl) rfl rfl (by (try simp only [List.map_toArray, List.map_cons, List.map_nil]); first | done | rfl | (simp only [List.length_drop, List.length_take]; rfl)) ?_
             with_reducible refine (record_Word.calls 1 t204 _ A19.out).mono ?_
             rintro e w41 ⟨rfl, hb⟩
             refine ⟨_, rfl, ?_⟩
             have n0_ := Aside0.mk (blk_below (g := gb183) (o := .cells #[.int .i64 1, .int .i64 0, .int .u32 2, .int .u32 1, .int .u16 1] 27 (0, 0)) (by (with_reducible repeat (first | refine blk_drewN ?_ _ | refine blk_drew ?_ | refine blk_alloc ?_ _)); exact BK183.out) hb)
             have n1_ := Aside0.mk (blk_below (g := gb184) (o := .cells #[.int .i64 1, .int .i64 2, .int .u32 1, .int .u32 1, .int .u16 1] 27 (0, 0)) (by (with_reducible repeat (first | refine blk_drewN ?_ _ | refine blk_drew ?_ | refine blk_alloc ?_ _)); exact BK184.out) hb)
             have n2_ := Aside0.mk (blk_below (g := gb194) (o := .cells #[.int .i64 t187, .int .i64 t188, .int .u32 t189, .int .u32 t190, .int .u16 t191] 27 (0, 0)) (by (with_reducible repeat (first | refine blk_drewN ?_ _ | refine blk_drew ?_ | refine blk_alloc ?_ _)); exact BK194.out) hb)
             have n3_ := Aside0.mk (below_step (by repeat (first | (with_reducible first | exact HB.out | apply below_alloc | apply pw_below_drewN | apply below_drew1 | refine below_set ?_ GE183.out | refine below_set ?_ GE184.out | refine below_set ?_ GE194.out) | exact HB.out)) hb)
             clear BK183
             clear BK184
             clear BK194
             clear HB
             have BK183 := n0_
             have BK184 := n1_
             have BK194 := n2_
             have HB := n3_
             clear n0_ n1_ n2_ n3_
             (try clear hb)
             (try clear hb2)
             (try clear hk)
             (try clear hi)
             refine hK.out _ _ ⟨(blk_cell BK183.out 0).trans rfl, (blk_cell BK183.out 1).trans rfl, (blk_cell BK183.out 2).trans rfl, (blk_cell BK183.out 3).trans rfl, (blk_cell BK183.out 4).trans rfl, (blk_cell BK184.out 0).trans rfl, (blk_cell BK184.out 1).trans rfl, (blk_cell BK184.out 2).trans rfl, (blk_cell BK184.out 3).trans rfl, (blk_cell BK184.out 4).trans rfl, (blk_cell BK194.out 0).trans rfl, (blk_cell BK194.out 1).trans rfl, (blk_cell BK194.out 2).trans rfl, (blk_cell BK194.out 3).trans rfl, (blk_cell BK194.out 4).trans rfl⟩ (fun hHeld => ?_)
             clear hK K
             refine norm_ (a' := ?_) ?_ ?_
             rotate_left
             ·show Act.put _ (some 69) _ = _
              simp only [Act.put, List.setIfInBounds_toArray, List.set_cons_zero, List.set_cons_succ, i64_w, i32_w]
              rfl
             refine pure_ (i := 46) (N := some 70) (v := ?_) (a' := ?_) (bm 54 140737488355327) rfl rfl (any_of HT_.out (by kernel_rfl)) (fun _ _ _ h => h) (Or.inl ⟨by first | rfl | (simp only [c9b0, c10b0, c12b0, c13b0, c20b0]; rfl), ?_⟩) ?_ ?_
             rotate_left
             ·intro w'
              go_simp
              with_reducible rfl
             rotate_left
             ·simp only [Act.put, List.setIfInBounds_toArray, List.set_cons_zero, List.set_cons_succ, i64_w, i32_w]
              rfl
             refine pure_ (i := 47) (N := some 71) (v := ?_) (a' := ?_) (bm 54 281474976710655) rfl rfl (any_of HT_.out (by kernel_rfl)) (fun _ _ _ h => h) (Or.inl ⟨by first | rfl | (simp only [c9b0, c10b0, c12b0, c13b0, c20b0]; rfl), ?_⟩) ?_ ?_
             rotate_left
             ·intro w'
              go_simp
              with_reducible rfl
             rotate_left
             ·simp only [Act.put, List.setIfInBounds_toArray, List.set_cons_zero, List.set_cons_succ, i64_w, i32_w]
              rfl
             refine pure_ (i := 48) (N := some 72) (v := ?_) (a' := ?_) (bm 54 562949953421311) rfl rfl (any_of HT_.out (by kernel_rfl)) (fun _ _ _ h => h) (Or.inl ⟨by first | rfl | (simp only [c9b0, c10b0, c12b0, c13b0, c20b0]; rfl), ?_⟩) ?_ ?_
             rotate_left
             ·intro w'
              go_simp
              with_reducible rfl
             rotate_left
             ·simp only [Act.put, List.setIfInBounds_toArray, List.set_cons_zero, List.set_cons_succ, i64_w, i32_w]
              rfl
             refine pure_ (i := 49) (N := some 73) (v := ?_) (a' := ?_) (bm 54 1125899906842623) rfl rfl (any_of HT_.out (by kernel_rfl)) (fun _ _ _ h => h) (Or.inl ⟨by first | rfl | (simp only [c9b0, c10b0, c12b0, c13b0, c20b0]; rfl), ?_⟩) ?_ ?_
             rotate_left
             ·intro w'
              go_simp
              with_reducible rfl
             rotate_left
             ·simp only [Act.put, List.setIfInBounds_toArray, List.set_cons_zero, List.set_cons_succ, i64_w, i32_w]
              rfl
             refine one_ (i := 50) (N := some 74) (bm 54 2251799813685247) rfl rfl (one_of HT_.out (by kernel_rfl)) (by decide) (fun K hK => ?_)
             refine goes_ Try.func14 (by kernel_rfl) rfl #[.agg #[.int .i64 0, .int .i64 0, .int .u32 0, .int .u32 0, .int .u16 0]] (by rfl) rfl rfl (by (try simp only [List.map_toArray, List.map_cons, List.map_nil]); first | done | rfl | (simp only [List.length_drop, List.length_take]; rfl)) ?_
             with_reducible refine (record_Right.calls 0 0 0 0 0 t205 _ A21.out).mono ?_
             rintro e w42 ⟨rfl, hb⟩
             refine ⟨_, rfl, ?_⟩
             have n0_ := Aside0.mk (blk_below (g := gb183) (o := .cells #[.int .i64 1, .int .i64 0, .int .u32 2, .int .u32 1, .int .u16 1] 27 (0, 0)) (by (with_reducible repeat (first | refine blk_drewN ?_ _ | refine blk_drew ?_ | refine blk_alloc ?_ _)); exact BK183.out) hb)
             have n1_ := Aside0.mk (blk_below (g := gb184) (o := .cells #[.int .i64 1, .int .i64 2, .int .u32 1, .int .u32 1, .int .u16 1] 27 (0, 0)) (by (with_reducible repeat (first | refine blk_drewN ?_ _ | refine blk_drew ?_ | refine blk_alloc ?_ _)); exact BK184.out) hb)
             have n2_ := Aside0.mk (blk_below (g := gb194) (o := .cells #[.int .i64 t187, .int .i64 t188, .int .u32 t189, .int .u32 t190, .int .u16 t191] 27 (0, 0)) (by (with_reducible repeat (first | refine blk_drewN ?_ _ | refine blk_drew ?_ | refine blk_alloc ?_ _)); exact BK194.out) hb)
             have n3_ := Aside0.mk (below_step (by repeat (first | (with_reducible first | exact HB.out | apply below_alloc | apply pw_below_drewN | apply below_drew1 | refine below_set ?_ GE183.out | refine below_set ?_ GE184.out | refine below_set ?_ GE194.out) | exact HB.out)) hb)
             clear BK183
             clear BK184
             clear BK194
             clear HB
             have BK183 := n0_
             have BK184 := n1_
             have BK194 := n2_
             have HB := n3_
             clear n0_ n1_ n2_ n3_
             (try clear hb)
             (try clear hb2)
             (try clear hk)
             (try clear hi)
             refine hK.out _ _ ⟨(blk_cell BK183.out 0).trans rfl, (blk_cell BK183.out 1).trans rfl, (blk_cell BK183.out 2).trans rfl, (blk_cell BK183.out 3).trans rfl, (blk_cell BK183.out 4).trans rfl, (blk_cell BK184.out 0).trans rfl, (blk_cell BK184.out 1).trans rfl, (blk_cell BK184.out 2).trans rfl, (blk_cell BK184.out 3).trans rfl, (blk_cell BK184.out 4).trans rfl, (blk_cell BK194.out 0).trans rfl, (blk_cell BK194.out 1).trans rfl, (blk_cell BK194.out 2).trans rfl, (blk_cell BK194.out 3).trans rfl, (blk_cell BK194.out 4).trans rfl⟩ (fun hHeld => ?_)
             clear hK K
             refine norm_ (a' := ?_) ?_ ?_
             rotate_left
             ·show Act.put _ (some 74) _ = _
              simp only [Act.put, List.setIfInBounds_toArray, List.set_cons_zero, List.set_cons_succ, i64_w, i32_w]
              rfl
             refine pure_ (i := 51) (N := some 75) (v := ?_) (a' := ?_) (bm 54 4503599627370495) rfl rfl (any_of HT_.out (by kernel_rfl)) (fun _ _ _ h => h) (Or.inl ⟨by first | rfl | (simp only [c9b0, c10b0, c12b0, c13b0, c20b0]; rfl), ?_⟩) ?_ ?_
             rotate_left
             ·intro w'
              go_simp
              with_reducible rfl
             rotate_left
             ·simp only [Act.put, List.setIfInBounds_toArray, List.set_cons_zero, List.set_cons_succ, i64_w, i32_w]
              rfl
             refine pure_ (i := 52) (N := some 76) (v := ?_) (a' := ?_) (bm 54 9007199254740991) rfl rfl (any_of HT_.out (by kernel_rfl)) (fun _ _ _ h => h) (Or.inl ⟨by first | rfl | (simp only [c9b0, c10b0, c12b0, c13b0, c20b0]; rfl), ?_⟩) ?_ ?_
             rotate_left
             ·intro w'
              go_simp
              with_reducible rfl
             rotate_left
             ·simp only [Act.put, List.setIfInBounds_toArray, List.set_cons_zero, List.set_cons_succ, i64_w, i32_w]
              rfl
             refine pure_ (i := 53) (N := some 0) (v := ?_) (a' := ?_) (bm 54 18014398509481983) rfl rfl (any_of HT_.out (by kernel_rfl)) (fun _ _ _ h => h) (Or.inl ⟨by first | rfl | (simp only [c9b0, c10b0, c12b0, c13b0, c20b0]; rfl), ?_⟩) ?_ ?_
             rotate_left
             ·intro w'
              go_simp
              with_reducible rfl
             rotate_left
             ·simp only [Act.put, List.setIfInBounds_toArray, List.set_cons_zero, List.set_cons_succ, i64_w, i32_w]
              rfl
             refine done_ (done_of HT_.out (by kernel_rfl)) ?_
             try go_wp2
             go_ret
             exact ⟨by first | rfl | (simp only [Go.Proofs.YtalibiaplhmfhaaX.ne_nil, Go.Proofs.YtalibiaplhmfhaaX.eq_nil]; rfl) | (simp [Go.Proofs.YtalibiaplhmfhaaX.ne_nil, Go.Proofs.YtalibiaplhmfhaaX.eq_nil]; done) | (simp [errW_none, errW_some] <;> rfl) | (simp [*, errW_none, errW_some] <;> rfl), by repeat (first | (with_reducible first | exact HB.out | apply below_alloc | apply pw_below_drewN | apply below_drew1 | refine below_set ?_ GE183.out | refine below_set ?_ GE184.out | refine below_set ?_ GE194.out) | exact HB.out)⟩
            ·(first | rw [if_neg c20] at H | exact absurd rfl c20)
             have c20b0 : (t204.toList == ([115, 117, 115, 112, 101, 99, 116] : List UInt8)) = false := beq_eq_false_iff_ne.mpr c20
             have c20b1 : (t204.toList != ([115, 117, 115, 112, 101, 99, 116] : List UInt8)) = true := bne_iff_ne.mpr c20
             exact absurd H (by simp)
          ·replace c16 := Bool.eq_false_iff.mpr c16
           (first | subst c16 | clear c16)
           have H1 : (none) = some r := by rw [if_neg (show ¬ (false = true) by decide)] at H; exact H
           clear H
           have H := H1
           clear H1
           exact absurd H (by simp)
         ·replace c14 := Bool.eq_false_iff.mpr c14
          (first | subst c14 | clear c14)
          have H1 : (none) = some r := by rw [if_neg (show ¬ (false = true) by decide)] at H; exact H
          clear H
          have H := H1
          clear H1
          exact absurd H (by simp)
        ·(first | rw [if_neg c13] at H | exact absurd rfl c13)
         have c13b0 : (t192.toList == ([120] : List UInt8)) = false := beq_eq_false_iff_ne.mpr c13
         have c13b1 : (t192.toList != ([120] : List UInt8)) = true := bne_iff_ne.mpr c13
         exact absurd H (by simp)
       ·(first | rw [if_neg c12] at H | exact absurd rfl c12)
        have c12b0 : (t187 == 1 && (t188 == 0 && (t189 == 2 && ((t190 == 1 && (t191 == 1)))))) = false := by simpa using c12
        (try (have c12b1 : decide (t187 = 1 && (t188 == 0 && (t189 == 2 && ((t190 == 1 && (t191 == 1)))))) = false := by simpa using c12))
        (try (have c12b2 : (t187 == 1 && (t188 == 0 && (t189 == 2 && ((t190 == 1 && (t191 == 1)))))) = false := by simpa using c12))
        (try (have c12b3 : ¬ (t187 = 1 && (t188 == 0 && (t189 == 2 && ((t190 == 1 && (t191 == 1)))))) := by simpa using c12))
        clear c12
        exact absurd H (by simp)
      ·replace c11 := Bool.eq_false_iff.mpr c11
       (first | subst c11 | clear c11)
       have H1 : (none) = some r := by rw [if_neg (show ¬ (false = true) by decide)] at H; exact H
       clear H
       have H := H1
       clear H1
       exact absurd H (by simp)
     ·(first | rw [if_neg c10] at H | exact absurd rfl c10)
      have c10b0 : (t185.toList == ([1, 0, 0, 0, 0, 2, 0, 0, 0, 1, 0, 1] : List UInt8)) = false := beq_eq_false_iff_ne.mpr c10
      have c10b1 : (t185.toList != ([1, 0, 0, 0, 0, 2, 0, 0, 0, 1, 0, 1] : List UInt8)) = true := bne_iff_ne.mpr c10
      exact absurd H (by simp)
    ·(first | rw [if_neg c9] at H | exact absurd rfl c9)
     have c9b0 : (t197 == 1 && (t198 == 0 && (t199 == 2 && ((t200 == 1 && (t201 == 1)))))) = false := by simpa using c9
     (try (have c9b1 : decide (t197 = 1 && (t198 == 0 && (t199 == 2 && ((t200 == 1 && (t201 == 1)))))) = false := by simpa using c9))
     (try (have c9b2 : (t197 == 1 && (t198 == 0 && (t199 == 2 && ((t200 == 1 && (t201 == 1)))))) = false := by simpa using c9))
     (try (have c9b3 : ¬ (t197 = 1 && (t198 == 0 && (t199 == 2 && ((t200 == 1 && (t201 == 1)))))) := by simpa using c9))
     clear c9
     exact absurd H (by simp)
  ·replace c5 := Bool.eq_false_iff.mpr c5
   (first | subst c5 | clear c5)
   have H1 : (none) = some r := by rw [if_neg (show ¬ (false = true) by decide)] at H; exact H
   clear H
   have H := H1
   clear H1
   exact absurd H (by simp)
 ·(first | rw [if_neg c2] at H | exact absurd rfl c2)
  exact absurd H (by simp)

end Go.Proofs.Ytalibiaplhmfhaa.PA
