/- Written by xprint.py, a program of this session: Go functions that the laws reach, each as a plain Lean function, and the proof that the Go code comes to what it says. No condition but those that each theorem names. -/
import Derived.Test.YtjlpfmiipicnoaaDoorItoa
import Derived.Test.YtjlpfmiipicnoaaDoorPAx0
import Derived.Test.YtjlpfmiipicnoaaDoorPAx1
import Derived.Test.YtjlpfmiipicnoaaDoorPAx2
import Derived.Test.YtjlpfmiipicnoaaDoorPAx3
import Derived.Test.YtjlpfmiipicnoaaDoorPAx6
import Derived.Test.YtjlpfmiipicnoaaDoorPAx7
import Derived.Test.YtjlpfmiipicnoaaDoorPAx8
import Derived.WalkSpells
import Derived.WalkLawsBesides
import Derived.Laws.IdiomStrings
import Derived.Laws.BytesArg
import Derived.Test.YtjlpfmiipicnoaaDoorXAux
namespace Go.Proofs.YtjlpfmiipicnoaaDoor.PA
open Go.RowKit Go.Proofs.YtjlpfmiipicnoaaDoorW.PrintWords Go.Proofs.YtjlpfmiipicnoaaDoorW.PrintLast Go.Proofs.YtjlpfmiipicnoaaDoorW.PrintMore
attribute [local go_sem] max2_int min2_int max_two min_two max_three min_three max_four min_four   -- for this text's walks alone
set_option linter.unusedVariables false
set_option linter.unusedSimpArgs false

attribute [local go_sem high] eqA25
/-! ### scuttlebuttlaw03_AddrBack: function 5 -/
def scuttlebuttlaw03_AddrBack.f (k : Nat) (a0_0 : Int) (a0_1 : Int) (a1 : Int) : Option (Bool) := (scuttlebuttlaw03_examples.f k).bind fun t174 => (if t174 = true then ((addr_Addr_Text.f k a0_0 a0_1).bind fun t175 => ((addr_Read.f k t175).bind fun bt176 => ((addr_Addr_Put.f a0_0 a0_1).bind fun t180 => ((addr_Get.f k t180).bind fun bt181 => ((addr_Addr_Put.f a0_0 a0_1).bind fun t185 => ((some (([a1] : List Int) : List Int)).bind fun y186 => (if t185.size + (strOfNums y186).size ≤ 9223372036854775807 then ((addr_Get.f k (t185 ++ (strOfNums y186))).bind fun bt189 => ((addr_Addr_Text.f k a0_0 a0_1).bind fun t193 => (if 1 + t193.size ≤ 9223372036854775807 then ((addr_Read.f k ((⟨#[48]⟩ : ByteArray) ++ t193)).bind fun bt194 => ((addr_Addr_Text.f k a0_0 a0_1).bind fun t198 => (if t198.size + 1 ≤ 9223372036854775807 then ((addr_Read.f k (t198 ++ (⟨#[58]⟩ : ByteArray))).bind fun bt199 => ((addr_Addr_Put.f a0_0 a0_1).bind fun t203 => (if (t203.size : Int) = 6 then ((addr_Addr_Put.f a0_0 a0_1).bind fun t204 => (if 1 ≤ (t204.size : Int) then ((addr_Get.f k (t204.extract 1 t204.size)).bind fun bt205 => (if bt176.2.2 = true then (if (bt176.1 == a0_0 && (bt176.2.1 == a0_1)) = true then (if bt181.2.2 = true then (if (bt181.1 == a0_0 && (bt181.2.1 == a0_1)) = true then (if bt189.2.2 = true then (none) else (if bt194.2.2 = true then (none) else (if bt199.2.2 = true then (none) else (some (!bt205.2.2))))) else (none)) else (none)) else (none)) else (none))) else (none))) else (none)))) else (none)))) else (none)))) else (none)))))))) else (none))
theorem scuttlebuttlaw03_AddrBack.mono : ∀ a0 a1 a2 k, LeO (scuttlebuttlaw03_AddrBack.f k a0 a1 a2) (scuttlebuttlaw03_AddrBack.f (k + 1) a0 a1 a2) := by
  intro a0 a1 a2 k
  unfold scuttlebuttlaw03_AddrBack.f
  repeat' first
      | (with_reducible exact addr_Addr_Text.mono _ _ _)
      | (with_reducible exact addr_Get.mono _ _)
      | (with_reducible exact addr_Read.mono _ _)
      | (with_reducible exact scuttlebuttlaw03_examples.mono _)
      | (with_reducible exact LeO.refl _)
      | (with_reducible exact LeO.none _)
      | (with_reducible refine LeO.ite ?_ ?_)
      | (with_reducible refine LeO.bind ?_ (fun _ => ?_))
      | exact addr_Addr_Text.mono _ _ _
      | exact addr_Get.mono _ _
      | exact addr_Read.mono _ _
      | exact scuttlebuttlaw03_examples.mono _
      | exact LeO.none _
      | refine LeO.ite ?_ ?_
      | refine LeO.bind ?_ (fun _ => ?_)
def scuttlebuttlaw03_AddrBack.T6 : Bool × List (List Nat × List Nat) := (true, [([], []), ([0], [0]), ([], []), ([2], [2]), ([3], [3]), ([1, 4], [1, 4]), ([5, 1], [5]), ([6], [6]), ([7], [7]), ([7], [7]), ([], []), ([10, 8, 6, 0, 1, 2, 3, 4, 5, 6, 7, 8, 10], [8, 10]), ([9, 11, 0, 1, 2, 3, 4, 5, 6, 7, 8, 9, 10, 11], [9])])
def scuttlebuttlaw03_AddrBack.B6 : List Nat := [0, 1, 0, 4, 12, 31, 63, 127, 255, 255, 0, 1535, 4095]
theorem scuttlebuttlaw03_AddrBack.tab6 : rtab .any (opsOf Tryd.f5 6) = scuttlebuttlaw03_AddrBack.T6 := by kernel_rfl
theorem scuttlebuttlaw03_AddrBack.bits6 : waitsOk scuttlebuttlaw03_AddrBack.T6.2 scuttlebuttlaw03_AddrBack.B6 = true := by kernel_rfl
set_option maxHeartbeats 8000000 in
set_option maxRecDepth 100000 in
theorem scuttlebuttlaw03_AddrBack.calls (k : Nat) (a0_0 : Int) (a0_1 : Int) (a1 : Int) (r : Bool) (w : World) (h : scuttlebuttlaw03_AddrBack.f k a0_0 a0_1 a1 = some r) (htab : Aside0 (IT.TabP w)) :
    Calls Tryd.prog 5 #[.agg #[.int .u32 a0_0, .int .u16 a0_1], .int .u8 a1] w fun e w' => e = .returned (.bool r) ∧ Below w.heap.size w w' := by
  have hu25 := Tryd.underlying25
  have HB := Aside0.mk (Below.refl w.heap.size w)
  have H : ((scuttlebuttlaw03_examples.f k).bind fun t174 => (if t174 = true then ((addr_Addr_Text.f k a0_0 a0_1).bind fun t175 => ((addr_Read.f k t175).bind fun bt176 => ((addr_Addr_Put.f a0_0 a0_1).bind fun t180 => ((addr_Get.f k t180).bind fun bt181 => ((addr_Addr_Put.f a0_0 a0_1).bind fun t185 => ((some (([a1] : List Int) : List Int)).bind fun y186 => (if t185.size + (strOfNums y186).size ≤ 9223372036854775807 then ((addr_Get.f k (t185 ++ (strOfNums y186))).bind fun bt189 => ((addr_Addr_Text.f k a0_0 a0_1).bind fun t193 => (if 1 + t193.size ≤ 9223372036854775807 then ((addr_Read.f k ((⟨#[48]⟩ : ByteArray) ++ t193)).bind fun bt194 => ((addr_Addr_Text.f k a0_0 a0_1).bind fun t198 => (if t198.size + 1 ≤ 9223372036854775807 then ((addr_Read.f k (t198 ++ (⟨#[58]⟩ : ByteArray))).bind fun bt199 => ((addr_Addr_Put.f a0_0 a0_1).bind fun t203 => (if (t203.size : Int) = 6 then ((addr_Addr_Put.f a0_0 a0_1).bind fun t204 => (if 1 ≤ (t204.size : Int) then ((addr_Get.f k (t204.extract 1 t204.size)).bind fun bt205 => (if bt176.2.2 = true then (if (bt176.1 == a0_0 && (bt176.2.1 == a0_1)) = true then (if bt181.2.2 = true then (if (bt181.1 == a0_0 && (bt181.2.1 == a0_1)) = true then (if bt189.2.2 = true then (none) else (if bt194.2.2 = true then (none) else (if bt199.2.2 = true then (none) else (some (!bt205.2.2))))) else (none)) else (none)) else (none)) else (none))) else (none))) else (none)))) else (none)))) else (none)))) else (none)))))))) else (none))) = some r := h
  clear h
  replace H := Option.bind_eq_some_iff.mp H
  obtain ⟨t174, A30, H⟩ := H
  replace H : (if t174 = true then ((addr_Addr_Text.f k a0_0 a0_1).bind fun t175 => ((addr_Read.f k t175).bind fun bt176 => ((addr_Addr_Put.f a0_0 a0_1).bind fun t180 => ((addr_Get.f k t180).bind fun bt181 => ((addr_Addr_Put.f a0_0 a0_1).bind fun t185 => ((some (([a1] : List Int) : List Int)).bind fun y186 => (if t185.size + (strOfNums y186).size ≤ 9223372036854775807 then ((addr_Get.f k (t185 ++ (strOfNums y186))).bind fun bt189 => ((addr_Addr_Text.f k a0_0 a0_1).bind fun t193 => (if 1 + t193.size ≤ 9223372036854775807 then ((addr_Read.f k ((⟨#[48]⟩ : ByteArray) ++ t193)).bind fun bt194 => ((addr_Addr_Text.f k a0_0 a0_1).bind fun t198 => (if t198.size + 1 ≤ 9223372036854775807 then ((addr_Read.f k (t198 ++ (⟨#[58]⟩ : ByteArray))).bind fun bt199 => ((addr_Addr_Put.f a0_0 a0_1).bind fun t203 => (if (t203.size : Int) = 6 then ((addr_Addr_Put.f a0_0 a0_1).bind fun t204 => (if 1 ≤ (t204.size : Int) then ((addr_Get.f k (t204.extract 1 t204.size)).bind fun bt205 => (if bt176.2.2 = true then (if (bt176.1 == a0_0 && (bt176.2.1 == a0_1)) = true then (if bt181.2.2 = true then (if (bt181.1 == a0_0 && (bt181.2.1 == a0_1)) = true then (if bt189.2.2 = true then (none) else (if bt194.2.2 = true then (none) else (if bt199.2.2 = true then (none) else (some (!bt205.2.2))))) else (none)) else (none)) else (none)) else (none))) else (none))) else (none)))) else (none)))) else (none)))) else (none)))))))) else (none)) = some r := H
  have A3 := Aside0.mk A30
  clear A30
  by_cases c4 : t174 = true
  · (first | subst c4 | clear c4)
    have H1 : ((addr_Addr_Text.f k a0_0 a0_1).bind fun t175 => ((addr_Read.f k t175).bind fun bt176 => ((addr_Addr_Put.f a0_0 a0_1).bind fun t180 => ((addr_Get.f k t180).bind fun bt181 => ((addr_Addr_Put.f a0_0 a0_1).bind fun t185 => ((some (([a1] : List Int) : List Int)).bind fun y186 => (if t185.size + (strOfNums y186).size ≤ 9223372036854775807 then ((addr_Get.f k (t185 ++ (strOfNums y186))).bind fun bt189 => ((addr_Addr_Text.f k a0_0 a0_1).bind fun t193 => (if 1 + t193.size ≤ 9223372036854775807 then ((addr_Read.f k ((⟨#[48]⟩ : ByteArray) ++ t193)).bind fun bt194 => ((addr_Addr_Text.f k a0_0 a0_1).bind fun t198 => (if t198.size + 1 ≤ 9223372036854775807 then ((addr_Read.f k (t198 ++ (⟨#[58]⟩ : ByteArray))).bind fun bt199 => ((addr_Addr_Put.f a0_0 a0_1).bind fun t203 => (if (t203.size : Int) = 6 then ((addr_Addr_Put.f a0_0 a0_1).bind fun t204 => (if 1 ≤ (t204.size : Int) then ((addr_Get.f k (t204.extract 1 t204.size)).bind fun bt205 => (if bt176.2.2 = true then (if (bt176.1 == a0_0 && (bt176.2.1 == a0_1)) = true then (if bt181.2.2 = true then (if (bt181.1 == a0_0 && (bt181.2.1 == a0_1)) = true then (if bt189.2.2 = true then (none) else (if bt194.2.2 = true then (none) else (if bt199.2.2 = true then (none) else (some (!bt205.2.2))))) else (none)) else (none)) else (none)) else (none))) else (none))) else (none)))) else (none)))) else (none)))) else (none)))))))) = some r := by first | (rw [if_pos rfl] at H; exact H) | (rw [if_pos trivial] at H; exact H)
    clear H
    have H := H1
    clear H1
    replace H := Option.bind_eq_some_iff.mp H
    obtain ⟨t175, A50, H⟩ := H
    replace H : ((addr_Read.f k t175).bind fun bt176 => ((addr_Addr_Put.f a0_0 a0_1).bind fun t180 => ((addr_Get.f k t180).bind fun bt181 => ((addr_Addr_Put.f a0_0 a0_1).bind fun t185 => ((some (([a1] : List Int) : List Int)).bind fun y186 => (if t185.size + (strOfNums y186).size ≤ 9223372036854775807 then ((addr_Get.f k (t185 ++ (strOfNums y186))).bind fun bt189 => ((addr_Addr_Text.f k a0_0 a0_1).bind fun t193 => (if 1 + t193.size ≤ 9223372036854775807 then ((addr_Read.f k ((⟨#[48]⟩ : ByteArray) ++ t193)).bind fun bt194 => ((addr_Addr_Text.f k a0_0 a0_1).bind fun t198 => (if t198.size + 1 ≤ 9223372036854775807 then ((addr_Read.f k (t198 ++ (⟨#[58]⟩ : ByteArray))).bind fun bt199 => ((addr_Addr_Put.f a0_0 a0_1).bind fun t203 => (if (t203.size : Int) = 6 then ((addr_Addr_Put.f a0_0 a0_1).bind fun t204 => (if 1 ≤ (t204.size : Int) then ((addr_Get.f k (t204.extract 1 t204.size)).bind fun bt205 => (if bt176.2.2 = true then (if (bt176.1 == a0_0 && (bt176.2.1 == a0_1)) = true then (if bt181.2.2 = true then (if (bt181.1 == a0_0 && (bt181.2.1 == a0_1)) = true then (if bt189.2.2 = true then (none) else (if bt194.2.2 = true then (none) else (if bt199.2.2 = true then (none) else (some (!bt205.2.2))))) else (none)) else (none)) else (none)) else (none))) else (none))) else (none)))) else (none)))) else (none)))) else (none))))))) = some r := H
    have A5 := Aside0.mk A50
    clear A50
    replace H := Option.bind_eq_some_iff.mp H
    obtain ⟨⟨t176, t177, t178⟩, A60, H⟩ := H
    replace H : ((addr_Addr_Put.f a0_0 a0_1).bind fun t180 => ((addr_Get.f k t180).bind fun bt181 => ((addr_Addr_Put.f a0_0 a0_1).bind fun t185 => ((some (([a1] : List Int) : List Int)).bind fun y186 => (if t185.size + (strOfNums y186).size ≤ 9223372036854775807 then ((addr_Get.f k (t185 ++ (strOfNums y186))).bind fun bt189 => ((addr_Addr_Text.f k a0_0 a0_1).bind fun t193 => (if 1 + t193.size ≤ 9223372036854775807 then ((addr_Read.f k ((⟨#[48]⟩ : ByteArray) ++ t193)).bind fun bt194 => ((addr_Addr_Text.f k a0_0 a0_1).bind fun t198 => (if t198.size + 1 ≤ 9223372036854775807 then ((addr_Read.f k (t198 ++ (⟨#[58]⟩ : ByteArray))).bind fun bt199 => ((addr_Addr_Put.f a0_0 a0_1).bind fun t203 => (if (t203.size : Int) = 6 then ((addr_Addr_Put.f a0_0 a0_1).bind fun t204 => (if 1 ≤ (t204.size : Int) then ((addr_Get.f k (t204.extract 1 t204.size)).bind fun bt205 => (if t178 = true then (if (t176 == a0_0 && (t177 == a0_1)) = true then (if bt181.2.2 = true then (if (bt181.1 == a0_0 && (bt181.2.1 == a0_1)) = true then (if bt189.2.2 = true then (none) else (if bt194.2.2 = true then (none) else (if bt199.2.2 = true then (none) else (some (!bt205.2.2))))) else (none)) else (none)) else (none)) else (none))) else (none))) else (none)))) else (none)))) else (none)))) else (none)))))) = some r := H
    have A6 := Aside0.mk A60
    clear A60
    replace H := Option.bind_eq_some_iff.mp H
    obtain ⟨t180, A70, H⟩ := H
    replace H : ((addr_Get.f k t180).bind fun bt181 => ((addr_Addr_Put.f a0_0 a0_1).bind fun t185 => ((some (([a1] : List Int) : List Int)).bind fun y186 => (if t185.size + (strOfNums y186).size ≤ 9223372036854775807 then ((addr_Get.f k (t185 ++ (strOfNums y186))).bind fun bt189 => ((addr_Addr_Text.f k a0_0 a0_1).bind fun t193 => (if 1 + t193.size ≤ 9223372036854775807 then ((addr_Read.f k ((⟨#[48]⟩ : ByteArray) ++ t193)).bind fun bt194 => ((addr_Addr_Text.f k a0_0 a0_1).bind fun t198 => (if t198.size + 1 ≤ 9223372036854775807 then ((addr_Read.f k (t198 ++ (⟨#[58]⟩ : ByteArray))).bind fun bt199 => ((addr_Addr_Put.f a0_0 a0_1).bind fun t203 => (if (t203.size : Int) = 6 then ((addr_Addr_Put.f a0_0 a0_1).bind fun t204 => (if 1 ≤ (t204.size : Int) then ((addr_Get.f k (t204.extract 1 t204.size)).bind fun bt205 => (if t178 = true then (if (t176 == a0_0 && (t177 == a0_1)) = true then (if bt181.2.2 = true then (if (bt181.1 == a0_0 && (bt181.2.1 == a0_1)) = true then (if bt189.2.2 = true then (none) else (if bt194.2.2 = true then (none) else (if bt199.2.2 = true then (none) else (some (!bt205.2.2))))) else (none)) else (none)) else (none)) else (none))) else (none))) else (none)))) else (none)))) else (none)))) else (none))))) = some r := H
    have A7 := Aside0.mk A70
    clear A70
    replace H := Option.bind_eq_some_iff.mp H
    obtain ⟨⟨t181, t182, t183⟩, A80, H⟩ := H
    replace H : ((addr_Addr_Put.f a0_0 a0_1).bind fun t185 => ((some (([a1] : List Int) : List Int)).bind fun y186 => (if t185.size + (strOfNums y186).size ≤ 9223372036854775807 then ((addr_Get.f k (t185 ++ (strOfNums y186))).bind fun bt189 => ((addr_Addr_Text.f k a0_0 a0_1).bind fun t193 => (if 1 + t193.size ≤ 9223372036854775807 then ((addr_Read.f k ((⟨#[48]⟩ : ByteArray) ++ t193)).bind fun bt194 => ((addr_Addr_Text.f k a0_0 a0_1).bind fun t198 => (if t198.size + 1 ≤ 9223372036854775807 then ((addr_Read.f k (t198 ++ (⟨#[58]⟩ : ByteArray))).bind fun bt199 => ((addr_Addr_Put.f a0_0 a0_1).bind fun t203 => (if (t203.size : Int) = 6 then ((addr_Addr_Put.f a0_0 a0_1).bind fun t204 => (if 1 ≤ (t204.size : Int) then ((addr_Get.f k (t204.extract 1 t204.size)).bind fun bt205 => (if t178 = true then (if (t176 == a0_0 && (t177 == a0_1)) = true then (if t183 = true then (if (t181 == a0_0 && (t182 == a0_1)) = true then (if bt189.2.2 = true then (none) else (if bt194.2.2 = true then (none) else (if bt199.2.2 = true then (none) else (some (!bt205.2.2))))) else (none)) else (none)) else (none)) else (none))) else (none))) else (none)))) else (none)))) else (none)))) else (none)))) = some r := H
    have A8 := Aside0.mk A80
    clear A80
    replace H := Option.bind_eq_some_iff.mp H
    obtain ⟨t185, A90, H⟩ := H
    replace H : ((some (([a1] : List Int) : List Int)).bind fun y186 => (if t185.size + (strOfNums y186).size ≤ 9223372036854775807 then ((addr_Get.f k (t185 ++ (strOfNums y186))).bind fun bt189 => ((addr_Addr_Text.f k a0_0 a0_1).bind fun t193 => (if 1 + t193.size ≤ 9223372036854775807 then ((addr_Read.f k ((⟨#[48]⟩ : ByteArray) ++ t193)).bind fun bt194 => ((addr_Addr_Text.f k a0_0 a0_1).bind fun t198 => (if t198.size + 1 ≤ 9223372036854775807 then ((addr_Read.f k (t198 ++ (⟨#[58]⟩ : ByteArray))).bind fun bt199 => ((addr_Addr_Put.f a0_0 a0_1).bind fun t203 => (if (t203.size : Int) = 6 then ((addr_Addr_Put.f a0_0 a0_1).bind fun t204 => (if 1 ≤ (t204.size : Int) then ((addr_Get.f k (t204.extract 1 t204.size)).bind fun bt205 => (if t178 = true then (if (t176 == a0_0 && (t177 == a0_1)) = true then (if t183 = true then (if (t181 == a0_0 && (t182 == a0_1)) = true then (if bt189.2.2 = true then (none) else (if bt194.2.2 = true then (none) else (if bt199.2.2 = true then (none) else (some (!bt205.2.2))))) else (none)) else (none)) else (none)) else (none))) else (none))) else (none)))) else (none)))) else (none)))) else (none))) = some r := H
    have A9 := Aside0.mk A90
    clear A90
    obtain ⟨y186, hy186⟩ : ∃ y_ : List Int, y_ = (([a1] : List Int)) := ⟨_, rfl⟩
    replace H : (if t185.size + (strOfNums y186).size ≤ 9223372036854775807 then ((addr_Get.f k (t185 ++ (strOfNums y186))).bind fun bt189 => ((addr_Addr_Text.f k a0_0 a0_1).bind fun t193 => (if 1 + t193.size ≤ 9223372036854775807 then ((addr_Read.f k ((⟨#[48]⟩ : ByteArray) ++ t193)).bind fun bt194 => ((addr_Addr_Text.f k a0_0 a0_1).bind fun t198 => (if t198.size + 1 ≤ 9223372036854775807 then ((addr_Read.f k (t198 ++ (⟨#[58]⟩ : ByteArray))).bind fun bt199 => ((addr_Addr_Put.f a0_0 a0_1).bind fun t203 => (if (t203.size : Int) = 6 then ((addr_Addr_Put.f a0_0 a0_1).bind fun t204 => (if 1 ≤ (t204.size : Int) then ((addr_Get.f k (t204.extract 1 t204.size)).bind fun bt205 => (if t178 = true then (if (t176 == a0_0 && (t177 == a0_1)) = true then (if t183 = true then (if (t181 == a0_0 && (t182 == a0_1)) = true then (if bt189.2.2 = true then (none) else (if bt194.2.2 = true then (none) else (if bt199.2.2 = true then (none) else (some (!bt205.2.2))))) else (none)) else (none)) else (none)) else (none))) else (none))) else (none)))) else (none)))) else (none)))) else (none)) = some r := by first | (rw [hy186]; with_reducible exact H) | (have H2_ := (Option.bind_some _ _).symm.trans H; rw [hy186]; with_reducible exact H2_) | (have H2_ := (Option.bind_some _ _).symm.trans H; with_reducible exact H2_) | with_reducible exact H | (rw [hy186]; exact H) | exact H
    have Ny186 := Aside0.mk hy186
    clear hy186
    by_cases c10 : t185.size + (strOfNums y186).size ≤ 9223372036854775807
    · rw [if_pos c10] at H
      have c10b0 := eq_true c10
      have c10b1 : decide (t185.size + (strOfNums y186).size ≤ 9223372036854775807) = true := decide_eq_true c10
      try have c10b2 : (9223372036854775807 < t185.size + (strOfNums y186).size) = False := eq_false (Nat.not_lt.2 c10)
      replace H := Option.bind_eq_some_iff.mp H
      obtain ⟨⟨t189, t190, t191⟩, A110, H⟩ := H
      replace H : ((addr_Addr_Text.f k a0_0 a0_1).bind fun t193 => (if 1 + t193.size ≤ 9223372036854775807 then ((addr_Read.f k ((⟨#[48]⟩ : ByteArray) ++ t193)).bind fun bt194 => ((addr_Addr_Text.f k a0_0 a0_1).bind fun t198 => (if t198.size + 1 ≤ 9223372036854775807 then ((addr_Read.f k (t198 ++ (⟨#[58]⟩ : ByteArray))).bind fun bt199 => ((addr_Addr_Put.f a0_0 a0_1).bind fun t203 => (if (t203.size : Int) = 6 then ((addr_Addr_Put.f a0_0 a0_1).bind fun t204 => (if 1 ≤ (t204.size : Int) then ((addr_Get.f k (t204.extract 1 t204.size)).bind fun bt205 => (if t178 = true then (if (t176 == a0_0 && (t177 == a0_1)) = true then (if t183 = true then (if (t181 == a0_0 && (t182 == a0_1)) = true then (if t191 = true then (none) else (if bt194.2.2 = true then (none) else (if bt199.2.2 = true then (none) else (some (!bt205.2.2))))) else (none)) else (none)) else (none)) else (none))) else (none))) else (none)))) else (none)))) else (none))) = some r := H
      have A11 := Aside0.mk A110
      clear A110
      replace H := Option.bind_eq_some_iff.mp H
      obtain ⟨t193, A120, H⟩ := H
      replace H : (if 1 + t193.size ≤ 9223372036854775807 then ((addr_Read.f k ((⟨#[48]⟩ : ByteArray) ++ t193)).bind fun bt194 => ((addr_Addr_Text.f k a0_0 a0_1).bind fun t198 => (if t198.size + 1 ≤ 9223372036854775807 then ((addr_Read.f k (t198 ++ (⟨#[58]⟩ : ByteArray))).bind fun bt199 => ((addr_Addr_Put.f a0_0 a0_1).bind fun t203 => (if (t203.size : Int) = 6 then ((addr_Addr_Put.f a0_0 a0_1).bind fun t204 => (if 1 ≤ (t204.size : Int) then ((addr_Get.f k (t204.extract 1 t204.size)).bind fun bt205 => (if t178 = true then (if (t176 == a0_0 && (t177 == a0_1)) = true then (if t183 = true then (if (t181 == a0_0 && (t182 == a0_1)) = true then (if t191 = true then (none) else (if bt194.2.2 = true then (none) else (if bt199.2.2 = true then (none) else (some (!bt205.2.2))))) else (none)) else (none)) else (none)) else (none))) else (none))) else (none)))) else (none)))) else (none)) = some r := H
      have A12 := Aside0.mk A120
      clear A120
      by_cases c13 : 1 + t193.size ≤ 9223372036854775807
      · rw [if_pos c13] at H
        have c13b0 := eq_true c13
        have c13b1 : decide (1 + t193.size ≤ 9223372036854775807) = true := decide_eq_true c13
        try have c13b2 : (9223372036854775807 < 1 + t193.size) = False := eq_false (Nat.not_lt.2 c13)
        replace H := Option.bind_eq_some_iff.mp H
        obtain ⟨⟨t194, t195, t196⟩, A140, H⟩ := H
        replace H : ((addr_Addr_Text.f k a0_0 a0_1).bind fun t198 => (if t198.size + 1 ≤ 9223372036854775807 then ((addr_Read.f k (t198 ++ (⟨#[58]⟩ : ByteArray))).bind fun bt199 => ((addr_Addr_Put.f a0_0 a0_1).bind fun t203 => (if (t203.size : Int) = 6 then ((addr_Addr_Put.f a0_0 a0_1).bind fun t204 => (if 1 ≤ (t204.size : Int) then ((addr_Get.f k (t204.extract 1 t204.size)).bind fun bt205 => (if t178 = true then (if (t176 == a0_0 && (t177 == a0_1)) = true then (if t183 = true then (if (t181 == a0_0 && (t182 == a0_1)) = true then (if t191 = true then (none) else (if t196 = true then (none) else (if bt199.2.2 = true then (none) else (some (!bt205.2.2))))) else (none)) else (none)) else (none)) else (none))) else (none))) else (none)))) else (none))) = some r := H
        have A14 := Aside0.mk A140
        clear A140
        replace H := Option.bind_eq_some_iff.mp H
        obtain ⟨t198, A150, H⟩ := H
        replace H : (if t198.size + 1 ≤ 9223372036854775807 then ((addr_Read.f k (t198 ++ (⟨#[58]⟩ : ByteArray))).bind fun bt199 => ((addr_Addr_Put.f a0_0 a0_1).bind fun t203 => (if (t203.size : Int) = 6 then ((addr_Addr_Put.f a0_0 a0_1).bind fun t204 => (if 1 ≤ (t204.size : Int) then ((addr_Get.f k (t204.extract 1 t204.size)).bind fun bt205 => (if t178 = true then (if (t176 == a0_0 && (t177 == a0_1)) = true then (if t183 = true then (if (t181 == a0_0 && (t182 == a0_1)) = true then (if t191 = true then (none) else (if t196 = true then (none) else (if bt199.2.2 = true then (none) else (some (!bt205.2.2))))) else (none)) else (none)) else (none)) else (none))) else (none))) else (none)))) else (none)) = some r := H
        have A15 := Aside0.mk A150
        clear A150
        by_cases c16 : t198.size + 1 ≤ 9223372036854775807
        · rw [if_pos c16] at H
          have c16b0 := eq_true c16
          have c16b1 : decide (t198.size + 1 ≤ 9223372036854775807) = true := decide_eq_true c16
          try have c16b2 : (9223372036854775807 < t198.size + 1) = False := eq_false (Nat.not_lt.2 c16)
          replace H := Option.bind_eq_some_iff.mp H
          obtain ⟨⟨t199, t200, t201⟩, A170, H⟩ := H
          replace H : ((addr_Addr_Put.f a0_0 a0_1).bind fun t203 => (if (t203.size : Int) = 6 then ((addr_Addr_Put.f a0_0 a0_1).bind fun t204 => (if 1 ≤ (t204.size : Int) then ((addr_Get.f k (t204.extract 1 t204.size)).bind fun bt205 => (if t178 = true then (if (t176 == a0_0 && (t177 == a0_1)) = true then (if t183 = true then (if (t181 == a0_0 && (t182 == a0_1)) = true then (if t191 = true then (none) else (if t196 = true then (none) else (if t201 = true then (none) else (some (!bt205.2.2))))) else (none)) else (none)) else (none)) else (none))) else (none))) else (none))) = some r := H
          have A17 := Aside0.mk A170
          clear A170
          replace H := Option.bind_eq_some_iff.mp H
          obtain ⟨t203, A180, H⟩ := H
          replace H : (if (t203.size : Int) = 6 then ((addr_Addr_Put.f a0_0 a0_1).bind fun t204 => (if 1 ≤ (t204.size : Int) then ((addr_Get.f k (t204.extract 1 t204.size)).bind fun bt205 => (if t178 = true then (if (t176 == a0_0 && (t177 == a0_1)) = true then (if t183 = true then (if (t181 == a0_0 && (t182 == a0_1)) = true then (if t191 = true then (none) else (if t196 = true then (none) else (if t201 = true then (none) else (some (!bt205.2.2))))) else (none)) else (none)) else (none)) else (none))) else (none))) else (none)) = some r := H
          have A18 := Aside0.mk A180
          clear A180
          by_cases c19 : (t203.size : Int) = 6
          · rw [if_pos c19] at H
            have c19b0 : ((t203.size : Int) == 6) = true := beq_iff_eq.mpr c19
            have c19b1 : ((t203.size : Int) != 6) = false := bne_eq_false_iff_eq.mpr c19
            clear c19
            replace H := Option.bind_eq_some_iff.mp H
            obtain ⟨t204, A200, H⟩ := H
            replace H : (if 1 ≤ (t204.size : Int) then ((addr_Get.f k (t204.extract 1 t204.size)).bind fun bt205 => (if t178 = true then (if (t176 == a0_0 && (t177 == a0_1)) = true then (if t183 = true then (if (t181 == a0_0 && (t182 == a0_1)) = true then (if t191 = true then (none) else (if t196 = true then (none) else (if t201 = true then (none) else (some (!bt205.2.2))))) else (none)) else (none)) else (none)) else (none))) else (none)) = some r := H
            have A20 := Aside0.mk A200
            clear A200
            by_cases c21 : 1 ≤ (t204.size : Int)
            · rw [if_pos c21] at H
              have c21b0 := eq_true c21
              have c21b1 : decide (1 ≤ (t204.size : Int)) = true := decide_eq_true c21
              clear c21
              replace H := Option.bind_eq_some_iff.mp H
              obtain ⟨⟨t205, t206, t207⟩, A220, H⟩ := H
              replace H : (if t178 = true then (if (t176 == a0_0 && (t177 == a0_1)) = true then (if t183 = true then (if (t181 == a0_0 && (t182 == a0_1)) = true then (if t191 = true then (none) else (if t196 = true then (none) else (if t201 = true then (none) else (some (!t207))))) else (none)) else (none)) else (none)) else (none)) = some r := H
              have A22 := Aside0.mk A220
              clear A220
              by_cases c23 : t178 = true
              · (first | subst c23 | clear c23)
                have H1 : (if (t176 == a0_0 && (t177 == a0_1)) = true then (if t183 = true then (if (t181 == a0_0 && (t182 == a0_1)) = true then (if t191 = true then (none) else (if t196 = true then (none) else (if t201 = true then (none) else (some (!t207))))) else (none)) else (none)) else (none)) = some r := by first | (rw [if_pos rfl] at H; exact H) | (rw [if_pos trivial] at H; exact H)
                clear H
                have H := H1
                clear H1
                by_cases c24 : (t176 == a0_0 && (t177 == a0_1)) = true
                · rw [if_pos c24] at H
                  have c24b0 : (t176 == a0_0 && (t177 == a0_1)) = true := c24
                  (try (have c24b1 : decide (t176 = a0_0 && (t177 == a0_1)) = true := by simpa using c24))
                  (try (have c24b2 : (t176 == a0_0 && (t177 == a0_1)) = true := by simpa using c24))
                  clear c24
                  by_cases c25 : t183 = true
                  · (first | subst c25 | clear c25)
                    have H1 : (if (t181 == a0_0 && (t182 == a0_1)) = true then (if t191 = true then (none) else (if t196 = true then (none) else (if t201 = true then (none) else (some (!t207))))) else (none)) = some r := by first | (rw [if_pos rfl] at H; exact H) | (rw [if_pos trivial] at H; exact H)
                    clear H
                    have H := H1
                    clear H1
                    by_cases c26 : (t181 == a0_0 && (t182 == a0_1)) = true
                    · rw [if_pos c26] at H
                      have c26b0 : (t181 == a0_0 && (t182 == a0_1)) = true := c26
                      (try (have c26b1 : decide (t181 = a0_0 && (t182 == a0_1)) = true := by simpa using c26))
                      (try (have c26b2 : (t181 == a0_0 && (t182 == a0_1)) = true := by simpa using c26))
                      clear c26
                      by_cases c27 : t191 = true
                      · (first | subst c27 | clear c27)
                        have H1 : (none) = some r := by first | (rw [if_pos rfl] at H; exact H) | (rw [if_pos trivial] at H; exact H)
                        clear H
                        have H := H1
                        clear H1
                        exact absurd H (by simp)
                      · replace c27 := Bool.eq_false_iff.mpr c27
                        (first | subst c27 | clear c27)
                        have H1 : (if t196 = true then (none) else (if t201 = true then (none) else (some (!t207)))) = some r := by rw [if_neg (show ¬ (false = true) by decide)] at H; exact H
                        clear H
                        have H := H1
                        clear H1
                        by_cases c28 : t196 = true
                        · (first | subst c28 | clear c28)
                          have H1 : (none) = some r := by first | (rw [if_pos rfl] at H; exact H) | (rw [if_pos trivial] at H; exact H)
                          clear H
                          have H := H1
                          clear H1
                          exact absurd H (by simp)
                        · replace c28 := Bool.eq_false_iff.mpr c28
                          (first | subst c28 | clear c28)
                          have H1 : (if t201 = true then (none) else (some (!t207))) = some r := by rw [if_neg (show ¬ (false = true) by decide)] at H; exact H
                          clear H
                          have H := H1
                          clear H1
                          by_cases c29 : t201 = true
                          · (first | subst c29 | clear c29)
                            have H1 : (none) = some r := by first | (rw [if_pos rfl] at H; exact H) | (rw [if_pos trivial] at H; exact H)
                            clear H
                            have H := H1
                            clear H1
                            exact absurd H (by simp)
                          · replace c29 := Bool.eq_false_iff.mpr c29
                            (first | subst c29 | clear c29)
                            have H1 : (some (!t207)) = some r := by rw [if_neg (show ¬ (false = true) by decide)] at H; exact H
                            clear H
                            have H := H1
                            clear H1
                            obtain rfl := Option.some.inj H
                            go_enter Tryd.func5, Tryd.ntmps5
                            try go_wp2_with (first | ((with_reducible refine gate_dst (N := 2) rfl ?_); refine box_event ?hg (N := 2) ?hd (cs := #[.int .u32 a0_0, .int .u16 a0_1]) (t := 25) ?hr ?_; (case hd => rfl); (case hg => rfl); (case hr => first | (go_simp; done) | (go_simp; rfl)); intro gb173 hg w30 hbox hb; have n0_ := Aside0.mk (below_step (by repeat (first | (with_reducible first | exact HB.out | apply below_alloc | apply pw_below_drewN | apply below_drew1) | exact HB.out)) hb); have n1_ := Aside0.mk (hbox); have n2_ := Aside0.mk ((by rw [hg]; exact (below_size (by repeat (first | (with_reducible first | exact HB.out | apply below_alloc | apply pw_below_drewN | apply below_drew1) | exact HB.out))) : w.heap.size ≤ gb173)); have n3_ := Aside0.mk ((by rw [hg]; exact (below_size (by repeat (first | (with_reducible first | exact HB.out | apply below_alloc | apply pw_below_drewN | apply below_drew1) | exact HB.out))) : w.heap.size ≤ gb173)); clear HB; have HB := n0_; have BK173 := n1_; have GW173 := n2_; have GE173 := n3_; clear n0_ n1_ n2_ n3_; clear hb hbox hg) | ((with_reducible refine gate_callee (f := 9) rfl ?_); refine goesL_ (some 18) rfl rfl Tryd.func9 (by kernel_rfl) rfl #[] rfl (by (try simp only [List.map_toArray, List.map_cons, List.map_nil]); first | done | rfl | (simp only [List.length_drop, List.length_take]; rfl)) ?_; (with_reducible refine (scuttlebuttlaw03_examples.calls k  true _ A3.out ?htb).mono ?_); (case htb => exact ⟨IT.tab_below htab.out (by repeat (first | (with_reducible first | exact HB.out | apply below_alloc | apply pw_below_drewN | apply below_drew1 | refine below_set ?_ GE173.out) | exact HB.out))⟩); rintro e w31 ⟨rfl, hb⟩; refine ⟨_, rfl, ?_⟩; have n0_ := Aside0.mk (blk_below (g := gb173) (o := .cells #[.int .u32 a0_0, .int .u16 a0_1] 25 (0, 0)) (by (with_reducible repeat (first | refine blk_drewN ?_ _ | refine blk_drew ?_ | refine blk_alloc ?_ _)); exact BK173.out) hb); have n1_ := Aside0.mk (below_step (by repeat (first | (with_reducible first | exact HB.out | apply below_alloc | apply pw_below_drewN | apply below_drew1 | refine below_set ?_ GE173.out) | exact HB.out)) hb); clear BK173; clear HB; have BK173 := n0_; have HB := n1_; clear n0_ n1_; (try clear hb); (try clear hb2); (try clear hk); (try clear hi); have hcz32_0 : w31.cell? ⟨gb173, 0, none⟩ = some (.int .u32 a0_0) := (blk_cell BK173.out 0).trans rfl; have hcz32_1 : w31.cell? ⟨gb173, 1, none⟩ = some (.int .u16 a0_1) := (blk_cell BK173.out 1).trans rfl; have hfz32_0 := blk_frozen BK173.out 0; have hfz32_1 := blk_frozen BK173.out 1) | ((with_reducible refine gate_callee (f := 11) rfl ?_); refine goesL_ (some 23) rfl rfl Tryd.func11 (by kernel_rfl) rfl #[.agg #[.int .u32 a0_0, .int .u16 a0_1]] rfl (by (try simp only [List.map_toArray, List.map_cons, List.map_nil]); first | done | rfl | (simp only [List.length_drop, List.length_take]; rfl)) ?_; (with_reducible refine (addr_Addr_Text.calls k a0_0 a0_1 t175 _ A5.out ?htb).mono ?_); (case htb => exact ⟨IT.tab_below htab.out (by repeat (first | (with_reducible first | exact HB.out | apply below_alloc | apply pw_below_drewN | apply below_drew1 | refine below_set ?_ GE173.out) | exact HB.out))⟩); rintro e w33 ⟨rfl, hb⟩; refine ⟨_, rfl, ?_⟩; have n0_ := Aside0.mk (blk_below (g := gb173) (o := .cells #[.int .u32 a0_0, .int .u16 a0_1] 25 (0, 0)) (by (with_reducible repeat (first | refine blk_drewN ?_ _ | refine blk_drew ?_ | refine blk_alloc ?_ _)); exact BK173.out) hb); have n1_ := Aside0.mk (below_step (by repeat (first | (with_reducible first | exact HB.out | apply below_alloc | apply pw_below_drewN | apply below_drew1 | refine below_set ?_ GE173.out) | exact HB.out)) hb); clear BK173; clear HB; have BK173 := n0_; have HB := n1_; clear n0_ n1_; (try clear hb); (try clear hb2); (try clear hk); (try clear hi)) | ((with_reducible refine gate_callee (f := 22) rfl ?_); refine goesL_ (some 24) rfl rfl Tryd.func22 (by kernel_rfl) rfl #[.string t175] rfl (by (try simp only [List.map_toArray, List.map_cons, List.map_nil]); first | done | rfl | (simp only [List.length_drop, List.length_take]; rfl)) ?_; (with_reducible refine (addr_Read.calls k t175 t176 t177 true _ A6.out ?htb).mono ?_); (case htb => exact ⟨IT.tab_below htab.out (by repeat (first | (with_reducible first | exact HB.out | apply below_alloc | apply pw_below_drewN | apply below_drew1 | refine below_set ?_ GE173.out) | exact HB.out))⟩); rintro e w34 ⟨rfl, hb⟩; refine ⟨_, rfl, ?_⟩; have n0_ := Aside0.mk (blk_below (g := gb173) (o := .cells #[.int .u32 a0_0, .int .u16 a0_1] 25 (0, 0)) (by (with_reducible repeat (first | refine blk_drewN ?_ _ | refine blk_drew ?_ | refine blk_alloc ?_ _)); exact BK173.out) hb); have n1_ := Aside0.mk (below_step (by repeat (first | (with_reducible first | exact HB.out | apply below_alloc | apply pw_below_drewN | apply below_drew1 | refine below_set ?_ GE173.out) | exact HB.out)) hb); clear BK173; clear HB; have BK173 := n0_; have HB := n1_; clear n0_ n1_; (try clear hb); (try clear hb2); (try clear hk); (try clear hi)) | ((with_reducible refine gate_dst (N := 6) rfl ?_); refine box_event ?hg (N := 6) ?hd (cs := #[.int .u32 0, .int .u16 0]) (t := 25) ?hr ?_; (case hd => rfl); (case hg => rfl); (case hr => first | (go_simp; done) | (go_simp; rfl)); intro gb179 hg w35 hbox hb; have n0_ := Aside0.mk (blk_below (g := gb173) (o := .cells #[.int .u32 a0_0, .int .u16 a0_1] 25 (0, 0)) (by (with_reducible repeat (first | refine blk_drewN ?_ _ | refine blk_drew ?_ | refine blk_alloc ?_ _)); exact BK173.out) hb); have n1_ := Aside0.mk (below_step (by repeat (first | (with_reducible first | exact HB.out | apply below_alloc | apply pw_below_drewN | apply below_drew1 | refine below_set ?_ GE173.out) | exact HB.out)) hb); have n2_ := Aside0.mk (hbox); have n3_ := Aside0.mk ((by rw [hg]; exact (below_size (by repeat (first | (with_reducible first | exact HB.out | apply below_alloc | apply pw_below_drewN | apply below_drew1 | refine below_set ?_ GE173.out) | exact HB.out))) : w.heap.size ≤ gb179)); have n4_ := Aside0.mk ((by rw [hg]; exact (below_size (by repeat (first | (with_reducible first | exact HB.out | apply below_alloc | apply pw_below_drewN | apply below_drew1 | refine below_set ?_ GE173.out) | exact HB.out))) : w.heap.size ≤ gb179)); have n5_ := Aside0.mk ((by rw [hg]; exact Nat.ne_of_lt (blk_lt (g := gb173) (o := .cells #[.int .u32 a0_0, .int .u16 a0_1] 25 (0, 0)) (by (with_reducible repeat (first | refine blk_drewN ?_ _ | refine blk_drew ?_ | refine blk_alloc ?_ _)); exact BK173.out)) : gb173 ≠ gb179)); have n6_ := Aside0.mk ((by rw [hg]; exact Nat.ne_of_gt (blk_lt (g := gb173) (o := .cells #[.int .u32 a0_0, .int .u16 a0_1] 25 (0, 0)) (by (with_reducible repeat (first | refine blk_drewN ?_ _ | refine blk_drew ?_ | refine blk_alloc ?_ _)); exact BK173.out)) : gb179 ≠ gb173)); clear BK173; clear HB; have BK173 := n0_; have HB := n1_; have BK179 := n2_; have GW179 := n3_; have GE179 := n4_; have NB173_179 := n5_; have NB179_173 := n6_; clear n0_ n1_ n2_ n3_ n4_ n5_ n6_; clear hb hbox hg; have hnb36 := NB179_173.out; have hnc36 := NB173_179.out; have hcz37_0 : w35.cell? ⟨gb179, 0, none⟩ = some (.int .u32 0) := (blk_cell BK179.out 0).trans rfl; have hcz37_1 : w35.cell? ⟨gb179, 1, none⟩ = some (.int .u16 0) := (blk_cell BK179.out 1).trans rfl; have hfz37_0 := blk_frozen BK179.out 0; have hfz37_1 := blk_frozen BK179.out 1; have hcz38_0 : w35.cell? ⟨gb173, 0, none⟩ = some (.int .u32 a0_0) := (blk_cell BK173.out 0).trans rfl; have hcz38_1 : w35.cell? ⟨gb173, 1, none⟩ = some (.int .u16 a0_1) := (blk_cell BK173.out 1).trans rfl; have hfz38_0 := blk_frozen BK173.out 0; have hfz38_1 := blk_frozen BK173.out 1) | ((with_reducible refine gate_callee (f := 13) rfl ?_); refine goesL_ (some 29) rfl rfl Tryd.func13 (by kernel_rfl) rfl #[.agg #[.int .u32 a0_0, .int .u16 a0_1]] rfl (by (try simp only [List.map_toArray, List.map_cons, List.map_nil]); first | done | rfl | (simp only [List.length_drop, List.length_take]; rfl)) ?_; (with_reducible refine (addr_Addr_Put.calls a0_0 a0_1 t180 _ A7.out).mono ?_); rintro e w39 ⟨rfl, hb⟩; refine ⟨_, rfl, ?_⟩; have n0_ := Aside0.mk (blk_below (g := gb173) (o := .cells #[.int .u32 a0_0, .int .u16 a0_1] 25 (0, 0)) (by (with_reducible repeat (first | refine blk_drewN ?_ _ | refine blk_drew ?_ | refine blk_alloc ?_ _)); refine blk_far ?_ NB173_179.out _; (with_reducible repeat (first | refine blk_drewN ?_ _ | refine blk_drew ?_ | refine blk_alloc ?_ _)); refine blk_far ?_ NB173_179.out _; (with_reducible repeat (first | refine blk_drewN ?_ _ | refine blk_drew ?_ | refine blk_alloc ?_ _)); exact BK173.out) hb); have n1_ := Aside0.mk (blk_below (g := gb179) (o := .cells #[.int .u32 t176, .int .u16 t177] 25 (0, 0)) (by (with_reducible repeat (first | refine blk_drewN ?_ _ | refine blk_drew ?_ | refine blk_alloc ?_ _)); refine blk_put (cs := #[.int .u32 t176, .int .u16 0]) ?_ 1 _ rfl; (with_reducible repeat (first | refine blk_drewN ?_ _ | refine blk_drew ?_ | refine blk_alloc ?_ _)); refine blk_put (cs := #[.int .u32 0, .int .u16 0]) ?_ 0 _ rfl; (with_reducible repeat (first | refine blk_drewN ?_ _ | refine blk_drew ?_ | refine blk_alloc ?_ _)); exact BK179.out) hb); have n2_ := Aside0.mk (below_step (by repeat (first | (with_reducible first | exact HB.out | apply below_alloc | apply pw_below_drewN | apply below_drew1 | refine below_set ?_ GE173.out | refine below_set ?_ GE179.out) | exact HB.out)) hb); clear BK173; clear BK179; clear HB; have BK173 := n0_; have BK179 := n1_; have HB := n2_; clear n0_ n1_ n2_; (try clear hb); (try clear hb2); (try clear hk); (try clear hi)) | ((with_reducible refine gate_callee (f := 24) rfl ?_); refine goesL_ (some 30) rfl rfl Tryd.func24 (by kernel_rfl) rfl #[.string t180] rfl (by (try simp only [List.map_toArray, List.map_cons, List.map_nil]); first | done | rfl | (simp only [List.length_drop, List.length_take]; rfl)) ?_; (with_reducible refine (addr_Get.calls k t180 t181 t182 true _ A8.out).mono ?_); rintro e w40 ⟨rfl, hb⟩; refine ⟨_, rfl, ?_⟩; have n0_ := Aside0.mk (blk_below (g := gb173) (o := .cells #[.int .u32 a0_0, .int .u16 a0_1] 25 (0, 0)) (by (with_reducible repeat (first | refine blk_drewN ?_ _ | refine blk_drew ?_ | refine blk_alloc ?_ _)); exact BK173.out) hb); have n1_ := Aside0.mk (blk_below (g := gb179) (o := .cells #[.int .u32 t176, .int .u16 t177] 25 (0, 0)) (by (with_reducible repeat (first | refine blk_drewN ?_ _ | refine blk_drew ?_ | refine blk_alloc ?_ _)); exact BK179.out) hb); have n2_ := Aside0.mk (below_step (by repeat (first | (with_reducible first | exact HB.out | apply below_alloc | apply pw_below_drewN | apply below_drew1 | refine below_set ?_ GE173.out | refine below_set ?_ GE179.out) | exact HB.out)) hb); clear BK173; clear BK179; clear HB; have BK173 := n0_; have BK179 := n1_; have HB := n2_; clear n0_ n1_ n2_; (try clear hb); (try clear hb2); (try clear hk); (try clear hi)) | ((with_reducible refine gate_dst (N := 8) rfl ?_); refine box_event ?hg (N := 8) ?hd (cs := #[.int .u32 0, .int .u16 0]) (t := 25) ?hr ?_; (case hd => rfl); (case hg => rfl); (case hr => first | (go_simp; done) | (go_simp; rfl)); intro gb184 hg w41 hbox hb; have n0_ := Aside0.mk (blk_below (g := gb173) (o := .cells #[.int .u32 a0_0, .int .u16 a0_1] 25 (0, 0)) (by (with_reducible repeat (first | refine blk_drewN ?_ _ | refine blk_drew ?_ | refine blk_alloc ?_ _)); exact BK173.out) hb); have n1_ := Aside0.mk (blk_below (g := gb179) (o := .cells #[.int .u32 t176, .int .u16 t177] 25 (0, 0)) (by (with_reducible repeat (first | refine blk_drewN ?_ _ | refine blk_drew ?_ | refine blk_alloc ?_ _)); exact BK179.out) hb); have n2_ := Aside0.mk (below_step (by repeat (first | (with_reducible first | exact HB.out | apply below_alloc | apply pw_below_drewN | apply below_drew1 | refine below_set ?_ GE173.out | refine below_set ?_ GE179.out) | exact HB.out)) hb); have n3_ := Aside0.mk (hbox); have n4_ := Aside0.mk ((by rw [hg]; exact (below_size (by repeat (first | (with_reducible first | exact HB.out | apply below_alloc | apply pw_below_drewN | apply below_drew1 | refine below_set ?_ GE173.out | refine below_set ?_ GE179.out) | exact HB.out))) : w.heap.size ≤ gb184)); have n5_ := Aside0.mk ((by rw [hg]; exact (below_size (by repeat (first | (with_reducible first | exact HB.out | apply below_alloc | apply pw_below_drewN | apply below_drew1 | refine below_set ?_ GE173.out | refine below_set ?_ GE179.out) | exact HB.out))) : w.heap.size ≤ gb184)); have n6_ := Aside0.mk ((by rw [hg]; exact Nat.ne_of_lt (blk_lt (g := gb173) (o := .cells #[.int .u32 a0_0, .int .u16 a0_1] 25 (0, 0)) (by (with_reducible repeat (first | refine blk_drewN ?_ _ | refine blk_drew ?_ | refine blk_alloc ?_ _)); exact BK173.out)) : gb173 ≠ gb184)); have n7_ := Aside0.mk ((by rw [hg]; exact Nat.ne_of_gt (blk_lt (g := gb173) (o := .cells #[.int .u32 a0_0, .int .u16 a0_1] 25 (0, 0)) (by (with_reducible repeat (first | refine blk_drewN ?_ _ | refine blk_drew ?_ | refine blk_alloc ?_ _)); exact BK173.out)) : gb184 ≠ gb173)); have n8_ := Aside0.mk ((by rw [hg]; exact Nat.ne_of_lt (blk_lt (g := gb179) (o := .cells #[.int .u32 t176, .int .u16 t177] 25 (0, 0)) (by (with_reducible repeat (first | refine blk_drewN ?_ _ | refine blk_drew ?_ | refine blk_alloc ?_ _)); exact BK179.out)) : gb179 ≠ gb184)); have n9_ := Aside0.mk ((by rw [hg]; exact Nat.ne_of_gt (blk_lt (g := gb179) (o := .cells #[.int .u32 t176, .int .u16 t177] 25 (0, 0)) (by (with_reducible repeat (first | refine blk_drewN ?_ _ | refine blk_drew ?_ | refine blk_alloc ?_ _)); exact BK179.out)) : gb184 ≠ gb179)); clear BK173; clear BK179; clear HB; have BK173 := n0_; have BK179 := n1_; have HB := n2_; have BK184 := n3_; have GW184 := n4_; have GE184 := n5_; have NB173_184 := n6_; have NB184_173 := n7_; have NB179_184 := n8_; have NB184_179 := n9_; clear n0_ n1_ n2_ n3_ n4_ n5_ n6_ n7_ n8_ n9_; clear hb hbox hg; have hnb42 := NB184_173.out; have hnc42 := NB173_184.out; have hnb43 := NB184_179.out; have hnc43 := NB179_184.out; have hcz44_0 : w41.cell? ⟨gb184, 0, none⟩ = some (.int .u32 0) := (blk_cell BK184.out 0).trans rfl; have hcz44_1 : w41.cell? ⟨gb184, 1, none⟩ = some (.int .u16 0) := (blk_cell BK184.out 1).trans rfl; have hfz44_0 := blk_frozen BK184.out 0; have hfz44_1 := blk_frozen BK184.out 1))
                            have n0_ : Aside0 (((w41.setCell ⟨gb184, 0, none⟩ (.int .u32 t181)).setCell ⟨gb184, 1, none⟩ (.int .u16 t182)).heap[gb173]? = some (.cells #[.int .u32 a0_0, .int .u16 a0_1] 25 (0, 0))) := ⟨by (with_reducible repeat (first | refine blk_drewN ?_ _ | refine blk_drew ?_ | refine blk_alloc ?_ _)); refine blk_far ?_ NB173_184.out _; (with_reducible repeat (first | refine blk_drewN ?_ _ | refine blk_drew ?_ | refine blk_alloc ?_ _)); refine blk_far ?_ NB173_184.out _; (with_reducible repeat (first | refine blk_drewN ?_ _ | refine blk_drew ?_ | refine blk_alloc ?_ _)); exact BK173.out⟩
                            have n1_ : Aside0 (((w41.setCell ⟨gb184, 0, none⟩ (.int .u32 t181)).setCell ⟨gb184, 1, none⟩ (.int .u16 t182)).heap[gb179]? = some (.cells #[.int .u32 t176, .int .u16 t177] 25 (0, 0))) := ⟨by (with_reducible repeat (first | refine blk_drewN ?_ _ | refine blk_drew ?_ | refine blk_alloc ?_ _)); refine blk_far ?_ NB179_184.out _; (with_reducible repeat (first | refine blk_drewN ?_ _ | refine blk_drew ?_ | refine blk_alloc ?_ _)); refine blk_far ?_ NB179_184.out _; (with_reducible repeat (first | refine blk_drewN ?_ _ | refine blk_drew ?_ | refine blk_alloc ?_ _)); exact BK179.out⟩
                            have n2_ : Aside0 (((w41.setCell ⟨gb184, 0, none⟩ (.int .u32 t181)).setCell ⟨gb184, 1, none⟩ (.int .u16 t182)).heap[gb184]? = some (.cells #[.int .u32 t181, .int .u16 t182] 25 (0, 0))) := ⟨by (with_reducible repeat (first | refine blk_drewN ?_ _ | refine blk_drew ?_ | refine blk_alloc ?_ _)); refine blk_put (cs := #[.int .u32 t181, .int .u16 0]) ?_ 1 _ rfl; (with_reducible repeat (first | refine blk_drewN ?_ _ | refine blk_drew ?_ | refine blk_alloc ?_ _)); refine blk_put (cs := #[.int .u32 0, .int .u16 0]) ?_ 0 _ rfl; (with_reducible repeat (first | refine blk_drewN ?_ _ | refine blk_drew ?_ | refine blk_alloc ?_ _)); exact BK184.out⟩
                            have n3_ : Aside0 (Below w.heap.size w ((w41.setCell ⟨gb184, 0, none⟩ (.int .u32 t181)).setCell ⟨gb184, 1, none⟩ (.int .u16 t182))) := ⟨by repeat (first | (with_reducible first | exact HB.out | apply below_alloc | apply pw_below_drewN | apply below_drew1 | refine below_set ?_ GE173.out | refine below_set ?_ GE179.out | refine below_set ?_ GE184.out) | exact HB.out)⟩
                            (try clear BK173)
                            (try clear BK179)
                            (try clear BK184)
                            (try clear HB)
                            generalize ((w41.setCell ⟨gb184, 0, none⟩ (.int .u32 t181)).setCell ⟨gb184, 1, none⟩ (.int .u16 t182)) = w45 at n0_ n1_ n2_ n3_ ⊢
                            have BK173 := n0_
                            have BK179 := n1_
                            have BK184 := n2_
                            have HB := n3_
                            clear n0_ n1_ n2_ n3_
                            have n0_ := Aside0.mk (blk_drew BK173.out)
                            have n1_ := Aside0.mk (blk_drew BK179.out)
                            have n2_ := Aside0.mk (blk_drew BK184.out)
                            have n3_ := Aside0.mk (below_drew1 HB.out)
                            clear BK173
                            clear BK179
                            clear BK184
                            clear HB
                            have BK173 := n0_
                            have BK179 := n1_
                            have BK184 := n2_
                            have HB := n3_
                            clear n0_ n1_ n2_ n3_
                            refine start_ (n := 13) (S := fun w' => w'.cell? ⟨gb173, 0, none⟩ = some (.int .u32 a0_0) ∧ w'.cell? ⟨gb173, 1, none⟩ = some (.int .u16 a0_1)) (ds := []) #[false, false, false, false, false, false, false, false, false, false, false, false, false] (by kernel_rfl) rfl rfl ⟨(blk_cell BK173.out 0).trans rfl, (blk_cell BK173.out 1).trans rfl⟩ (fun hHeld => ?_); refine with_tabW scuttlebuttlaw03_AddrBack.tab6 scuttlebuttlaw03_AddrBack.bits6 (fun HT_ HW_ => ?_)
                            generalize w45.drew = w46 at BK173 BK179 BK184 HB hHeld ⊢
                            refine pure_ (i := 2) (N := some 36) (v := ?_) (a' := ?_) #[false, false, true, false, false, false, false, false, false, false, false, false, false] rfl rfl (any_of HT_.out (by kernel_rfl)) (fun _ _ _ h => h) (Or.inl ⟨by first | rfl | (simp only [c19b0, c24b0, c26b0]; rfl), ?_⟩) ?_ ?_
                            rotate_left
                            · intro w'
                              go_simp
                              with_reducible rfl
                            rotate_left
                            · simp only [Act.put, List.setIfInBounds_toArray, List.set_cons_zero, List.set_cons_succ, i64_w, i32_w]
                              rfl
                            refine take_ (i := 0) (N := some 34) (v := ?_) (a' := ?_) #[true, false, true, false, false, false, false, false, false, false, false, false, false] rfl rfl (take_ofW HT_.out HW_.out (by kernel_rfl)) (fun _ _ _ h => h) (Or.inl ⟨by first | rfl | (simp only [c19b0, c24b0, c26b0]; rfl), ?_⟩) hHeld ?_ ?_
                            rotate_left
                            · rintro w' ⟨s0, s1⟩
                              go_simp
                              with_reducible rfl
                            rotate_left
                            · simp only [Act.put, List.setIfInBounds_toArray, List.set_cons_zero, List.set_cons_succ, i64_w, i32_w]
                              rfl
                            refine join_ (σ := Value × Nat) 2 #[true, true, true, true, true, true, true, true, true, true, true, false, false] (fun s_ => [(35, .string t185), (37, s_.1), (38, .string (strOfNums y186)), (40, .tuple #[.agg #[.int .u32 t189, .int .u16 t190], .bool false]), (10, .pointer (some ⟨s_.2, 0, none⟩)), (39, .string (t185 ++ (strOfNums y186))), (33, .tuple #[.agg #[.int .u32 t189, .int .u16 t190], .bool false]), (41, .agg #[.int .u32 t189, .int .u16 t190]), (42, .bool false)]) (fun s_ w' => (w'.cell? ⟨gb173, 0, none⟩ = some (.int .u32 a0_0) ∧ w'.cell? ⟨gb173, 1, none⟩ = some (.int .u16 a0_1)) ∧ (Kd.R (Kd.int .u8) 5 w' w.heap.size (fun _ => True) s_.1 y186) ∧ (w'.heap[gb173]? = some (.cells #[.int .u32 a0_0, .int .u16 a0_1] 25 (0, 0))) ∧ (w'.heap[gb179]? = some (.cells #[.int .u32 t176, .int .u16 t177] 25 (0, 0))) ∧ (w'.heap[gb184]? = some (.cells #[.int .u32 t181, .int .u16 t182] 25 (0, 0))) ∧ (w'.heap[s_.2]? = some (.cells #[.int .u32 0, .int .u16 0] 25 (0, 0))) ∧ (w.heap.size ≤ s_.2) ∧ (w.heap.size ≤ s_.2) ∧ (gb173 ≠ s_.2) ∧ (s_.2 ≠ gb173) ∧ (gb179 ≠ s_.2) ∧ (s_.2 ≠ gb179) ∧ (gb184 ≠ s_.2) ∧ (s_.2 ≠ gb184) ∧ (Below w.heap.size w w')) ?_ ?_
                            rotate_left
                            · intro hJ1_3_4_6_10
                              refine join_ (σ := Value) 3 #[true, true, true, true, true, true, true, true, true, true, false, false, false] (fun s_ => [(35, .string t185), (37, s_), (38, .string (strOfNums y186)), (40, .tuple #[.agg #[.int .u32 t189, .int .u16 t190], .bool false]), (39, .string (t185 ++ (strOfNums y186))), (33, .tuple #[.agg #[.int .u32 t189, .int .u16 t190], .bool false]), (41, .agg #[.int .u32 t189, .int .u16 t190]), (42, .bool false)]) (fun s_ w' => (w'.cell? ⟨gb173, 0, none⟩ = some (.int .u32 a0_0) ∧ w'.cell? ⟨gb173, 1, none⟩ = some (.int .u16 a0_1)) ∧ (Kd.R (Kd.int .u8) 5 w' w.heap.size (fun _ => True) s_ y186) ∧ (w'.heap[gb173]? = some (.cells #[.int .u32 a0_0, .int .u16 a0_1] 25 (0, 0))) ∧ (w'.heap[gb179]? = some (.cells #[.int .u32 t176, .int .u16 t177] 25 (0, 0))) ∧ (w'.heap[gb184]? = some (.cells #[.int .u32 t181, .int .u16 t182] 25 (0, 0))) ∧ (Below w.heap.size w w')) ?_ ?_
                              rotate_left
                              · intro hJ1_3_4_6
                                refine join_ (σ := Value × Nat) 6 #[true, true, true, true, true, true, false, false, false, false, true, false, false] (fun s_ => [(35, .string t185), (37, s_.1), (38, .string (strOfNums y186)), (10, .pointer (some ⟨s_.2, 0, none⟩)), (39, .string (t185 ++ (strOfNums y186)))]) (fun s_ w' => (w'.cell? ⟨gb173, 0, none⟩ = some (.int .u32 a0_0) ∧ w'.cell? ⟨gb173, 1, none⟩ = some (.int .u16 a0_1)) ∧ (Kd.R (Kd.int .u8) 5 w' w.heap.size (fun _ => True) s_.1 y186) ∧ (w'.heap[gb173]? = some (.cells #[.int .u32 a0_0, .int .u16 a0_1] 25 (0, 0))) ∧ (w'.heap[gb179]? = some (.cells #[.int .u32 t176, .int .u16 t177] 25 (0, 0))) ∧ (w'.heap[gb184]? = some (.cells #[.int .u32 t181, .int .u16 t182] 25 (0, 0))) ∧ (w'.heap[s_.2]? = some (.cells #[.int .u32 0, .int .u16 0] 25 (0, 0))) ∧ (w.heap.size ≤ s_.2) ∧ (w.heap.size ≤ s_.2) ∧ (gb173 ≠ s_.2) ∧ (s_.2 ≠ gb173) ∧ (gb179 ≠ s_.2) ∧ (s_.2 ≠ gb179) ∧ (gb184 ≠ s_.2) ∧ (s_.2 ≠ gb184) ∧ (Below w.heap.size w w')) ?_ ?_
                                rotate_left
                                · intro hJ1_3_4_10
                                  refine join_ (σ := Value) 7 #[true, true, true, true, true, true, false, false, false, false, false, false, false] (fun s_ => [(35, .string t185), (37, s_), (38, .string (strOfNums y186)), (39, .string (t185 ++ (strOfNums y186)))]) (fun s_ w' => (w'.cell? ⟨gb173, 0, none⟩ = some (.int .u32 a0_0) ∧ w'.cell? ⟨gb173, 1, none⟩ = some (.int .u16 a0_1)) ∧ (Kd.R (Kd.int .u8) 5 w' w.heap.size (fun _ => True) s_ y186) ∧ (w'.heap[gb173]? = some (.cells #[.int .u32 a0_0, .int .u16 a0_1] 25 (0, 0))) ∧ (w'.heap[gb179]? = some (.cells #[.int .u32 t176, .int .u16 t177] 25 (0, 0))) ∧ (w'.heap[gb184]? = some (.cells #[.int .u32 t181, .int .u16 t182] 25 (0, 0))) ∧ (Below w.heap.size w w')) ?_ ?_
                                  rotate_left
                                  · intro hJ1_3_4
                                    refine join_ (σ := Value × Nat) 8 #[true, true, true, true, false, false, false, false, false, false, true, false, false] (fun s_ => [(35, .string t185), (37, s_.1), (10, .pointer (some ⟨s_.2, 0, none⟩))]) (fun s_ w' => (w'.cell? ⟨gb173, 0, none⟩ = some (.int .u32 a0_0) ∧ w'.cell? ⟨gb173, 1, none⟩ = some (.int .u16 a0_1)) ∧ (Kd.R (Kd.int .u8) 5 w' w.heap.size (fun _ => True) s_.1 y186) ∧ (w'.heap[gb173]? = some (.cells #[.int .u32 a0_0, .int .u16 a0_1] 25 (0, 0))) ∧ (w'.heap[gb179]? = some (.cells #[.int .u32 t176, .int .u16 t177] 25 (0, 0))) ∧ (w'.heap[gb184]? = some (.cells #[.int .u32 t181, .int .u16 t182] 25 (0, 0))) ∧ (w'.heap[s_.2]? = some (.cells #[.int .u32 0, .int .u16 0] 25 (0, 0))) ∧ (w.heap.size ≤ s_.2) ∧ (w.heap.size ≤ s_.2) ∧ (gb173 ≠ s_.2) ∧ (s_.2 ≠ gb173) ∧ (gb179 ≠ s_.2) ∧ (s_.2 ≠ gb179) ∧ (gb184 ≠ s_.2) ∧ (s_.2 ≠ gb184) ∧ (Below w.heap.size w w')) ?_ ?_
                                    rotate_left
                                    · intro hJ1_3_10
                                      refine join_ (σ := Value × Nat) 8 #[true, false, true, true, true, false, false, false, false, false, true, false, false] (fun s_ => [(37, s_.1), (38, .string (strOfNums y186)), (10, .pointer (some ⟨s_.2, 0, none⟩))]) (fun s_ w' => (w'.cell? ⟨gb173, 0, none⟩ = some (.int .u32 a0_0) ∧ w'.cell? ⟨gb173, 1, none⟩ = some (.int .u16 a0_1)) ∧ (Kd.R (Kd.int .u8) 5 w' w.heap.size (fun _ => True) s_.1 y186) ∧ (w'.heap[gb173]? = some (.cells #[.int .u32 a0_0, .int .u16 a0_1] 25 (0, 0))) ∧ (w'.heap[gb179]? = some (.cells #[.int .u32 t176, .int .u16 t177] 25 (0, 0))) ∧ (w'.heap[gb184]? = some (.cells #[.int .u32 t181, .int .u16 t182] 25 (0, 0))) ∧ (w'.heap[s_.2]? = some (.cells #[.int .u32 0, .int .u16 0] 25 (0, 0))) ∧ (w.heap.size ≤ s_.2) ∧ (w.heap.size ≤ s_.2) ∧ (gb173 ≠ s_.2) ∧ (s_.2 ≠ gb173) ∧ (gb179 ≠ s_.2) ∧ (s_.2 ≠ gb179) ∧ (gb184 ≠ s_.2) ∧ (s_.2 ≠ gb184) ∧ (Below w.heap.size w w')) ?_ ?_
                                      rotate_left
                                      · intro hJ3_4_10
                                        refine join_ (σ := Value) 9 #[true, true, true, true, false, false, false, false, false, false, false, false, false] (fun s_ => [(35, .string t185), (37, s_)]) (fun s_ w' => (w'.cell? ⟨gb173, 0, none⟩ = some (.int .u32 a0_0) ∧ w'.cell? ⟨gb173, 1, none⟩ = some (.int .u16 a0_1)) ∧ (Kd.R (Kd.int .u8) 5 w' w.heap.size (fun _ => True) s_ y186) ∧ (w'.heap[gb173]? = some (.cells #[.int .u32 a0_0, .int .u16 a0_1] 25 (0, 0))) ∧ (w'.heap[gb179]? = some (.cells #[.int .u32 t176, .int .u16 t177] 25 (0, 0))) ∧ (w'.heap[gb184]? = some (.cells #[.int .u32 t181, .int .u16 t182] 25 (0, 0))) ∧ (Below w.heap.size w w')) ?_ ?_
                                        rotate_left
                                        · intro hJ1_3
                                          refine join_ (σ := Nat) 9 #[true, true, true, false, false, false, false, false, false, false, true, false, false] (fun s_ => [(35, .string t185), (10, .pointer (some ⟨s_, 0, none⟩))]) (fun s_ w' => (w'.cell? ⟨gb173, 0, none⟩ = some (.int .u32 a0_0) ∧ w'.cell? ⟨gb173, 1, none⟩ = some (.int .u16 a0_1)) ∧ (w'.heap[gb173]? = some (.cells #[.int .u32 a0_0, .int .u16 a0_1] 25 (0, 0))) ∧ (w'.heap[gb179]? = some (.cells #[.int .u32 t176, .int .u16 t177] 25 (0, 0))) ∧ (w'.heap[gb184]? = some (.cells #[.int .u32 t181, .int .u16 t182] 25 (0, 0))) ∧ (w'.heap[s_]? = some (.cells #[.int .u32 0, .int .u16 0] 25 (0, 0))) ∧ (w.heap.size ≤ s_) ∧ (w.heap.size ≤ s_) ∧ (gb173 ≠ s_) ∧ (s_ ≠ gb173) ∧ (gb179 ≠ s_) ∧ (s_ ≠ gb179) ∧ (gb184 ≠ s_) ∧ (s_ ≠ gb184) ∧ (Below w.heap.size w w')) ?_ ?_
                                          rotate_left
                                          · intro hJ1_10
                                            refine join_ (σ := Value) 9 #[true, false, true, true, true, false, false, false, false, false, false, false, false] (fun s_ => [(37, s_), (38, .string (strOfNums y186))]) (fun s_ w' => (w'.cell? ⟨gb173, 0, none⟩ = some (.int .u32 a0_0) ∧ w'.cell? ⟨gb173, 1, none⟩ = some (.int .u16 a0_1)) ∧ (Kd.R (Kd.int .u8) 5 w' w.heap.size (fun _ => True) s_ y186) ∧ (w'.heap[gb173]? = some (.cells #[.int .u32 a0_0, .int .u16 a0_1] 25 (0, 0))) ∧ (w'.heap[gb179]? = some (.cells #[.int .u32 t176, .int .u16 t177] 25 (0, 0))) ∧ (w'.heap[gb184]? = some (.cells #[.int .u32 t181, .int .u16 t182] 25 (0, 0))) ∧ (Below w.heap.size w w')) ?_ ?_
                                            rotate_left
                                            · intro hJ3_4
                                              refine join_ (σ := Value × Nat) 9 #[true, false, true, true, false, false, false, false, false, false, true, false, false] (fun s_ => [(37, s_.1), (10, .pointer (some ⟨s_.2, 0, none⟩))]) (fun s_ w' => (w'.cell? ⟨gb173, 0, none⟩ = some (.int .u32 a0_0) ∧ w'.cell? ⟨gb173, 1, none⟩ = some (.int .u16 a0_1)) ∧ (Kd.R (Kd.int .u8) 5 w' w.heap.size (fun _ => True) s_.1 y186) ∧ (w'.heap[gb173]? = some (.cells #[.int .u32 a0_0, .int .u16 a0_1] 25 (0, 0))) ∧ (w'.heap[gb179]? = some (.cells #[.int .u32 t176, .int .u16 t177] 25 (0, 0))) ∧ (w'.heap[gb184]? = some (.cells #[.int .u32 t181, .int .u16 t182] 25 (0, 0))) ∧ (w'.heap[s_.2]? = some (.cells #[.int .u32 0, .int .u16 0] 25 (0, 0))) ∧ (w.heap.size ≤ s_.2) ∧ (w.heap.size ≤ s_.2) ∧ (gb173 ≠ s_.2) ∧ (s_.2 ≠ gb173) ∧ (gb179 ≠ s_.2) ∧ (s_.2 ≠ gb179) ∧ (gb184 ≠ s_.2) ∧ (s_.2 ≠ gb184) ∧ (Below w.heap.size w w')) ?_ ?_
                                              rotate_left
                                              · intro hJ3_10
                                                refine join_ (σ := Unit) 10 #[true, true, true, false, false, false, false, false, false, false, false, false, false] (fun s_ => [(35, .string t185)]) (fun s_ w' => (w'.cell? ⟨gb173, 0, none⟩ = some (.int .u32 a0_0) ∧ w'.cell? ⟨gb173, 1, none⟩ = some (.int .u16 a0_1)) ∧ (w'.heap[gb173]? = some (.cells #[.int .u32 a0_0, .int .u16 a0_1] 25 (0, 0))) ∧ (w'.heap[gb179]? = some (.cells #[.int .u32 t176, .int .u16 t177] 25 (0, 0))) ∧ (w'.heap[gb184]? = some (.cells #[.int .u32 t181, .int .u16 t182] 25 (0, 0))) ∧ (Below w.heap.size w w')) ?_ ?_
                                                rotate_left
                                                · intro hJ1
                                                  refine join_ (σ := Value) 10 #[true, false, true, true, false, false, false, false, false, false, false, false, false] (fun s_ => [(37, s_)]) (fun s_ w' => (w'.cell? ⟨gb173, 0, none⟩ = some (.int .u32 a0_0) ∧ w'.cell? ⟨gb173, 1, none⟩ = some (.int .u16 a0_1)) ∧ (Kd.R (Kd.int .u8) 5 w' w.heap.size (fun _ => True) s_ y186) ∧ (w'.heap[gb173]? = some (.cells #[.int .u32 a0_0, .int .u16 a0_1] 25 (0, 0))) ∧ (w'.heap[gb179]? = some (.cells #[.int .u32 t176, .int .u16 t177] 25 (0, 0))) ∧ (w'.heap[gb184]? = some (.cells #[.int .u32 t181, .int .u16 t182] 25 (0, 0))) ∧ (Below w.heap.size w w')) ?_ ?_
                                                  rotate_left
                                                  · intro hJ3
                                                    refine join_ (σ := Nat) 10 #[true, false, true, false, false, false, false, false, false, false, true, false, false] (fun s_ => [(10, .pointer (some ⟨s_, 0, none⟩))]) (fun s_ w' => (w'.cell? ⟨gb173, 0, none⟩ = some (.int .u32 a0_0) ∧ w'.cell? ⟨gb173, 1, none⟩ = some (.int .u16 a0_1)) ∧ (w'.heap[gb173]? = some (.cells #[.int .u32 a0_0, .int .u16 a0_1] 25 (0, 0))) ∧ (w'.heap[gb179]? = some (.cells #[.int .u32 t176, .int .u16 t177] 25 (0, 0))) ∧ (w'.heap[gb184]? = some (.cells #[.int .u32 t181, .int .u16 t182] 25 (0, 0))) ∧ (w'.heap[s_]? = some (.cells #[.int .u32 0, .int .u16 0] 25 (0, 0))) ∧ (w.heap.size ≤ s_) ∧ (w.heap.size ≤ s_) ∧ (gb173 ≠ s_) ∧ (s_ ≠ gb173) ∧ (gb179 ≠ s_) ∧ (s_ ≠ gb179) ∧ (gb184 ≠ s_) ∧ (s_ ≠ gb184) ∧ (Below w.heap.size w w')) ?_ ?_
                                                    rotate_left
                                                    · intro hJ10
                                                      refine three_ (i := 1) (j := 3) (k := 10) (Ni := some 35) (Nj := some 37) (Nk := some 10) #[true, true, true, false, false, false, false, false, false, false, false, false, false] #[true, false, true, true, false, false, false, false, false, false, false, false, false] #[true, false, true, false, false, false, false, false, false, false, true, false, false] rfl rfl rfl rfl rfl rfl (three_of HT_.out (by kernel_rfl)) (by decide) (by decide) (by decide) (fun K hK => ?_) (fun K hK => ?_) (fun K hK => ?_)
                                                      · skip
                                                        refine goes_ Tryd.func13 (by kernel_rfl) rfl #[.agg #[.int .u32 a0_0, .int .u16 a0_1]] (by rfl) rfl rfl (by (try simp only [List.map_toArray, List.map_cons, List.map_nil]); first | done | rfl | (simp only [List.length_drop, List.length_take]; rfl)) ?_
                                                        with_reducible refine (addr_Addr_Put.calls a0_0 a0_1 t185 _ A9.out).mono ?_
                                                        rintro e w47 ⟨rfl, hb⟩
                                                        refine ⟨_, rfl, ?_⟩
                                                        have n0_ := Aside0.mk (blk_below (g := gb173) (o := .cells #[.int .u32 a0_0, .int .u16 a0_1] 25 (0, 0)) (by (with_reducible repeat (first | refine blk_drewN ?_ _ | refine blk_drew ?_ | refine blk_alloc ?_ _)); exact BK173.out) hb)
                                                        have n1_ := Aside0.mk (blk_below (g := gb179) (o := .cells #[.int .u32 t176, .int .u16 t177] 25 (0, 0)) (by (with_reducible repeat (first | refine blk_drewN ?_ _ | refine blk_drew ?_ | refine blk_alloc ?_ _)); exact BK179.out) hb)
                                                        have n2_ := Aside0.mk (blk_below (g := gb184) (o := .cells #[.int .u32 t181, .int .u16 t182] 25 (0, 0)) (by (with_reducible repeat (first | refine blk_drewN ?_ _ | refine blk_drew ?_ | refine blk_alloc ?_ _)); exact BK184.out) hb)
                                                        have n3_ := Aside0.mk (below_step (by repeat (first | (with_reducible first | exact HB.out | apply below_alloc | apply pw_below_drewN | apply below_drew1 | refine below_set ?_ GE173.out | refine below_set ?_ GE179.out | refine below_set ?_ GE184.out) | exact HB.out)) hb)
                                                        clear BK173
                                                        clear BK179
                                                        clear BK184
                                                        clear HB
                                                        have BK173 := n0_
                                                        have BK179 := n1_
                                                        have BK184 := n2_
                                                        have HB := n3_
                                                        clear n0_ n1_ n2_ n3_
                                                        (try clear hb)
                                                        (try clear hb2)
                                                        (try clear hk)
                                                        (try clear hi)
                                                        refine hK.out _ _ ⟨(blk_cell BK173.out 0).trans rfl, (blk_cell BK173.out 1).trans rfl⟩ (fun hHeld => ?_)
                                                        clear hK K
                                                        refine norm_ (a' := ?_) ?_ ?_
                                                        rotate_left
                                                        · show Act.put _ (some 35) _ = _
                                                          simp only [Act.put, List.setIfInBounds_toArray, List.set_cons_zero, List.set_cons_succ, i64_w, i32_w]
                                                          rfl
                                                        exact norm_ (by first | (simp only [putAll, Act.put, List.setIfInBounds_toArray, List.set_cons_zero, List.set_cons_succ]; done) | (simp only [putAll, Act.put, List.setIfInBounds_toArray, List.set_cons_zero, List.set_cons_succ]; rfl)) (hJ1 () _ ⟨hHeld, (by (with_reducible repeat (first | refine blk_drewN ?_ _ | refine blk_drew ?_ | refine blk_alloc ?_ _)); exact BK173.out), (by (with_reducible repeat (first | refine blk_drewN ?_ _ | refine blk_drew ?_ | refine blk_alloc ?_ _)); exact BK179.out), (by (with_reducible repeat (first | refine blk_drewN ?_ _ | refine blk_drew ?_ | refine blk_alloc ?_ _)); exact BK184.out), (by repeat (first | (with_reducible first | exact HB.out | apply below_alloc | apply pw_below_drewN | apply below_drew1 | refine below_set ?_ GE173.out | refine below_set ?_ GE179.out | refine below_set ?_ GE184.out) | exact HB.out))⟩)
                                                      · skip
                                                        refine Kd.R_lit_step (Kd.int .u8) _ 5 ?hg (N := 37) ?hd (xs := ([a1] : List Int)) (inner := [.int .u8 a1]) (ok := fun _ => True) (okp := fun _ => True) ?hr ?hp (fun _ hk => hk) trivial (Below.refl _ _) (Nat.le_refl _) (by simp) ?_; (case hd => rfl); (case hg => rfl); (case hr => first | (go_simp; done) | (go_simp; rfl)); (case hp => exact (Reps.one (show Kd.M (Kd.int .u8) _ _ _ a1 [.int .u8 a1] from rfl) (Reps.none _ _)))
                                                        intro v187 w47 ho48 hb hg_ hnew_
                                                        clear hg_ hnew_
                                                        (first | rw [← Ny186.out] at ho48 | (simp only [Int.reduceToNat] at ho48; rw [← Ny186.out] at ho48))
                                                        have n0_ := Aside0.mk (Kd.R_lower ho48 (below_size (by repeat (first | (with_reducible first | exact HB.out | apply below_alloc | apply pw_below_drewN | apply below_drew1 | refine below_set ?_ GE173.out | refine below_set ?_ GE179.out | refine below_set ?_ GE184.out) | exact HB.out))))
                                                        have n1_ := Aside0.mk (blk_below (g := gb173) (o := .cells #[.int .u32 a0_0, .int .u16 a0_1] 25 (0, 0)) (by (with_reducible repeat (first | refine blk_drewN ?_ _ | refine blk_drew ?_ | refine blk_alloc ?_ _)); exact BK173.out) hb)
                                                        have n2_ := Aside0.mk (blk_below (g := gb179) (o := .cells #[.int .u32 t176, .int .u16 t177] 25 (0, 0)) (by (with_reducible repeat (first | refine blk_drewN ?_ _ | refine blk_drew ?_ | refine blk_alloc ?_ _)); exact BK179.out) hb)
                                                        have n3_ := Aside0.mk (blk_below (g := gb184) (o := .cells #[.int .u32 t181, .int .u16 t182] 25 (0, 0)) (by (with_reducible repeat (first | refine blk_drewN ?_ _ | refine blk_drew ?_ | refine blk_alloc ?_ _)); exact BK184.out) hb)
                                                        have n4_ := Aside0.mk (below_step (by repeat (first | (with_reducible first | exact HB.out | apply below_alloc | apply pw_below_drewN | apply below_drew1 | refine below_set ?_ GE173.out | refine below_set ?_ GE179.out | refine below_set ?_ GE184.out) | exact HB.out)) hb)
                                                        clear BK173
                                                        clear BK179
                                                        clear BK184
                                                        clear HB
                                                        have HO188 := n0_
                                                        have BK173 := n1_
                                                        have BK179 := n2_
                                                        have BK184 := n3_
                                                        have HB := n4_
                                                        clear n0_ n1_ n2_ n3_ n4_
                                                        clear hb ho48
                                                        refine hK.out _ _ ⟨(blk_cell BK173.out 0).trans rfl, (blk_cell BK173.out 1).trans rfl⟩ (fun hHeld => ?_)
                                                        clear hK K
                                                        refine norm_ (a' := ?_) ?_ ?_
                                                        rotate_left
                                                        · show Act.put _ (some 37) _ = _
                                                          simp only [Act.put, List.setIfInBounds_toArray, List.set_cons_zero, List.set_cons_succ, i64_w, i32_w]
                                                          rfl
                                                        exact norm_ (by first | (simp only [putAll, Act.put, List.setIfInBounds_toArray, List.set_cons_zero, List.set_cons_succ]; done) | (simp only [putAll, Act.put, List.setIfInBounds_toArray, List.set_cons_zero, List.set_cons_succ]; rfl)) (hJ3 (v187) _ ⟨hHeld, (by (with_reducible repeat (first | apply Kd.R_alloc | apply Kd.R_drewN | apply Kd.R_drew)); exact HO188.out), (by (with_reducible repeat (first | refine blk_drewN ?_ _ | refine blk_drew ?_ | refine blk_alloc ?_ _)); exact BK173.out), (by (with_reducible repeat (first | refine blk_drewN ?_ _ | refine blk_drew ?_ | refine blk_alloc ?_ _)); exact BK179.out), (by (with_reducible repeat (first | refine blk_drewN ?_ _ | refine blk_drew ?_ | refine blk_alloc ?_ _)); exact BK184.out), (by repeat (first | (with_reducible first | exact HB.out | apply below_alloc | apply pw_below_drewN | apply below_drew1 | refine below_set ?_ GE173.out | refine below_set ?_ GE179.out | refine below_set ?_ GE184.out) | exact HB.out))⟩)
                                                      · skip
                                                        refine box_step ?hg (N := 10) ?hd (cs := #[.int .u32 0, .int .u16 0]) (t := 25) ?hr ?_; (case hd => rfl); (case hg => rfl); (case hr => first | (go_simp; done) | (go_simp; rfl))
                                                        intro gb192 hg w47 hbox hb
                                                        have n0_ := Aside0.mk (blk_below (g := gb173) (o := .cells #[.int .u32 a0_0, .int .u16 a0_1] 25 (0, 0)) (by (with_reducible repeat (first | refine blk_drewN ?_ _ | refine blk_drew ?_ | refine blk_alloc ?_ _)); exact BK173.out) hb)
                                                        have n1_ := Aside0.mk (blk_below (g := gb179) (o := .cells #[.int .u32 t176, .int .u16 t177] 25 (0, 0)) (by (with_reducible repeat (first | refine blk_drewN ?_ _ | refine blk_drew ?_ | refine blk_alloc ?_ _)); exact BK179.out) hb)
                                                        have n2_ := Aside0.mk (blk_below (g := gb184) (o := .cells #[.int .u32 t181, .int .u16 t182] 25 (0, 0)) (by (with_reducible repeat (first | refine blk_drewN ?_ _ | refine blk_drew ?_ | refine blk_alloc ?_ _)); exact BK184.out) hb)
                                                        have n3_ := Aside0.mk (below_step (by repeat (first | (with_reducible first | exact HB.out | apply below_alloc | apply pw_below_drewN | apply below_drew1 | refine below_set ?_ GE173.out | refine below_set ?_ GE179.out | refine below_set ?_ GE184.out) | exact HB.out)) hb)
                                                        have n4_ := Aside0.mk (hbox)
                                                        have n5_ := Aside0.mk ((by rw [hg]; exact (below_size (by repeat (first | (with_reducible first | exact HB.out | apply below_alloc | apply pw_below_drewN | apply below_drew1 | refine below_set ?_ GE173.out | refine below_set ?_ GE179.out | refine below_set ?_ GE184.out) | exact HB.out))) : w.heap.size ≤ gb192))
                                                        have n6_ := Aside0.mk ((by rw [hg]; exact (below_size (by repeat (first | (with_reducible first | exact HB.out | apply below_alloc | apply pw_below_drewN | apply below_drew1 | refine below_set ?_ GE173.out | refine below_set ?_ GE179.out | refine below_set ?_ GE184.out) | exact HB.out))) : w.heap.size ≤ gb192))
                                                        have n7_ := Aside0.mk ((by rw [hg]; exact Nat.ne_of_lt (blk_lt (g := gb173) (o := .cells #[.int .u32 a0_0, .int .u16 a0_1] 25 (0, 0)) (by (with_reducible repeat (first | refine blk_drewN ?_ _ | refine blk_drew ?_ | refine blk_alloc ?_ _)); exact BK173.out)) : gb173 ≠ gb192))
                                                        have n8_ := Aside0.mk ((by rw [hg]; exact Nat.ne_of_gt (blk_lt (g := gb173) (o := .cells #[.int .u32 a0_0, .int .u16 a0_1] 25 (0, 0)) (by (with_reducible repeat (first | refine blk_drewN ?_ _ | refine blk_drew ?_ | refine blk_alloc ?_ _)); exact BK173.out)) : gb192 ≠ gb173))
                                                        have n9_ := Aside0.mk ((by rw [hg]; exact Nat.ne_of_lt (blk_lt (g := gb179) (o := .cells #[.int .u32 t176, .int .u16 t177] 25 (0, 0)) (by (with_reducible repeat (first | refine blk_drewN ?_ _ | refine blk_drew ?_ | refine blk_alloc ?_ _)); exact BK179.out)) : gb179 ≠ gb192))
                                                        have n10_ := Aside0.mk ((by rw [hg]; exact Nat.ne_of_gt (blk_lt (g := gb179) (o := .cells #[.int .u32 t176, .int .u16 t177] 25 (0, 0)) (by (with_reducible repeat (first | refine blk_drewN ?_ _ | refine blk_drew ?_ | refine blk_alloc ?_ _)); exact BK179.out)) : gb192 ≠ gb179))
                                                        have n11_ := Aside0.mk ((by rw [hg]; exact Nat.ne_of_lt (blk_lt (g := gb184) (o := .cells #[.int .u32 t181, .int .u16 t182] 25 (0, 0)) (by (with_reducible repeat (first | refine blk_drewN ?_ _ | refine blk_drew ?_ | refine blk_alloc ?_ _)); exact BK184.out)) : gb184 ≠ gb192))
                                                        have n12_ := Aside0.mk ((by rw [hg]; exact Nat.ne_of_gt (blk_lt (g := gb184) (o := .cells #[.int .u32 t181, .int .u16 t182] 25 (0, 0)) (by (with_reducible repeat (first | refine blk_drewN ?_ _ | refine blk_drew ?_ | refine blk_alloc ?_ _)); exact BK184.out)) : gb192 ≠ gb184))
                                                        clear BK173
                                                        clear BK179
                                                        clear BK184
                                                        clear HB
                                                        have BK173 := n0_
                                                        have BK179 := n1_
                                                        have BK184 := n2_
                                                        have HB := n3_
                                                        have BK192 := n4_
                                                        have GW192 := n5_
                                                        have GE192 := n6_
                                                        have NB173_192 := n7_
                                                        have NB192_173 := n8_
                                                        have NB179_192 := n9_
                                                        have NB192_179 := n10_
                                                        have NB184_192 := n11_
                                                        have NB192_184 := n12_
                                                        clear n0_ n1_ n2_ n3_ n4_ n5_ n6_ n7_ n8_ n9_ n10_ n11_ n12_
                                                        clear hb hbox hg
                                                        refine hK.out _ _ ⟨(blk_cell BK173.out 0).trans rfl, (blk_cell BK173.out 1).trans rfl⟩ (fun hHeld => ?_)
                                                        clear hK K
                                                        refine norm_ (a' := ?_) ?_ ?_
                                                        rotate_left
                                                        · show Act.put _ (some 10) _ = _
                                                          simp only [Act.put, List.setIfInBounds_toArray, List.set_cons_zero, List.set_cons_succ, i64_w, i32_w]
                                                          rfl
                                                        exact norm_ (by first | (simp only [putAll, Act.put, List.setIfInBounds_toArray, List.set_cons_zero, List.set_cons_succ]; done) | (simp only [putAll, Act.put, List.setIfInBounds_toArray, List.set_cons_zero, List.set_cons_succ]; rfl)) (hJ10 (gb192) _ ⟨hHeld, (by (with_reducible repeat (first | refine blk_drewN ?_ _ | refine blk_drew ?_ | refine blk_alloc ?_ _)); exact BK173.out), (by (with_reducible repeat (first | refine blk_drewN ?_ _ | refine blk_drew ?_ | refine blk_alloc ?_ _)); exact BK179.out), (by (with_reducible repeat (first | refine blk_drewN ?_ _ | refine blk_drew ?_ | refine blk_alloc ?_ _)); exact BK184.out), (by (with_reducible repeat (first | refine blk_drewN ?_ _ | refine blk_drew ?_ | refine blk_alloc ?_ _)); exact BK192.out), GW192.out, GE192.out, NB173_192.out, NB192_173.out, NB179_192.out, NB192_179.out, NB184_192.out, NB192_184.out, (by repeat (first | (with_reducible first | exact HB.out | apply below_alloc | apply pw_below_drewN | apply below_drew1 | refine below_set ?_ GE173.out | refine below_set ?_ GE179.out | refine below_set ?_ GE184.out | refine below_set ?_ GE192.out) | exact HB.out))⟩)
                                                    · skip
                                                      rintro gb192 w48 ⟨hS_, h0_, h1_, h2_, h3_, h4_, h5_, h6_, h7_, h8_, h9_, h10_, h11_, h12_⟩
                                                      have n0_ : Aside0 (w48.heap[gb173]? = some (.cells #[.int .u32 a0_0, .int .u16 a0_1] 25 (0, 0))) := ⟨h0_⟩
                                                      have n1_ : Aside0 (w48.heap[gb179]? = some (.cells #[.int .u32 t176, .int .u16 t177] 25 (0, 0))) := ⟨h1_⟩
                                                      have n2_ : Aside0 (w48.heap[gb184]? = some (.cells #[.int .u32 t181, .int .u16 t182] 25 (0, 0))) := ⟨h2_⟩
                                                      have n3_ : Aside0 (w48.heap[gb192]? = some (.cells #[.int .u32 0, .int .u16 0] 25 (0, 0))) := ⟨h3_⟩
                                                      have n4_ : Aside0 (w.heap.size ≤ gb192) := ⟨h4_⟩
                                                      have n5_ : Aside0 (w.heap.size ≤ gb192) := ⟨h5_⟩
                                                      have n6_ : Aside0 (gb173 ≠ gb192) := ⟨h6_⟩
                                                      have n7_ : Aside0 (gb192 ≠ gb173) := ⟨h7_⟩
                                                      have n8_ : Aside0 (gb179 ≠ gb192) := ⟨h8_⟩
                                                      have n9_ : Aside0 (gb192 ≠ gb179) := ⟨h9_⟩
                                                      have n10_ : Aside0 (gb184 ≠ gb192) := ⟨h10_⟩
                                                      have n11_ : Aside0 (gb192 ≠ gb184) := ⟨h11_⟩
                                                      have n12_ : Aside0 (Below w.heap.size w w48) := ⟨h12_⟩
                                                      clear BK173
                                                      clear BK179
                                                      clear BK184
                                                      clear HB
                                                      clear h0_ h1_ h2_ h3_ h4_ h5_ h6_ h7_ h8_ h9_ h10_ h11_ h12_
                                                      have BK173 := n0_
                                                      have BK179 := n1_
                                                      have BK184 := n2_
                                                      have BK192 := n3_
                                                      have GW192 := n4_
                                                      have GE192 := n5_
                                                      have NB173_192 := n6_
                                                      have NB192_173 := n7_
                                                      have NB179_192 := n8_
                                                      have NB192_179 := n9_
                                                      have NB184_192 := n10_
                                                      have NB192_184 := n11_
                                                      have HB := n12_
                                                      clear n0_ n1_ n2_ n3_ n4_ n5_ n6_ n7_ n8_ n9_ n10_ n11_ n12_
                                                      have hHeld : w48.cell? ⟨gb173, 0, none⟩ = some (.int .u32 a0_0) ∧ w48.cell? ⟨gb173, 1, none⟩ = some (.int .u16 a0_1) := hS_
                                                      refine norm_ (a' := ?_) ?_ ?_
                                                      rotate_left
                                                      · simp only [putAll, Act.put, List.setIfInBounds_toArray, List.set_cons_zero, List.set_cons_succ]
                                                        rfl
                                                      refine two_ (i := 1) (j := 3) (Ni := some 35) (Nj := some 37) #[true, true, true, false, false, false, false, false, false, false, true, false, false] #[true, false, true, true, false, false, false, false, false, false, true, false, false] rfl rfl rfl rfl (two_of HT_.out (by kernel_rfl)) (by decide) (by decide) (fun K hK => ?_) (fun K hK => ?_)
                                                      · skip
                                                        refine goes_ Tryd.func13 (by kernel_rfl) rfl #[.agg #[.int .u32 a0_0, .int .u16 a0_1]] (by rfl) rfl rfl (by (try simp only [List.map_toArray, List.map_cons, List.map_nil]); first | done | rfl | (simp only [List.length_drop, List.length_take]; rfl)) ?_
                                                        with_reducible refine (addr_Addr_Put.calls a0_0 a0_1 t185 _ A9.out).mono ?_
                                                        rintro e w49 ⟨rfl, hb⟩
                                                        refine ⟨_, rfl, ?_⟩
                                                        have n0_ := Aside0.mk (blk_below (g := gb173) (o := .cells #[.int .u32 a0_0, .int .u16 a0_1] 25 (0, 0)) (by (with_reducible repeat (first | refine blk_drewN ?_ _ | refine blk_drew ?_ | refine blk_alloc ?_ _)); exact BK173.out) hb)
                                                        have n1_ := Aside0.mk (blk_below (g := gb179) (o := .cells #[.int .u32 t176, .int .u16 t177] 25 (0, 0)) (by (with_reducible repeat (first | refine blk_drewN ?_ _ | refine blk_drew ?_ | refine blk_alloc ?_ _)); exact BK179.out) hb)
                                                        have n2_ := Aside0.mk (blk_below (g := gb184) (o := .cells #[.int .u32 t181, .int .u16 t182] 25 (0, 0)) (by (with_reducible repeat (first | refine blk_drewN ?_ _ | refine blk_drew ?_ | refine blk_alloc ?_ _)); exact BK184.out) hb)
                                                        have n3_ := Aside0.mk (blk_below (g := gb192) (o := .cells #[.int .u32 0, .int .u16 0] 25 (0, 0)) (by (with_reducible repeat (first | refine blk_drewN ?_ _ | refine blk_drew ?_ | refine blk_alloc ?_ _)); exact BK192.out) hb)
                                                        have n4_ := Aside0.mk (below_step (by repeat (first | (with_reducible first | exact HB.out | apply below_alloc | apply pw_below_drewN | apply below_drew1 | refine below_set ?_ GE173.out | refine below_set ?_ GE179.out | refine below_set ?_ GE184.out | refine below_set ?_ GE192.out) | exact HB.out)) hb)
                                                        clear BK173
                                                        clear BK179
                                                        clear BK184
                                                        clear BK192
                                                        clear HB
                                                        have BK173 := n0_
                                                        have BK179 := n1_
                                                        have BK184 := n2_
                                                        have BK192 := n3_
                                                        have HB := n4_
                                                        clear n0_ n1_ n2_ n3_ n4_
                                                        (try clear hb)
                                                        (try clear hb2)
                                                        (try clear hk)
                                                        (try clear hi)
                                                        refine hK.out _ _ ⟨(blk_cell BK173.out 0).trans rfl, (blk_cell BK173.out 1).trans rfl⟩ (fun hHeld => ?_)
                                                        clear hK K
                                                        refine norm_ (a' := ?_) ?_ ?_
                                                        rotate_left
                                                        · show Act.put _ (some 35) _ = _
                                                          simp only [Act.put, List.setIfInBounds_toArray, List.set_cons_zero, List.set_cons_succ, i64_w, i32_w]
                                                          rfl
                                                        exact norm_ (by first | (simp only [putAll, Act.put, List.setIfInBounds_toArray, List.set_cons_zero, List.set_cons_succ]; done) | (simp only [putAll, Act.put, List.setIfInBounds_toArray, List.set_cons_zero, List.set_cons_succ]; rfl)) (hJ1_10 (gb192) _ ⟨hHeld, (by (with_reducible repeat (first | refine blk_drewN ?_ _ | refine blk_drew ?_ | refine blk_alloc ?_ _)); exact BK173.out), (by (with_reducible repeat (first | refine blk_drewN ?_ _ | refine blk_drew ?_ | refine blk_alloc ?_ _)); exact BK179.out), (by (with_reducible repeat (first | refine blk_drewN ?_ _ | refine blk_drew ?_ | refine blk_alloc ?_ _)); exact BK184.out), (by (with_reducible repeat (first | refine blk_drewN ?_ _ | refine blk_drew ?_ | refine blk_alloc ?_ _)); exact BK192.out), GW192.out, GE192.out, NB173_192.out, NB192_173.out, NB179_192.out, NB192_179.out, NB184_192.out, NB192_184.out, (by repeat (first | (with_reducible first | exact HB.out | apply below_alloc | apply pw_below_drewN | apply below_drew1 | refine below_set ?_ GE173.out | refine below_set ?_ GE179.out | refine below_set ?_ GE184.out | refine below_set ?_ GE192.out) | exact HB.out))⟩)
                                                      · skip
                                                        refine Kd.R_lit_step (Kd.int .u8) _ 5 ?hg (N := 37) ?hd (xs := ([a1] : List Int)) (inner := [.int .u8 a1]) (ok := fun _ => True) (okp := fun _ => True) ?hr ?hp (fun _ hk => hk) trivial (Below.refl _ _) (Nat.le_refl _) (by simp) ?_; (case hd => rfl); (case hg => rfl); (case hr => first | (go_simp; done) | (go_simp; rfl)); (case hp => exact (Reps.one (show Kd.M (Kd.int .u8) _ _ _ a1 [.int .u8 a1] from rfl) (Reps.none _ _)))
                                                        intro v187 w49 ho50 hb hg_ hnew_
                                                        clear hg_ hnew_
                                                        (first | rw [← Ny186.out] at ho50 | (simp only [Int.reduceToNat] at ho50; rw [← Ny186.out] at ho50))
                                                        have n0_ := Aside0.mk (Kd.R_lower ho50 (below_size (by repeat (first | (with_reducible first | exact HB.out | apply below_alloc | apply pw_below_drewN | apply below_drew1 | refine below_set ?_ GE173.out | refine below_set ?_ GE179.out | refine below_set ?_ GE184.out | refine below_set ?_ GE192.out) | exact HB.out))))
                                                        have n1_ := Aside0.mk (blk_below (g := gb173) (o := .cells #[.int .u32 a0_0, .int .u16 a0_1] 25 (0, 0)) (by (with_reducible repeat (first | refine blk_drewN ?_ _ | refine blk_drew ?_ | refine blk_alloc ?_ _)); exact BK173.out) hb)
                                                        have n2_ := Aside0.mk (blk_below (g := gb179) (o := .cells #[.int .u32 t176, .int .u16 t177] 25 (0, 0)) (by (with_reducible repeat (first | refine blk_drewN ?_ _ | refine blk_drew ?_ | refine blk_alloc ?_ _)); exact BK179.out) hb)
                                                        have n3_ := Aside0.mk (blk_below (g := gb184) (o := .cells #[.int .u32 t181, .int .u16 t182] 25 (0, 0)) (by (with_reducible repeat (first | refine blk_drewN ?_ _ | refine blk_drew ?_ | refine blk_alloc ?_ _)); exact BK184.out) hb)
                                                        have n4_ := Aside0.mk (blk_below (g := gb192) (o := .cells #[.int .u32 0, .int .u16 0] 25 (0, 0)) (by (with_reducible repeat (first | refine blk_drewN ?_ _ | refine blk_drew ?_ | refine blk_alloc ?_ _)); exact BK192.out) hb)
                                                        have n5_ := Aside0.mk (below_step (by repeat (first | (with_reducible first | exact HB.out | apply below_alloc | apply pw_below_drewN | apply below_drew1 | refine below_set ?_ GE173.out | refine below_set ?_ GE179.out | refine below_set ?_ GE184.out | refine below_set ?_ GE192.out) | exact HB.out)) hb)
                                                        clear BK173
                                                        clear BK179
                                                        clear BK184
                                                        clear BK192
                                                        clear HB
                                                        have HO188 := n0_
                                                        have BK173 := n1_
                                                        have BK179 := n2_
                                                        have BK184 := n3_
                                                        have BK192 := n4_
                                                        have HB := n5_
                                                        clear n0_ n1_ n2_ n3_ n4_ n5_
                                                        clear hb ho50
                                                        refine hK.out _ _ ⟨(blk_cell BK173.out 0).trans rfl, (blk_cell BK173.out 1).trans rfl⟩ (fun hHeld => ?_)
                                                        clear hK K
                                                        refine norm_ (a' := ?_) ?_ ?_
                                                        rotate_left
                                                        · show Act.put _ (some 37) _ = _
                                                          simp only [Act.put, List.setIfInBounds_toArray, List.set_cons_zero, List.set_cons_succ, i64_w, i32_w]
                                                          rfl
                                                        exact norm_ (by first | (simp only [putAll, Act.put, List.setIfInBounds_toArray, List.set_cons_zero, List.set_cons_succ]; done) | (simp only [putAll, Act.put, List.setIfInBounds_toArray, List.set_cons_zero, List.set_cons_succ]; rfl)) (hJ3_10 (v187, gb192) _ ⟨hHeld, (by (with_reducible repeat (first | apply Kd.R_alloc | apply Kd.R_drewN | apply Kd.R_drew)); exact HO188.out), (by (with_reducible repeat (first | refine blk_drewN ?_ _ | refine blk_drew ?_ | refine blk_alloc ?_ _)); exact BK173.out), (by (with_reducible repeat (first | refine blk_drewN ?_ _ | refine blk_drew ?_ | refine blk_alloc ?_ _)); exact BK179.out), (by (with_reducible repeat (first | refine blk_drewN ?_ _ | refine blk_drew ?_ | refine blk_alloc ?_ _)); exact BK184.out), (by (with_reducible repeat (first | refine blk_drewN ?_ _ | refine blk_drew ?_ | refine blk_alloc ?_ _)); exact BK192.out), GW192.out, GE192.out, NB173_192.out, NB192_173.out, NB179_192.out, NB192_179.out, NB184_192.out, NB192_184.out, (by repeat (first | (with_reducible first | exact HB.out | apply below_alloc | apply pw_below_drewN | apply below_drew1 | refine below_set ?_ GE173.out | refine below_set ?_ GE179.out | refine below_set ?_ GE184.out | refine below_set ?_ GE192.out) | exact HB.out))⟩)
                                                  · skip
                                                    rintro v187 w49 ⟨hS_, h0_, h1_, h2_, h3_, h4_⟩
                                                    have n0_ : Aside0 (Kd.R (Kd.int .u8) 5 w49 w.heap.size (fun _ => True) v187 y186) := ⟨h0_⟩
                                                    have n1_ : Aside0 (w49.heap[gb173]? = some (.cells #[.int .u32 a0_0, .int .u16 a0_1] 25 (0, 0))) := ⟨h1_⟩
                                                    have n2_ : Aside0 (w49.heap[gb179]? = some (.cells #[.int .u32 t176, .int .u16 t177] 25 (0, 0))) := ⟨h2_⟩
                                                    have n3_ : Aside0 (w49.heap[gb184]? = some (.cells #[.int .u32 t181, .int .u16 t182] 25 (0, 0))) := ⟨h3_⟩
                                                    have n4_ : Aside0 (Below w.heap.size w w49) := ⟨h4_⟩
                                                    clear BK173
                                                    clear BK179
                                                    clear BK184
                                                    clear HB
                                                    clear h0_ h1_ h2_ h3_ h4_
                                                    have HO188 := n0_
                                                    have BK173 := n1_
                                                    have BK179 := n2_
                                                    have BK184 := n3_
                                                    have HB := n4_
                                                    clear n0_ n1_ n2_ n3_ n4_
                                                    have hHeld : w49.cell? ⟨gb173, 0, none⟩ = some (.int .u32 a0_0) ∧ w49.cell? ⟨gb173, 1, none⟩ = some (.int .u16 a0_1) := hS_
                                                    refine norm_ (a' := ?_) ?_ ?_
                                                    rotate_left
                                                    · simp only [putAll, Act.put, List.setIfInBounds_toArray, List.set_cons_zero, List.set_cons_succ]
                                                      rfl
                                                    refine three_ (i := 1) (j := 4) (k := 10) (Ni := some 35) (Nj := some 38) (Nk := some 10) #[true, true, true, true, false, false, false, false, false, false, false, false, false] #[true, false, true, true, true, false, false, false, false, false, false, false, false] #[true, false, true, true, false, false, false, false, false, false, true, false, false] rfl rfl rfl rfl rfl rfl (three_of HT_.out (by kernel_rfl)) (by decide) (by decide) (by decide) (fun K hK => ?_) (fun K hK => ?_) (fun K hK => ?_)
                                                    · skip
                                                      refine goes_ Tryd.func13 (by kernel_rfl) rfl #[.agg #[.int .u32 a0_0, .int .u16 a0_1]] (by rfl) rfl rfl (by (try simp only [List.map_toArray, List.map_cons, List.map_nil]); first | done | rfl | (simp only [List.length_drop, List.length_take]; rfl)) ?_
                                                      with_reducible refine (addr_Addr_Put.calls a0_0 a0_1 t185 _ A9.out).mono ?_
                                                      rintro e w50 ⟨rfl, hb⟩
                                                      refine ⟨_, rfl, ?_⟩
                                                      have n0_ := Aside0.mk (Kd.R_below (by (with_reducible repeat (first | apply Kd.R_alloc | apply Kd.R_drewN | apply Kd.R_drew)); exact HO188.out) hb)
                                                      have n1_ := Aside0.mk (blk_below (g := gb173) (o := .cells #[.int .u32 a0_0, .int .u16 a0_1] 25 (0, 0)) (by (with_reducible repeat (first | refine blk_drewN ?_ _ | refine blk_drew ?_ | refine blk_alloc ?_ _)); exact BK173.out) hb)
                                                      have n2_ := Aside0.mk (blk_below (g := gb179) (o := .cells #[.int .u32 t176, .int .u16 t177] 25 (0, 0)) (by (with_reducible repeat (first | refine blk_drewN ?_ _ | refine blk_drew ?_ | refine blk_alloc ?_ _)); exact BK179.out) hb)
                                                      have n3_ := Aside0.mk (blk_below (g := gb184) (o := .cells #[.int .u32 t181, .int .u16 t182] 25 (0, 0)) (by (with_reducible repeat (first | refine blk_drewN ?_ _ | refine blk_drew ?_ | refine blk_alloc ?_ _)); exact BK184.out) hb)
                                                      have n4_ := Aside0.mk (below_step (by repeat (first | (with_reducible first | exact HB.out | apply below_alloc | apply pw_below_drewN | apply below_drew1 | refine below_set ?_ GE173.out | refine below_set ?_ GE179.out | refine below_set ?_ GE184.out) | exact HB.out)) hb)
                                                      clear HO188
                                                      clear BK173
                                                      clear BK179
                                                      clear BK184
                                                      clear HB
                                                      have HO188 := n0_
                                                      have BK173 := n1_
                                                      have BK179 := n2_
                                                      have BK184 := n3_
                                                      have HB := n4_
                                                      clear n0_ n1_ n2_ n3_ n4_
                                                      (try clear hb)
                                                      (try clear hb2)
                                                      (try clear hk)
                                                      (try clear hi)
                                                      refine hK.out _ _ ⟨(blk_cell BK173.out 0).trans rfl, (blk_cell BK173.out 1).trans rfl⟩ (fun hHeld => ?_)
                                                      clear hK K
                                                      refine norm_ (a' := ?_) ?_ ?_
                                                      rotate_left
                                                      · show Act.put _ (some 35) _ = _
                                                        simp only [Act.put, List.setIfInBounds_toArray, List.set_cons_zero, List.set_cons_succ, i64_w, i32_w]
                                                        rfl
                                                      exact norm_ (by first | (simp only [putAll, Act.put, List.setIfInBounds_toArray, List.set_cons_zero, List.set_cons_succ]; done) | (simp only [putAll, Act.put, List.setIfInBounds_toArray, List.set_cons_zero, List.set_cons_succ]; rfl)) (hJ1_3 (v187) _ ⟨hHeld, (by (with_reducible repeat (first | apply Kd.R_alloc | apply Kd.R_drewN | apply Kd.R_drew)); exact HO188.out), (by (with_reducible repeat (first | refine blk_drewN ?_ _ | refine blk_drew ?_ | refine blk_alloc ?_ _)); exact BK173.out), (by (with_reducible repeat (first | refine blk_drewN ?_ _ | refine blk_drew ?_ | refine blk_alloc ?_ _)); exact BK179.out), (by (with_reducible repeat (first | refine blk_drewN ?_ _ | refine blk_drew ?_ | refine blk_alloc ?_ _)); exact BK184.out), (by repeat (first | (with_reducible first | exact HB.out | apply below_alloc | apply pw_below_drewN | apply below_drew1 | refine below_set ?_ GE173.out | refine below_set ?_ GE179.out | refine below_set ?_ GE184.out) | exact HB.out))⟩)
                                                    · skip
                                                      have hcv50 := own_string (P := Tryd.prog) Tryd.underlying35 Tryd.underlying5 Tryd.underlying9 (Kd.own_of_R HO188.out)
                                                      refine value_ (w1 := ?_) (v := ?_) (by rfl) rfl ?_ ?_
                                                      rotate_left 2
                                                      · go_simp
                                                        constructor
                                                        · rfl
                                                        · rfl
                                                      clear hcv50
                                                      refine hK.out _ _ ⟨(blk_cell BK173.out 0).trans rfl, (blk_cell BK173.out 1).trans rfl⟩ (fun hHeld => ?_)
                                                      clear hK K
                                                      refine norm_ (a' := ?_) ?_ ?_
                                                      rotate_left
                                                      · show Act.put _ (some 38) _ = _
                                                        simp only [Act.put, List.setIfInBounds_toArray, List.set_cons_zero, List.set_cons_succ, i64_w, i32_w]
                                                        rfl
                                                      exact norm_ (by first | (simp only [putAll, Act.put, List.setIfInBounds_toArray, List.set_cons_zero, List.set_cons_succ]; done) | (simp only [putAll, Act.put, List.setIfInBounds_toArray, List.set_cons_zero, List.set_cons_succ]; rfl)) (hJ3_4 (v187) _ ⟨hHeld, (by (with_reducible repeat (first | apply Kd.R_alloc | apply Kd.R_drewN | apply Kd.R_drew)); exact HO188.out), (by (with_reducible repeat (first | refine blk_drewN ?_ _ | refine blk_drew ?_ | refine blk_alloc ?_ _)); exact BK173.out), (by (with_reducible repeat (first | refine blk_drewN ?_ _ | refine blk_drew ?_ | refine blk_alloc ?_ _)); exact BK179.out), (by (with_reducible repeat (first | refine blk_drewN ?_ _ | refine blk_drew ?_ | refine blk_alloc ?_ _)); exact BK184.out), (by repeat (first | (with_reducible first | exact HB.out | apply below_alloc | apply pw_below_drewN | apply below_drew1 | refine below_set ?_ GE173.out | refine below_set ?_ GE179.out | refine below_set ?_ GE184.out) | exact HB.out))⟩)
                                                    · skip
                                                      refine box_step ?hg (N := 10) ?hd (cs := #[.int .u32 0, .int .u16 0]) (t := 25) ?hr ?_; (case hd => rfl); (case hg => rfl); (case hr => first | (go_simp; done) | (go_simp; rfl))
                                                      intro gb192 hg w50 hbox hb
                                                      have n0_ := Aside0.mk (Kd.R_below (by (with_reducible repeat (first | apply Kd.R_alloc | apply Kd.R_drewN | apply Kd.R_drew)); exact HO188.out) hb)
                                                      have n1_ := Aside0.mk (blk_below (g := gb173) (o := .cells #[.int .u32 a0_0, .int .u16 a0_1] 25 (0, 0)) (by (with_reducible repeat (first | refine blk_drewN ?_ _ | refine blk_drew ?_ | refine blk_alloc ?_ _)); exact BK173.out) hb)
                                                      have n2_ := Aside0.mk (blk_below (g := gb179) (o := .cells #[.int .u32 t176, .int .u16 t177] 25 (0, 0)) (by (with_reducible repeat (first | refine blk_drewN ?_ _ | refine blk_drew ?_ | refine blk_alloc ?_ _)); exact BK179.out) hb)
                                                      have n3_ := Aside0.mk (blk_below (g := gb184) (o := .cells #[.int .u32 t181, .int .u16 t182] 25 (0, 0)) (by (with_reducible repeat (first | refine blk_drewN ?_ _ | refine blk_drew ?_ | refine blk_alloc ?_ _)); exact BK184.out) hb)
                                                      have n4_ := Aside0.mk (below_step (by repeat (first | (with_reducible first | exact HB.out | apply below_alloc | apply pw_below_drewN | apply below_drew1 | refine below_set ?_ GE173.out | refine below_set ?_ GE179.out | refine below_set ?_ GE184.out) | exact HB.out)) hb)
                                                      have n5_ := Aside0.mk (hbox)
                                                      have n6_ := Aside0.mk ((by rw [hg]; exact (below_size (by repeat (first | (with_reducible first | exact HB.out | apply below_alloc | apply pw_below_drewN | apply below_drew1 | refine below_set ?_ GE173.out | refine below_set ?_ GE179.out | refine below_set ?_ GE184.out) | exact HB.out))) : w.heap.size ≤ gb192))
                                                      have n7_ := Aside0.mk ((by rw [hg]; exact (below_size (by repeat (first | (with_reducible first | exact HB.out | apply below_alloc | apply pw_below_drewN | apply below_drew1 | refine below_set ?_ GE173.out | refine below_set ?_ GE179.out | refine below_set ?_ GE184.out) | exact HB.out))) : w.heap.size ≤ gb192))
                                                      have n8_ := Aside0.mk ((by rw [hg]; exact Nat.ne_of_lt (blk_lt (g := gb173) (o := .cells #[.int .u32 a0_0, .int .u16 a0_1] 25 (0, 0)) (by (with_reducible repeat (first | refine blk_drewN ?_ _ | refine blk_drew ?_ | refine blk_alloc ?_ _)); exact BK173.out)) : gb173 ≠ gb192))
                                                      have n9_ := Aside0.mk ((by rw [hg]; exact Nat.ne_of_gt (blk_lt (g := gb173) (o := .cells #[.int .u32 a0_0, .int .u16 a0_1] 25 (0, 0)) (by (with_reducible repeat (first | refine blk_drewN ?_ _ | refine blk_drew ?_ | refine blk_alloc ?_ _)); exact BK173.out)) : gb192 ≠ gb173))
                                                      have n10_ := Aside0.mk ((by rw [hg]; exact Nat.ne_of_lt (blk_lt (g := gb179) (o := .cells #[.int .u32 t176, .int .u16 t177] 25 (0, 0)) (by (with_reducible repeat (first | refine blk_drewN ?_ _ | refine blk_drew ?_ | refine blk_alloc ?_ _)); exact BK179.out)) : gb179 ≠ gb192))
                                                      have n11_ := Aside0.mk ((by rw [hg]; exact Nat.ne_of_gt (blk_lt (g := gb179) (o := .cells #[.int .u32 t176, .int .u16 t177] 25 (0, 0)) (by (with_reducible repeat (first | refine blk_drewN ?_ _ | refine blk_drew ?_ | refine blk_alloc ?_ _)); exact BK179.out)) : gb192 ≠ gb179))
                                                      have n12_ := Aside0.mk ((by rw [hg]; exact Nat.ne_of_lt (blk_lt (g := gb184) (o := .cells #[.int .u32 t181, .int .u16 t182] 25 (0, 0)) (by (with_reducible repeat (first | refine blk_drewN ?_ _ | refine blk_drew ?_ | refine blk_alloc ?_ _)); exact BK184.out)) : gb184 ≠ gb192))
                                                      have n13_ := Aside0.mk ((by rw [hg]; exact Nat.ne_of_gt (blk_lt (g := gb184) (o := .cells #[.int .u32 t181, .int .u16 t182] 25 (0, 0)) (by (with_reducible repeat (first | refine blk_drewN ?_ _ | refine blk_drew ?_ | refine blk_alloc ?_ _)); exact BK184.out)) : gb192 ≠ gb184))
                                                      clear HO188
                                                      clear BK173
                                                      clear BK179
                                                      clear BK184
                                                      clear HB
                                                      have HO188 := n0_
                                                      have BK173 := n1_
                                                      have BK179 := n2_
                                                      have BK184 := n3_
                                                      have HB := n4_
                                                      have BK192 := n5_
                                                      have GW192 := n6_
                                                      have GE192 := n7_
                                                      have NB173_192 := n8_
                                                      have NB192_173 := n9_
                                                      have NB179_192 := n10_
                                                      have NB192_179 := n11_
                                                      have NB184_192 := n12_
                                                      have NB192_184 := n13_
                                                      clear n0_ n1_ n2_ n3_ n4_ n5_ n6_ n7_ n8_ n9_ n10_ n11_ n12_ n13_
                                                      clear hb hbox hg
                                                      refine hK.out _ _ ⟨(blk_cell BK173.out 0).trans rfl, (blk_cell BK173.out 1).trans rfl⟩ (fun hHeld => ?_)
                                                      clear hK K
                                                      refine norm_ (a' := ?_) ?_ ?_
                                                      rotate_left
                                                      · show Act.put _ (some 10) _ = _
                                                        simp only [Act.put, List.setIfInBounds_toArray, List.set_cons_zero, List.set_cons_succ, i64_w, i32_w]
                                                        rfl
                                                      exact norm_ (by first | (simp only [putAll, Act.put, List.setIfInBounds_toArray, List.set_cons_zero, List.set_cons_succ]; done) | (simp only [putAll, Act.put, List.setIfInBounds_toArray, List.set_cons_zero, List.set_cons_succ]; rfl)) (hJ3_10 (v187, gb192) _ ⟨hHeld, (by (with_reducible repeat (first | apply Kd.R_alloc | apply Kd.R_drewN | apply Kd.R_drew)); exact HO188.out), (by (with_reducible repeat (first | refine blk_drewN ?_ _ | refine blk_drew ?_ | refine blk_alloc ?_ _)); exact BK173.out), (by (with_reducible repeat (first | refine blk_drewN ?_ _ | refine blk_drew ?_ | refine blk_alloc ?_ _)); exact BK179.out), (by (with_reducible repeat (first | refine blk_drewN ?_ _ | refine blk_drew ?_ | refine blk_alloc ?_ _)); exact BK184.out), (by (with_reducible repeat (first | refine blk_drewN ?_ _ | refine blk_drew ?_ | refine blk_alloc ?_ _)); exact BK192.out), GW192.out, GE192.out, NB173_192.out, NB192_173.out, NB179_192.out, NB192_179.out, NB184_192.out, NB192_184.out, (by repeat (first | (with_reducible first | exact HB.out | apply below_alloc | apply pw_below_drewN | apply below_drew1 | refine below_set ?_ GE173.out | refine below_set ?_ GE179.out | refine below_set ?_ GE184.out | refine below_set ?_ GE192.out) | exact HB.out))⟩)
                                                · skip
                                                  rintro _ w48 ⟨hS_, h0_, h1_, h2_, h3_⟩
                                                  have n0_ : Aside0 (w48.heap[gb173]? = some (.cells #[.int .u32 a0_0, .int .u16 a0_1] 25 (0, 0))) := ⟨h0_⟩
                                                  have n1_ : Aside0 (w48.heap[gb179]? = some (.cells #[.int .u32 t176, .int .u16 t177] 25 (0, 0))) := ⟨h1_⟩
                                                  have n2_ : Aside0 (w48.heap[gb184]? = some (.cells #[.int .u32 t181, .int .u16 t182] 25 (0, 0))) := ⟨h2_⟩
                                                  have n3_ : Aside0 (Below w.heap.size w w48) := ⟨h3_⟩
                                                  clear BK173
                                                  clear BK179
                                                  clear BK184
                                                  clear HB
                                                  clear h0_ h1_ h2_ h3_
                                                  have BK173 := n0_
                                                  have BK179 := n1_
                                                  have BK184 := n2_
                                                  have HB := n3_
                                                  clear n0_ n1_ n2_ n3_
                                                  have hHeld : w48.cell? ⟨gb173, 0, none⟩ = some (.int .u32 a0_0) ∧ w48.cell? ⟨gb173, 1, none⟩ = some (.int .u16 a0_1) := hS_
                                                  refine norm_ (a' := ?_) ?_ ?_
                                                  rotate_left
                                                  · simp only [putAll, Act.put, List.setIfInBounds_toArray, List.set_cons_zero, List.set_cons_succ]
                                                    rfl
                                                  refine two_ (i := 3) (j := 10) (Ni := some 37) (Nj := some 10) #[true, true, true, true, false, false, false, false, false, false, false, false, false] #[true, true, true, false, false, false, false, false, false, false, true, false, false] rfl rfl rfl rfl (two_of HT_.out (by kernel_rfl)) (by decide) (by decide) (fun K hK => ?_) (fun K hK => ?_)
                                                  · skip
                                                    refine Kd.R_lit_step (Kd.int .u8) _ 5 ?hg (N := 37) ?hd (xs := ([a1] : List Int)) (inner := [.int .u8 a1]) (ok := fun _ => True) (okp := fun _ => True) ?hr ?hp (fun _ hk => hk) trivial (Below.refl _ _) (Nat.le_refl _) (by simp) ?_; (case hd => rfl); (case hg => rfl); (case hr => first | (go_simp; done) | (go_simp; rfl)); (case hp => exact (Reps.one (show Kd.M (Kd.int .u8) _ _ _ a1 [.int .u8 a1] from rfl) (Reps.none _ _)))
                                                    intro v187 w49 ho50 hb hg_ hnew_
                                                    clear hg_ hnew_
                                                    (first | rw [← Ny186.out] at ho50 | (simp only [Int.reduceToNat] at ho50; rw [← Ny186.out] at ho50))
                                                    have n0_ := Aside0.mk (Kd.R_lower ho50 (below_size (by repeat (first | (with_reducible first | exact HB.out | apply below_alloc | apply pw_below_drewN | apply below_drew1 | refine below_set ?_ GE173.out | refine below_set ?_ GE179.out | refine below_set ?_ GE184.out) | exact HB.out))))
                                                    have n1_ := Aside0.mk (blk_below (g := gb173) (o := .cells #[.int .u32 a0_0, .int .u16 a0_1] 25 (0, 0)) (by (with_reducible repeat (first | refine blk_drewN ?_ _ | refine blk_drew ?_ | refine blk_alloc ?_ _)); exact BK173.out) hb)
                                                    have n2_ := Aside0.mk (blk_below (g := gb179) (o := .cells #[.int .u32 t176, .int .u16 t177] 25 (0, 0)) (by (with_reducible repeat (first | refine blk_drewN ?_ _ | refine blk_drew ?_ | refine blk_alloc ?_ _)); exact BK179.out) hb)
                                                    have n3_ := Aside0.mk (blk_below (g := gb184) (o := .cells #[.int .u32 t181, .int .u16 t182] 25 (0, 0)) (by (with_reducible repeat (first | refine blk_drewN ?_ _ | refine blk_drew ?_ | refine blk_alloc ?_ _)); exact BK184.out) hb)
                                                    have n4_ := Aside0.mk (below_step (by repeat (first | (with_reducible first | exact HB.out | apply below_alloc | apply pw_below_drewN | apply below_drew1 | refine below_set ?_ GE173.out | refine below_set ?_ GE179.out | refine below_set ?_ GE184.out) | exact HB.out)) hb)
                                                    clear BK173
                                                    clear BK179
                                                    clear BK184
                                                    clear HB
                                                    have HO188 := n0_
                                                    have BK173 := n1_
                                                    have BK179 := n2_
                                                    have BK184 := n3_
                                                    have HB := n4_
                                                    clear n0_ n1_ n2_ n3_ n4_
                                                    clear hb ho50
                                                    refine hK.out _ _ ⟨(blk_cell BK173.out 0).trans rfl, (blk_cell BK173.out 1).trans rfl⟩ (fun hHeld => ?_)
                                                    clear hK K
                                                    refine norm_ (a' := ?_) ?_ ?_
                                                    rotate_left
                                                    · show Act.put _ (some 37) _ = _
                                                      simp only [Act.put, List.setIfInBounds_toArray, List.set_cons_zero, List.set_cons_succ, i64_w, i32_w]
                                                      rfl
                                                    exact norm_ (by first | (simp only [putAll, Act.put, List.setIfInBounds_toArray, List.set_cons_zero, List.set_cons_succ]; done) | (simp only [putAll, Act.put, List.setIfInBounds_toArray, List.set_cons_zero, List.set_cons_succ]; rfl)) (hJ1_3 (v187) _ ⟨hHeld, (by (with_reducible repeat (first | apply Kd.R_alloc | apply Kd.R_drewN | apply Kd.R_drew)); exact HO188.out), (by (with_reducible repeat (first | refine blk_drewN ?_ _ | refine blk_drew ?_ | refine blk_alloc ?_ _)); exact BK173.out), (by (with_reducible repeat (first | refine blk_drewN ?_ _ | refine blk_drew ?_ | refine blk_alloc ?_ _)); exact BK179.out), (by (with_reducible repeat (first | refine blk_drewN ?_ _ | refine blk_drew ?_ | refine blk_alloc ?_ _)); exact BK184.out), (by repeat (first | (with_reducible first | exact HB.out | apply below_alloc | apply pw_below_drewN | apply below_drew1 | refine below_set ?_ GE173.out | refine below_set ?_ GE179.out | refine below_set ?_ GE184.out) | exact HB.out))⟩)
                                                  · skip
                                                    refine box_step ?hg (N := 10) ?hd (cs := #[.int .u32 0, .int .u16 0]) (t := 25) ?hr ?_; (case hd => rfl); (case hg => rfl); (case hr => first | (go_simp; done) | (go_simp; rfl))
                                                    intro gb192 hg w49 hbox hb
                                                    have n0_ := Aside0.mk (blk_below (g := gb173) (o := .cells #[.int .u32 a0_0, .int .u16 a0_1] 25 (0, 0)) (by (with_reducible repeat (first | refine blk_drewN ?_ _ | refine blk_drew ?_ | refine blk_alloc ?_ _)); exact BK173.out) hb)
                                                    have n1_ := Aside0.mk (blk_below (g := gb179) (o := .cells #[.int .u32 t176, .int .u16 t177] 25 (0, 0)) (by (with_reducible repeat (first | refine blk_drewN ?_ _ | refine blk_drew ?_ | refine blk_alloc ?_ _)); exact BK179.out) hb)
                                                    have n2_ := Aside0.mk (blk_below (g := gb184) (o := .cells #[.int .u32 t181, .int .u16 t182] 25 (0, 0)) (by (with_reducible repeat (first | refine blk_drewN ?_ _ | refine blk_drew ?_ | refine blk_alloc ?_ _)); exact BK184.out) hb)
                                                    have n3_ := Aside0.mk (below_step (by repeat (first | (with_reducible first | exact HB.out | apply below_alloc | apply pw_below_drewN | apply below_drew1 | refine below_set ?_ GE173.out | refine below_set ?_ GE179.out | refine below_set ?_ GE184.out) | exact HB.out)) hb)
                                                    have n4_ := Aside0.mk (hbox)
                                                    have n5_ := Aside0.mk ((by rw [hg]; exact (below_size (by repeat (first | (with_reducible first | exact HB.out | apply below_alloc | apply pw_below_drewN | apply below_drew1 | refine below_set ?_ GE173.out | refine below_set ?_ GE179.out | refine below_set ?_ GE184.out) | exact HB.out))) : w.heap.size ≤ gb192))
                                                    have n6_ := Aside0.mk ((by rw [hg]; exact (below_size (by repeat (first | (with_reducible first | exact HB.out | apply below_alloc | apply pw_below_drewN | apply below_drew1 | refine below_set ?_ GE173.out | refine below_set ?_ GE179.out | refine below_set ?_ GE184.out) | exact HB.out))) : w.heap.size ≤ gb192))
                                                    have n7_ := Aside0.mk ((by rw [hg]; exact Nat.ne_of_lt (blk_lt (g := gb173) (o := .cells #[.int .u32 a0_0, .int .u16 a0_1] 25 (0, 0)) (by (with_reducible repeat (first | refine blk_drewN ?_ _ | refine blk_drew ?_ | refine blk_alloc ?_ _)); exact BK173.out)) : gb173 ≠ gb192))
                                                    have n8_ := Aside0.mk ((by rw [hg]; exact Nat.ne_of_gt (blk_lt (g := gb173) (o := .cells #[.int .u32 a0_0, .int .u16 a0_1] 25 (0, 0)) (by (with_reducible repeat (first | refine blk_drewN ?_ _ | refine blk_drew ?_ | refine blk_alloc ?_ _)); exact BK173.out)) : gb192 ≠ gb173))
                                                    have n9_ := Aside0.mk ((by rw [hg]; exact Nat.ne_of_lt (blk_lt (g := gb179) (o := .cells #[.int .u32 t176, .int .u16 t177] 25 (0, 0)) (by (with_reducible repeat (first | refine blk_drewN ?_ _ | refine blk_drew ?_ | refine blk_alloc ?_ _)); exact BK179.out)) : gb179 ≠ gb192))
                                                    have n10_ := Aside0.mk ((by rw [hg]; exact Nat.ne_of_gt (blk_lt (g := gb179) (o := .cells #[.int .u32 t176, .int .u16 t177] 25 (0, 0)) (by (with_reducible repeat (first | refine blk_drewN ?_ _ | refine blk_drew ?_ | refine blk_alloc ?_ _)); exact BK179.out)) : gb192 ≠ gb179))
                                                    have n11_ := Aside0.mk ((by rw [hg]; exact Nat.ne_of_lt (blk_lt (g := gb184) (o := .cells #[.int .u32 t181, .int .u16 t182] 25 (0, 0)) (by (with_reducible repeat (first | refine blk_drewN ?_ _ | refine blk_drew ?_ | refine blk_alloc ?_ _)); exact BK184.out)) : gb184 ≠ gb192))
                                                    have n12_ := Aside0.mk ((by rw [hg]; exact Nat.ne_of_gt (blk_lt (g := gb184) (o := .cells #[.int .u32 t181, .int .u16 t182] 25 (0, 0)) (by (with_reducible repeat (first | refine blk_drewN ?_ _ | refine blk_drew ?_ | refine blk_alloc ?_ _)); exact BK184.out)) : gb192 ≠ gb184))
                                                    clear BK173
                                                    clear BK179
                                                    clear BK184
                                                    clear HB
                                                    have BK173 := n0_
                                                    have BK179 := n1_
                                                    have BK184 := n2_
                                                    have HB := n3_
                                                    have BK192 := n4_
                                                    have GW192 := n5_
                                                    have GE192 := n6_
                                                    have NB173_192 := n7_
                                                    have NB192_173 := n8_
                                                    have NB179_192 := n9_
                                                    have NB192_179 := n10_
                                                    have NB184_192 := n11_
                                                    have NB192_184 := n12_
                                                    clear n0_ n1_ n2_ n3_ n4_ n5_ n6_ n7_ n8_ n9_ n10_ n11_ n12_
                                                    clear hb hbox hg
                                                    refine hK.out _ _ ⟨(blk_cell BK173.out 0).trans rfl, (blk_cell BK173.out 1).trans rfl⟩ (fun hHeld => ?_)
                                                    clear hK K
                                                    refine norm_ (a' := ?_) ?_ ?_
                                                    rotate_left
                                                    · show Act.put _ (some 10) _ = _
                                                      simp only [Act.put, List.setIfInBounds_toArray, List.set_cons_zero, List.set_cons_succ, i64_w, i32_w]
                                                      rfl
                                                    exact norm_ (by first | (simp only [putAll, Act.put, List.setIfInBounds_toArray, List.set_cons_zero, List.set_cons_succ]; done) | (simp only [putAll, Act.put, List.setIfInBounds_toArray, List.set_cons_zero, List.set_cons_succ]; rfl)) (hJ1_10 (gb192) _ ⟨hHeld, (by (with_reducible repeat (first | refine blk_drewN ?_ _ | refine blk_drew ?_ | refine blk_alloc ?_ _)); exact BK173.out), (by (with_reducible repeat (first | refine blk_drewN ?_ _ | refine blk_drew ?_ | refine blk_alloc ?_ _)); exact BK179.out), (by (with_reducible repeat (first | refine blk_drewN ?_ _ | refine blk_drew ?_ | refine blk_alloc ?_ _)); exact BK184.out), (by (with_reducible repeat (first | refine blk_drewN ?_ _ | refine blk_drew ?_ | refine blk_alloc ?_ _)); exact BK192.out), GW192.out, GE192.out, NB173_192.out, NB192_173.out, NB179_192.out, NB192_179.out, NB184_192.out, NB192_184.out, (by repeat (first | (with_reducible first | exact HB.out | apply below_alloc | apply pw_below_drewN | apply below_drew1 | refine below_set ?_ GE173.out | refine below_set ?_ GE179.out | refine below_set ?_ GE184.out | refine below_set ?_ GE192.out) | exact HB.out))⟩)
                                              · skip
                                                rintro ⟨v187, gb192⟩ w50 ⟨hS_, h0_, h1_, h2_, h3_, h4_, h5_, h6_, h7_, h8_, h9_, h10_, h11_, h12_, h13_⟩
                                                have n0_ : Aside0 (Kd.R (Kd.int .u8) 5 w50 w.heap.size (fun _ => True) v187 y186) := ⟨h0_⟩
                                                have n1_ : Aside0 (w50.heap[gb173]? = some (.cells #[.int .u32 a0_0, .int .u16 a0_1] 25 (0, 0))) := ⟨h1_⟩
                                                have n2_ : Aside0 (w50.heap[gb179]? = some (.cells #[.int .u32 t176, .int .u16 t177] 25 (0, 0))) := ⟨h2_⟩
                                                have n3_ : Aside0 (w50.heap[gb184]? = some (.cells #[.int .u32 t181, .int .u16 t182] 25 (0, 0))) := ⟨h3_⟩
                                                have n4_ : Aside0 (w50.heap[gb192]? = some (.cells #[.int .u32 0, .int .u16 0] 25 (0, 0))) := ⟨h4_⟩
                                                have n5_ : Aside0 (w.heap.size ≤ gb192) := ⟨h5_⟩
                                                have n6_ : Aside0 (w.heap.size ≤ gb192) := ⟨h6_⟩
                                                have n7_ : Aside0 (gb173 ≠ gb192) := ⟨h7_⟩
                                                have n8_ : Aside0 (gb192 ≠ gb173) := ⟨h8_⟩
                                                have n9_ : Aside0 (gb179 ≠ gb192) := ⟨h9_⟩
                                                have n10_ : Aside0 (gb192 ≠ gb179) := ⟨h10_⟩
                                                have n11_ : Aside0 (gb184 ≠ gb192) := ⟨h11_⟩
                                                have n12_ : Aside0 (gb192 ≠ gb184) := ⟨h12_⟩
                                                have n13_ : Aside0 (Below w.heap.size w w50) := ⟨h13_⟩
                                                clear BK173
                                                clear BK179
                                                clear BK184
                                                clear HB
                                                clear h0_ h1_ h2_ h3_ h4_ h5_ h6_ h7_ h8_ h9_ h10_ h11_ h12_ h13_
                                                have HO188 := n0_
                                                have BK173 := n1_
                                                have BK179 := n2_
                                                have BK184 := n3_
                                                have BK192 := n4_
                                                have GW192 := n5_
                                                have GE192 := n6_
                                                have NB173_192 := n7_
                                                have NB192_173 := n8_
                                                have NB179_192 := n9_
                                                have NB192_179 := n10_
                                                have NB184_192 := n11_
                                                have NB192_184 := n12_
                                                have HB := n13_
                                                clear n0_ n1_ n2_ n3_ n4_ n5_ n6_ n7_ n8_ n9_ n10_ n11_ n12_ n13_
                                                have hHeld : w50.cell? ⟨gb173, 0, none⟩ = some (.int .u32 a0_0) ∧ w50.cell? ⟨gb173, 1, none⟩ = some (.int .u16 a0_1) := hS_
                                                refine norm_ (a' := ?_) ?_ ?_
                                                rotate_left
                                                · simp only [putAll, Act.put, List.setIfInBounds_toArray, List.set_cons_zero, List.set_cons_succ]
                                                  rfl
                                                refine two_ (i := 1) (j := 4) (Ni := some 35) (Nj := some 38) #[true, true, true, true, false, false, false, false, false, false, true, false, false] #[true, false, true, true, true, false, false, false, false, false, true, false, false] rfl rfl rfl rfl (two_of HT_.out (by kernel_rfl)) (by decide) (by decide) (fun K hK => ?_) (fun K hK => ?_)
                                                · skip
                                                  refine goes_ Tryd.func13 (by kernel_rfl) rfl #[.agg #[.int .u32 a0_0, .int .u16 a0_1]] (by rfl) rfl rfl (by (try simp only [List.map_toArray, List.map_cons, List.map_nil]); first | done | rfl | (simp only [List.length_drop, List.length_take]; rfl)) ?_
                                                  with_reducible refine (addr_Addr_Put.calls a0_0 a0_1 t185 _ A9.out).mono ?_
                                                  rintro e w51 ⟨rfl, hb⟩
                                                  refine ⟨_, rfl, ?_⟩
                                                  have n0_ := Aside0.mk (Kd.R_below (by (with_reducible repeat (first | apply Kd.R_alloc | apply Kd.R_drewN | apply Kd.R_drew)); exact HO188.out) hb)
                                                  have n1_ := Aside0.mk (blk_below (g := gb173) (o := .cells #[.int .u32 a0_0, .int .u16 a0_1] 25 (0, 0)) (by (with_reducible repeat (first | refine blk_drewN ?_ _ | refine blk_drew ?_ | refine blk_alloc ?_ _)); exact BK173.out) hb)
                                                  have n2_ := Aside0.mk (blk_below (g := gb179) (o := .cells #[.int .u32 t176, .int .u16 t177] 25 (0, 0)) (by (with_reducible repeat (first | refine blk_drewN ?_ _ | refine blk_drew ?_ | refine blk_alloc ?_ _)); exact BK179.out) hb)
                                                  have n3_ := Aside0.mk (blk_below (g := gb184) (o := .cells #[.int .u32 t181, .int .u16 t182] 25 (0, 0)) (by (with_reducible repeat (first | refine blk_drewN ?_ _ | refine blk_drew ?_ | refine blk_alloc ?_ _)); exact BK184.out) hb)
                                                  have n4_ := Aside0.mk (blk_below (g := gb192) (o := .cells #[.int .u32 0, .int .u16 0] 25 (0, 0)) (by (with_reducible repeat (first | refine blk_drewN ?_ _ | refine blk_drew ?_ | refine blk_alloc ?_ _)); exact BK192.out) hb)
                                                  have n5_ := Aside0.mk (below_step (by repeat (first | (with_reducible first | exact HB.out | apply below_alloc | apply pw_below_drewN | apply below_drew1 | refine below_set ?_ GE173.out | refine below_set ?_ GE179.out | refine below_set ?_ GE184.out | refine below_set ?_ GE192.out) | exact HB.out)) hb)
                                                  clear HO188
                                                  clear BK173
                                                  clear BK179
                                                  clear BK184
                                                  clear BK192
                                                  clear HB
                                                  have HO188 := n0_
                                                  have BK173 := n1_
                                                  have BK179 := n2_
                                                  have BK184 := n3_
                                                  have BK192 := n4_
                                                  have HB := n5_
                                                  clear n0_ n1_ n2_ n3_ n4_ n5_
                                                  (try clear hb)
                                                  (try clear hb2)
                                                  (try clear hk)
                                                  (try clear hi)
                                                  refine hK.out _ _ ⟨(blk_cell BK173.out 0).trans rfl, (blk_cell BK173.out 1).trans rfl⟩ (fun hHeld => ?_)
                                                  clear hK K
                                                  refine norm_ (a' := ?_) ?_ ?_
                                                  rotate_left
                                                  · show Act.put _ (some 35) _ = _
                                                    simp only [Act.put, List.setIfInBounds_toArray, List.set_cons_zero, List.set_cons_succ, i64_w, i32_w]
                                                    rfl
                                                  exact norm_ (by first | (simp only [putAll, Act.put, List.setIfInBounds_toArray, List.set_cons_zero, List.set_cons_succ]; done) | (simp only [putAll, Act.put, List.setIfInBounds_toArray, List.set_cons_zero, List.set_cons_succ]; rfl)) (hJ1_3_10 (v187, gb192) _ ⟨hHeld, (by (with_reducible repeat (first | apply Kd.R_alloc | apply Kd.R_drewN | apply Kd.R_drew)); exact HO188.out), (by (with_reducible repeat (first | refine blk_drewN ?_ _ | refine blk_drew ?_ | refine blk_alloc ?_ _)); exact BK173.out), (by (with_reducible repeat (first | refine blk_drewN ?_ _ | refine blk_drew ?_ | refine blk_alloc ?_ _)); exact BK179.out), (by (with_reducible repeat (first | refine blk_drewN ?_ _ | refine blk_drew ?_ | refine blk_alloc ?_ _)); exact BK184.out), (by (with_reducible repeat (first | refine blk_drewN ?_ _ | refine blk_drew ?_ | refine blk_alloc ?_ _)); exact BK192.out), GW192.out, GE192.out, NB173_192.out, NB192_173.out, NB179_192.out, NB192_179.out, NB184_192.out, NB192_184.out, (by repeat (first | (with_reducible first | exact HB.out | apply below_alloc | apply pw_below_drewN | apply below_drew1 | refine below_set ?_ GE173.out | refine below_set ?_ GE179.out | refine below_set ?_ GE184.out | refine below_set ?_ GE192.out) | exact HB.out))⟩)
                                                · skip
                                                  have hcv51 := own_string (P := Tryd.prog) Tryd.underlying35 Tryd.underlying5 Tryd.underlying9 (Kd.own_of_R HO188.out)
                                                  refine value_ (w1 := ?_) (v := ?_) (by rfl) rfl ?_ ?_
                                                  rotate_left 2
                                                  · go_simp
                                                    constructor
                                                    · rfl
                                                    · rfl
                                                  clear hcv51
                                                  refine hK.out _ _ ⟨(blk_cell BK173.out 0).trans rfl, (blk_cell BK173.out 1).trans rfl⟩ (fun hHeld => ?_)
                                                  clear hK K
                                                  refine norm_ (a' := ?_) ?_ ?_
                                                  rotate_left
                                                  · show Act.put _ (some 38) _ = _
                                                    simp only [Act.put, List.setIfInBounds_toArray, List.set_cons_zero, List.set_cons_succ, i64_w, i32_w]
                                                    rfl
                                                  exact norm_ (by first | (simp only [putAll, Act.put, List.setIfInBounds_toArray, List.set_cons_zero, List.set_cons_succ]; done) | (simp only [putAll, Act.put, List.setIfInBounds_toArray, List.set_cons_zero, List.set_cons_succ]; rfl)) (hJ3_4_10 (v187, gb192) _ ⟨hHeld, (by (with_reducible repeat (first | apply Kd.R_alloc | apply Kd.R_drewN | apply Kd.R_drew)); exact HO188.out), (by (with_reducible repeat (first | refine blk_drewN ?_ _ | refine blk_drew ?_ | refine blk_alloc ?_ _)); exact BK173.out), (by (with_reducible repeat (first | refine blk_drewN ?_ _ | refine blk_drew ?_ | refine blk_alloc ?_ _)); exact BK179.out), (by (with_reducible repeat (first | refine blk_drewN ?_ _ | refine blk_drew ?_ | refine blk_alloc ?_ _)); exact BK184.out), (by (with_reducible repeat (first | refine blk_drewN ?_ _ | refine blk_drew ?_ | refine blk_alloc ?_ _)); exact BK192.out), GW192.out, GE192.out, NB173_192.out, NB192_173.out, NB179_192.out, NB192_179.out, NB184_192.out, NB192_184.out, (by repeat (first | (with_reducible first | exact HB.out | apply below_alloc | apply pw_below_drewN | apply below_drew1 | refine below_set ?_ GE173.out | refine below_set ?_ GE179.out | refine below_set ?_ GE184.out | refine below_set ?_ GE192.out) | exact HB.out))⟩)
                                            · skip
                                              rintro v187 w50 ⟨hS_, h0_, h1_, h2_, h3_, h4_⟩
                                              have n0_ : Aside0 (Kd.R (Kd.int .u8) 5 w50 w.heap.size (fun _ => True) v187 y186) := ⟨h0_⟩
                                              have n1_ : Aside0 (w50.heap[gb173]? = some (.cells #[.int .u32 a0_0, .int .u16 a0_1] 25 (0, 0))) := ⟨h1_⟩
                                              have n2_ : Aside0 (w50.heap[gb179]? = some (.cells #[.int .u32 t176, .int .u16 t177] 25 (0, 0))) := ⟨h2_⟩
                                              have n3_ : Aside0 (w50.heap[gb184]? = some (.cells #[.int .u32 t181, .int .u16 t182] 25 (0, 0))) := ⟨h3_⟩
                                              have n4_ : Aside0 (Below w.heap.size w w50) := ⟨h4_⟩
                                              clear BK173
                                              clear BK179
                                              clear BK184
                                              clear HB
                                              clear h0_ h1_ h2_ h3_ h4_
                                              have HO188 := n0_
                                              have BK173 := n1_
                                              have BK179 := n2_
                                              have BK184 := n3_
                                              have HB := n4_
                                              clear n0_ n1_ n2_ n3_ n4_
                                              have hHeld : w50.cell? ⟨gb173, 0, none⟩ = some (.int .u32 a0_0) ∧ w50.cell? ⟨gb173, 1, none⟩ = some (.int .u16 a0_1) := hS_
                                              refine norm_ (a' := ?_) ?_ ?_
                                              rotate_left
                                              · simp only [putAll, Act.put, List.setIfInBounds_toArray, List.set_cons_zero, List.set_cons_succ]
                                                rfl
                                              refine two_ (i := 1) (j := 10) (Ni := some 35) (Nj := some 10) #[true, true, true, true, true, false, false, false, false, false, false, false, false] #[true, false, true, true, true, false, false, false, false, false, true, false, false] rfl rfl rfl rfl (two_of HT_.out (by kernel_rfl)) (by decide) (by decide) (fun K hK => ?_) (fun K hK => ?_)
                                              · skip
                                                refine goes_ Tryd.func13 (by kernel_rfl) rfl #[.agg #[.int .u32 a0_0, .int .u16 a0_1]] (by rfl) rfl rfl (by (try simp only [List.map_toArray, List.map_cons, List.map_nil]); first | done | rfl | (simp only [List.length_drop, List.length_take]; rfl)) ?_
                                                with_reducible refine (addr_Addr_Put.calls a0_0 a0_1 t185 _ A9.out).mono ?_
                                                rintro e w51 ⟨rfl, hb⟩
                                                refine ⟨_, rfl, ?_⟩
                                                have n0_ := Aside0.mk (Kd.R_below (by (with_reducible repeat (first | apply Kd.R_alloc | apply Kd.R_drewN | apply Kd.R_drew)); exact HO188.out) hb)
                                                have n1_ := Aside0.mk (blk_below (g := gb173) (o := .cells #[.int .u32 a0_0, .int .u16 a0_1] 25 (0, 0)) (by (with_reducible repeat (first | refine blk_drewN ?_ _ | refine blk_drew ?_ | refine blk_alloc ?_ _)); exact BK173.out) hb)
                                                have n2_ := Aside0.mk (blk_below (g := gb179) (o := .cells #[.int .u32 t176, .int .u16 t177] 25 (0, 0)) (by (with_reducible repeat (first | refine blk_drewN ?_ _ | refine blk_drew ?_ | refine blk_alloc ?_ _)); exact BK179.out) hb)
                                                have n3_ := Aside0.mk (blk_below (g := gb184) (o := .cells #[.int .u32 t181, .int .u16 t182] 25 (0, 0)) (by (with_reducible repeat (first | refine blk_drewN ?_ _ | refine blk_drew ?_ | refine blk_alloc ?_ _)); exact BK184.out) hb)
                                                have n4_ := Aside0.mk (below_step (by repeat (first | (with_reducible first | exact HB.out | apply below_alloc | apply pw_below_drewN | apply below_drew1 | refine below_set ?_ GE173.out | refine below_set ?_ GE179.out | refine below_set ?_ GE184.out) | exact HB.out)) hb)
                                                clear HO188
                                                clear BK173
                                                clear BK179
                                                clear BK184
                                                clear HB
                                                have HO188 := n0_
                                                have BK173 := n1_
                                                have BK179 := n2_
                                                have BK184 := n3_
                                                have HB := n4_
                                                clear n0_ n1_ n2_ n3_ n4_
                                                (try clear hb)
                                                (try clear hb2)
                                                (try clear hk)
                                                (try clear hi)
                                                refine hK.out _ _ ⟨(blk_cell BK173.out 0).trans rfl, (blk_cell BK173.out 1).trans rfl⟩ (fun hHeld => ?_)
                                                clear hK K
                                                refine norm_ (a' := ?_) ?_ ?_
                                                rotate_left
                                                · show Act.put _ (some 35) _ = _
                                                  simp only [Act.put, List.setIfInBounds_toArray, List.set_cons_zero, List.set_cons_succ, i64_w, i32_w]
                                                  rfl
                                                refine pure_ (i := 5) (N := some 39) (v := ?_) (a' := ?_) #[true, true, true, true, true, true, false, false, false, false, false, false, false] rfl rfl (any_of HT_.out (by kernel_rfl)) (fun _ _ _ h => h) (Or.inl ⟨by first | rfl | (simp only [c19b0, c24b0, c26b0]; rfl), ?_⟩) ?_ ?_
                                                rotate_left
                                                · intro w'
                                                  go_simp
                                                  with_reducible rfl
                                                rotate_left
                                                · simp only [Act.put, List.setIfInBounds_toArray, List.set_cons_zero, List.set_cons_succ, i64_w, i32_w]
                                                  rfl
                                                exact norm_ (by first | (simp only [putAll, Act.put, List.setIfInBounds_toArray, List.set_cons_zero, List.set_cons_succ]; done) | (simp only [putAll, Act.put, List.setIfInBounds_toArray, List.set_cons_zero, List.set_cons_succ]; rfl)) (hJ1_3_4 (v187) _ ⟨hHeld, (by (with_reducible repeat (first | apply Kd.R_alloc | apply Kd.R_drewN | apply Kd.R_drew)); exact HO188.out), (by (with_reducible repeat (first | refine blk_drewN ?_ _ | refine blk_drew ?_ | refine blk_alloc ?_ _)); exact BK173.out), (by (with_reducible repeat (first | refine blk_drewN ?_ _ | refine blk_drew ?_ | refine blk_alloc ?_ _)); exact BK179.out), (by (with_reducible repeat (first | refine blk_drewN ?_ _ | refine blk_drew ?_ | refine blk_alloc ?_ _)); exact BK184.out), (by repeat (first | (with_reducible first | exact HB.out | apply below_alloc | apply pw_below_drewN | apply below_drew1 | refine below_set ?_ GE173.out | refine below_set ?_ GE179.out | refine below_set ?_ GE184.out) | exact HB.out))⟩)
                                              · skip
                                                refine box_step ?hg (N := 10) ?hd (cs := #[.int .u32 0, .int .u16 0]) (t := 25) ?hr ?_; (case hd => rfl); (case hg => rfl); (case hr => first | (go_simp; done) | (go_simp; rfl))
                                                intro gb192 hg w51 hbox hb
                                                have n0_ := Aside0.mk (Kd.R_below (by (with_reducible repeat (first | apply Kd.R_alloc | apply Kd.R_drewN | apply Kd.R_drew)); exact HO188.out) hb)
                                                have n1_ := Aside0.mk (blk_below (g := gb173) (o := .cells #[.int .u32 a0_0, .int .u16 a0_1] 25 (0, 0)) (by (with_reducible repeat (first | refine blk_drewN ?_ _ | refine blk_drew ?_ | refine blk_alloc ?_ _)); exact BK173.out) hb)
                                                have n2_ := Aside0.mk (blk_below (g := gb179) (o := .cells #[.int .u32 t176, .int .u16 t177] 25 (0, 0)) (by (with_reducible repeat (first | refine blk_drewN ?_ _ | refine blk_drew ?_ | refine blk_alloc ?_ _)); exact BK179.out) hb)
                                                have n3_ := Aside0.mk (blk_below (g := gb184) (o := .cells #[.int .u32 t181, .int .u16 t182] 25 (0, 0)) (by (with_reducible repeat (first | refine blk_drewN ?_ _ | refine blk_drew ?_ | refine blk_alloc ?_ _)); exact BK184.out) hb)
                                                have n4_ := Aside0.mk (below_step (by repeat (first | (with_reducible first | exact HB.out | apply below_alloc | apply pw_below_drewN | apply below_drew1 | refine below_set ?_ GE173.out | refine below_set ?_ GE179.out | refine below_set ?_ GE184.out) | exact HB.out)) hb)
                                                have n5_ := Aside0.mk (hbox)
                                                have n6_ := Aside0.mk ((by rw [hg]; exact (below_size (by repeat (first | (with_reducible first | exact HB.out | apply below_alloc | apply pw_below_drewN | apply below_drew1 | refine below_set ?_ GE173.out | refine below_set ?_ GE179.out | refine below_set ?_ GE184.out) | exact HB.out))) : w.heap.size ≤ gb192))
                                                have n7_ := Aside0.mk ((by rw [hg]; exact (below_size (by repeat (first | (with_reducible first | exact HB.out | apply below_alloc | apply pw_below_drewN | apply below_drew1 | refine below_set ?_ GE173.out | refine below_set ?_ GE179.out | refine below_set ?_ GE184.out) | exact HB.out))) : w.heap.size ≤ gb192))
                                                have n8_ := Aside0.mk ((by rw [hg]; exact Nat.ne_of_lt (blk_lt (g := gb173) (o := .cells #[.int .u32 a0_0, .int .u16 a0_1] 25 (0, 0)) (by (with_reducible repeat (first | refine blk_drewN ?_ _ | refine blk_drew ?_ | refine blk_alloc ?_ _)); exact BK173.out)) : gb173 ≠ gb192))
                                                have n9_ := Aside0.mk ((by rw [hg]; exact Nat.ne_of_gt (blk_lt (g := gb173) (o := .cells #[.int .u32 a0_0, .int .u16 a0_1] 25 (0, 0)) (by (with_reducible repeat (first | refine blk_drewN ?_ _ | refine blk_drew ?_ | refine blk_alloc ?_ _)); exact BK173.out)) : gb192 ≠ gb173))
                                                have n10_ := Aside0.mk ((by rw [hg]; exact Nat.ne_of_lt (blk_lt (g := gb179) (o := .cells #[.int .u32 t176, .int .u16 t177] 25 (0, 0)) (by (with_reducible repeat (first | refine blk_drewN ?_ _ | refine blk_drew ?_ | refine blk_alloc ?_ _)); exact BK179.out)) : gb179 ≠ gb192))
                                                have n11_ := Aside0.mk ((by rw [hg]; exact Nat.ne_of_gt (blk_lt (g := gb179) (o := .cells #[.int .u32 t176, .int .u16 t177] 25 (0, 0)) (by (with_reducible repeat (first | refine blk_drewN ?_ _ | refine blk_drew ?_ | refine blk_alloc ?_ _)); exact BK179.out)) : gb192 ≠ gb179))
                                                have n12_ := Aside0.mk ((by rw [hg]; exact Nat.ne_of_lt (blk_lt (g := gb184) (o := .cells #[.int .u32 t181, .int .u16 t182] 25 (0, 0)) (by (with_reducible repeat (first | refine blk_drewN ?_ _ | refine blk_drew ?_ | refine blk_alloc ?_ _)); exact BK184.out)) : gb184 ≠ gb192))
                                                have n13_ := Aside0.mk ((by rw [hg]; exact Nat.ne_of_gt (blk_lt (g := gb184) (o := .cells #[.int .u32 t181, .int .u16 t182] 25 (0, 0)) (by (with_reducible repeat (first | refine blk_drewN ?_ _ | refine blk_drew ?_ | refine blk_alloc ?_ _)); exact BK184.out)) : gb192 ≠ gb184))
                                                clear HO188
                                                clear BK173
                                                clear BK179
                                                clear BK184
                                                clear HB
                                                have HO188 := n0_
                                                have BK173 := n1_
                                                have BK179 := n2_
                                                have BK184 := n3_
                                                have HB := n4_
                                                have BK192 := n5_
                                                have GW192 := n6_
                                                have GE192 := n7_
                                                have NB173_192 := n8_
                                                have NB192_173 := n9_
                                                have NB179_192 := n10_
                                                have NB192_179 := n11_
                                                have NB184_192 := n12_
                                                have NB192_184 := n13_
                                                clear n0_ n1_ n2_ n3_ n4_ n5_ n6_ n7_ n8_ n9_ n10_ n11_ n12_ n13_
                                                clear hb hbox hg
                                                refine hK.out _ _ ⟨(blk_cell BK173.out 0).trans rfl, (blk_cell BK173.out 1).trans rfl⟩ (fun hHeld => ?_)
                                                clear hK K
                                                refine norm_ (a' := ?_) ?_ ?_
                                                rotate_left
                                                · show Act.put _ (some 10) _ = _
                                                  simp only [Act.put, List.setIfInBounds_toArray, List.set_cons_zero, List.set_cons_succ, i64_w, i32_w]
                                                  rfl
                                                exact norm_ (by first | (simp only [putAll, Act.put, List.setIfInBounds_toArray, List.set_cons_zero, List.set_cons_succ]; done) | (simp only [putAll, Act.put, List.setIfInBounds_toArray, List.set_cons_zero, List.set_cons_succ]; rfl)) (hJ3_4_10 (v187, gb192) _ ⟨hHeld, (by (with_reducible repeat (first | apply Kd.R_alloc | apply Kd.R_drewN | apply Kd.R_drew)); exact HO188.out), (by (with_reducible repeat (first | refine blk_drewN ?_ _ | refine blk_drew ?_ | refine blk_alloc ?_ _)); exact BK173.out), (by (with_reducible repeat (first | refine blk_drewN ?_ _ | refine blk_drew ?_ | refine blk_alloc ?_ _)); exact BK179.out), (by (with_reducible repeat (first | refine blk_drewN ?_ _ | refine blk_drew ?_ | refine blk_alloc ?_ _)); exact BK184.out), (by (with_reducible repeat (first | refine blk_drewN ?_ _ | refine blk_drew ?_ | refine blk_alloc ?_ _)); exact BK192.out), GW192.out, GE192.out, NB173_192.out, NB192_173.out, NB179_192.out, NB192_179.out, NB184_192.out, NB192_184.out, (by repeat (first | (with_reducible first | exact HB.out | apply below_alloc | apply pw_below_drewN | apply below_drew1 | refine below_set ?_ GE173.out | refine below_set ?_ GE179.out | refine below_set ?_ GE184.out | refine below_set ?_ GE192.out) | exact HB.out))⟩)
                                          · skip
                                            rintro gb192 w49 ⟨hS_, h0_, h1_, h2_, h3_, h4_, h5_, h6_, h7_, h8_, h9_, h10_, h11_, h12_⟩
                                            have n0_ : Aside0 (w49.heap[gb173]? = some (.cells #[.int .u32 a0_0, .int .u16 a0_1] 25 (0, 0))) := ⟨h0_⟩
                                            have n1_ : Aside0 (w49.heap[gb179]? = some (.cells #[.int .u32 t176, .int .u16 t177] 25 (0, 0))) := ⟨h1_⟩
                                            have n2_ : Aside0 (w49.heap[gb184]? = some (.cells #[.int .u32 t181, .int .u16 t182] 25 (0, 0))) := ⟨h2_⟩
                                            have n3_ : Aside0 (w49.heap[gb192]? = some (.cells #[.int .u32 0, .int .u16 0] 25 (0, 0))) := ⟨h3_⟩
                                            have n4_ : Aside0 (w.heap.size ≤ gb192) := ⟨h4_⟩
                                            have n5_ : Aside0 (w.heap.size ≤ gb192) := ⟨h5_⟩
                                            have n6_ : Aside0 (gb173 ≠ gb192) := ⟨h6_⟩
                                            have n7_ : Aside0 (gb192 ≠ gb173) := ⟨h7_⟩
                                            have n8_ : Aside0 (gb179 ≠ gb192) := ⟨h8_⟩
                                            have n9_ : Aside0 (gb192 ≠ gb179) := ⟨h9_⟩
                                            have n10_ : Aside0 (gb184 ≠ gb192) := ⟨h10_⟩
                                            have n11_ : Aside0 (gb192 ≠ gb184) := ⟨h11_⟩
                                            have n12_ : Aside0 (Below w.heap.size w w49) := ⟨h12_⟩
                                            clear BK173
                                            clear BK179
                                            clear BK184
                                            clear HB
                                            clear h0_ h1_ h2_ h3_ h4_ h5_ h6_ h7_ h8_ h9_ h10_ h11_ h12_
                                            have BK173 := n0_
                                            have BK179 := n1_
                                            have BK184 := n2_
                                            have BK192 := n3_
                                            have GW192 := n4_
                                            have GE192 := n5_
                                            have NB173_192 := n6_
                                            have NB192_173 := n7_
                                            have NB179_192 := n8_
                                            have NB192_179 := n9_
                                            have NB184_192 := n10_
                                            have NB192_184 := n11_
                                            have HB := n12_
                                            clear n0_ n1_ n2_ n3_ n4_ n5_ n6_ n7_ n8_ n9_ n10_ n11_ n12_
                                            have hHeld : w49.cell? ⟨gb173, 0, none⟩ = some (.int .u32 a0_0) ∧ w49.cell? ⟨gb173, 1, none⟩ = some (.int .u16 a0_1) := hS_
                                            refine norm_ (a' := ?_) ?_ ?_
                                            rotate_left
                                            · simp only [putAll, Act.put, List.setIfInBounds_toArray, List.set_cons_zero, List.set_cons_succ]
                                              rfl
                                            refine one_ (i := 3) (N := some 37) #[true, true, true, true, false, false, false, false, false, false, true, false, false] rfl rfl (one_of HT_.out (by kernel_rfl)) (by decide) (fun K hK => ?_)
                                            refine Kd.R_lit_step (Kd.int .u8) _ 5 ?hg (N := 37) ?hd (xs := ([a1] : List Int)) (inner := [.int .u8 a1]) (ok := fun _ => True) (okp := fun _ => True) ?hr ?hp (fun _ hk => hk) trivial (Below.refl _ _) (Nat.le_refl _) (by simp) ?_; (case hd => rfl); (case hg => rfl); (case hr => first | (go_simp; done) | (go_simp; rfl)); (case hp => exact (Reps.one (show Kd.M (Kd.int .u8) _ _ _ a1 [.int .u8 a1] from rfl) (Reps.none _ _)))
                                            intro v187 w50 ho51 hb hg_ hnew_
                                            clear hg_ hnew_
                                            (first | rw [← Ny186.out] at ho51 | (simp only [Int.reduceToNat] at ho51; rw [← Ny186.out] at ho51))
                                            have n0_ := Aside0.mk (Kd.R_lower ho51 (below_size (by repeat (first | (with_reducible first | exact HB.out | apply below_alloc | apply pw_below_drewN | apply below_drew1 | refine below_set ?_ GE173.out | refine below_set ?_ GE179.out | refine below_set ?_ GE184.out | refine below_set ?_ GE192.out) | exact HB.out))))
                                            have n1_ := Aside0.mk (blk_below (g := gb173) (o := .cells #[.int .u32 a0_0, .int .u16 a0_1] 25 (0, 0)) (by (with_reducible repeat (first | refine blk_drewN ?_ _ | refine blk_drew ?_ | refine blk_alloc ?_ _)); exact BK173.out) hb)
                                            have n2_ := Aside0.mk (blk_below (g := gb179) (o := .cells #[.int .u32 t176, .int .u16 t177] 25 (0, 0)) (by (with_reducible repeat (first | refine blk_drewN ?_ _ | refine blk_drew ?_ | refine blk_alloc ?_ _)); exact BK179.out) hb)
                                            have n3_ := Aside0.mk (blk_below (g := gb184) (o := .cells #[.int .u32 t181, .int .u16 t182] 25 (0, 0)) (by (with_reducible repeat (first | refine blk_drewN ?_ _ | refine blk_drew ?_ | refine blk_alloc ?_ _)); exact BK184.out) hb)
                                            have n4_ := Aside0.mk (blk_below (g := gb192) (o := .cells #[.int .u32 0, .int .u16 0] 25 (0, 0)) (by (with_reducible repeat (first | refine blk_drewN ?_ _ | refine blk_drew ?_ | refine blk_alloc ?_ _)); exact BK192.out) hb)
                                            have n5_ := Aside0.mk (below_step (by repeat (first | (with_reducible first | exact HB.out | apply below_alloc | apply pw_below_drewN | apply below_drew1 | refine below_set ?_ GE173.out | refine below_set ?_ GE179.out | refine below_set ?_ GE184.out | refine below_set ?_ GE192.out) | exact HB.out)) hb)
                                            clear BK173
                                            clear BK179
                                            clear BK184
                                            clear BK192
                                            clear HB
                                            have HO188 := n0_
                                            have BK173 := n1_
                                            have BK179 := n2_
                                            have BK184 := n3_
                                            have BK192 := n4_
                                            have HB := n5_
                                            clear n0_ n1_ n2_ n3_ n4_ n5_
                                            clear hb ho51
                                            refine hK.out _ _ ⟨(blk_cell BK173.out 0).trans rfl, (blk_cell BK173.out 1).trans rfl⟩ (fun hHeld => ?_)
                                            clear hK K
                                            refine norm_ (a' := ?_) ?_ ?_
                                            rotate_left
                                            · show Act.put _ (some 37) _ = _
                                              simp only [Act.put, List.setIfInBounds_toArray, List.set_cons_zero, List.set_cons_succ, i64_w, i32_w]
                                              rfl
                                            exact norm_ (by first | (simp only [putAll, Act.put, List.setIfInBounds_toArray, List.set_cons_zero, List.set_cons_succ]; done) | (simp only [putAll, Act.put, List.setIfInBounds_toArray, List.set_cons_zero, List.set_cons_succ]; rfl)) (hJ1_3_10 (v187, gb192) _ ⟨hHeld, (by (with_reducible repeat (first | apply Kd.R_alloc | apply Kd.R_drewN | apply Kd.R_drew)); exact HO188.out), (by (with_reducible repeat (first | refine blk_drewN ?_ _ | refine blk_drew ?_ | refine blk_alloc ?_ _)); exact BK173.out), (by (with_reducible repeat (first | refine blk_drewN ?_ _ | refine blk_drew ?_ | refine blk_alloc ?_ _)); exact BK179.out), (by (with_reducible repeat (first | refine blk_drewN ?_ _ | refine blk_drew ?_ | refine blk_alloc ?_ _)); exact BK184.out), (by (with_reducible repeat (first | refine blk_drewN ?_ _ | refine blk_drew ?_ | refine blk_alloc ?_ _)); exact BK192.out), GW192.out, GE192.out, NB173_192.out, NB192_173.out, NB179_192.out, NB192_179.out, NB184_192.out, NB192_184.out, (by repeat (first | (with_reducible first | exact HB.out | apply below_alloc | apply pw_below_drewN | apply below_drew1 | refine below_set ?_ GE173.out | refine below_set ?_ GE179.out | refine below_set ?_ GE184.out | refine below_set ?_ GE192.out) | exact HB.out))⟩)
                                        · skip
                                          rintro v187 w50 ⟨hS_, h0_, h1_, h2_, h3_, h4_⟩
                                          have n0_ : Aside0 (Kd.R (Kd.int .u8) 5 w50 w.heap.size (fun _ => True) v187 y186) := ⟨h0_⟩
                                          have n1_ : Aside0 (w50.heap[gb173]? = some (.cells #[.int .u32 a0_0, .int .u16 a0_1] 25 (0, 0))) := ⟨h1_⟩
                                          have n2_ : Aside0 (w50.heap[gb179]? = some (.cells #[.int .u32 t176, .int .u16 t177] 25 (0, 0))) := ⟨h2_⟩
                                          have n3_ : Aside0 (w50.heap[gb184]? = some (.cells #[.int .u32 t181, .int .u16 t182] 25 (0, 0))) := ⟨h3_⟩
                                          have n4_ : Aside0 (Below w.heap.size w w50) := ⟨h4_⟩
                                          clear BK173
                                          clear BK179
                                          clear BK184
                                          clear HB
                                          clear h0_ h1_ h2_ h3_ h4_
                                          have HO188 := n0_
                                          have BK173 := n1_
                                          have BK179 := n2_
                                          have BK184 := n3_
                                          have HB := n4_
                                          clear n0_ n1_ n2_ n3_ n4_
                                          have hHeld : w50.cell? ⟨gb173, 0, none⟩ = some (.int .u32 a0_0) ∧ w50.cell? ⟨gb173, 1, none⟩ = some (.int .u16 a0_1) := hS_
                                          refine norm_ (a' := ?_) ?_ ?_
                                          rotate_left
                                          · simp only [putAll, Act.put, List.setIfInBounds_toArray, List.set_cons_zero, List.set_cons_succ]
                                            rfl
                                          refine two_ (i := 4) (j := 10) (Ni := some 38) (Nj := some 10) #[true, true, true, true, true, false, false, false, false, false, false, false, false] #[true, true, true, true, false, false, false, false, false, false, true, false, false] rfl rfl rfl rfl (two_of HT_.out (by kernel_rfl)) (by decide) (by decide) (fun K hK => ?_) (fun K hK => ?_)
                                          · skip
                                            have hcv51 := own_string (P := Tryd.prog) Tryd.underlying35 Tryd.underlying5 Tryd.underlying9 (Kd.own_of_R HO188.out)
                                            refine value_ (w1 := ?_) (v := ?_) (by rfl) rfl ?_ ?_
                                            rotate_left 2
                                            · go_simp
                                              constructor
                                              · rfl
                                              · rfl
                                            clear hcv51
                                            refine hK.out _ _ ⟨(blk_cell BK173.out 0).trans rfl, (blk_cell BK173.out 1).trans rfl⟩ (fun hHeld => ?_)
                                            clear hK K
                                            refine norm_ (a' := ?_) ?_ ?_
                                            rotate_left
                                            · show Act.put _ (some 38) _ = _
                                              simp only [Act.put, List.setIfInBounds_toArray, List.set_cons_zero, List.set_cons_succ, i64_w, i32_w]
                                              rfl
                                            refine pure_ (i := 5) (N := some 39) (v := ?_) (a' := ?_) #[true, true, true, true, true, true, false, false, false, false, false, false, false] rfl rfl (any_of HT_.out (by kernel_rfl)) (fun _ _ _ h => h) (Or.inl ⟨by first | rfl | (simp only [c19b0, c24b0, c26b0]; rfl), ?_⟩) ?_ ?_
                                            rotate_left
                                            · intro w'
                                              go_simp
                                              with_reducible rfl
                                            rotate_left
                                            · simp only [Act.put, List.setIfInBounds_toArray, List.set_cons_zero, List.set_cons_succ, i64_w, i32_w]
                                              rfl
                                            exact norm_ (by first | (simp only [putAll, Act.put, List.setIfInBounds_toArray, List.set_cons_zero, List.set_cons_succ]; done) | (simp only [putAll, Act.put, List.setIfInBounds_toArray, List.set_cons_zero, List.set_cons_succ]; rfl)) (hJ1_3_4 (v187) _ ⟨hHeld, (by (with_reducible repeat (first | apply Kd.R_alloc | apply Kd.R_drewN | apply Kd.R_drew)); exact HO188.out), (by (with_reducible repeat (first | refine blk_drewN ?_ _ | refine blk_drew ?_ | refine blk_alloc ?_ _)); exact BK173.out), (by (with_reducible repeat (first | refine blk_drewN ?_ _ | refine blk_drew ?_ | refine blk_alloc ?_ _)); exact BK179.out), (by (with_reducible repeat (first | refine blk_drewN ?_ _ | refine blk_drew ?_ | refine blk_alloc ?_ _)); exact BK184.out), (by repeat (first | (with_reducible first | exact HB.out | apply below_alloc | apply pw_below_drewN | apply below_drew1 | refine below_set ?_ GE173.out | refine below_set ?_ GE179.out | refine below_set ?_ GE184.out) | exact HB.out))⟩)
                                          · skip
                                            refine box_step ?hg (N := 10) ?hd (cs := #[.int .u32 0, .int .u16 0]) (t := 25) ?hr ?_; (case hd => rfl); (case hg => rfl); (case hr => first | (go_simp; done) | (go_simp; rfl))
                                            intro gb192 hg w51 hbox hb
                                            have n0_ := Aside0.mk (Kd.R_below (by (with_reducible repeat (first | apply Kd.R_alloc | apply Kd.R_drewN | apply Kd.R_drew)); exact HO188.out) hb)
                                            have n1_ := Aside0.mk (blk_below (g := gb173) (o := .cells #[.int .u32 a0_0, .int .u16 a0_1] 25 (0, 0)) (by (with_reducible repeat (first | refine blk_drewN ?_ _ | refine blk_drew ?_ | refine blk_alloc ?_ _)); exact BK173.out) hb)
                                            have n2_ := Aside0.mk (blk_below (g := gb179) (o := .cells #[.int .u32 t176, .int .u16 t177] 25 (0, 0)) (by (with_reducible repeat (first | refine blk_drewN ?_ _ | refine blk_drew ?_ | refine blk_alloc ?_ _)); exact BK179.out) hb)
                                            have n3_ := Aside0.mk (blk_below (g := gb184) (o := .cells #[.int .u32 t181, .int .u16 t182] 25 (0, 0)) (by (with_reducible repeat (first | refine blk_drewN ?_ _ | refine blk_drew ?_ | refine blk_alloc ?_ _)); exact BK184.out) hb)
                                            have n4_ := Aside0.mk (below_step (by repeat (first | (with_reducible first | exact HB.out | apply below_alloc | apply pw_below_drewN | apply below_drew1 | refine below_set ?_ GE173.out | refine below_set ?_ GE179.out | refine below_set ?_ GE184.out) | exact HB.out)) hb)
                                            have n5_ := Aside0.mk (hbox)
                                            have n6_ := Aside0.mk ((by rw [hg]; exact (below_size (by repeat (first | (with_reducible first | exact HB.out | apply below_alloc | apply pw_below_drewN | apply below_drew1 | refine below_set ?_ GE173.out | refine below_set ?_ GE179.out | refine below_set ?_ GE184.out) | exact HB.out))) : w.heap.size ≤ gb192))
                                            have n7_ := Aside0.mk ((by rw [hg]; exact (below_size (by repeat (first | (with_reducible first | exact HB.out | apply below_alloc | apply pw_below_drewN | apply below_drew1 | refine below_set ?_ GE173.out | refine below_set ?_ GE179.out | refine below_set ?_ GE184.out) | exact HB.out))) : w.heap.size ≤ gb192))
                                            have n8_ := Aside0.mk ((by rw [hg]; exact Nat.ne_of_lt (blk_lt (g := gb173) (o := .cells #[.int .u32 a0_0, .int .u16 a0_1] 25 (0, 0)) (by (with_reducible repeat (first | refine blk_drewN ?_ _ | refine blk_drew ?_ | refine blk_alloc ?_ _)); exact BK173.out)) : gb173 ≠ gb192))
                                            have n9_ := Aside0.mk ((by rw [hg]; exact Nat.ne_of_gt (blk_lt (g := gb173) (o := .cells #[.int .u32 a0_0, .int .u16 a0_1] 25 (0, 0)) (by (with_reducible repeat (first | refine blk_drewN ?_ _ | refine blk_drew ?_ | refine blk_alloc ?_ _)); exact BK173.out)) : gb192 ≠ gb173))
                                            have n10_ := Aside0.mk ((by rw [hg]; exact Nat.ne_of_lt (blk_lt (g := gb179) (o := .cells #[.int .u32 t176, .int .u16 t177] 25 (0, 0)) (by (with_reducible repeat (first | refine blk_drewN ?_ _ | refine blk_drew ?_ | refine blk_alloc ?_ _)); exact BK179.out)) : gb179 ≠ gb192))
                                            have n11_ := Aside0.mk ((by rw [hg]; exact Nat.ne_of_gt (blk_lt (g := gb179) (o := .cells #[.int .u32 t176, .int .u16 t177] 25 (0, 0)) (by (with_reducible repeat (first | refine blk_drewN ?_ _ | refine blk_drew ?_ | refine blk_alloc ?_ _)); exact BK179.out)) : gb192 ≠ gb179))
                                            have n12_ := Aside0.mk ((by rw [hg]; exact Nat.ne_of_lt (blk_lt (g := gb184) (o := .cells #[.int .u32 t181, .int .u16 t182] 25 (0, 0)) (by (with_reducible repeat (first | refine blk_drewN ?_ _ | refine blk_drew ?_ | refine blk_alloc ?_ _)); exact BK184.out)) : gb184 ≠ gb192))
                                            have n13_ := Aside0.mk ((by rw [hg]; exact Nat.ne_of_gt (blk_lt (g := gb184) (o := .cells #[.int .u32 t181, .int .u16 t182] 25 (0, 0)) (by (with_reducible repeat (first | refine blk_drewN ?_ _ | refine blk_drew ?_ | refine blk_alloc ?_ _)); exact BK184.out)) : gb192 ≠ gb184))
                                            clear HO188
                                            clear BK173
                                            clear BK179
                                            clear BK184
                                            clear HB
                                            have HO188 := n0_
                                            have BK173 := n1_
                                            have BK179 := n2_
                                            have BK184 := n3_
                                            have HB := n4_
                                            have BK192 := n5_
                                            have GW192 := n6_
                                            have GE192 := n7_
                                            have NB173_192 := n8_
                                            have NB192_173 := n9_
                                            have NB179_192 := n10_
                                            have NB192_179 := n11_
                                            have NB184_192 := n12_
                                            have NB192_184 := n13_
                                            clear n0_ n1_ n2_ n3_ n4_ n5_ n6_ n7_ n8_ n9_ n10_ n11_ n12_ n13_
                                            clear hb hbox hg
                                            refine hK.out _ _ ⟨(blk_cell BK173.out 0).trans rfl, (blk_cell BK173.out 1).trans rfl⟩ (fun hHeld => ?_)
                                            clear hK K
                                            refine norm_ (a' := ?_) ?_ ?_
                                            rotate_left
                                            · show Act.put _ (some 10) _ = _
                                              simp only [Act.put, List.setIfInBounds_toArray, List.set_cons_zero, List.set_cons_succ, i64_w, i32_w]
                                              rfl
                                            exact norm_ (by first | (simp only [putAll, Act.put, List.setIfInBounds_toArray, List.set_cons_zero, List.set_cons_succ]; done) | (simp only [putAll, Act.put, List.setIfInBounds_toArray, List.set_cons_zero, List.set_cons_succ]; rfl)) (hJ1_3_10 (v187, gb192) _ ⟨hHeld, (by (with_reducible repeat (first | apply Kd.R_alloc | apply Kd.R_drewN | apply Kd.R_drew)); exact HO188.out), (by (with_reducible repeat (first | refine blk_drewN ?_ _ | refine blk_drew ?_ | refine blk_alloc ?_ _)); exact BK173.out), (by (with_reducible repeat (first | refine blk_drewN ?_ _ | refine blk_drew ?_ | refine blk_alloc ?_ _)); exact BK179.out), (by (with_reducible repeat (first | refine blk_drewN ?_ _ | refine blk_drew ?_ | refine blk_alloc ?_ _)); exact BK184.out), (by (with_reducible repeat (first | refine blk_drewN ?_ _ | refine blk_drew ?_ | refine blk_alloc ?_ _)); exact BK192.out), GW192.out, GE192.out, NB173_192.out, NB192_173.out, NB179_192.out, NB192_179.out, NB184_192.out, NB192_184.out, (by repeat (first | (with_reducible first | exact HB.out | apply below_alloc | apply pw_below_drewN | apply below_drew1 | refine below_set ?_ GE173.out | refine below_set ?_ GE179.out | refine below_set ?_ GE184.out | refine below_set ?_ GE192.out) | exact HB.out))⟩)
                                      · skip
                                        rintro ⟨v187, gb192⟩ w51 ⟨hS_, h0_, h1_, h2_, h3_, h4_, h5_, h6_, h7_, h8_, h9_, h10_, h11_, h12_, h13_⟩
                                        have n0_ : Aside0 (Kd.R (Kd.int .u8) 5 w51 w.heap.size (fun _ => True) v187 y186) := ⟨h0_⟩
                                        have n1_ : Aside0 (w51.heap[gb173]? = some (.cells #[.int .u32 a0_0, .int .u16 a0_1] 25 (0, 0))) := ⟨h1_⟩
                                        have n2_ : Aside0 (w51.heap[gb179]? = some (.cells #[.int .u32 t176, .int .u16 t177] 25 (0, 0))) := ⟨h2_⟩
                                        have n3_ : Aside0 (w51.heap[gb184]? = some (.cells #[.int .u32 t181, .int .u16 t182] 25 (0, 0))) := ⟨h3_⟩
                                        have n4_ : Aside0 (w51.heap[gb192]? = some (.cells #[.int .u32 0, .int .u16 0] 25 (0, 0))) := ⟨h4_⟩
                                        have n5_ : Aside0 (w.heap.size ≤ gb192) := ⟨h5_⟩
                                        have n6_ : Aside0 (w.heap.size ≤ gb192) := ⟨h6_⟩
                                        have n7_ : Aside0 (gb173 ≠ gb192) := ⟨h7_⟩
                                        have n8_ : Aside0 (gb192 ≠ gb173) := ⟨h8_⟩
                                        have n9_ : Aside0 (gb179 ≠ gb192) := ⟨h9_⟩
                                        have n10_ : Aside0 (gb192 ≠ gb179) := ⟨h10_⟩
                                        have n11_ : Aside0 (gb184 ≠ gb192) := ⟨h11_⟩
                                        have n12_ : Aside0 (gb192 ≠ gb184) := ⟨h12_⟩
                                        have n13_ : Aside0 (Below w.heap.size w w51) := ⟨h13_⟩
                                        clear BK173
                                        clear BK179
                                        clear BK184
                                        clear HB
                                        clear h0_ h1_ h2_ h3_ h4_ h5_ h6_ h7_ h8_ h9_ h10_ h11_ h12_ h13_
                                        have HO188 := n0_
                                        have BK173 := n1_
                                        have BK179 := n2_
                                        have BK184 := n3_
                                        have BK192 := n4_
                                        have GW192 := n5_
                                        have GE192 := n6_
                                        have NB173_192 := n7_
                                        have NB192_173 := n8_
                                        have NB179_192 := n9_
                                        have NB192_179 := n10_
                                        have NB184_192 := n11_
                                        have NB192_184 := n12_
                                        have HB := n13_
                                        clear n0_ n1_ n2_ n3_ n4_ n5_ n6_ n7_ n8_ n9_ n10_ n11_ n12_ n13_
                                        have hHeld : w51.cell? ⟨gb173, 0, none⟩ = some (.int .u32 a0_0) ∧ w51.cell? ⟨gb173, 1, none⟩ = some (.int .u16 a0_1) := hS_
                                        refine norm_ (a' := ?_) ?_ ?_
                                        rotate_left
                                        · simp only [putAll, Act.put, List.setIfInBounds_toArray, List.set_cons_zero, List.set_cons_succ]
                                          rfl
                                        refine one_ (i := 1) (N := some 35) #[true, true, true, true, true, false, false, false, false, false, true, false, false] rfl rfl (one_of HT_.out (by kernel_rfl)) (by decide) (fun K hK => ?_)
                                        refine goes_ Tryd.func13 (by kernel_rfl) rfl #[.agg #[.int .u32 a0_0, .int .u16 a0_1]] (by rfl) rfl rfl (by (try simp only [List.map_toArray, List.map_cons, List.map_nil]); first | done | rfl | (simp only [List.length_drop, List.length_take]; rfl)) ?_
                                        with_reducible refine (addr_Addr_Put.calls a0_0 a0_1 t185 _ A9.out).mono ?_
                                        rintro e w52 ⟨rfl, hb⟩
                                        refine ⟨_, rfl, ?_⟩
                                        have n0_ := Aside0.mk (Kd.R_below (by (with_reducible repeat (first | apply Kd.R_alloc | apply Kd.R_drewN | apply Kd.R_drew)); exact HO188.out) hb)
                                        have n1_ := Aside0.mk (blk_below (g := gb173) (o := .cells #[.int .u32 a0_0, .int .u16 a0_1] 25 (0, 0)) (by (with_reducible repeat (first | refine blk_drewN ?_ _ | refine blk_drew ?_ | refine blk_alloc ?_ _)); exact BK173.out) hb)
                                        have n2_ := Aside0.mk (blk_below (g := gb179) (o := .cells #[.int .u32 t176, .int .u16 t177] 25 (0, 0)) (by (with_reducible repeat (first | refine blk_drewN ?_ _ | refine blk_drew ?_ | refine blk_alloc ?_ _)); exact BK179.out) hb)
                                        have n3_ := Aside0.mk (blk_below (g := gb184) (o := .cells #[.int .u32 t181, .int .u16 t182] 25 (0, 0)) (by (with_reducible repeat (first | refine blk_drewN ?_ _ | refine blk_drew ?_ | refine blk_alloc ?_ _)); exact BK184.out) hb)
                                        have n4_ := Aside0.mk (blk_below (g := gb192) (o := .cells #[.int .u32 0, .int .u16 0] 25 (0, 0)) (by (with_reducible repeat (first | refine blk_drewN ?_ _ | refine blk_drew ?_ | refine blk_alloc ?_ _)); exact BK192.out) hb)
                                        have n5_ := Aside0.mk (below_step (by repeat (first | (with_reducible first | exact HB.out | apply below_alloc | apply pw_below_drewN | apply below_drew1 | refine below_set ?_ GE173.out | refine below_set ?_ GE179.out | refine below_set ?_ GE184.out | refine below_set ?_ GE192.out) | exact HB.out)) hb)
                                        clear HO188
                                        clear BK173
                                        clear BK179
                                        clear BK184
                                        clear BK192
                                        clear HB
                                        have HO188 := n0_
                                        have BK173 := n1_
                                        have BK179 := n2_
                                        have BK184 := n3_
                                        have BK192 := n4_
                                        have HB := n5_
                                        clear n0_ n1_ n2_ n3_ n4_ n5_
                                        (try clear hb)
                                        (try clear hb2)
                                        (try clear hk)
                                        (try clear hi)
                                        refine hK.out _ _ ⟨(blk_cell BK173.out 0).trans rfl, (blk_cell BK173.out 1).trans rfl⟩ (fun hHeld => ?_)
                                        clear hK K
                                        refine norm_ (a' := ?_) ?_ ?_
                                        rotate_left
                                        · show Act.put _ (some 35) _ = _
                                          simp only [Act.put, List.setIfInBounds_toArray, List.set_cons_zero, List.set_cons_succ, i64_w, i32_w]
                                          rfl
                                        refine pure_ (i := 5) (N := some 39) (v := ?_) (a' := ?_) #[true, true, true, true, true, true, false, false, false, false, true, false, false] rfl rfl (any_of HT_.out (by kernel_rfl)) (fun _ _ _ h => h) (Or.inl ⟨by first | rfl | (simp only [c19b0, c24b0, c26b0]; rfl), ?_⟩) ?_ ?_
                                        rotate_left
                                        · intro w'
                                          go_simp
                                          with_reducible rfl
                                        rotate_left
                                        · simp only [Act.put, List.setIfInBounds_toArray, List.set_cons_zero, List.set_cons_succ, i64_w, i32_w]
                                          rfl
                                        exact norm_ (by first | (simp only [putAll, Act.put, List.setIfInBounds_toArray, List.set_cons_zero, List.set_cons_succ]; done) | (simp only [putAll, Act.put, List.setIfInBounds_toArray, List.set_cons_zero, List.set_cons_succ]; rfl)) (hJ1_3_4_10 (v187, gb192) _ ⟨hHeld, (by (with_reducible repeat (first | apply Kd.R_alloc | apply Kd.R_drewN | apply Kd.R_drew)); exact HO188.out), (by (with_reducible repeat (first | refine blk_drewN ?_ _ | refine blk_drew ?_ | refine blk_alloc ?_ _)); exact BK173.out), (by (with_reducible repeat (first | refine blk_drewN ?_ _ | refine blk_drew ?_ | refine blk_alloc ?_ _)); exact BK179.out), (by (with_reducible repeat (first | refine blk_drewN ?_ _ | refine blk_drew ?_ | refine blk_alloc ?_ _)); exact BK184.out), (by (with_reducible repeat (first | refine blk_drewN ?_ _ | refine blk_drew ?_ | refine blk_alloc ?_ _)); exact BK192.out), GW192.out, GE192.out, NB173_192.out, NB192_173.out, NB179_192.out, NB192_179.out, NB184_192.out, NB192_184.out, (by repeat (first | (with_reducible first | exact HB.out | apply below_alloc | apply pw_below_drewN | apply below_drew1 | refine below_set ?_ GE173.out | refine below_set ?_ GE179.out | refine below_set ?_ GE184.out | refine below_set ?_ GE192.out) | exact HB.out))⟩)
                                    · skip
                                      rintro ⟨v187, gb192⟩ w51 ⟨hS_, h0_, h1_, h2_, h3_, h4_, h5_, h6_, h7_, h8_, h9_, h10_, h11_, h12_, h13_⟩
                                      have n0_ : Aside0 (Kd.R (Kd.int .u8) 5 w51 w.heap.size (fun _ => True) v187 y186) := ⟨h0_⟩
                                      have n1_ : Aside0 (w51.heap[gb173]? = some (.cells #[.int .u32 a0_0, .int .u16 a0_1] 25 (0, 0))) := ⟨h1_⟩
                                      have n2_ : Aside0 (w51.heap[gb179]? = some (.cells #[.int .u32 t176, .int .u16 t177] 25 (0, 0))) := ⟨h2_⟩
                                      have n3_ : Aside0 (w51.heap[gb184]? = some (.cells #[.int .u32 t181, .int .u16 t182] 25 (0, 0))) := ⟨h3_⟩
                                      have n4_ : Aside0 (w51.heap[gb192]? = some (.cells #[.int .u32 0, .int .u16 0] 25 (0, 0))) := ⟨h4_⟩
                                      have n5_ : Aside0 (w.heap.size ≤ gb192) := ⟨h5_⟩
                                      have n6_ : Aside0 (w.heap.size ≤ gb192) := ⟨h6_⟩
                                      have n7_ : Aside0 (gb173 ≠ gb192) := ⟨h7_⟩
                                      have n8_ : Aside0 (gb192 ≠ gb173) := ⟨h8_⟩
                                      have n9_ : Aside0 (gb179 ≠ gb192) := ⟨h9_⟩
                                      have n10_ : Aside0 (gb192 ≠ gb179) := ⟨h10_⟩
                                      have n11_ : Aside0 (gb184 ≠ gb192) := ⟨h11_⟩
                                      have n12_ : Aside0 (gb192 ≠ gb184) := ⟨h12_⟩
                                      have n13_ : Aside0 (Below w.heap.size w w51) := ⟨h13_⟩
                                      clear BK173
                                      clear BK179
                                      clear BK184
                                      clear HB
                                      clear h0_ h1_ h2_ h3_ h4_ h5_ h6_ h7_ h8_ h9_ h10_ h11_ h12_ h13_
                                      have HO188 := n0_
                                      have BK173 := n1_
                                      have BK179 := n2_
                                      have BK184 := n3_
                                      have BK192 := n4_
                                      have GW192 := n5_
                                      have GE192 := n6_
                                      have NB173_192 := n7_
                                      have NB192_173 := n8_
                                      have NB179_192 := n9_
                                      have NB192_179 := n10_
                                      have NB184_192 := n11_
                                      have NB192_184 := n12_
                                      have HB := n13_
                                      clear n0_ n1_ n2_ n3_ n4_ n5_ n6_ n7_ n8_ n9_ n10_ n11_ n12_ n13_
                                      have hHeld : w51.cell? ⟨gb173, 0, none⟩ = some (.int .u32 a0_0) ∧ w51.cell? ⟨gb173, 1, none⟩ = some (.int .u16 a0_1) := hS_
                                      refine norm_ (a' := ?_) ?_ ?_
                                      rotate_left
                                      · simp only [putAll, Act.put, List.setIfInBounds_toArray, List.set_cons_zero, List.set_cons_succ]
                                        rfl
                                      refine one_ (i := 4) (N := some 38) #[true, true, true, true, true, false, false, false, false, false, true, false, false] rfl rfl (one_of HT_.out (by kernel_rfl)) (by decide) (fun K hK => ?_)
                                      have hcv52 := own_string (P := Tryd.prog) Tryd.underlying35 Tryd.underlying5 Tryd.underlying9 (Kd.own_of_R HO188.out)
                                      refine value_ (w1 := ?_) (v := ?_) (by rfl) rfl ?_ ?_
                                      rotate_left 2
                                      · go_simp
                                        constructor
                                        · rfl
                                        · rfl
                                      clear hcv52
                                      refine hK.out _ _ ⟨(blk_cell BK173.out 0).trans rfl, (blk_cell BK173.out 1).trans rfl⟩ (fun hHeld => ?_)
                                      clear hK K
                                      refine norm_ (a' := ?_) ?_ ?_
                                      rotate_left
                                      · show Act.put _ (some 38) _ = _
                                        simp only [Act.put, List.setIfInBounds_toArray, List.set_cons_zero, List.set_cons_succ, i64_w, i32_w]
                                        rfl
                                      refine pure_ (i := 5) (N := some 39) (v := ?_) (a' := ?_) #[true, true, true, true, true, true, false, false, false, false, true, false, false] rfl rfl (any_of HT_.out (by kernel_rfl)) (fun _ _ _ h => h) (Or.inl ⟨by first | rfl | (simp only [c19b0, c24b0, c26b0]; rfl), ?_⟩) ?_ ?_
                                      rotate_left
                                      · intro w'
                                        go_simp
                                        with_reducible rfl
                                      rotate_left
                                      · simp only [Act.put, List.setIfInBounds_toArray, List.set_cons_zero, List.set_cons_succ, i64_w, i32_w]
                                        rfl
                                      exact norm_ (by first | (simp only [putAll, Act.put, List.setIfInBounds_toArray, List.set_cons_zero, List.set_cons_succ]; done) | (simp only [putAll, Act.put, List.setIfInBounds_toArray, List.set_cons_zero, List.set_cons_succ]; rfl)) (hJ1_3_4_10 (v187, gb192) _ ⟨hHeld, (by (with_reducible repeat (first | apply Kd.R_alloc | apply Kd.R_drewN | apply Kd.R_drew)); exact HO188.out), (by (with_reducible repeat (first | refine blk_drewN ?_ _ | refine blk_drew ?_ | refine blk_alloc ?_ _)); exact BK173.out), (by (with_reducible repeat (first | refine blk_drewN ?_ _ | refine blk_drew ?_ | refine blk_alloc ?_ _)); exact BK179.out), (by (with_reducible repeat (first | refine blk_drewN ?_ _ | refine blk_drew ?_ | refine blk_alloc ?_ _)); exact BK184.out), (by (with_reducible repeat (first | refine blk_drewN ?_ _ | refine blk_drew ?_ | refine blk_alloc ?_ _)); exact BK192.out), GW192.out, GE192.out, NB173_192.out, NB192_173.out, NB179_192.out, NB192_179.out, NB184_192.out, NB192_184.out, (by repeat (first | (with_reducible first | exact HB.out | apply below_alloc | apply pw_below_drewN | apply below_drew1 | refine below_set ?_ GE173.out | refine below_set ?_ GE179.out | refine below_set ?_ GE184.out | refine below_set ?_ GE192.out) | exact HB.out))⟩)
                                  · skip
                                    rintro v187 w51 ⟨hS_, h0_, h1_, h2_, h3_, h4_⟩
                                    have n0_ : Aside0 (Kd.R (Kd.int .u8) 5 w51 w.heap.size (fun _ => True) v187 y186) := ⟨h0_⟩
                                    have n1_ : Aside0 (w51.heap[gb173]? = some (.cells #[.int .u32 a0_0, .int .u16 a0_1] 25 (0, 0))) := ⟨h1_⟩
                                    have n2_ : Aside0 (w51.heap[gb179]? = some (.cells #[.int .u32 t176, .int .u16 t177] 25 (0, 0))) := ⟨h2_⟩
                                    have n3_ : Aside0 (w51.heap[gb184]? = some (.cells #[.int .u32 t181, .int .u16 t182] 25 (0, 0))) := ⟨h3_⟩
                                    have n4_ : Aside0 (Below w.heap.size w w51) := ⟨h4_⟩
                                    clear BK173
                                    clear BK179
                                    clear BK184
                                    clear HB
                                    clear h0_ h1_ h2_ h3_ h4_
                                    have HO188 := n0_
                                    have BK173 := n1_
                                    have BK179 := n2_
                                    have BK184 := n3_
                                    have HB := n4_
                                    clear n0_ n1_ n2_ n3_ n4_
                                    have hHeld : w51.cell? ⟨gb173, 0, none⟩ = some (.int .u32 a0_0) ∧ w51.cell? ⟨gb173, 1, none⟩ = some (.int .u16 a0_1) := hS_
                                    refine norm_ (a' := ?_) ?_ ?_
                                    rotate_left
                                    · simp only [putAll, Act.put, List.setIfInBounds_toArray, List.set_cons_zero, List.set_cons_succ]
                                      rfl
                                    refine two_ (i := 6) (j := 10) (Ni := some 40) (Nj := some 10) #[true, true, true, true, true, true, true, false, false, false, false, false, false] #[true, true, true, true, true, true, false, false, false, false, true, false, false] rfl rfl rfl rfl (two_of HT_.out (by kernel_rfl)) (by decide) (by decide) (fun K hK => ?_) (fun K hK => ?_)
                                    · skip
                                      refine goes_ Tryd.func24 (by kernel_rfl) rfl #[.string (t185 ++ (strOfNums y186))] (by rfl) rfl rfl (by (try simp only [List.map_toArray, List.map_cons, List.map_nil]); first | done | rfl | (simp only [List.length_drop, List.length_take]; rfl)) ?_
                                      with_reducible refine (addr_Get.calls k (t185 ++ (strOfNums y186)) t189 t190 false _ A11.out).mono ?_
                                      rintro e w52 ⟨rfl, hb⟩
                                      refine ⟨_, rfl, ?_⟩
                                      have n0_ := Aside0.mk (Kd.R_below (by (with_reducible repeat (first | apply Kd.R_alloc | apply Kd.R_drewN | apply Kd.R_drew)); exact HO188.out) hb)
                                      have n1_ := Aside0.mk (blk_below (g := gb173) (o := .cells #[.int .u32 a0_0, .int .u16 a0_1] 25 (0, 0)) (by (with_reducible repeat (first | refine blk_drewN ?_ _ | refine blk_drew ?_ | refine blk_alloc ?_ _)); exact BK173.out) hb)
                                      have n2_ := Aside0.mk (blk_below (g := gb179) (o := .cells #[.int .u32 t176, .int .u16 t177] 25 (0, 0)) (by (with_reducible repeat (first | refine blk_drewN ?_ _ | refine blk_drew ?_ | refine blk_alloc ?_ _)); exact BK179.out) hb)
                                      have n3_ := Aside0.mk (blk_below (g := gb184) (o := .cells #[.int .u32 t181, .int .u16 t182] 25 (0, 0)) (by (with_reducible repeat (first | refine blk_drewN ?_ _ | refine blk_drew ?_ | refine blk_alloc ?_ _)); exact BK184.out) hb)
                                      have n4_ := Aside0.mk (below_step (by repeat (first | (with_reducible first | exact HB.out | apply below_alloc | apply pw_below_drewN | apply below_drew1 | refine below_set ?_ GE173.out | refine below_set ?_ GE179.out | refine below_set ?_ GE184.out) | exact HB.out)) hb)
                                      clear HO188
                                      clear BK173
                                      clear BK179
                                      clear BK184
                                      clear HB
                                      have HO188 := n0_
                                      have BK173 := n1_
                                      have BK179 := n2_
                                      have BK184 := n3_
                                      have HB := n4_
                                      clear n0_ n1_ n2_ n3_ n4_
                                      (try clear hb)
                                      (try clear hb2)
                                      (try clear hk)
                                      (try clear hi)
                                      refine hK.out _ _ ⟨(blk_cell BK173.out 0).trans rfl, (blk_cell BK173.out 1).trans rfl⟩ (fun hHeld => ?_)
                                      clear hK K
                                      refine norm_ (a' := ?_) ?_ ?_
                                      rotate_left
                                      · show Act.put _ (some 40) _ = _
                                        simp only [Act.put, List.setIfInBounds_toArray, List.set_cons_zero, List.set_cons_succ, i64_w, i32_w]
                                        rfl
                                      refine pure_ (i := 7) (N := some 33) (v := ?_) (a' := ?_) #[true, true, true, true, true, true, true, true, false, false, false, false, false] rfl rfl (any_of HT_.out (by kernel_rfl)) (fun _ _ _ h => h) (Or.inl ⟨by first | rfl | (simp only [c19b0, c24b0, c26b0]; rfl), ?_⟩) ?_ ?_
                                      rotate_left
                                      · intro w'
                                        go_simp
                                        with_reducible rfl
                                      rotate_left
                                      · simp only [Act.put, List.setIfInBounds_toArray, List.set_cons_zero, List.set_cons_succ, i64_w, i32_w]
                                        rfl
                                      refine pure_ (i := 8) (N := some 41) (v := ?_) (a' := ?_) #[true, true, true, true, true, true, true, true, true, false, false, false, false] rfl rfl (any_of HT_.out (by kernel_rfl)) (fun _ _ _ h => h) (Or.inl ⟨by first | rfl | (simp only [c19b0, c24b0, c26b0]; rfl), ?_⟩) ?_ ?_
                                      rotate_left
                                      · intro w'
                                        go_simp
                                        with_reducible rfl
                                      rotate_left
                                      · simp only [Act.put, List.setIfInBounds_toArray, List.set_cons_zero, List.set_cons_succ, i64_w, i32_w]
                                        rfl
                                      refine pure_ (i := 9) (N := some 42) (v := ?_) (a' := ?_) #[true, true, true, true, true, true, true, true, true, true, false, false, false] rfl rfl (any_of HT_.out (by kernel_rfl)) (fun _ _ _ h => h) (Or.inl ⟨by first | rfl | (simp only [c19b0, c24b0, c26b0]; rfl), ?_⟩) ?_ ?_
                                      rotate_left
                                      · intro w'
                                        go_simp
                                        with_reducible rfl
                                      rotate_left
                                      · simp only [Act.put, List.setIfInBounds_toArray, List.set_cons_zero, List.set_cons_succ, i64_w, i32_w]
                                        rfl
                                      exact norm_ (by first | (simp only [putAll, Act.put, List.setIfInBounds_toArray, List.set_cons_zero, List.set_cons_succ]; done) | (simp only [putAll, Act.put, List.setIfInBounds_toArray, List.set_cons_zero, List.set_cons_succ]; rfl)) (hJ1_3_4_6 (v187) _ ⟨hHeld, (by (with_reducible repeat (first | apply Kd.R_alloc | apply Kd.R_drewN | apply Kd.R_drew)); exact HO188.out), (by (with_reducible repeat (first | refine blk_drewN ?_ _ | refine blk_drew ?_ | refine blk_alloc ?_ _)); exact BK173.out), (by (with_reducible repeat (first | refine blk_drewN ?_ _ | refine blk_drew ?_ | refine blk_alloc ?_ _)); exact BK179.out), (by (with_reducible repeat (first | refine blk_drewN ?_ _ | refine blk_drew ?_ | refine blk_alloc ?_ _)); exact BK184.out), (by repeat (first | (with_reducible first | exact HB.out | apply below_alloc | apply pw_below_drewN | apply below_drew1 | refine below_set ?_ GE173.out | refine below_set ?_ GE179.out | refine below_set ?_ GE184.out) | exact HB.out))⟩)
                                    · skip
                                      refine box_step ?hg (N := 10) ?hd (cs := #[.int .u32 0, .int .u16 0]) (t := 25) ?hr ?_; (case hd => rfl); (case hg => rfl); (case hr => first | (go_simp; done) | (go_simp; rfl))
                                      intro gb192 hg w52 hbox hb
                                      have n0_ := Aside0.mk (Kd.R_below (by (with_reducible repeat (first | apply Kd.R_alloc | apply Kd.R_drewN | apply Kd.R_drew)); exact HO188.out) hb)
                                      have n1_ := Aside0.mk (blk_below (g := gb173) (o := .cells #[.int .u32 a0_0, .int .u16 a0_1] 25 (0, 0)) (by (with_reducible repeat (first | refine blk_drewN ?_ _ | refine blk_drew ?_ | refine blk_alloc ?_ _)); exact BK173.out) hb)
                                      have n2_ := Aside0.mk (blk_below (g := gb179) (o := .cells #[.int .u32 t176, .int .u16 t177] 25 (0, 0)) (by (with_reducible repeat (first | refine blk_drewN ?_ _ | refine blk_drew ?_ | refine blk_alloc ?_ _)); exact BK179.out) hb)
                                      have n3_ := Aside0.mk (blk_below (g := gb184) (o := .cells #[.int .u32 t181, .int .u16 t182] 25 (0, 0)) (by (with_reducible repeat (first | refine blk_drewN ?_ _ | refine blk_drew ?_ | refine blk_alloc ?_ _)); exact BK184.out) hb)
                                      have n4_ := Aside0.mk (below_step (by repeat (first | (with_reducible first | exact HB.out | apply below_alloc | apply pw_below_drewN | apply below_drew1 | refine below_set ?_ GE173.out | refine below_set ?_ GE179.out | refine below_set ?_ GE184.out) | exact HB.out)) hb)
                                      have n5_ := Aside0.mk (hbox)
                                      have n6_ := Aside0.mk ((by rw [hg]; exact (below_size (by repeat (first | (with_reducible first | exact HB.out | apply below_alloc | apply pw_below_drewN | apply below_drew1 | refine below_set ?_ GE173.out | refine below_set ?_ GE179.out | refine below_set ?_ GE184.out) | exact HB.out))) : w.heap.size ≤ gb192))
                                      have n7_ := Aside0.mk ((by rw [hg]; exact (below_size (by repeat (first | (with_reducible first | exact HB.out | apply below_alloc | apply pw_below_drewN | apply below_drew1 | refine below_set ?_ GE173.out | refine below_set ?_ GE179.out | refine below_set ?_ GE184.out) | exact HB.out))) : w.heap.size ≤ gb192))
                                      have n8_ := Aside0.mk ((by rw [hg]; exact Nat.ne_of_lt (blk_lt (g := gb173) (o := .cells #[.int .u32 a0_0, .int .u16 a0_1] 25 (0, 0)) (by (with_reducible repeat (first | refine blk_drewN ?_ _ | refine blk_drew ?_ | refine blk_alloc ?_ _)); exact BK173.out)) : gb173 ≠ gb192))
                                      have n9_ := Aside0.mk ((by rw [hg]; exact Nat.ne_of_gt (blk_lt (g := gb173) (o := .cells #[.int .u32 a0_0, .int .u16 a0_1] 25 (0, 0)) (by (with_reducible repeat (first | refine blk_drewN ?_ _ | refine blk_drew ?_ | refine blk_alloc ?_ _)); exact BK173.out)) : gb192 ≠ gb173))
                                      have n10_ := Aside0.mk ((by rw [hg]; exact Nat.ne_of_lt (blk_lt (g := gb179) (o := .cells #[.int .u32 t176, .int .u16 t177] 25 (0, 0)) (by (with_reducible repeat (first | refine blk_drewN ?_ _ | refine blk_drew ?_ | refine blk_alloc ?_ _)); exact BK179.out)) : gb179 ≠ gb192))
                                      have n11_ := Aside0.mk ((by rw [hg]; exact Nat.ne_of_gt (blk_lt (g := gb179) (o := .cells #[.int .u32 t176, .int .u16 t177] 25 (0, 0)) (by (with_reducible repeat (first | refine blk_drewN ?_ _ | refine blk_drew ?_ | refine blk_alloc ?_ _)); exact BK179.out)) : gb192 ≠ gb179))
                                      have n12_ := Aside0.mk ((by rw [hg]; exact Nat.ne_of_lt (blk_lt (g := gb184) (o := .cells #[.int .u32 t181, .int .u16 t182] 25 (0, 0)) (by (with_reducible repeat (first | refine blk_drewN ?_ _ | refine blk_drew ?_ | refine blk_alloc ?_ _)); exact BK184.out)) : gb184 ≠ gb192))
                                      have n13_ := Aside0.mk ((by rw [hg]; exact Nat.ne_of_gt (blk_lt (g := gb184) (o := .cells #[.int .u32 t181, .int .u16 t182] 25 (0, 0)) (by (with_reducible repeat (first | refine blk_drewN ?_ _ | refine blk_drew ?_ | refine blk_alloc ?_ _)); exact BK184.out)) : gb192 ≠ gb184))
                                      clear HO188
                                      clear BK173
                                      clear BK179
                                      clear BK184
                                      clear HB
                                      have HO188 := n0_
                                      have BK173 := n1_
                                      have BK179 := n2_
                                      have BK184 := n3_
                                      have HB := n4_
                                      have BK192 := n5_
                                      have GW192 := n6_
                                      have GE192 := n7_
                                      have NB173_192 := n8_
                                      have NB192_173 := n9_
                                      have NB179_192 := n10_
                                      have NB192_179 := n11_
                                      have NB184_192 := n12_
                                      have NB192_184 := n13_
                                      clear n0_ n1_ n2_ n3_ n4_ n5_ n6_ n7_ n8_ n9_ n10_ n11_ n12_ n13_
                                      clear hb hbox hg
                                      refine hK.out _ _ ⟨(blk_cell BK173.out 0).trans rfl, (blk_cell BK173.out 1).trans rfl⟩ (fun hHeld => ?_)
                                      clear hK K
                                      refine norm_ (a' := ?_) ?_ ?_
                                      rotate_left
                                      · show Act.put _ (some 10) _ = _
                                        simp only [Act.put, List.setIfInBounds_toArray, List.set_cons_zero, List.set_cons_succ, i64_w, i32_w]
                                        rfl
                                      exact norm_ (by first | (simp only [putAll, Act.put, List.setIfInBounds_toArray, List.set_cons_zero, List.set_cons_succ]; done) | (simp only [putAll, Act.put, List.setIfInBounds_toArray, List.set_cons_zero, List.set_cons_succ]; rfl)) (hJ1_3_4_10 (v187, gb192) _ ⟨hHeld, (by (with_reducible repeat (first | apply Kd.R_alloc | apply Kd.R_drewN | apply Kd.R_drew)); exact HO188.out), (by (with_reducible repeat (first | refine blk_drewN ?_ _ | refine blk_drew ?_ | refine blk_alloc ?_ _)); exact BK173.out), (by (with_reducible repeat (first | refine blk_drewN ?_ _ | refine blk_drew ?_ | refine blk_alloc ?_ _)); exact BK179.out), (by (with_reducible repeat (first | refine blk_drewN ?_ _ | refine blk_drew ?_ | refine blk_alloc ?_ _)); exact BK184.out), (by (with_reducible repeat (first | refine blk_drewN ?_ _ | refine blk_drew ?_ | refine blk_alloc ?_ _)); exact BK192.out), GW192.out, GE192.out, NB173_192.out, NB192_173.out, NB179_192.out, NB192_179.out, NB184_192.out, NB192_184.out, (by repeat (first | (with_reducible first | exact HB.out | apply below_alloc | apply pw_below_drewN | apply below_drew1 | refine below_set ?_ GE173.out | refine below_set ?_ GE179.out | refine below_set ?_ GE184.out | refine below_set ?_ GE192.out) | exact HB.out))⟩)
                                · skip
                                  rintro ⟨v187, gb192⟩ w52 ⟨hS_, h0_, h1_, h2_, h3_, h4_, h5_, h6_, h7_, h8_, h9_, h10_, h11_, h12_, h13_⟩
                                  have n0_ : Aside0 (Kd.R (Kd.int .u8) 5 w52 w.heap.size (fun _ => True) v187 y186) := ⟨h0_⟩
                                  have n1_ : Aside0 (w52.heap[gb173]? = some (.cells #[.int .u32 a0_0, .int .u16 a0_1] 25 (0, 0))) := ⟨h1_⟩
                                  have n2_ : Aside0 (w52.heap[gb179]? = some (.cells #[.int .u32 t176, .int .u16 t177] 25 (0, 0))) := ⟨h2_⟩
                                  have n3_ : Aside0 (w52.heap[gb184]? = some (.cells #[.int .u32 t181, .int .u16 t182] 25 (0, 0))) := ⟨h3_⟩
                                  have n4_ : Aside0 (w52.heap[gb192]? = some (.cells #[.int .u32 0, .int .u16 0] 25 (0, 0))) := ⟨h4_⟩
                                  have n5_ : Aside0 (w.heap.size ≤ gb192) := ⟨h5_⟩
                                  have n6_ : Aside0 (w.heap.size ≤ gb192) := ⟨h6_⟩
                                  have n7_ : Aside0 (gb173 ≠ gb192) := ⟨h7_⟩
                                  have n8_ : Aside0 (gb192 ≠ gb173) := ⟨h8_⟩
                                  have n9_ : Aside0 (gb179 ≠ gb192) := ⟨h9_⟩
                                  have n10_ : Aside0 (gb192 ≠ gb179) := ⟨h10_⟩
                                  have n11_ : Aside0 (gb184 ≠ gb192) := ⟨h11_⟩
                                  have n12_ : Aside0 (gb192 ≠ gb184) := ⟨h12_⟩
                                  have n13_ : Aside0 (Below w.heap.size w w52) := ⟨h13_⟩
                                  clear BK173
                                  clear BK179
                                  clear BK184
                                  clear HB
                                  clear h0_ h1_ h2_ h3_ h4_ h5_ h6_ h7_ h8_ h9_ h10_ h11_ h12_ h13_
                                  have HO188 := n0_
                                  have BK173 := n1_
                                  have BK179 := n2_
                                  have BK184 := n3_
                                  have BK192 := n4_
                                  have GW192 := n5_
                                  have GE192 := n6_
                                  have NB173_192 := n7_
                                  have NB192_173 := n8_
                                  have NB179_192 := n9_
                                  have NB192_179 := n10_
                                  have NB184_192 := n11_
                                  have NB192_184 := n12_
                                  have HB := n13_
                                  clear n0_ n1_ n2_ n3_ n4_ n5_ n6_ n7_ n8_ n9_ n10_ n11_ n12_ n13_
                                  have hHeld : w52.cell? ⟨gb173, 0, none⟩ = some (.int .u32 a0_0) ∧ w52.cell? ⟨gb173, 1, none⟩ = some (.int .u16 a0_1) := hS_
                                  refine norm_ (a' := ?_) ?_ ?_
                                  rotate_left
                                  · simp only [putAll, Act.put, List.setIfInBounds_toArray, List.set_cons_zero, List.set_cons_succ]
                                    rfl
                                  refine one_ (i := 6) (N := some 40) #[true, true, true, true, true, true, true, false, false, false, true, false, false] rfl rfl (one_of HT_.out (by kernel_rfl)) (by decide) (fun K hK => ?_)
                                  refine goes_ Tryd.func24 (by kernel_rfl) rfl #[.string (t185 ++ (strOfNums y186))] (by rfl) rfl rfl (by (try simp only [List.map_toArray, List.map_cons, List.map_nil]); first | done | rfl | (simp only [List.length_drop, List.length_take]; rfl)) ?_
                                  with_reducible refine (addr_Get.calls k (t185 ++ (strOfNums y186)) t189 t190 false _ A11.out).mono ?_
                                  rintro e w53 ⟨rfl, hb⟩
                                  refine ⟨_, rfl, ?_⟩
                                  have n0_ := Aside0.mk (Kd.R_below (by (with_reducible repeat (first | apply Kd.R_alloc | apply Kd.R_drewN | apply Kd.R_drew)); exact HO188.out) hb)
                                  have n1_ := Aside0.mk (blk_below (g := gb173) (o := .cells #[.int .u32 a0_0, .int .u16 a0_1] 25 (0, 0)) (by (with_reducible repeat (first | refine blk_drewN ?_ _ | refine blk_drew ?_ | refine blk_alloc ?_ _)); exact BK173.out) hb)
                                  have n2_ := Aside0.mk (blk_below (g := gb179) (o := .cells #[.int .u32 t176, .int .u16 t177] 25 (0, 0)) (by (with_reducible repeat (first | refine blk_drewN ?_ _ | refine blk_drew ?_ | refine blk_alloc ?_ _)); exact BK179.out) hb)
                                  have n3_ := Aside0.mk (blk_below (g := gb184) (o := .cells #[.int .u32 t181, .int .u16 t182] 25 (0, 0)) (by (with_reducible repeat (first | refine blk_drewN ?_ _ | refine blk_drew ?_ | refine blk_alloc ?_ _)); exact BK184.out) hb)
                                  have n4_ := Aside0.mk (blk_below (g := gb192) (o := .cells #[.int .u32 0, .int .u16 0] 25 (0, 0)) (by (with_reducible repeat (first | refine blk_drewN ?_ _ | refine blk_drew ?_ | refine blk_alloc ?_ _)); exact BK192.out) hb)
                                  have n5_ := Aside0.mk (below_step (by repeat (first | (with_reducible first | exact HB.out | apply below_alloc | apply pw_below_drewN | apply below_drew1 | refine below_set ?_ GE173.out | refine below_set ?_ GE179.out | refine below_set ?_ GE184.out | refine below_set ?_ GE192.out) | exact HB.out)) hb)
                                  clear HO188
                                  clear BK173
                                  clear BK179
                                  clear BK184
                                  clear BK192
                                  clear HB
                                  have HO188 := n0_
                                  have BK173 := n1_
                                  have BK179 := n2_
                                  have BK184 := n3_
                                  have BK192 := n4_
                                  have HB := n5_
                                  clear n0_ n1_ n2_ n3_ n4_ n5_
                                  (try clear hb)
                                  (try clear hb2)
                                  (try clear hk)
                                  (try clear hi)
                                  refine hK.out _ _ ⟨(blk_cell BK173.out 0).trans rfl, (blk_cell BK173.out 1).trans rfl⟩ (fun hHeld => ?_)
                                  clear hK K
                                  refine norm_ (a' := ?_) ?_ ?_
                                  rotate_left
                                  · show Act.put _ (some 40) _ = _
                                    simp only [Act.put, List.setIfInBounds_toArray, List.set_cons_zero, List.set_cons_succ, i64_w, i32_w]
                                    rfl
                                  refine pure_ (i := 7) (N := some 33) (v := ?_) (a' := ?_) #[true, true, true, true, true, true, true, true, false, false, true, false, false] rfl rfl (any_of HT_.out (by kernel_rfl)) (fun _ _ _ h => h) (Or.inl ⟨by first | rfl | (simp only [c19b0, c24b0, c26b0]; rfl), ?_⟩) ?_ ?_
                                  rotate_left
                                  · intro w'
                                    go_simp
                                    with_reducible rfl
                                  rotate_left
                                  · simp only [Act.put, List.setIfInBounds_toArray, List.set_cons_zero, List.set_cons_succ, i64_w, i32_w]
                                    rfl
                                  refine pure_ (i := 8) (N := some 41) (v := ?_) (a' := ?_) #[true, true, true, true, true, true, true, true, true, false, true, false, false] rfl rfl (any_of HT_.out (by kernel_rfl)) (fun _ _ _ h => h) (Or.inl ⟨by first | rfl | (simp only [c19b0, c24b0, c26b0]; rfl), ?_⟩) ?_ ?_
                                  rotate_left
                                  · intro w'
                                    go_simp
                                    with_reducible rfl
                                  rotate_left
                                  · simp only [Act.put, List.setIfInBounds_toArray, List.set_cons_zero, List.set_cons_succ, i64_w, i32_w]
                                    rfl
                                  refine pure_ (i := 9) (N := some 42) (v := ?_) (a' := ?_) #[true, true, true, true, true, true, true, true, true, true, true, false, false] rfl rfl (any_of HT_.out (by kernel_rfl)) (fun _ _ _ h => h) (Or.inl ⟨by first | rfl | (simp only [c19b0, c24b0, c26b0]; rfl), ?_⟩) ?_ ?_
                                  rotate_left
                                  · intro w'
                                    go_simp
                                    with_reducible rfl
                                  rotate_left
                                  · simp only [Act.put, List.setIfInBounds_toArray, List.set_cons_zero, List.set_cons_succ, i64_w, i32_w]
                                    rfl
                                  exact norm_ (by first | (simp only [putAll, Act.put, List.setIfInBounds_toArray, List.set_cons_zero, List.set_cons_succ]; done) | (simp only [putAll, Act.put, List.setIfInBounds_toArray, List.set_cons_zero, List.set_cons_succ]; rfl)) (hJ1_3_4_6_10 (v187, gb192) _ ⟨hHeld, (by (with_reducible repeat (first | apply Kd.R_alloc | apply Kd.R_drewN | apply Kd.R_drew)); exact HO188.out), (by (with_reducible repeat (first | refine blk_drewN ?_ _ | refine blk_drew ?_ | refine blk_alloc ?_ _)); exact BK173.out), (by (with_reducible repeat (first | refine blk_drewN ?_ _ | refine blk_drew ?_ | refine blk_alloc ?_ _)); exact BK179.out), (by (with_reducible repeat (first | refine blk_drewN ?_ _ | refine blk_drew ?_ | refine blk_alloc ?_ _)); exact BK184.out), (by (with_reducible repeat (first | refine blk_drewN ?_ _ | refine blk_drew ?_ | refine blk_alloc ?_ _)); exact BK192.out), GW192.out, GE192.out, NB173_192.out, NB192_173.out, NB179_192.out, NB192_179.out, NB184_192.out, NB192_184.out, (by repeat (first | (with_reducible first | exact HB.out | apply below_alloc | apply pw_below_drewN | apply below_drew1 | refine below_set ?_ GE173.out | refine below_set ?_ GE179.out | refine below_set ?_ GE184.out | refine below_set ?_ GE192.out) | exact HB.out))⟩)
                              · skip
                                rintro v187 w52 ⟨hS_, h0_, h1_, h2_, h3_, h4_⟩
                                have n0_ : Aside0 (Kd.R (Kd.int .u8) 5 w52 w.heap.size (fun _ => True) v187 y186) := ⟨h0_⟩
                                have n1_ : Aside0 (w52.heap[gb173]? = some (.cells #[.int .u32 a0_0, .int .u16 a0_1] 25 (0, 0))) := ⟨h1_⟩
                                have n2_ : Aside0 (w52.heap[gb179]? = some (.cells #[.int .u32 t176, .int .u16 t177] 25 (0, 0))) := ⟨h2_⟩
                                have n3_ : Aside0 (w52.heap[gb184]? = some (.cells #[.int .u32 t181, .int .u16 t182] 25 (0, 0))) := ⟨h3_⟩
                                have n4_ : Aside0 (Below w.heap.size w w52) := ⟨h4_⟩
                                clear BK173
                                clear BK179
                                clear BK184
                                clear HB
                                clear h0_ h1_ h2_ h3_ h4_
                                have HO188 := n0_
                                have BK173 := n1_
                                have BK179 := n2_
                                have BK184 := n3_
                                have HB := n4_
                                clear n0_ n1_ n2_ n3_ n4_
                                have hHeld : w52.cell? ⟨gb173, 0, none⟩ = some (.int .u32 a0_0) ∧ w52.cell? ⟨gb173, 1, none⟩ = some (.int .u16 a0_1) := hS_
                                refine norm_ (a' := ?_) ?_ ?_
                                rotate_left
                                · simp only [putAll, Act.put, List.setIfInBounds_toArray, List.set_cons_zero, List.set_cons_succ]
                                  rfl
                                refine one_ (i := 10) (N := some 10) #[true, true, true, true, true, true, true, true, true, true, true, false, false] rfl rfl (one_of HT_.out (by kernel_rfl)) (by decide) (fun K hK => ?_)
                                refine box_step ?hg (N := 10) ?hd (cs := #[.int .u32 0, .int .u16 0]) (t := 25) ?hr ?_; (case hd => rfl); (case hg => rfl); (case hr => first | (go_simp; done) | (go_simp; rfl))
                                intro gb192 hg w53 hbox hb
                                have n0_ := Aside0.mk (Kd.R_below (by (with_reducible repeat (first | apply Kd.R_alloc | apply Kd.R_drewN | apply Kd.R_drew)); exact HO188.out) hb)
                                have n1_ := Aside0.mk (blk_below (g := gb173) (o := .cells #[.int .u32 a0_0, .int .u16 a0_1] 25 (0, 0)) (by (with_reducible repeat (first | refine blk_drewN ?_ _ | refine blk_drew ?_ | refine blk_alloc ?_ _)); exact BK173.out) hb)
                                have n2_ := Aside0.mk (blk_below (g := gb179) (o := .cells #[.int .u32 t176, .int .u16 t177] 25 (0, 0)) (by (with_reducible repeat (first | refine blk_drewN ?_ _ | refine blk_drew ?_ | refine blk_alloc ?_ _)); exact BK179.out) hb)
                                have n3_ := Aside0.mk (blk_below (g := gb184) (o := .cells #[.int .u32 t181, .int .u16 t182] 25 (0, 0)) (by (with_reducible repeat (first | refine blk_drewN ?_ _ | refine blk_drew ?_ | refine blk_alloc ?_ _)); exact BK184.out) hb)
                                have n4_ := Aside0.mk (below_step (by repeat (first | (with_reducible first | exact HB.out | apply below_alloc | apply pw_below_drewN | apply below_drew1 | refine below_set ?_ GE173.out | refine below_set ?_ GE179.out | refine below_set ?_ GE184.out) | exact HB.out)) hb)
                                have n5_ := Aside0.mk (hbox)
                                have n6_ := Aside0.mk ((by rw [hg]; exact (below_size (by repeat (first | (with_reducible first | exact HB.out | apply below_alloc | apply pw_below_drewN | apply below_drew1 | refine below_set ?_ GE173.out | refine below_set ?_ GE179.out | refine below_set ?_ GE184.out) | exact HB.out))) : w.heap.size ≤ gb192))
                                have n7_ := Aside0.mk ((by rw [hg]; exact (below_size (by repeat (first | (with_reducible first | exact HB.out | apply below_alloc | apply pw_below_drewN | apply below_drew1 | refine below_set ?_ GE173.out | refine below_set ?_ GE179.out | refine below_set ?_ GE184.out) | exact HB.out))) : w.heap.size ≤ gb192))
                                have n8_ := Aside0.mk ((by rw [hg]; exact Nat.ne_of_lt (blk_lt (g := gb173) (o := .cells #[.int .u32 a0_0, .int .u16 a0_1] 25 (0, 0)) (by (with_reducible repeat (first | refine blk_drewN ?_ _ | refine blk_drew ?_ | refine blk_alloc ?_ _)); exact BK173.out)) : gb173 ≠ gb192))
                                have n9_ := Aside0.mk ((by rw [hg]; exact Nat.ne_of_gt (blk_lt (g := gb173) (o := .cells #[.int .u32 a0_0, .int .u16 a0_1] 25 (0, 0)) (by (with_reducible repeat (first | refine blk_drewN ?_ _ | refine blk_drew ?_ | refine blk_alloc ?_ _)); exact BK173.out)) : gb192 ≠ gb173))
                                have n10_ := Aside0.mk ((by rw [hg]; exact Nat.ne_of_lt (blk_lt (g := gb179) (o := .cells #[.int .u32 t176, .int .u16 t177] 25 (0, 0)) (by (with_reducible repeat (first | refine blk_drewN ?_ _ | refine blk_drew ?_ | refine blk_alloc ?_ _)); exact BK179.out)) : gb179 ≠ gb192))
                                have n11_ := Aside0.mk ((by rw [hg]; exact Nat.ne_of_gt (blk_lt (g := gb179) (o := .cells #[.int .u32 t176, .int .u16 t177] 25 (0, 0)) (by (with_reducible repeat (first | refine blk_drewN ?_ _ | refine blk_drew ?_ | refine blk_alloc ?_ _)); exact BK179.out)) : gb192 ≠ gb179))
                                have n12_ := Aside0.mk ((by rw [hg]; exact Nat.ne_of_lt (blk_lt (g := gb184) (o := .cells #[.int .u32 t181, .int .u16 t182] 25 (0, 0)) (by (with_reducible repeat (first | refine blk_drewN ?_ _ | refine blk_drew ?_ | refine blk_alloc ?_ _)); exact BK184.out)) : gb184 ≠ gb192))
                                have n13_ := Aside0.mk ((by rw [hg]; exact Nat.ne_of_gt (blk_lt (g := gb184) (o := .cells #[.int .u32 t181, .int .u16 t182] 25 (0, 0)) (by (with_reducible repeat (first | refine blk_drewN ?_ _ | refine blk_drew ?_ | refine blk_alloc ?_ _)); exact BK184.out)) : gb192 ≠ gb184))
                                clear HO188
                                clear BK173
                                clear BK179
                                clear BK184
                                clear HB
                                have HO188 := n0_
                                have BK173 := n1_
                                have BK179 := n2_
                                have BK184 := n3_
                                have HB := n4_
                                have BK192 := n5_
                                have GW192 := n6_
                                have GE192 := n7_
                                have NB173_192 := n8_
                                have NB192_173 := n9_
                                have NB179_192 := n10_
                                have NB192_179 := n11_
                                have NB184_192 := n12_
                                have NB192_184 := n13_
                                clear n0_ n1_ n2_ n3_ n4_ n5_ n6_ n7_ n8_ n9_ n10_ n11_ n12_ n13_
                                clear hb hbox hg
                                refine hK.out _ _ ⟨(blk_cell BK173.out 0).trans rfl, (blk_cell BK173.out 1).trans rfl⟩ (fun hHeld => ?_)
                                clear hK K
                                refine norm_ (a' := ?_) ?_ ?_
                                rotate_left
                                · show Act.put _ (some 10) _ = _
                                  simp only [Act.put, List.setIfInBounds_toArray, List.set_cons_zero, List.set_cons_succ, i64_w, i32_w]
                                  rfl
                                exact norm_ (by first | (simp only [putAll, Act.put, List.setIfInBounds_toArray, List.set_cons_zero, List.set_cons_succ]; done) | (simp only [putAll, Act.put, List.setIfInBounds_toArray, List.set_cons_zero, List.set_cons_succ]; rfl)) (hJ1_3_4_6_10 (v187, gb192) _ ⟨hHeld, (by (with_reducible repeat (first | apply Kd.R_alloc | apply Kd.R_drewN | apply Kd.R_drew)); exact HO188.out), (by (with_reducible repeat (first | refine blk_drewN ?_ _ | refine blk_drew ?_ | refine blk_alloc ?_ _)); exact BK173.out), (by (with_reducible repeat (first | refine blk_drewN ?_ _ | refine blk_drew ?_ | refine blk_alloc ?_ _)); exact BK179.out), (by (with_reducible repeat (first | refine blk_drewN ?_ _ | refine blk_drew ?_ | refine blk_alloc ?_ _)); exact BK184.out), (by (with_reducible repeat (first | refine blk_drewN ?_ _ | refine blk_drew ?_ | refine blk_alloc ?_ _)); exact BK192.out), GW192.out, GE192.out, NB173_192.out, NB192_173.out, NB179_192.out, NB192_179.out, NB184_192.out, NB192_184.out, (by repeat (first | (with_reducible first | exact HB.out | apply below_alloc | apply pw_below_drewN | apply below_drew1 | refine below_set ?_ GE173.out | refine below_set ?_ GE179.out | refine below_set ?_ GE184.out | refine below_set ?_ GE192.out) | exact HB.out))⟩)
                            rintro ⟨v187, gb192⟩ w53 ⟨hS_, h0_, h1_, h2_, h3_, h4_, h5_, h6_, h7_, h8_, h9_, h10_, h11_, h12_, h13_⟩
                            have n0_ : Aside0 (Kd.R (Kd.int .u8) 5 w53 w.heap.size (fun _ => True) v187 y186) := ⟨h0_⟩
                            have n1_ : Aside0 (w53.heap[gb173]? = some (.cells #[.int .u32 a0_0, .int .u16 a0_1] 25 (0, 0))) := ⟨h1_⟩
                            have n2_ : Aside0 (w53.heap[gb179]? = some (.cells #[.int .u32 t176, .int .u16 t177] 25 (0, 0))) := ⟨h2_⟩
                            have n3_ : Aside0 (w53.heap[gb184]? = some (.cells #[.int .u32 t181, .int .u16 t182] 25 (0, 0))) := ⟨h3_⟩
                            have n4_ : Aside0 (w53.heap[gb192]? = some (.cells #[.int .u32 0, .int .u16 0] 25 (0, 0))) := ⟨h4_⟩
                            have n5_ : Aside0 (w.heap.size ≤ gb192) := ⟨h5_⟩
                            have n6_ : Aside0 (w.heap.size ≤ gb192) := ⟨h6_⟩
                            have n7_ : Aside0 (gb173 ≠ gb192) := ⟨h7_⟩
                            have n8_ : Aside0 (gb192 ≠ gb173) := ⟨h8_⟩
                            have n9_ : Aside0 (gb179 ≠ gb192) := ⟨h9_⟩
                            have n10_ : Aside0 (gb192 ≠ gb179) := ⟨h10_⟩
                            have n11_ : Aside0 (gb184 ≠ gb192) := ⟨h11_⟩
                            have n12_ : Aside0 (gb192 ≠ gb184) := ⟨h12_⟩
                            have n13_ : Aside0 (Below w.heap.size w w53) := ⟨h13_⟩
                            clear BK173
                            clear BK179
                            clear BK184
                            clear HB
                            clear h0_ h1_ h2_ h3_ h4_ h5_ h6_ h7_ h8_ h9_ h10_ h11_ h12_ h13_
                            have HO188 := n0_
                            have BK173 := n1_
                            have BK179 := n2_
                            have BK184 := n3_
                            have BK192 := n4_
                            have GW192 := n5_
                            have GE192 := n6_
                            have NB173_192 := n7_
                            have NB192_173 := n8_
                            have NB179_192 := n9_
                            have NB192_179 := n10_
                            have NB184_192 := n11_
                            have NB192_184 := n12_
                            have HB := n13_
                            clear n0_ n1_ n2_ n3_ n4_ n5_ n6_ n7_ n8_ n9_ n10_ n11_ n12_ n13_
                            have hHeld : w53.cell? ⟨gb173, 0, none⟩ = some (.int .u32 a0_0) ∧ w53.cell? ⟨gb173, 1, none⟩ = some (.int .u16 a0_1) := hS_
                            refine norm_ (a' := ?_) ?_ ?_
                            rotate_left
                            · simp only [putAll, Act.put, List.setIfInBounds_toArray, List.set_cons_zero, List.set_cons_succ]
                              rfl
                            refine one_ (i := 11) (N := none) #[true, true, true, true, true, true, true, true, true, true, true, true, false] rfl rfl (one_of HT_.out (by kernel_rfl)) (by decide) (fun K hK => ?_)
                            have hs54 : w53.cell? ⟨gb192, 0, none⟩ = some (.int .u32 0) := (blk_cell BK192.out 0).trans rfl
                            have hfs54 := blk_frozen BK192.out 0
                            have hns54_0 := NB173_192.out
                            have hns54_1 := NB179_192.out
                            have hns54_2 := NB184_192.out
                            have hms54_0 := NB192_173.out
                            have hms54_1 := NB192_179.out
                            have hms54_2 := NB192_184.out
                            have hs55 : w53.cell? ⟨gb192, 1, none⟩ = some (.int .u16 0) := (blk_cell BK192.out 1).trans rfl
                            have hfs55 := blk_frozen BK192.out 1
                            have hns55_0 := NB173_192.out
                            have hns55_1 := NB179_192.out
                            have hns55_2 := NB184_192.out
                            have hms55_0 := NB192_173.out
                            have hms55_1 := NB192_179.out
                            have hms55_2 := NB192_184.out
                            refine skip_ (w1 := ?_) (by rfl) rfl ?_ ?_
                            rotate_left
                            · go_simp
                              rfl
                            refine hK.out _ _ ⟨((cell_far (p := ⟨gb192, _, none⟩) NB173_192.out _).trans (((cell_far (p := ⟨gb192, _, none⟩) NB173_192.out _).trans (hHeld.1)))), ((cell_far (p := ⟨gb192, _, none⟩) NB173_192.out _).trans (((cell_far (p := ⟨gb192, _, none⟩) NB173_192.out _).trans (hHeld.2))))⟩ (fun hHeld => ?_)
                            clear hK K
                            refine pure_ (i := 12) (N := some 11) (v := ?_) (a' := ?_) #[true, true, true, true, true, true, true, true, true, true, true, true, true] rfl rfl (any_of HT_.out (by kernel_rfl)) (fun _ _ _ h => h) (Or.inl ⟨by first | rfl | (simp only [c19b0, c24b0, c26b0]; rfl), ?_⟩) ?_ ?_
                            rotate_left
                            · intro w'
                              go_simp
                              with_reducible rfl
                            rotate_left
                            · simp only [Act.put, List.setIfInBounds_toArray, List.set_cons_zero, List.set_cons_succ, i64_w, i32_w]
                              rfl
                            refine done_ (done_of HT_.out (by kernel_rfl)) ?_
                            have hnb56 := NB173_192.out
                            have hnc56 := NB192_173.out
                            have hcz57_0 : w53.cell? ⟨gb173, 0, none⟩ = some (.int .u32 a0_0) := (blk_cell BK173.out 0).trans rfl
                            have hcz57_1 : w53.cell? ⟨gb173, 1, none⟩ = some (.int .u16 a0_1) := (blk_cell BK173.out 1).trans rfl
                            have hfz57_0 := blk_frozen BK173.out 0
                            have hfz57_1 := blk_frozen BK173.out 1
                            try go_wp2_with (first | ((with_reducible refine gate_callee (f := 11) rfl ?_); refine goesL_ (some 45) rfl rfl Tryd.func11 (by kernel_rfl) rfl #[.agg #[.int .u32 a0_0, .int .u16 a0_1]] rfl (by (try simp only [List.map_toArray, List.map_cons, List.map_nil]); first | done | rfl | (simp only [List.length_drop, List.length_take]; rfl)) ?_; (with_reducible refine (addr_Addr_Text.calls k a0_0 a0_1 t193 _ A12.out ?htb).mono ?_); (case htb => exact ⟨IT.tab_below htab.out (by repeat (first | (with_reducible first | exact HB.out | apply below_alloc | apply pw_below_drewN | apply below_drew1 | refine below_set ?_ GE173.out | refine below_set ?_ GE179.out | refine below_set ?_ GE184.out | refine below_set ?_ GE192.out) | exact HB.out))⟩); rintro e w58 ⟨rfl, hb⟩; refine ⟨_, rfl, ?_⟩; have n0_ := Aside0.mk (Kd.R_below (by (with_reducible repeat (first | apply Kd.R_alloc | apply Kd.R_drewN | apply Kd.R_drew)); exact (Kd.R_mono (Kd.R_far (p := ⟨gb192, 1, none⟩) (Kd.R_far (p := ⟨gb192, 0, none⟩) (Kd.R_types HO188.out BK192.out (by decide)) (fun _ hk => hk.2) (.int .u32 t189)) (fun _ hk => hk.2) (.int .u16 t190)) (fun _ h_ => h_.1))) hb); have n1_ := Aside0.mk (blk_below (g := gb173) (o := .cells #[.int .u32 a0_0, .int .u16 a0_1] 25 (0, 0)) (by (with_reducible repeat (first | refine blk_drewN ?_ _ | refine blk_drew ?_ | refine blk_alloc ?_ _)); refine blk_far ?_ NB173_192.out _; (with_reducible repeat (first | refine blk_drewN ?_ _ | refine blk_drew ?_ | refine blk_alloc ?_ _)); refine blk_far ?_ NB173_192.out _; (with_reducible repeat (first | refine blk_drewN ?_ _ | refine blk_drew ?_ | refine blk_alloc ?_ _)); exact BK173.out) hb); have n2_ := Aside0.mk (blk_below (g := gb179) (o := .cells #[.int .u32 t176, .int .u16 t177] 25 (0, 0)) (by (with_reducible repeat (first | refine blk_drewN ?_ _ | refine blk_drew ?_ | refine blk_alloc ?_ _)); refine blk_far ?_ NB179_192.out _; (with_reducible repeat (first | refine blk_drewN ?_ _ | refine blk_drew ?_ | refine blk_alloc ?_ _)); refine blk_far ?_ NB179_192.out _; (with_reducible repeat (first | refine blk_drewN ?_ _ | refine blk_drew ?_ | refine blk_alloc ?_ _)); exact BK179.out) hb); have n3_ := Aside0.mk (blk_below (g := gb184) (o := .cells #[.int .u32 t181, .int .u16 t182] 25 (0, 0)) (by (with_reducible repeat (first | refine blk_drewN ?_ _ | refine blk_drew ?_ | refine blk_alloc ?_ _)); refine blk_far ?_ NB184_192.out _; (with_reducible repeat (first | refine blk_drewN ?_ _ | refine blk_drew ?_ | refine blk_alloc ?_ _)); refine blk_far ?_ NB184_192.out _; (with_reducible repeat (first | refine blk_drewN ?_ _ | refine blk_drew ?_ | refine blk_alloc ?_ _)); exact BK184.out) hb); have n4_ := Aside0.mk (blk_below (g := gb192) (o := .cells #[.int .u32 t189, .int .u16 t190] 25 (0, 0)) (by (with_reducible repeat (first | refine blk_drewN ?_ _ | refine blk_drew ?_ | refine blk_alloc ?_ _)); refine blk_put (cs := #[.int .u32 t189, .int .u16 0]) ?_ 1 _ rfl; (with_reducible repeat (first | refine blk_drewN ?_ _ | refine blk_drew ?_ | refine blk_alloc ?_ _)); refine blk_put (cs := #[.int .u32 0, .int .u16 0]) ?_ 0 _ rfl; (with_reducible repeat (first | refine blk_drewN ?_ _ | refine blk_drew ?_ | refine blk_alloc ?_ _)); exact BK192.out) hb); have n5_ := Aside0.mk (below_step (by repeat (first | (with_reducible first | exact HB.out | apply below_alloc | apply pw_below_drewN | apply below_drew1 | refine below_set ?_ GE173.out | refine below_set ?_ GE179.out | refine below_set ?_ GE184.out | refine below_set ?_ GE192.out) | exact HB.out)) hb); clear HO188; clear BK173; clear BK179; clear BK184; clear BK192; clear HB; have HO188 := n0_; have BK173 := n1_; have BK179 := n2_; have BK184 := n3_; have BK192 := n4_; have HB := n5_; clear n0_ n1_ n2_ n3_ n4_ n5_; (try clear hb); (try clear hb2); (try clear hk); (try clear hi)) | ((with_reducible refine gate_callee (f := 22) rfl ?_); refine goesL_ (some 47) rfl rfl Tryd.func22 (by kernel_rfl) rfl #[.string ((⟨#[48]⟩ : ByteArray) ++ t193)] rfl (by (try simp only [List.map_toArray, List.map_cons, List.map_nil]); first | done | rfl | (simp only [List.length_drop, List.length_take]; rfl)) ?_; (with_reducible refine (addr_Read.calls k ((⟨#[48]⟩ : ByteArray) ++ t193) t194 t195 false _ A14.out ?htb).mono ?_); (case htb => exact ⟨IT.tab_below htab.out (by repeat (first | (with_reducible first | exact HB.out | apply below_alloc | apply pw_below_drewN | apply below_drew1 | refine below_set ?_ GE173.out | refine below_set ?_ GE179.out | refine below_set ?_ GE184.out | refine below_set ?_ GE192.out) | exact HB.out))⟩); rintro e w59 ⟨rfl, hb⟩; refine ⟨_, rfl, ?_⟩; have n0_ := Aside0.mk (Kd.R_below (by (with_reducible repeat (first | apply Kd.R_alloc | apply Kd.R_drewN | apply Kd.R_drew)); exact HO188.out) hb); have n1_ := Aside0.mk (blk_below (g := gb173) (o := .cells #[.int .u32 a0_0, .int .u16 a0_1] 25 (0, 0)) (by (with_reducible repeat (first | refine blk_drewN ?_ _ | refine blk_drew ?_ | refine blk_alloc ?_ _)); exact BK173.out) hb); have n2_ := Aside0.mk (blk_below (g := gb179) (o := .cells #[.int .u32 t176, .int .u16 t177] 25 (0, 0)) (by (with_reducible repeat (first | refine blk_drewN ?_ _ | refine blk_drew ?_ | refine blk_alloc ?_ _)); exact BK179.out) hb); have n3_ := Aside0.mk (blk_below (g := gb184) (o := .cells #[.int .u32 t181, .int .u16 t182] 25 (0, 0)) (by (with_reducible repeat (first | refine blk_drewN ?_ _ | refine blk_drew ?_ | refine blk_alloc ?_ _)); exact BK184.out) hb); have n4_ := Aside0.mk (blk_below (g := gb192) (o := .cells #[.int .u32 t189, .int .u16 t190] 25 (0, 0)) (by (with_reducible repeat (first | refine blk_drewN ?_ _ | refine blk_drew ?_ | refine blk_alloc ?_ _)); exact BK192.out) hb); have n5_ := Aside0.mk (below_step (by repeat (first | (with_reducible first | exact HB.out | apply below_alloc | apply pw_below_drewN | apply below_drew1 | refine below_set ?_ GE173.out | refine below_set ?_ GE179.out | refine below_set ?_ GE184.out | refine below_set ?_ GE192.out) | exact HB.out)) hb); clear HO188; clear BK173; clear BK179; clear BK184; clear BK192; clear HB; have HO188 := n0_; have BK173 := n1_; have BK179 := n2_; have BK184 := n3_; have BK192 := n4_; have HB := n5_; clear n0_ n1_ n2_ n3_ n4_ n5_; (try clear hb); (try clear hb2); (try clear hk); (try clear hi)) | ((with_reducible refine gate_dst (N := 12) rfl ?_); refine box_event ?hg (N := 12) ?hd (cs := #[.int .u32 0, .int .u16 0]) (t := 25) ?hr ?_; (case hd => rfl); (case hg => rfl); (case hr => first | (go_simp; done) | (go_simp; rfl)); intro gb197 hg w60 hbox hb; have n0_ := Aside0.mk (Kd.R_below (by (with_reducible repeat (first | apply Kd.R_alloc | apply Kd.R_drewN | apply Kd.R_drew)); exact HO188.out) hb); have n1_ := Aside0.mk (blk_below (g := gb173) (o := .cells #[.int .u32 a0_0, .int .u16 a0_1] 25 (0, 0)) (by (with_reducible repeat (first | refine blk_drewN ?_ _ | refine blk_drew ?_ | refine blk_alloc ?_ _)); exact BK173.out) hb); have n2_ := Aside0.mk (blk_below (g := gb179) (o := .cells #[.int .u32 t176, .int .u16 t177] 25 (0, 0)) (by (with_reducible repeat (first | refine blk_drewN ?_ _ | refine blk_drew ?_ | refine blk_alloc ?_ _)); exact BK179.out) hb); have n3_ := Aside0.mk (blk_below (g := gb184) (o := .cells #[.int .u32 t181, .int .u16 t182] 25 (0, 0)) (by (with_reducible repeat (first | refine blk_drewN ?_ _ | refine blk_drew ?_ | refine blk_alloc ?_ _)); exact BK184.out) hb); have n4_ := Aside0.mk (blk_below (g := gb192) (o := .cells #[.int .u32 t189, .int .u16 t190] 25 (0, 0)) (by (with_reducible repeat (first | refine blk_drewN ?_ _ | refine blk_drew ?_ | refine blk_alloc ?_ _)); exact BK192.out) hb); have n5_ := Aside0.mk (below_step (by repeat (first | (with_reducible first | exact HB.out | apply below_alloc | apply pw_below_drewN | apply below_drew1 | refine below_set ?_ GE173.out | refine below_set ?_ GE179.out | refine below_set ?_ GE184.out | refine below_set ?_ GE192.out) | exact HB.out)) hb); have n6_ := Aside0.mk (hbox); have n7_ := Aside0.mk ((by rw [hg]; exact (below_size (by repeat (first | (with_reducible first | exact HB.out | apply below_alloc | apply pw_below_drewN | apply below_drew1 | refine below_set ?_ GE173.out | refine below_set ?_ GE179.out | refine below_set ?_ GE184.out | refine below_set ?_ GE192.out) | exact HB.out))) : w.heap.size ≤ gb197)); have n8_ := Aside0.mk ((by rw [hg]; exact (below_size (by repeat (first | (with_reducible first | exact HB.out | apply below_alloc | apply pw_below_drewN | apply below_drew1 | refine below_set ?_ GE173.out | refine below_set ?_ GE179.out | refine below_set ?_ GE184.out | refine below_set ?_ GE192.out) | exact HB.out))) : w.heap.size ≤ gb197)); have n9_ := Aside0.mk ((by rw [hg]; exact Nat.ne_of_lt (blk_lt (g := gb173) (o := .cells #[.int .u32 a0_0, .int .u16 a0_1] 25 (0, 0)) (by (with_reducible repeat (first | refine blk_drewN ?_ _ | refine blk_drew ?_ | refine blk_alloc ?_ _)); exact BK173.out)) : gb173 ≠ gb197)); have n10_ := Aside0.mk ((by rw [hg]; exact Nat.ne_of_gt (blk_lt (g := gb173) (o := .cells #[.int .u32 a0_0, .int .u16 a0_1] 25 (0, 0)) (by (with_reducible repeat (first | refine blk_drewN ?_ _ | refine blk_drew ?_ | refine blk_alloc ?_ _)); exact BK173.out)) : gb197 ≠ gb173)); have n11_ := Aside0.mk ((by rw [hg]; exact Nat.ne_of_lt (blk_lt (g := gb179) (o := .cells #[.int .u32 t176, .int .u16 t177] 25 (0, 0)) (by (with_reducible repeat (first | refine blk_drewN ?_ _ | refine blk_drew ?_ | refine blk_alloc ?_ _)); exact BK179.out)) : gb179 ≠ gb197)); have n12_ := Aside0.mk ((by rw [hg]; exact Nat.ne_of_gt (blk_lt (g := gb179) (o := .cells #[.int .u32 t176, .int .u16 t177] 25 (0, 0)) (by (with_reducible repeat (first | refine blk_drewN ?_ _ | refine blk_drew ?_ | refine blk_alloc ?_ _)); exact BK179.out)) : gb197 ≠ gb179)); have n13_ := Aside0.mk ((by rw [hg]; exact Nat.ne_of_lt (blk_lt (g := gb184) (o := .cells #[.int .u32 t181, .int .u16 t182] 25 (0, 0)) (by (with_reducible repeat (first | refine blk_drewN ?_ _ | refine blk_drew ?_ | refine blk_alloc ?_ _)); exact BK184.out)) : gb184 ≠ gb197)); have n14_ := Aside0.mk ((by rw [hg]; exact Nat.ne_of_gt (blk_lt (g := gb184) (o := .cells #[.int .u32 t181, .int .u16 t182] 25 (0, 0)) (by (with_reducible repeat (first | refine blk_drewN ?_ _ | refine blk_drew ?_ | refine blk_alloc ?_ _)); exact BK184.out)) : gb197 ≠ gb184)); have n15_ := Aside0.mk ((by rw [hg]; exact Nat.ne_of_lt (blk_lt (g := gb192) (o := .cells #[.int .u32 t189, .int .u16 t190] 25 (0, 0)) (by (with_reducible repeat (first | refine blk_drewN ?_ _ | refine blk_drew ?_ | refine blk_alloc ?_ _)); exact BK192.out)) : gb192 ≠ gb197)); have n16_ := Aside0.mk ((by rw [hg]; exact Nat.ne_of_gt (blk_lt (g := gb192) (o := .cells #[.int .u32 t189, .int .u16 t190] 25 (0, 0)) (by (with_reducible repeat (first | refine blk_drewN ?_ _ | refine blk_drew ?_ | refine blk_alloc ?_ _)); exact BK192.out)) : gb197 ≠ gb192)); clear HO188; clear BK173; clear BK179; clear BK184; clear BK192; clear HB; have HO188 := n0_; have BK173 := n1_; have BK179 := n2_; have BK184 := n3_; have BK192 := n4_; have HB := n5_; have BK197 := n6_; have GW197 := n7_; have GE197 := n8_; have NB173_197 := n9_; have NB197_173 := n10_; have NB179_197 := n11_; have NB197_179 := n12_; have NB184_197 := n13_; have NB197_184 := n14_; have NB192_197 := n15_; have NB197_192 := n16_; clear n0_ n1_ n2_ n3_ n4_ n5_ n6_ n7_ n8_ n9_ n10_ n11_ n12_ n13_ n14_ n15_ n16_; clear hb hbox hg; have hnb61 := NB197_173.out; have hnc61 := NB173_197.out; have hnb62 := NB197_179.out; have hnc62 := NB179_197.out; have hnb63 := NB197_184.out; have hnc63 := NB184_197.out; have hnb64 := NB197_192.out; have hnc64 := NB192_197.out; have hcz65_0 : w60.cell? ⟨gb197, 0, none⟩ = some (.int .u32 0) := (blk_cell BK197.out 0).trans rfl; have hcz65_1 : w60.cell? ⟨gb197, 1, none⟩ = some (.int .u16 0) := (blk_cell BK197.out 1).trans rfl; have hfz65_0 := blk_frozen BK197.out 0; have hfz65_1 := blk_frozen BK197.out 1; have hcz66_0 : w60.cell? ⟨gb173, 0, none⟩ = some (.int .u32 a0_0) := (blk_cell BK173.out 0).trans rfl; have hcz66_1 : w60.cell? ⟨gb173, 1, none⟩ = some (.int .u16 a0_1) := (blk_cell BK173.out 1).trans rfl; have hfz66_0 := blk_frozen BK173.out 0; have hfz66_1 := blk_frozen BK173.out 1) | ((with_reducible refine gate_callee (f := 11) rfl ?_); refine goesL_ (some 52) rfl rfl Tryd.func11 (by kernel_rfl) rfl #[.agg #[.int .u32 a0_0, .int .u16 a0_1]] rfl (by (try simp only [List.map_toArray, List.map_cons, List.map_nil]); first | done | rfl | (simp only [List.length_drop, List.length_take]; rfl)) ?_; (with_reducible refine (addr_Addr_Text.calls k a0_0 a0_1 t198 _ A15.out ?htb).mono ?_); (case htb => exact ⟨IT.tab_below htab.out (by repeat (first | (with_reducible first | exact HB.out | apply below_alloc | apply pw_below_drewN | apply below_drew1 | refine below_set ?_ GE173.out | refine below_set ?_ GE179.out | refine below_set ?_ GE184.out | refine below_set ?_ GE192.out | refine below_set ?_ GE197.out) | exact HB.out))⟩); rintro e w67 ⟨rfl, hb⟩; refine ⟨_, rfl, ?_⟩; have n0_ := Aside0.mk (Kd.R_below (by (with_reducible repeat (first | apply Kd.R_alloc | apply Kd.R_drewN | apply Kd.R_drew)); exact (Kd.R_mono (Kd.R_far (p := ⟨gb197, 1, none⟩) (Kd.R_far (p := ⟨gb197, 0, none⟩) (Kd.R_types HO188.out BK197.out (by decide)) (fun _ hk => hk.2) (.int .u32 t194)) (fun _ hk => hk.2) (.int .u16 t195)) (fun _ h_ => h_.1))) hb); have n1_ := Aside0.mk (blk_below (g := gb173) (o := .cells #[.int .u32 a0_0, .int .u16 a0_1] 25 (0, 0)) (by (with_reducible repeat (first | refine blk_drewN ?_ _ | refine blk_drew ?_ | refine blk_alloc ?_ _)); refine blk_far ?_ NB173_197.out _; (with_reducible repeat (first | refine blk_drewN ?_ _ | refine blk_drew ?_ | refine blk_alloc ?_ _)); refine blk_far ?_ NB173_197.out _; (with_reducible repeat (first | refine blk_drewN ?_ _ | refine blk_drew ?_ | refine blk_alloc ?_ _)); exact BK173.out) hb); have n2_ := Aside0.mk (blk_below (g := gb179) (o := .cells #[.int .u32 t176, .int .u16 t177] 25 (0, 0)) (by (with_reducible repeat (first | refine blk_drewN ?_ _ | refine blk_drew ?_ | refine blk_alloc ?_ _)); refine blk_far ?_ NB179_197.out _; (with_reducible repeat (first | refine blk_drewN ?_ _ | refine blk_drew ?_ | refine blk_alloc ?_ _)); refine blk_far ?_ NB179_197.out _; (with_reducible repeat (first | refine blk_drewN ?_ _ | refine blk_drew ?_ | refine blk_alloc ?_ _)); exact BK179.out) hb); have n3_ := Aside0.mk (blk_below (g := gb184) (o := .cells #[.int .u32 t181, .int .u16 t182] 25 (0, 0)) (by (with_reducible repeat (first | refine blk_drewN ?_ _ | refine blk_drew ?_ | refine blk_alloc ?_ _)); refine blk_far ?_ NB184_197.out _; (with_reducible repeat (first | refine blk_drewN ?_ _ | refine blk_drew ?_ | refine blk_alloc ?_ _)); refine blk_far ?_ NB184_197.out _; (with_reducible repeat (first | refine blk_drewN ?_ _ | refine blk_drew ?_ | refine blk_alloc ?_ _)); exact BK184.out) hb); have n4_ := Aside0.mk (blk_below (g := gb192) (o := .cells #[.int .u32 t189, .int .u16 t190] 25 (0, 0)) (by (with_reducible repeat (first | refine blk_drewN ?_ _ | refine blk_drew ?_ | refine blk_alloc ?_ _)); refine blk_far ?_ NB192_197.out _; (with_reducible repeat (first | refine blk_drewN ?_ _ | refine blk_drew ?_ | refine blk_alloc ?_ _)); refine blk_far ?_ NB192_197.out _; (with_reducible repeat (first | refine blk_drewN ?_ _ | refine blk_drew ?_ | refine blk_alloc ?_ _)); exact BK192.out) hb); have n5_ := Aside0.mk (blk_below (g := gb197) (o := .cells #[.int .u32 t194, .int .u16 t195] 25 (0, 0)) (by (with_reducible repeat (first | refine blk_drewN ?_ _ | refine blk_drew ?_ | refine blk_alloc ?_ _)); refine blk_put (cs := #[.int .u32 t194, .int .u16 0]) ?_ 1 _ rfl; (with_reducible repeat (first | refine blk_drewN ?_ _ | refine blk_drew ?_ | refine blk_alloc ?_ _)); refine blk_put (cs := #[.int .u32 0, .int .u16 0]) ?_ 0 _ rfl; (with_reducible repeat (first | refine blk_drewN ?_ _ | refine blk_drew ?_ | refine blk_alloc ?_ _)); exact BK197.out) hb); have n6_ := Aside0.mk (below_step (by repeat (first | (with_reducible first | exact HB.out | apply below_alloc | apply pw_below_drewN | apply below_drew1 | refine below_set ?_ GE173.out | refine below_set ?_ GE179.out | refine below_set ?_ GE184.out | refine below_set ?_ GE192.out | refine below_set ?_ GE197.out) | exact HB.out)) hb); clear HO188; clear BK173; clear BK179; clear BK184; clear BK192; clear BK197; clear HB; have HO188 := n0_; have BK173 := n1_; have BK179 := n2_; have BK184 := n3_; have BK192 := n4_; have BK197 := n5_; have HB := n6_; clear n0_ n1_ n2_ n3_ n4_ n5_ n6_; (try clear hb); (try clear hb2); (try clear hk); (try clear hi)) | ((with_reducible refine gate_callee (f := 22) rfl ?_); refine goesL_ (some 54) rfl rfl Tryd.func22 (by kernel_rfl) rfl #[.string (t198 ++ (⟨#[58]⟩ : ByteArray))] rfl (by (try simp only [List.map_toArray, List.map_cons, List.map_nil]); first | done | rfl | (simp only [List.length_drop, List.length_take]; rfl)) ?_; (with_reducible refine (addr_Read.calls k (t198 ++ (⟨#[58]⟩ : ByteArray)) t199 t200 false _ A17.out ?htb).mono ?_); (case htb => exact ⟨IT.tab_below htab.out (by repeat (first | (with_reducible first | exact HB.out | apply below_alloc | apply pw_below_drewN | apply below_drew1 | refine below_set ?_ GE173.out | refine below_set ?_ GE179.out | refine below_set ?_ GE184.out | refine below_set ?_ GE192.out | refine below_set ?_ GE197.out) | exact HB.out))⟩); rintro e w68 ⟨rfl, hb⟩; refine ⟨_, rfl, ?_⟩; have n0_ := Aside0.mk (Kd.R_below (by (with_reducible repeat (first | apply Kd.R_alloc | apply Kd.R_drewN | apply Kd.R_drew)); exact HO188.out) hb); have n1_ := Aside0.mk (blk_below (g := gb173) (o := .cells #[.int .u32 a0_0, .int .u16 a0_1] 25 (0, 0)) (by (with_reducible repeat (first | refine blk_drewN ?_ _ | refine blk_drew ?_ | refine blk_alloc ?_ _)); exact BK173.out) hb); have n2_ := Aside0.mk (blk_below (g := gb179) (o := .cells #[.int .u32 t176, .int .u16 t177] 25 (0, 0)) (by (with_reducible repeat (first | refine blk_drewN ?_ _ | refine blk_drew ?_ | refine blk_alloc ?_ _)); exact BK179.out) hb); have n3_ := Aside0.mk (blk_below (g := gb184) (o := .cells #[.int .u32 t181, .int .u16 t182] 25 (0, 0)) (by (with_reducible repeat (first | refine blk_drewN ?_ _ | refine blk_drew ?_ | refine blk_alloc ?_ _)); exact BK184.out) hb); have n4_ := Aside0.mk (blk_below (g := gb192) (o := .cells #[.int .u32 t189, .int .u16 t190] 25 (0, 0)) (by (with_reducible repeat (first | refine blk_drewN ?_ _ | refine blk_drew ?_ | refine blk_alloc ?_ _)); exact BK192.out) hb); have n5_ := Aside0.mk (blk_below (g := gb197) (o := .cells #[.int .u32 t194, .int .u16 t195] 25 (0, 0)) (by (with_reducible repeat (first | refine blk_drewN ?_ _ | refine blk_drew ?_ | refine blk_alloc ?_ _)); exact BK197.out) hb); have n6_ := Aside0.mk (below_step (by repeat (first | (with_reducible first | exact HB.out | apply below_alloc | apply pw_below_drewN | apply below_drew1 | refine below_set ?_ GE173.out | refine below_set ?_ GE179.out | refine below_set ?_ GE184.out | refine below_set ?_ GE192.out | refine below_set ?_ GE197.out) | exact HB.out)) hb); clear HO188; clear BK173; clear BK179; clear BK184; clear BK192; clear BK197; clear HB; have HO188 := n0_; have BK173 := n1_; have BK179 := n2_; have BK184 := n3_; have BK192 := n4_; have BK197 := n5_; have HB := n6_; clear n0_ n1_ n2_ n3_ n4_ n5_ n6_; (try clear hb); (try clear hb2); (try clear hk); (try clear hi)) | ((with_reducible refine gate_dst (N := 14) rfl ?_); refine box_event ?hg (N := 14) ?hd (cs := #[.int .u32 0, .int .u16 0]) (t := 25) ?hr ?_; (case hd => rfl); (case hg => rfl); (case hr => first | (go_simp; done) | (go_simp; rfl)); intro gb202 hg w69 hbox hb; have n0_ := Aside0.mk (Kd.R_below (by (with_reducible repeat (first | apply Kd.R_alloc | apply Kd.R_drewN | apply Kd.R_drew)); exact HO188.out) hb); have n1_ := Aside0.mk (blk_below (g := gb173) (o := .cells #[.int .u32 a0_0, .int .u16 a0_1] 25 (0, 0)) (by (with_reducible repeat (first | refine blk_drewN ?_ _ | refine blk_drew ?_ | refine blk_alloc ?_ _)); exact BK173.out) hb); have n2_ := Aside0.mk (blk_below (g := gb179) (o := .cells #[.int .u32 t176, .int .u16 t177] 25 (0, 0)) (by (with_reducible repeat (first | refine blk_drewN ?_ _ | refine blk_drew ?_ | refine blk_alloc ?_ _)); exact BK179.out) hb); have n3_ := Aside0.mk (blk_below (g := gb184) (o := .cells #[.int .u32 t181, .int .u16 t182] 25 (0, 0)) (by (with_reducible repeat (first | refine blk_drewN ?_ _ | refine blk_drew ?_ | refine blk_alloc ?_ _)); exact BK184.out) hb); have n4_ := Aside0.mk (blk_below (g := gb192) (o := .cells #[.int .u32 t189, .int .u16 t190] 25 (0, 0)) (by (with_reducible repeat (first | refine blk_drewN ?_ _ | refine blk_drew ?_ | refine blk_alloc ?_ _)); exact BK192.out) hb); have n5_ := Aside0.mk (blk_below (g := gb197) (o := .cells #[.int .u32 t194, .int .u16 t195] 25 (0, 0)) (by (with_reducible repeat (first | refine blk_drewN ?_ _ | refine blk_drew ?_ | refine blk_alloc ?_ _)); exact BK197.out) hb); have n6_ := Aside0.mk (below_step (by repeat (first | (with_reducible first | exact HB.out | apply below_alloc | apply pw_below_drewN | apply below_drew1 | refine below_set ?_ GE173.out | refine below_set ?_ GE179.out | refine below_set ?_ GE184.out | refine below_set ?_ GE192.out | refine below_set ?_ GE197.out) | exact HB.out)) hb); have n7_ := Aside0.mk (hbox); have n8_ := Aside0.mk ((by rw [hg]; exact (below_size (by repeat (first | (with_reducible first | exact HB.out | apply below_alloc | apply pw_below_drewN | apply below_drew1 | refine below_set ?_ GE173.out | refine below_set ?_ GE179.out | refine below_set ?_ GE184.out | refine below_set ?_ GE192.out | refine below_set ?_ GE197.out) | exact HB.out))) : w.heap.size ≤ gb202)); have n9_ := Aside0.mk ((by rw [hg]; exact (below_size (by repeat (first | (with_reducible first | exact HB.out | apply below_alloc | apply pw_below_drewN | apply below_drew1 | refine below_set ?_ GE173.out | refine below_set ?_ GE179.out | refine below_set ?_ GE184.out | refine below_set ?_ GE192.out | refine below_set ?_ GE197.out) | exact HB.out))) : w.heap.size ≤ gb202)); have n10_ := Aside0.mk ((by rw [hg]; exact Nat.ne_of_lt (blk_lt (g := gb173) (o := .cells #[.int .u32 a0_0, .int .u16 a0_1] 25 (0, 0)) (by (with_reducible repeat (first | refine blk_drewN ?_ _ | refine blk_drew ?_ | refine blk_alloc ?_ _)); exact BK173.out)) : gb173 ≠ gb202)); have n11_ := Aside0.mk ((by rw [hg]; exact Nat.ne_of_gt (blk_lt (g := gb173) (o := .cells #[.int .u32 a0_0, .int .u16 a0_1] 25 (0, 0)) (by (with_reducible repeat (first | refine blk_drewN ?_ _ | refine blk_drew ?_ | refine blk_alloc ?_ _)); exact BK173.out)) : gb202 ≠ gb173)); have n12_ := Aside0.mk ((by rw [hg]; exact Nat.ne_of_lt (blk_lt (g := gb179) (o := .cells #[.int .u32 t176, .int .u16 t177] 25 (0, 0)) (by (with_reducible repeat (first | refine blk_drewN ?_ _ | refine blk_drew ?_ | refine blk_alloc ?_ _)); exact BK179.out)) : gb179 ≠ gb202)); have n13_ := Aside0.mk ((by rw [hg]; exact Nat.ne_of_gt (blk_lt (g := gb179) (o := .cells #[.int .u32 t176, .int .u16 t177] 25 (0, 0)) (by (with_reducible repeat (first | refine blk_drewN ?_ _ | refine blk_drew ?_ | refine blk_alloc ?_ _)); exact BK179.out)) : gb202 ≠ gb179)); have n14_ := Aside0.mk ((by rw [hg]; exact Nat.ne_of_lt (blk_lt (g := gb184) (o := .cells #[.int .u32 t181, .int .u16 t182] 25 (0, 0)) (by (with_reducible repeat (first | refine blk_drewN ?_ _ | refine blk_drew ?_ | refine blk_alloc ?_ _)); exact BK184.out)) : gb184 ≠ gb202)); have n15_ := Aside0.mk ((by rw [hg]; exact Nat.ne_of_gt (blk_lt (g := gb184) (o := .cells #[.int .u32 t181, .int .u16 t182] 25 (0, 0)) (by (with_reducible repeat (first | refine blk_drewN ?_ _ | refine blk_drew ?_ | refine blk_alloc ?_ _)); exact BK184.out)) : gb202 ≠ gb184)); have n16_ := Aside0.mk ((by rw [hg]; exact Nat.ne_of_lt (blk_lt (g := gb192) (o := .cells #[.int .u32 t189, .int .u16 t190] 25 (0, 0)) (by (with_reducible repeat (first | refine blk_drewN ?_ _ | refine blk_drew ?_ | refine blk_alloc ?_ _)); exact BK192.out)) : gb192 ≠ gb202)); have n17_ := Aside0.mk ((by rw [hg]; exact Nat.ne_of_gt (blk_lt (g := gb192) (o := .cells #[.int .u32 t189, .int .u16 t190] 25 (0, 0)) (by (with_reducible repeat (first | refine blk_drewN ?_ _ | refine blk_drew ?_ | refine blk_alloc ?_ _)); exact BK192.out)) : gb202 ≠ gb192)); have n18_ := Aside0.mk ((by rw [hg]; exact Nat.ne_of_lt (blk_lt (g := gb197) (o := .cells #[.int .u32 t194, .int .u16 t195] 25 (0, 0)) (by (with_reducible repeat (first | refine blk_drewN ?_ _ | refine blk_drew ?_ | refine blk_alloc ?_ _)); exact BK197.out)) : gb197 ≠ gb202)); have n19_ := Aside0.mk ((by rw [hg]; exact Nat.ne_of_gt (blk_lt (g := gb197) (o := .cells #[.int .u32 t194, .int .u16 t195] 25 (0, 0)) (by (with_reducible repeat (first | refine blk_drewN ?_ _ | refine blk_drew ?_ | refine blk_alloc ?_ _)); exact BK197.out)) : gb202 ≠ gb197)); clear HO188; clear BK173; clear BK179; clear BK184; clear BK192; clear BK197; clear HB; have HO188 := n0_; have BK173 := n1_; have BK179 := n2_; have BK184 := n3_; have BK192 := n4_; have BK197 := n5_; have HB := n6_; have BK202 := n7_; have GW202 := n8_; have GE202 := n9_; have NB173_202 := n10_; have NB202_173 := n11_; have NB179_202 := n12_; have NB202_179 := n13_; have NB184_202 := n14_; have NB202_184 := n15_; have NB192_202 := n16_; have NB202_192 := n17_; have NB197_202 := n18_; have NB202_197 := n19_; clear n0_ n1_ n2_ n3_ n4_ n5_ n6_ n7_ n8_ n9_ n10_ n11_ n12_ n13_ n14_ n15_ n16_ n17_ n18_ n19_; clear hb hbox hg; have hnb70 := NB202_173.out; have hnc70 := NB173_202.out; have hnb71 := NB202_179.out; have hnc71 := NB179_202.out; have hnb72 := NB202_184.out; have hnc72 := NB184_202.out; have hnb73 := NB202_192.out; have hnc73 := NB192_202.out; have hnb74 := NB202_197.out; have hnc74 := NB197_202.out; have hcz75_0 : w69.cell? ⟨gb202, 0, none⟩ = some (.int .u32 0) := (blk_cell BK202.out 0).trans rfl; have hcz75_1 : w69.cell? ⟨gb202, 1, none⟩ = some (.int .u16 0) := (blk_cell BK202.out 1).trans rfl; have hfz75_0 := blk_frozen BK202.out 0; have hfz75_1 := blk_frozen BK202.out 1; have hcz76_0 : w69.cell? ⟨gb173, 0, none⟩ = some (.int .u32 a0_0) := (blk_cell BK173.out 0).trans rfl; have hcz76_1 : w69.cell? ⟨gb173, 1, none⟩ = some (.int .u16 a0_1) := (blk_cell BK173.out 1).trans rfl; have hfz76_0 := blk_frozen BK173.out 0; have hfz76_1 := blk_frozen BK173.out 1) | ((with_reducible refine gate_callee (f := 13) rfl ?_); refine goesL_ (some 58) rfl rfl Tryd.func13 (by kernel_rfl) rfl #[.agg #[.int .u32 a0_0, .int .u16 a0_1]] rfl (by (try simp only [List.map_toArray, List.map_cons, List.map_nil]); first | done | rfl | (simp only [List.length_drop, List.length_take]; rfl)) ?_; (with_reducible refine (addr_Addr_Put.calls a0_0 a0_1 t203 _ A18.out).mono ?_); rintro e w77 ⟨rfl, hb⟩; refine ⟨_, rfl, ?_⟩; have n0_ := Aside0.mk (Kd.R_below (by (with_reducible repeat (first | apply Kd.R_alloc | apply Kd.R_drewN | apply Kd.R_drew)); exact (Kd.R_mono (Kd.R_far (p := ⟨gb202, 1, none⟩) (Kd.R_far (p := ⟨gb202, 0, none⟩) (Kd.R_types HO188.out BK202.out (by decide)) (fun _ hk => hk.2) (.int .u32 t199)) (fun _ hk => hk.2) (.int .u16 t200)) (fun _ h_ => h_.1))) hb); have n1_ := Aside0.mk (blk_below (g := gb173) (o := .cells #[.int .u32 a0_0, .int .u16 a0_1] 25 (0, 0)) (by (with_reducible repeat (first | refine blk_drewN ?_ _ | refine blk_drew ?_ | refine blk_alloc ?_ _)); refine blk_far ?_ NB173_202.out _; (with_reducible repeat (first | refine blk_drewN ?_ _ | refine blk_drew ?_ | refine blk_alloc ?_ _)); refine blk_far ?_ NB173_202.out _; (with_reducible repeat (first | refine blk_drewN ?_ _ | refine blk_drew ?_ | refine blk_alloc ?_ _)); exact BK173.out) hb); have n2_ := Aside0.mk (blk_below (g := gb179) (o := .cells #[.int .u32 t176, .int .u16 t177] 25 (0, 0)) (by (with_reducible repeat (first | refine blk_drewN ?_ _ | refine blk_drew ?_ | refine blk_alloc ?_ _)); refine blk_far ?_ NB179_202.out _; (with_reducible repeat (first | refine blk_drewN ?_ _ | refine blk_drew ?_ | refine blk_alloc ?_ _)); refine blk_far ?_ NB179_202.out _; (with_reducible repeat (first | refine blk_drewN ?_ _ | refine blk_drew ?_ | refine blk_alloc ?_ _)); exact BK179.out) hb); have n3_ := Aside0.mk (blk_below (g := gb184) (o := .cells #[.int .u32 t181, .int .u16 t182] 25 (0, 0)) (by (with_reducible repeat (first | refine blk_drewN ?_ _ | refine blk_drew ?_ | refine blk_alloc ?_ _)); refine blk_far ?_ NB184_202.out _; (with_reducible repeat (first | refine blk_drewN ?_ _ | refine blk_drew ?_ | refine blk_alloc ?_ _)); refine blk_far ?_ NB184_202.out _; (with_reducible repeat (first | refine blk_drewN ?_ _ | refine blk_drew ?_ | refine blk_alloc ?_ _)); exact BK184.out) hb); have n4_ := Aside0.mk (blk_below (g := gb192) (o := .cells #[.int .u32 t189, .int .u16 t190] 25 (0, 0)) (by (with_reducible repeat (first | refine blk_drewN ?_ _ | refine blk_drew ?_ | refine blk_alloc ?_ _)); refine blk_far ?_ NB192_202.out _; (with_reducible repeat (first | refine blk_drewN ?_ _ | refine blk_drew ?_ | refine blk_alloc ?_ _)); refine blk_far ?_ NB192_202.out _; (with_reducible repeat (first | refine blk_drewN ?_ _ | refine blk_drew ?_ | refine blk_alloc ?_ _)); exact BK192.out) hb); have n5_ := Aside0.mk (blk_below (g := gb197) (o := .cells #[.int .u32 t194, .int .u16 t195] 25 (0, 0)) (by (with_reducible repeat (first | refine blk_drewN ?_ _ | refine blk_drew ?_ | refine blk_alloc ?_ _)); refine blk_far ?_ NB197_202.out _; (with_reducible repeat (first | refine blk_drewN ?_ _ | refine blk_drew ?_ | refine blk_alloc ?_ _)); refine blk_far ?_ NB197_202.out _; (with_reducible repeat (first | refine blk_drewN ?_ _ | refine blk_drew ?_ | refine blk_alloc ?_ _)); exact BK197.out) hb); have n6_ := Aside0.mk (blk_below (g := gb202) (o := .cells #[.int .u32 t199, .int .u16 t200] 25 (0, 0)) (by (with_reducible repeat (first | refine blk_drewN ?_ _ | refine blk_drew ?_ | refine blk_alloc ?_ _)); refine blk_put (cs := #[.int .u32 t199, .int .u16 0]) ?_ 1 _ rfl; (with_reducible repeat (first | refine blk_drewN ?_ _ | refine blk_drew ?_ | refine blk_alloc ?_ _)); refine blk_put (cs := #[.int .u32 0, .int .u16 0]) ?_ 0 _ rfl; (with_reducible repeat (first | refine blk_drewN ?_ _ | refine blk_drew ?_ | refine blk_alloc ?_ _)); exact BK202.out) hb); have n7_ := Aside0.mk (below_step (by repeat (first | (with_reducible first | exact HB.out | apply below_alloc | apply pw_below_drewN | apply below_drew1 | refine below_set ?_ GE173.out | refine below_set ?_ GE179.out | refine below_set ?_ GE184.out | refine below_set ?_ GE192.out | refine below_set ?_ GE197.out | refine below_set ?_ GE202.out) | exact HB.out)) hb); clear HO188; clear BK173; clear BK179; clear BK184; clear BK192; clear BK197; clear BK202; clear HB; have HO188 := n0_; have BK173 := n1_; have BK179 := n2_; have BK184 := n3_; have BK192 := n4_; have BK197 := n5_; have BK202 := n6_; have HB := n7_; clear n0_ n1_ n2_ n3_ n4_ n5_ n6_ n7_; (try clear hb); (try clear hb2); (try clear hk); (try clear hi); have hcz78_0 : w77.cell? ⟨gb173, 0, none⟩ = some (.int .u32 a0_0) := (blk_cell BK173.out 0).trans rfl; have hcz78_1 : w77.cell? ⟨gb173, 1, none⟩ = some (.int .u16 a0_1) := (blk_cell BK173.out 1).trans rfl; have hfz78_0 := blk_frozen BK173.out 0; have hfz78_1 := blk_frozen BK173.out 1) | ((with_reducible refine gate_callee (f := 13) rfl ?_); refine goesL_ (some 63) rfl rfl Tryd.func13 (by kernel_rfl) rfl #[.agg #[.int .u32 a0_0, .int .u16 a0_1]] rfl (by (try simp only [List.map_toArray, List.map_cons, List.map_nil]); first | done | rfl | (simp only [List.length_drop, List.length_take]; rfl)) ?_; (with_reducible refine (addr_Addr_Put.calls a0_0 a0_1 t204 _ A20.out).mono ?_); rintro e w79 ⟨rfl, hb⟩; refine ⟨_, rfl, ?_⟩; have n0_ := Aside0.mk (Kd.R_below (by (with_reducible repeat (first | apply Kd.R_alloc | apply Kd.R_drewN | apply Kd.R_drew)); exact HO188.out) hb); have n1_ := Aside0.mk (blk_below (g := gb173) (o := .cells #[.int .u32 a0_0, .int .u16 a0_1] 25 (0, 0)) (by (with_reducible repeat (first | refine blk_drewN ?_ _ | refine blk_drew ?_ | refine blk_alloc ?_ _)); exact BK173.out) hb); have n2_ := Aside0.mk (blk_below (g := gb179) (o := .cells #[.int .u32 t176, .int .u16 t177] 25 (0, 0)) (by (with_reducible repeat (first | refine blk_drewN ?_ _ | refine blk_drew ?_ | refine blk_alloc ?_ _)); exact BK179.out) hb); have n3_ := Aside0.mk (blk_below (g := gb184) (o := .cells #[.int .u32 t181, .int .u16 t182] 25 (0, 0)) (by (with_reducible repeat (first | refine blk_drewN ?_ _ | refine blk_drew ?_ | refine blk_alloc ?_ _)); exact BK184.out) hb); have n4_ := Aside0.mk (blk_below (g := gb192) (o := .cells #[.int .u32 t189, .int .u16 t190] 25 (0, 0)) (by (with_reducible repeat (first | refine blk_drewN ?_ _ | refine blk_drew ?_ | refine blk_alloc ?_ _)); exact BK192.out) hb); have n5_ := Aside0.mk (blk_below (g := gb197) (o := .cells #[.int .u32 t194, .int .u16 t195] 25 (0, 0)) (by (with_reducible repeat (first | refine blk_drewN ?_ _ | refine blk_drew ?_ | refine blk_alloc ?_ _)); exact BK197.out) hb); have n6_ := Aside0.mk (blk_below (g := gb202) (o := .cells #[.int .u32 t199, .int .u16 t200] 25 (0, 0)) (by (with_reducible repeat (first | refine blk_drewN ?_ _ | refine blk_drew ?_ | refine blk_alloc ?_ _)); exact BK202.out) hb); have n7_ := Aside0.mk (below_step (by repeat (first | (with_reducible first | exact HB.out | apply below_alloc | apply pw_below_drewN | apply below_drew1 | refine below_set ?_ GE173.out | refine below_set ?_ GE179.out | refine below_set ?_ GE184.out | refine below_set ?_ GE192.out | refine below_set ?_ GE197.out | refine below_set ?_ GE202.out) | exact HB.out)) hb); clear HO188; clear BK173; clear BK179; clear BK184; clear BK192; clear BK197; clear BK202; clear HB; have HO188 := n0_; have BK173 := n1_; have BK179 := n2_; have BK184 := n3_; have BK192 := n4_; have BK197 := n5_; have BK202 := n6_; have HB := n7_; clear n0_ n1_ n2_ n3_ n4_ n5_ n6_ n7_; (try clear hb); (try clear hb2); (try clear hk); (try clear hi)) | ((with_reducible refine gate_callee (f := 24) rfl ?_); refine goesL_ (some 65) rfl rfl Tryd.func24 (by kernel_rfl) rfl #[.string (t204.extract 1 t204.size)] rfl (by (try simp only [List.map_toArray, List.map_cons, List.map_nil]); first | done | rfl | (simp only [List.length_drop, List.length_take]; rfl)) ?_; (with_reducible refine (addr_Get.calls k (t204.extract 1 t204.size) t205 t206 t207 _ A22.out).mono ?_); rintro e w80 ⟨rfl, hb⟩; refine ⟨_, rfl, ?_⟩; have n0_ := Aside0.mk (Kd.R_below (by (with_reducible repeat (first | apply Kd.R_alloc | apply Kd.R_drewN | apply Kd.R_drew)); exact HO188.out) hb); have n1_ := Aside0.mk (blk_below (g := gb173) (o := .cells #[.int .u32 a0_0, .int .u16 a0_1] 25 (0, 0)) (by (with_reducible repeat (first | refine blk_drewN ?_ _ | refine blk_drew ?_ | refine blk_alloc ?_ _)); exact BK173.out) hb); have n2_ := Aside0.mk (blk_below (g := gb179) (o := .cells #[.int .u32 t176, .int .u16 t177] 25 (0, 0)) (by (with_reducible repeat (first | refine blk_drewN ?_ _ | refine blk_drew ?_ | refine blk_alloc ?_ _)); exact BK179.out) hb); have n3_ := Aside0.mk (blk_below (g := gb184) (o := .cells #[.int .u32 t181, .int .u16 t182] 25 (0, 0)) (by (with_reducible repeat (first | refine blk_drewN ?_ _ | refine blk_drew ?_ | refine blk_alloc ?_ _)); exact BK184.out) hb); have n4_ := Aside0.mk (blk_below (g := gb192) (o := .cells #[.int .u32 t189, .int .u16 t190] 25 (0, 0)) (by (with_reducible repeat (first | refine blk_drewN ?_ _ | refine blk_drew ?_ | refine blk_alloc ?_ _)); exact BK192.out) hb); have n5_ := Aside0.mk (blk_below (g := gb197) (o := .cells #[.int .u32 t194, .int .u16 t195] 25 (0, 0)) (by (with_reducible repeat (first | refine blk_drewN ?_ _ | refine blk_drew ?_ | refine blk_alloc ?_ _)); exact BK197.out) hb); have n6_ := Aside0.mk (blk_below (g := gb202) (o := .cells #[.int .u32 t199, .int .u16 t200] 25 (0, 0)) (by (with_reducible repeat (first | refine blk_drewN ?_ _ | refine blk_drew ?_ | refine blk_alloc ?_ _)); exact BK202.out) hb); have n7_ := Aside0.mk (below_step (by repeat (first | (with_reducible first | exact HB.out | apply below_alloc | apply pw_below_drewN | apply below_drew1 | refine below_set ?_ GE173.out | refine below_set ?_ GE179.out | refine below_set ?_ GE184.out | refine below_set ?_ GE192.out | refine below_set ?_ GE197.out | refine below_set ?_ GE202.out) | exact HB.out)) hb); clear HO188; clear BK173; clear BK179; clear BK184; clear BK192; clear BK197; clear BK202; clear HB; have HO188 := n0_; have BK173 := n1_; have BK179 := n2_; have BK184 := n3_; have BK192 := n4_; have BK197 := n5_; have BK202 := n6_; have HB := n7_; clear n0_ n1_ n2_ n3_ n4_ n5_ n6_ n7_; (try clear hb); (try clear hb2); (try clear hk); (try clear hi)) | ((with_reducible refine gate_dst (N := 16) rfl ?_); refine box_event ?hg (N := 16) ?hd (cs := #[.int .u32 0, .int .u16 0]) (t := 25) ?hr ?_; (case hd => rfl); (case hg => rfl); (case hr => first | (go_simp; done) | (go_simp; rfl)); intro gb208 hg w81 hbox hb; have n0_ := Aside0.mk (Kd.R_below (by (with_reducible repeat (first | apply Kd.R_alloc | apply Kd.R_drewN | apply Kd.R_drew)); exact HO188.out) hb); have n1_ := Aside0.mk (blk_below (g := gb173) (o := .cells #[.int .u32 a0_0, .int .u16 a0_1] 25 (0, 0)) (by (with_reducible repeat (first | refine blk_drewN ?_ _ | refine blk_drew ?_ | refine blk_alloc ?_ _)); exact BK173.out) hb); have n2_ := Aside0.mk (blk_below (g := gb179) (o := .cells #[.int .u32 t176, .int .u16 t177] 25 (0, 0)) (by (with_reducible repeat (first | refine blk_drewN ?_ _ | refine blk_drew ?_ | refine blk_alloc ?_ _)); exact BK179.out) hb); have n3_ := Aside0.mk (blk_below (g := gb184) (o := .cells #[.int .u32 t181, .int .u16 t182] 25 (0, 0)) (by (with_reducible repeat (first | refine blk_drewN ?_ _ | refine blk_drew ?_ | refine blk_alloc ?_ _)); exact BK184.out) hb); have n4_ := Aside0.mk (blk_below (g := gb192) (o := .cells #[.int .u32 t189, .int .u16 t190] 25 (0, 0)) (by (with_reducible repeat (first | refine blk_drewN ?_ _ | refine blk_drew ?_ | refine blk_alloc ?_ _)); exact BK192.out) hb); have n5_ := Aside0.mk (blk_below (g := gb197) (o := .cells #[.int .u32 t194, .int .u16 t195] 25 (0, 0)) (by (with_reducible repeat (first | refine blk_drewN ?_ _ | refine blk_drew ?_ | refine blk_alloc ?_ _)); exact BK197.out) hb); have n6_ := Aside0.mk (blk_below (g := gb202) (o := .cells #[.int .u32 t199, .int .u16 t200] 25 (0, 0)) (by (with_reducible repeat (first | refine blk_drewN ?_ _ | refine blk_drew ?_ | refine blk_alloc ?_ _)); exact BK202.out) hb); have n7_ := Aside0.mk (below_step (by repeat (first | (with_reducible first | exact HB.out | apply below_alloc | apply pw_below_drewN | apply below_drew1 | refine below_set ?_ GE173.out | refine below_set ?_ GE179.out | refine below_set ?_ GE184.out | refine below_set ?_ GE192.out | refine below_set ?_ GE197.out | refine below_set ?_ GE202.out) | exact HB.out)) hb); have n8_ := Aside0.mk (hbox); have n9_ := Aside0.mk ((by rw [hg]; exact (below_size (by repeat (first | (with_reducible first | exact HB.out | apply below_alloc | apply pw_below_drewN | apply below_drew1 | refine below_set ?_ GE173.out | refine below_set ?_ GE179.out | refine below_set ?_ GE184.out | refine below_set ?_ GE192.out | refine below_set ?_ GE197.out | refine below_set ?_ GE202.out) | exact HB.out))) : w.heap.size ≤ gb208)); have n10_ := Aside0.mk ((by rw [hg]; exact (below_size (by repeat (first | (with_reducible first | exact HB.out | apply below_alloc | apply pw_below_drewN | apply below_drew1 | refine below_set ?_ GE173.out | refine below_set ?_ GE179.out | refine below_set ?_ GE184.out | refine below_set ?_ GE192.out | refine below_set ?_ GE197.out | refine below_set ?_ GE202.out) | exact HB.out))) : w.heap.size ≤ gb208)); have n11_ := Aside0.mk ((by rw [hg]; exact Nat.ne_of_lt (blk_lt (g := gb173) (o := .cells #[.int .u32 a0_0, .int .u16 a0_1] 25 (0, 0)) (by (with_reducible repeat (first | refine blk_drewN ?_ _ | refine blk_drew ?_ | refine blk_alloc ?_ _)); exact BK173.out)) : gb173 ≠ gb208)); have n12_ := Aside0.mk ((by rw [hg]; exact Nat.ne_of_gt (blk_lt (g := gb173) (o := .cells #[.int .u32 a0_0, .int .u16 a0_1] 25 (0, 0)) (by (with_reducible repeat (first | refine blk_drewN ?_ _ | refine blk_drew ?_ | refine blk_alloc ?_ _)); exact BK173.out)) : gb208 ≠ gb173)); have n13_ := Aside0.mk ((by rw [hg]; exact Nat.ne_of_lt (blk_lt (g := gb179) (o := .cells #[.int .u32 t176, .int .u16 t177] 25 (0, 0)) (by (with_reducible repeat (first | refine blk_drewN ?_ _ | refine blk_drew ?_ | refine blk_alloc ?_ _)); exact BK179.out)) : gb179 ≠ gb208)); have n14_ := Aside0.mk ((by rw [hg]; exact Nat.ne_of_gt (blk_lt (g := gb179) (o := .cells #[.int .u32 t176, .int .u16 t177] 25 (0, 0)) (by (with_reducible repeat (first | refine blk_drewN ?_ _ | refine blk_drew ?_ | refine blk_alloc ?_ _)); exact BK179.out)) : gb208 ≠ gb179)); have n15_ := Aside0.mk ((by rw [hg]; exact Nat.ne_of_lt (blk_lt (g := gb184) (o := .cells #[.int .u32 t181, .int .u16 t182] 25 (0, 0)) (by (with_reducible repeat (first | refine blk_drewN ?_ _ | refine blk_drew ?_ | refine blk_alloc ?_ _)); exact BK184.out)) : gb184 ≠ gb208)); have n16_ := Aside0.mk ((by rw [hg]; exact Nat.ne_of_gt (blk_lt (g := gb184) (o := .cells #[.int .u32 t181, .int .u16 t182] 25 (0, 0)) (by (with_reducible repeat (first | refine blk_drewN ?_ _ | refine blk_drew ?_ | refine blk_alloc ?_ _)); exact BK184.out)) : gb208 ≠ gb184)); have n17_ := Aside0.mk ((by rw [hg]; exact Nat.ne_of_lt (blk_lt (g := gb192) (o := .cells #[.int .u32 t189, .int .u16 t190] 25 (0, 0)) (by (with_reducible repeat (first | refine blk_drewN ?_ _ | refine blk_drew ?_ | refine blk_alloc ?_ _)); exact BK192.out)) : gb192 ≠ gb208)); have n18_ := Aside0.mk ((by rw [hg]; exact Nat.ne_of_gt (blk_lt (g := gb192) (o := .cells #[.int .u32 t189, .int .u16 t190] 25 (0, 0)) (by (with_reducible repeat (first | refine blk_drewN ?_ _ | refine blk_drew ?_ | refine blk_alloc ?_ _)); exact BK192.out)) : gb208 ≠ gb192)); have n19_ := Aside0.mk ((by rw [hg]; exact Nat.ne_of_lt (blk_lt (g := gb197) (o := .cells #[.int .u32 t194, .int .u16 t195] 25 (0, 0)) (by (with_reducible repeat (first | refine blk_drewN ?_ _ | refine blk_drew ?_ | refine blk_alloc ?_ _)); exact BK197.out)) : gb197 ≠ gb208)); have n20_ := Aside0.mk ((by rw [hg]; exact Nat.ne_of_gt (blk_lt (g := gb197) (o := .cells #[.int .u32 t194, .int .u16 t195] 25 (0, 0)) (by (with_reducible repeat (first | refine blk_drewN ?_ _ | refine blk_drew ?_ | refine blk_alloc ?_ _)); exact BK197.out)) : gb208 ≠ gb197)); have n21_ := Aside0.mk ((by rw [hg]; exact Nat.ne_of_lt (blk_lt (g := gb202) (o := .cells #[.int .u32 t199, .int .u16 t200] 25 (0, 0)) (by (with_reducible repeat (first | refine blk_drewN ?_ _ | refine blk_drew ?_ | refine blk_alloc ?_ _)); exact BK202.out)) : gb202 ≠ gb208)); have n22_ := Aside0.mk ((by rw [hg]; exact Nat.ne_of_gt (blk_lt (g := gb202) (o := .cells #[.int .u32 t199, .int .u16 t200] 25 (0, 0)) (by (with_reducible repeat (first | refine blk_drewN ?_ _ | refine blk_drew ?_ | refine blk_alloc ?_ _)); exact BK202.out)) : gb208 ≠ gb202)); clear HO188; clear BK173; clear BK179; clear BK184; clear BK192; clear BK197; clear BK202; clear HB; have HO188 := n0_; have BK173 := n1_; have BK179 := n2_; have BK184 := n3_; have BK192 := n4_; have BK197 := n5_; have BK202 := n6_; have HB := n7_; have BK208 := n8_; have GW208 := n9_; have GE208 := n10_; have NB173_208 := n11_; have NB208_173 := n12_; have NB179_208 := n13_; have NB208_179 := n14_; have NB184_208 := n15_; have NB208_184 := n16_; have NB192_208 := n17_; have NB208_192 := n18_; have NB197_208 := n19_; have NB208_197 := n20_; have NB202_208 := n21_; have NB208_202 := n22_; clear n0_ n1_ n2_ n3_ n4_ n5_ n6_ n7_ n8_ n9_ n10_ n11_ n12_ n13_ n14_ n15_ n16_ n17_ n18_ n19_ n20_ n21_ n22_; clear hb hbox hg; have hnb82 := NB208_173.out; have hnc82 := NB173_208.out; have hnb83 := NB208_179.out; have hnc83 := NB179_208.out; have hnb84 := NB208_184.out; have hnc84 := NB184_208.out; have hnb85 := NB208_192.out; have hnc85 := NB192_208.out; have hnb86 := NB208_197.out; have hnc86 := NB197_208.out; have hnb87 := NB208_202.out; have hnc87 := NB202_208.out; have hcz88_0 : w81.cell? ⟨gb208, 0, none⟩ = some (.int .u32 0) := (blk_cell BK208.out 0).trans rfl; have hcz88_1 : w81.cell? ⟨gb208, 1, none⟩ = some (.int .u16 0) := (blk_cell BK208.out 1).trans rfl; have hfz88_0 := blk_frozen BK208.out 0; have hfz88_1 := blk_frozen BK208.out 1; have hnb89 := NB179_192.out; have hnc89 := NB192_179.out; have hcz90_0 : w81.cell? ⟨gb179, 0, none⟩ = some (.int .u32 t176) := (blk_cell BK179.out 0).trans rfl; have hcz90_1 : w81.cell? ⟨gb179, 1, none⟩ = some (.int .u16 t177) := (blk_cell BK179.out 1).trans rfl; have hfz90_0 := blk_frozen BK179.out 0; have hfz90_1 := blk_frozen BK179.out 1; have hcz91_0 : w81.cell? ⟨gb173, 0, none⟩ = some (.int .u32 a0_0) := (blk_cell BK173.out 0).trans rfl; have hcz91_1 : w81.cell? ⟨gb173, 1, none⟩ = some (.int .u16 a0_1) := (blk_cell BK173.out 1).trans rfl; have hfz91_0 := blk_frozen BK173.out 0; have hfz91_1 := blk_frozen BK173.out 1; have hnb92 := NB184_192.out; have hnc92 := NB192_184.out; have hcz93_0 : w81.cell? ⟨gb184, 0, none⟩ = some (.int .u32 t181) := (blk_cell BK184.out 0).trans rfl; have hcz93_1 : w81.cell? ⟨gb184, 1, none⟩ = some (.int .u16 t182) := (blk_cell BK184.out 1).trans rfl; have hfz93_0 := blk_frozen BK184.out 0; have hfz93_1 := blk_frozen BK184.out 1))
                            go_ret
                            exact ⟨by first | rfl | (simp only [Go.Proofs.YtjlpfmiipicnoaaDoorX.ne_nil, Go.Proofs.YtjlpfmiipicnoaaDoorX.eq_nil]; rfl) | (simp [Go.Proofs.YtjlpfmiipicnoaaDoorX.ne_nil, Go.Proofs.YtjlpfmiipicnoaaDoorX.eq_nil]; done) | (simp [errW_none, errW_some] <;> rfl) | (simp [*, errW_none, errW_some] <;> rfl), by repeat (first | (with_reducible first | exact HB.out | apply below_alloc | apply pw_below_drewN | apply below_drew1 | refine below_set ?_ GE173.out | refine below_set ?_ GE179.out | refine below_set ?_ GE184.out | refine below_set ?_ GE192.out | refine below_set ?_ GE197.out | refine below_set ?_ GE202.out | refine below_set ?_ GE208.out) | exact HB.out)⟩
                    · (first | rw [if_neg c26] at H | exact absurd rfl c26)
                      exact absurd H (by simp)
                  · replace c25 := Bool.eq_false_iff.mpr c25
                    (first | subst c25 | clear c25)
                    have H1 : (none) = some r := by rw [if_neg (show ¬ (false = true) by decide)] at H; exact H
                    clear H
                    have H := H1
                    clear H1
                    exact absurd H (by simp)
                · (first | rw [if_neg c24] at H | exact absurd rfl c24)
                  exact absurd H (by simp)
              · replace c23 := Bool.eq_false_iff.mpr c23
                (first | subst c23 | clear c23)
                have H1 : (none) = some r := by rw [if_neg (show ¬ (false = true) by decide)] at H; exact H
                clear H
                have H := H1
                clear H1
                exact absurd H (by simp)
            · (first | rw [if_neg c21] at H | exact absurd rfl c21)
              exact absurd H (by simp)
          · (first | rw [if_neg c19] at H | exact absurd rfl c19)
            exact absurd H (by simp)
        · (first | rw [if_neg c16] at H | exact absurd rfl c16)
          exact absurd H (by simp)
      · (first | rw [if_neg c13] at H | exact absurd rfl c13)
        exact absurd H (by simp)
    · (first | rw [if_neg c10] at H | exact absurd rfl c10)
      exact absurd H (by simp)
  · replace c4 := Bool.eq_false_iff.mpr c4
    (first | subst c4 | clear c4)
    have H1 : (none) = some r := by rw [if_neg (show ¬ (false = true) by decide)] at H; exact H
    clear H
    have H := H1
    clear H1
    exact absurd H (by simp)

/-- THE ONE PURE STATEMENT of scuttlebuttlaw03_AddrBack: yours. -/
def scuttlebuttlaw03_AddrBack.Pure : Prop := ∀ (a0_0 : Int) (a0_1 : Int) (a1 : Int), (Lit.int .u32 a0_0).wf = true → (Lit.int .u16 a0_1).wf = true → (Lit.int .u8 a1).wf = true → ∃ k, scuttlebuttlaw03_AddrBack.f k a0_0 a0_1 a1 = some true
theorem scuttlebuttlaw03_AddrBack.walk (P : scuttlebuttlaw03_AddrBack.Pure) (a0_0 : Int) (a0_1 : Int) (a1 : Int) (w : World) (w0_0 : (Lit.int .u32 a0_0).wf = true) (w0_1 : (Lit.int .u16 a0_1).wf = true) (w1 : (Lit.int .u8 a1).wf = true) (htab : Aside0 (IT.TabP w)) :
    Calls Tryd.prog 5 #[.agg #[.int .u32 a0_0, .int .u16 a0_1], .int .u8 a1] w fun e w' => e = .returned (.bool true) ∧ Below w.heap.size w w' := by
  obtain ⟨k, h⟩ := P a0_0 a0_1 a1 w0_0 w0_1 w1
  refine (scuttlebuttlaw03_AddrBack.calls k a0_0 a0_1 a1 true w h htab).mono ?_
  rintro e w' ⟨rfl, hd⟩
  exact ⟨rfl, hd⟩

end Go.Proofs.YtjlpfmiipicnoaaDoor.PA
