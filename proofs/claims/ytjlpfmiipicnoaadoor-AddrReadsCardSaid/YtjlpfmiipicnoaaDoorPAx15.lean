/- Written by xprint.py, a program of this session: Go functions that the laws reach, each as a plain Lean function, and the proof that the Go code comes to what it says. No condition but those that each theorem names. -/
import Derived.Test.YtjlpfmiipicnoaaDoorItoa
import Derived.Test.YtjlpfmiipicnoaaDoorPAx0
import Derived.Test.YtjlpfmiipicnoaaDoorPAx2
import Derived.Test.YtjlpfmiipicnoaaDoorPAx7
import Derived.Test.YtjlpfmiipicnoaaDoorPAx8
import Derived.Test.YtjlpfmiipicnoaaDoorPAx9
import Derived.Test.YtjlpfmiipicnoaaDoorPAx10
import Derived.Test.YtjlpfmiipicnoaaDoorPAx11
import Derived.Test.YtjlpfmiipicnoaaDoorPAx12
import Derived.Test.YtjlpfmiipicnoaaDoorPAx14
import Derived.WalkSpells
import Derived.WalkLawsBesides
import Derived.Laws.IdiomStrings
import Derived.Laws.BytesArg
import Derived.Test.YtjlpfmiipicnoaaDoorXAux
namespace Go.Proofs.YtjlpfmiipicnoaaDoor.PA
open Go.RowKit Go.Proofs.YtjlpfmiipicnoaaDoorW.PrintWords Go.Proofs.YtjlpfmiipicnoaaDoorW.PrintLast Go.Proofs.YtjlpfmiipicnoaaDoorW.PrintMore
attribute [local go_sem] max2_int min2_int max_two min_two max_three min_three max_four min_four   -- for this text's walks alone
set_option linter.unusedVariables false
set_option linter.unusedSimpArgs false

attribute [local go_sem high] eqA27
/-! ### law03_AddrReads: function 4 -/
def law03_AddrReads.j0 : Nat → ByteArray → ByteArray → Option (Bool)
 | 0, _, _ => none
 | k + 1, x1, x5 => (addr_Read.f k x1).bind fun bt227 => ((ref03_Read.f k x1).bind fun bt231 => ((addr_Get.f k x5).bind fun bt235 => ((ref03_Get.f k x5).bind fun bt239 => ((law03_ref.f bt227.1 bt227.2.1).bind fun bt243 => (if (bt243.1 == bt231.1 && (bt243.2 == bt231.2.1)) = true then (if (bt227.2.2 == bt231.2.2) = true then ((law03_ref.f bt235.1 bt235.2.1).bind fun bt245 => (if (bt245.1 == bt239.1 && (bt245.2 == bt239.2.1)) = true then (some (bt235.2.2 == bt239.2.2)) else (none))) else (none)) else (none))))))
def law03_AddrReads.f (k : Nat) (a0_0 : Int) (a0_1 : Int) (a1 : ByteArray) (a2 : Int) (a3 : Int) (a4 : Int) (a5 : ByteArray) : Option (Bool) := (law03_examples.f k).bind fun t219 => (if t219 = true then ((law03_ref.f a0_0 a0_1).bind fun bt220 => ((ref03_Addr_Text.f k bt220.1 bt220.2).bind fun t222 => (if (Int.tmod a2 4) = 1 then ((law03_bend.f t222 a3 a4).bind fun t223 => (law03_AddrReads.j0 k t223 a5)) else (if (Int.tmod a2 4) = 2 then (if (IntKind.u64.wrap (wrap64 ((t222.size : Int) + 1))) = 0 then (none) else (if 0 ≤ (wrap64 (Int.tmod (IntKind.u64.wrap (a3)) (IntKind.u64.wrap (wrap64 ((t222.size : Int) + 1))))) then (if (wrap64 (Int.tmod (IntKind.u64.wrap (a3)) (IntKind.u64.wrap (wrap64 ((t222.size : Int) + 1))))) ≤ (t222.size : Int) then (if 0 ≤ (Int.tmod a4 16) then (if (Int.tmod a4 16) < 16 then ((some (([bt (⟨#[48, 49, 50, 51, 52, 53, 54, 55, 56, 57, 46, 58, 45, 43, 32, 120]⟩ : ByteArray) (Int.tmod a4 16)] : List Int) : List Int)).bind fun y224 => (if (t222.extract 0 ((wrap64 (Int.tmod (IntKind.u64.wrap (a3)) (IntKind.u64.wrap (wrap64 ((t222.size : Int) + 1))))) : Int).toNat).size + (strOfNums y224).size ≤ 9223372036854775807 then (if ((t222.extract 0 ((wrap64 (Int.tmod (IntKind.u64.wrap (a3)) (IntKind.u64.wrap (wrap64 ((t222.size : Int) + 1))))) : Int).toNat) ++ (strOfNums y224)).size + (t222.extract ((wrap64 (Int.tmod (IntKind.u64.wrap (a3)) (IntKind.u64.wrap (wrap64 ((t222.size : Int) + 1))))) : Int).toNat t222.size).size ≤ 9223372036854775807 then (law03_AddrReads.j0 k (((t222.extract 0 ((wrap64 (Int.tmod (IntKind.u64.wrap (a3)) (IntKind.u64.wrap (wrap64 ((t222.size : Int) + 1))))) : Int).toNat) ++ (strOfNums y224)) ++ (t222.extract ((wrap64 (Int.tmod (IntKind.u64.wrap (a3)) (IntKind.u64.wrap (wrap64 ((t222.size : Int) + 1))))) : Int).toNat t222.size)) a5) else (none)) else (none))) else (none)) else (none)) else (none)) else (none))) else (if (Int.tmod a2 4) = 3 then (if (IntKind.u64.wrap ((t222.size : Int))) = 0 then (none) else (if 0 ≤ (wrap64 (Int.tmod (IntKind.u64.wrap (a3)) (IntKind.u64.wrap ((t222.size : Int))))) then (if (wrap64 (Int.tmod (IntKind.u64.wrap (a3)) (IntKind.u64.wrap ((t222.size : Int))))) ≤ (t222.size : Int) then (if 0 ≤ (wrap64 ((wrap64 (Int.tmod (IntKind.u64.wrap (a3)) (IntKind.u64.wrap ((t222.size : Int))))) + 1)) then (if (wrap64 ((wrap64 (Int.tmod (IntKind.u64.wrap (a3)) (IntKind.u64.wrap ((t222.size : Int))))) + 1)) ≤ (t222.size : Int) then (if (t222.extract 0 ((wrap64 (Int.tmod (IntKind.u64.wrap (a3)) (IntKind.u64.wrap ((t222.size : Int))))) : Int).toNat).size + (t222.extract ((wrap64 ((wrap64 (Int.tmod (IntKind.u64.wrap (a3)) (IntKind.u64.wrap ((t222.size : Int))))) + 1)) : Int).toNat t222.size).size ≤ 9223372036854775807 then (law03_AddrReads.j0 k ((t222.extract 0 ((wrap64 (Int.tmod (IntKind.u64.wrap (a3)) (IntKind.u64.wrap ((t222.size : Int))))) : Int).toNat) ++ (t222.extract ((wrap64 ((wrap64 (Int.tmod (IntKind.u64.wrap (a3)) (IntKind.u64.wrap ((t222.size : Int))))) + 1)) : Int).toNat t222.size)) a5) else (none)) else (none)) else (none)) else (none)) else (none))) else (law03_AddrReads.j0 k a1 a5)))))) else (none))
theorem law03_AddrReads.mono_l : ∀ k, (∀ y0 y1, LeO (law03_AddrReads.j0 k y0 y1) (law03_AddrReads.j0 (k + 1) y0 y1))
 | 0 => fun _ _ r h => by simp [law03_AddrReads.j0] at h
 | k + 1 => by
  have ih0 := law03_AddrReads.mono_l k
  ·intro y0 y1
   unfold law03_AddrReads.j0
   repeat' first
   | (with_reducible exact ih0 _ _)
   | (with_reducible exact addr_Get.mono _ _)
   | (with_reducible exact addr_Read.mono _ _)
   | (with_reducible exact law03_examples.mono _)
   | (with_reducible exact ref03_Addr_Text.mono _ _ _)
   | (with_reducible exact ref03_Get.mono _ _)
   | (with_reducible exact ref03_Read.mono _ _)
   | (with_reducible exact LeO.refl _)
   | (with_reducible exact LeO.none _)
   | (with_reducible refine LeO.ite ?_ ?_)
   | (with_reducible refine LeO.bind ?_ (fun _ => ?_))
   | exact ih0 _ _
   | exact addr_Get.mono _ _
   | exact addr_Read.mono _ _
   | exact law03_examples.mono _
   | exact ref03_Addr_Text.mono _ _ _
   | exact ref03_Get.mono _ _
   | exact ref03_Read.mono _ _
   | exact LeO.none _
   | refine LeO.ite ?_ ?_
   | refine LeO.bind ?_ (fun _ => ?_)
theorem law03_AddrReads.mono : ∀ a0 a1 a2 a3 a4 a5 a6 k, LeO (law03_AddrReads.f k a0 a1 a2 a3 a4 a5 a6) (law03_AddrReads.f (k + 1) a0 a1 a2 a3 a4 a5 a6) := by
 intro a0 a1 a2 a3 a4 a5 a6 k
 have ih0 := law03_AddrReads.mono_l k
 unfold law03_AddrReads.f
 repeat' first
   | (with_reducible exact ih0 _ _)
   | (with_reducible exact addr_Get.mono _ _)
   | (with_reducible exact addr_Read.mono _ _)
   | (with_reducible exact law03_examples.mono _)
   | (with_reducible exact ref03_Addr_Text.mono _ _ _)
   | (with_reducible exact ref03_Get.mono _ _)
   | (with_reducible exact ref03_Read.mono _ _)
   | (with_reducible exact LeO.refl _)
   | (with_reducible exact LeO.none _)
   | (with_reducible refine LeO.ite ?_ ?_)
   | (with_reducible refine LeO.bind ?_ (fun _ => ?_))
   | exact ih0 _ _
   | exact addr_Get.mono _ _
   | exact addr_Read.mono _ _
   | exact law03_examples.mono _
   | exact ref03_Addr_Text.mono _ _ _
   | exact ref03_Get.mono _ _
   | exact ref03_Read.mono _ _
   | exact LeO.none _
   | refine LeO.ite ?_ ?_
   | refine LeO.bind ?_ (fun _ => ?_)
def law03_AddrReads.T10 : Bool × List (List Nat × List Nat) := (true, [([], []), ([], []), ([0, 1], [0, 1]), ([], []), ([3], [3]), ([4], [4]), ([5], [5]), ([6], [6]), ([2, 7], [2, 7]), ([], []), ([], []), ([9, 10], [9, 10]), ([8, 11], [8, 11]), ([12, 0, 1, 2, 3, 4, 5, 6, 7, 8, 9, 10, 11, 12], [12])])
def law03_AddrReads.B10 : List Nat := [0, 0, 3, 0, 8, 24, 56, 120, 255, 0, 0, 1536, 4095, 8191]
theorem law03_AddrReads.tab10 : rtab .any (opsOf Tryd.f4 10) = law03_AddrReads.T10 := by kernel_rfl
theorem law03_AddrReads.bits10 : waitsOk law03_AddrReads.T10.2 law03_AddrReads.B10 = true := by kernel_rfl
def law03_AddrReads.T13 : Bool × List (List Nat × List Nat) := (true, [([], []), ([], []), ([0, 1], [0, 1]), ([], []), ([], []), ([4], [4]), ([3, 5], [3, 5]), ([2, 6], [2, 6]), ([7, 0, 1, 2, 3, 4, 5, 6, 7], [7])])
def law03_AddrReads.B13 : List Nat := [0, 0, 3, 0, 0, 16, 56, 127, 255]
theorem law03_AddrReads.tab13 : rtab .any (opsOf Tryd.f4 13) = law03_AddrReads.T13 := by kernel_rfl
theorem law03_AddrReads.bits13 : waitsOk law03_AddrReads.T13.2 law03_AddrReads.B13 = true := by kernel_rfl
def law03_AddrReads.T18 : Bool × List (List Nat × List Nat) := (true, [([], []), ([0], [0]), ([1], [1]), ([2, 1, 1], [1, 2]), ([1], [1]), ([3, 4, 1], [1, 3, 4]), ([1, 5], [1, 5]), ([6, 3], [6]), ([7], [7]), ([7], [7]), ([8, 9, 7], [7, 8, 9]), ([7, 10], [7, 10]), ([11, 7], [11]), ([12], [12]), ([13, 12, 12], [12, 13]), ([12], [12]), ([14, 15, 12], [12, 14, 15]), ([12, 16], [12, 16]), ([17, 14], [17]), ([18], [18]), ([18], [18]), ([19, 20, 18], [18, 19, 20]), ([18, 21], [18, 21]), ([22, 18, 0, 1, 2, 3, 4, 5, 6, 7, 8, 9, 10, 11, 12, 13, 14, 15, 16, 17, 18, 19, 20, 21, 22], [22])])
def law03_AddrReads.B18 : List Nat := [0, 1, 3, 7, 3, 31, 63, 127, 255, 255, 1023, 2047, 4095, 8191, 16383, 8191, 65535, 131071, 262143, 524287, 524287, 2097151, 4194303, 8388607]
theorem law03_AddrReads.tab18 : rtab .any (opsOf Tryd.f4 18) = law03_AddrReads.T18 := by kernel_rfl
theorem law03_AddrReads.bits18 : waitsOk law03_AddrReads.T18.2 law03_AddrReads.B18 = true := by kernel_rfl
set_option maxHeartbeats 8000000 in
set_option maxRecDepth 100000 in
theorem law03_AddrReads.calls (k : Nat) (a0_0 : Int) (a0_1 : Int) (a1 : ByteArray) (a2 : Int) (a3 : Int) (a4 : Int) (a5 : ByteArray) (r : Bool) (w : World) (h : law03_AddrReads.f k a0_0 a0_1 a1 a2 a3 a4 a5 = some r) (htab : Aside0 (IT.TabP w)) :
  Calls Tryd.prog 4 #[.agg #[.int .u32 a0_0, .int .u16 a0_1], .string a1, .int .u8 a2, .int .i64 a3, .int .u8 a4, .string a5] w fun e w' => e = .returned (.bool r) ∧ Below w.heap.size w w' := by
 have hu25 := Tryd.underlying25
 have hu27 := Tryd.underlying27
 have HB := Aside0.mk (Below.refl w.heap.size w)
 have H : ((law03_examples.f k).bind fun t219 => (if t219 = true then ((law03_ref.f a0_0 a0_1).bind fun bt220 => ((ref03_Addr_Text.f k bt220.1 bt220.2).bind fun t222 => (if (Int.tmod a2 4) = 1 then ((law03_bend.f t222 a3 a4).bind fun t223 => (law03_AddrReads.j0 k t223 a5)) else (if (Int.tmod a2 4) = 2 then (if (IntKind.u64.wrap (wrap64 ((t222.size : Int) + 1))) = 0 then (none) else (if 0 ≤ (wrap64 (Int.tmod (IntKind.u64.wrap (a3)) (IntKind.u64.wrap (wrap64 ((t222.size : Int) + 1))))) then (if (wrap64 (Int.tmod (IntKind.u64.wrap (a3)) (IntKind.u64.wrap (wrap64 ((t222.size : Int) + 1))))) ≤ (t222.size : Int) then (if 0 ≤ (Int.tmod a4 16) then (if (Int.tmod a4 16) < 16 then ((some (([bt (⟨#[48, 49, 50, 51, 52, 53, 54, 55, 56, 57, 46, 58, 45, 43, 32, 120]⟩ : ByteArray) (Int.tmod a4 16)] : List Int) : List Int)).bind fun y224 => (if (t222.extract 0 ((wrap64 (Int.tmod (IntKind.u64.wrap (a3)) (IntKind.u64.wrap (wrap64 ((t222.size : Int) + 1))))) : Int).toNat).size + (strOfNums y224).size ≤ 9223372036854775807 then (if ((t222.extract 0 ((wrap64 (Int.tmod (IntKind.u64.wrap (a3)) (IntKind.u64.wrap (wrap64 ((t222.size : Int) + 1))))) : Int).toNat) ++ (strOfNums y224)).size + (t222.extract ((wrap64 (Int.tmod (IntKind.u64.wrap (a3)) (IntKind.u64.wrap (wrap64 ((t222.size : Int) + 1))))) : Int).toNat t222.size).size ≤ 9223372036854775807 then (law03_AddrReads.j0 k (((t222.extract 0 ((wrap64 (Int.tmod (IntKind.u64.wrap (a3)) (IntKind.u64.wrap (wrap64 ((t222.size : Int) + 1))))) : Int).toNat) ++ (strOfNums y224)) ++ (t222.extract ((wrap64 (Int.tmod (IntKind.u64.wrap (a3)) (IntKind.u64.wrap (wrap64 ((t222.size : Int) + 1))))) : Int).toNat t222.size)) a5) else (none)) else (none))) else (none)) else (none)) else (none)) else (none))) else (if (Int.tmod a2 4) = 3 then (if (IntKind.u64.wrap ((t222.size : Int))) = 0 then (none) else (if 0 ≤ (wrap64 (Int.tmod (IntKind.u64.wrap (a3)) (IntKind.u64.wrap ((t222.size : Int))))) then (if (wrap64 (Int.tmod (IntKind.u64.wrap (a3)) (IntKind.u64.wrap ((t222.size : Int))))) ≤ (t222.size : Int) then (if 0 ≤ (wrap64 ((wrap64 (Int.tmod (IntKind.u64.wrap (a3)) (IntKind.u64.wrap ((t222.size : Int))))) + 1)) then (if (wrap64 ((wrap64 (Int.tmod (IntKind.u64.wrap (a3)) (IntKind.u64.wrap ((t222.size : Int))))) + 1)) ≤ (t222.size : Int) then (if (t222.extract 0 ((wrap64 (Int.tmod (IntKind.u64.wrap (a3)) (IntKind.u64.wrap ((t222.size : Int))))) : Int).toNat).size + (t222.extract ((wrap64 ((wrap64 (Int.tmod (IntKind.u64.wrap (a3)) (IntKind.u64.wrap ((t222.size : Int))))) + 1)) : Int).toNat t222.size).size ≤ 9223372036854775807 then (law03_AddrReads.j0 k ((t222.extract 0 ((wrap64 (Int.tmod (IntKind.u64.wrap (a3)) (IntKind.u64.wrap ((t222.size : Int))))) : Int).toNat) ++ (t222.extract ((wrap64 ((wrap64 (Int.tmod (IntKind.u64.wrap (a3)) (IntKind.u64.wrap ((t222.size : Int))))) + 1)) : Int).toNat t222.size)) a5) else (none)) else (none)) else (none)) else (none)) else (none))) else (law03_AddrReads.j0 k a1 a5)))))) else (none))) = some r := h
 clear h
 replace H := Option.bind_eq_some_iff.mp H
 obtain ⟨t219, A70, H⟩ := H
 replace H : (if t219 = true then ((law03_ref.f a0_0 a0_1).bind fun bt220 => ((ref03_Addr_Text.f k bt220.1 bt220.2).bind fun t222 => (if (Int.tmod a2 4) = 1 then ((law03_bend.f t222 a3 a4).bind fun t223 => (law03_AddrReads.j0 k t223 a5)) else (if (Int.tmod a2 4) = 2 then (if (IntKind.u64.wrap (wrap64 ((t222.size : Int) + 1))) = 0 then (none) else (if 0 ≤ (wrap64 (Int.tmod (IntKind.u64.wrap (a3)) (IntKind.u64.wrap (wrap64 ((t222.size : Int) + 1))))) then (if (wrap64 (Int.tmod (IntKind.u64.wrap (a3)) (IntKind.u64.wrap (wrap64 ((t222.size : Int) + 1))))) ≤ (t222.size : Int) then (if 0 ≤ (Int.tmod a4 16) then (if (Int.tmod a4 16) < 16 then ((some (([bt (⟨#[48, 49, 50, 51, 52, 53, 54, 55, 56, 57, 46, 58, 45, 43, 32, 120]⟩ : ByteArray) (Int.tmod a4 16)] : List Int) : List Int)).bind fun y224 => (if (t222.extract 0 ((wrap64 (Int.tmod (IntKind.u64.wrap (a3)) (IntKind.u64.wrap (wrap64 ((t222.size : Int) + 1))))) : Int).toNat).size + (strOfNums y224).size ≤ 9223372036854775807 then (if ((t222.extract 0 ((wrap64 (Int.tmod (IntKind.u64.wrap (a3)) (IntKind.u64.wrap (wrap64 ((t222.size : Int) + 1))))) : Int).toNat) ++ (strOfNums y224)).size + (t222.extract ((wrap64 (Int.tmod (IntKind.u64.wrap (a3)) (IntKind.u64.wrap (wrap64 ((t222.size : Int) + 1))))) : Int).toNat t222.size).size ≤ 9223372036854775807 then (law03_AddrReads.j0 k (((t222.extract 0 ((wrap64 (Int.tmod (IntKind.u64.wrap (a3)) (IntKind.u64.wrap (wrap64 ((t222.size : Int) + 1))))) : Int).toNat) ++ (strOfNums y224)) ++ (t222.extract ((wrap64 (Int.tmod (IntKind.u64.wrap (a3)) (IntKind.u64.wrap (wrap64 ((t222.size : Int) + 1))))) : Int).toNat t222.size)) a5) else (none)) else (none))) else (none)) else (none)) else (none)) else (none))) else (if (Int.tmod a2 4) = 3 then (if (IntKind.u64.wrap ((t222.size : Int))) = 0 then (none) else (if 0 ≤ (wrap64 (Int.tmod (IntKind.u64.wrap (a3)) (IntKind.u64.wrap ((t222.size : Int))))) then (if (wrap64 (Int.tmod (IntKind.u64.wrap (a3)) (IntKind.u64.wrap ((t222.size : Int))))) ≤ (t222.size : Int) then (if 0 ≤ (wrap64 ((wrap64 (Int.tmod (IntKind.u64.wrap (a3)) (IntKind.u64.wrap ((t222.size : Int))))) + 1)) then (if (wrap64 ((wrap64 (Int.tmod (IntKind.u64.wrap (a3)) (IntKind.u64.wrap ((t222.size : Int))))) + 1)) ≤ (t222.size : Int) then (if (t222.extract 0 ((wrap64 (Int.tmod (IntKind.u64.wrap (a3)) (IntKind.u64.wrap ((t222.size : Int))))) : Int).toNat).size + (t222.extract ((wrap64 ((wrap64 (Int.tmod (IntKind.u64.wrap (a3)) (IntKind.u64.wrap ((t222.size : Int))))) + 1)) : Int).toNat t222.size).size ≤ 9223372036854775807 then (law03_AddrReads.j0 k ((t222.extract 0 ((wrap64 (Int.tmod (IntKind.u64.wrap (a3)) (IntKind.u64.wrap ((t222.size : Int))))) : Int).toNat) ++ (t222.extract ((wrap64 ((wrap64 (Int.tmod (IntKind.u64.wrap (a3)) (IntKind.u64.wrap ((t222.size : Int))))) + 1)) : Int).toNat t222.size)) a5) else (none)) else (none)) else (none)) else (none)) else (none))) else (law03_AddrReads.j0 k a1 a5)))))) else (none)) = some r := H
 have A7 := Aside0.mk A70
 clear A70
 by_cases c8 : t219 = true
 ·(first | subst c8 | clear c8)
  have H1 : ((law03_ref.f a0_0 a0_1).bind fun bt220 => ((ref03_Addr_Text.f k bt220.1 bt220.2).bind fun t222 => (if (Int.tmod a2 4) = 1 then ((law03_bend.f t222 a3 a4).bind fun t223 => (law03_AddrReads.j0 k t223 a5)) else (if (Int.tmod a2 4) = 2 then (if (IntKind.u64.wrap (wrap64 ((t222.size : Int) + 1))) = 0 then (none) else (if 0 ≤ (wrap64 (Int.tmod (IntKind.u64.wrap (a3)) (IntKind.u64.wrap (wrap64 ((t222.size : Int) + 1))))) then (if (wrap64 (Int.tmod (IntKind.u64.wrap (a3)) (IntKind.u64.wrap (wrap64 ((t222.size : Int) + 1))))) ≤ (t222.size : Int) then (if 0 ≤ (Int.tmod a4 16) then (if (Int.tmod a4 16) < 16 then ((some (([bt (⟨#[48, 49, 50, 51, 52, 53, 54, 55, 56, 57, 46, 58, 45, 43, 32, 120]⟩ : ByteArray) (Int.tmod a4 16)] : List Int) : List Int)).bind fun y224 => (if (t222.extract 0 ((wrap64 (Int.tmod (IntKind.u64.wrap (a3)) (IntKind.u64.wrap (wrap64 ((t222.size : Int) + 1))))) : Int).toNat).size + (strOfNums y224).size ≤ 9223372036854775807 then (if ((t222.extract 0 ((wrap64 (Int.tmod (IntKind.u64.wrap (a3)) (IntKind.u64.wrap (wrap64 ((t222.size : Int) + 1))))) : Int).toNat) ++ (strOfNums y224)).size + (t222.extract ((wrap64 (Int.tmod (IntKind.u64.wrap (a3)) (IntKind.u64.wrap (wrap64 ((t222.size : Int) + 1))))) : Int).toNat t222.size).size ≤ 9223372036854775807 then (law03_AddrReads.j0 k (((t222.extract 0 ((wrap64 (Int.tmod (IntKind.u64.wrap (a3)) (IntKind.u64.wrap (wrap64 ((t222.size : Int) + 1))))) : Int).toNat) ++ (strOfNums y224)) ++ (t222.extract ((wrap64 (Int.tmod (IntKind.u64.wrap (a3)) (IntKind.u64.wrap (wrap64 ((t222.size : Int) + 1))))) : Int).toNat t222.size)) a5) else (none)) else (none))) else (none)) else (none)) else (none)) else (none))) else (if (Int.tmod a2 4) = 3 then (if (IntKind.u64.wrap ((t222.size : Int))) = 0 then (none) else (if 0 ≤ (wrap64 (Int.tmod (IntKind.u64.wrap (a3)) (IntKind.u64.wrap ((t222.size : Int))))) then (if (wrap64 (Int.tmod (IntKind.u64.wrap (a3)) (IntKind.u64.wrap ((t222.size : Int))))) ≤ (t222.size : Int) then (if 0 ≤ (wrap64 ((wrap64 (Int.tmod (IntKind.u64.wrap (a3)) (IntKind.u64.wrap ((t222.size : Int))))) + 1)) then (if (wrap64 ((wrap64 (Int.tmod (IntKind.u64.wrap (a3)) (IntKind.u64.wrap ((t222.size : Int))))) + 1)) ≤ (t222.size : Int) then (if (t222.extract 0 ((wrap64 (Int.tmod (IntKind.u64.wrap (a3)) (IntKind.u64.wrap ((t222.size : Int))))) : Int).toNat).size + (t222.extract ((wrap64 ((wrap64 (Int.tmod (IntKind.u64.wrap (a3)) (IntKind.u64.wrap ((t222.size : Int))))) + 1)) : Int).toNat t222.size).size ≤ 9223372036854775807 then (law03_AddrReads.j0 k ((t222.extract 0 ((wrap64 (Int.tmod (IntKind.u64.wrap (a3)) (IntKind.u64.wrap ((t222.size : Int))))) : Int).toNat) ++ (t222.extract ((wrap64 ((wrap64 (Int.tmod (IntKind.u64.wrap (a3)) (IntKind.u64.wrap ((t222.size : Int))))) + 1)) : Int).toNat t222.size)) a5) else (none)) else (none)) else (none)) else (none)) else (none))) else (law03_AddrReads.j0 k a1 a5)))))) = some r := by first | (rw [if_pos rfl] at H; exact H) | (rw [if_pos trivial] at H; exact H)
  clear H
  have H := H1
  clear H1
  replace H := Option.bind_eq_some_iff.mp H
  obtain ⟨⟨t220, t221⟩, A90, H⟩ := H
  replace H : ((ref03_Addr_Text.f k t220 t221).bind fun t222 => (if (Int.tmod a2 4) = 1 then ((law03_bend.f t222 a3 a4).bind fun t223 => (law03_AddrReads.j0 k t223 a5)) else (if (Int.tmod a2 4) = 2 then (if (IntKind.u64.wrap (wrap64 ((t222.size : Int) + 1))) = 0 then (none) else (if 0 ≤ (wrap64 (Int.tmod (IntKind.u64.wrap (a3)) (IntKind.u64.wrap (wrap64 ((t222.size : Int) + 1))))) then (if (wrap64 (Int.tmod (IntKind.u64.wrap (a3)) (IntKind.u64.wrap (wrap64 ((t222.size : Int) + 1))))) ≤ (t222.size : Int) then (if 0 ≤ (Int.tmod a4 16) then (if (Int.tmod a4 16) < 16 then ((some (([bt (⟨#[48, 49, 50, 51, 52, 53, 54, 55, 56, 57, 46, 58, 45, 43, 32, 120]⟩ : ByteArray) (Int.tmod a4 16)] : List Int) : List Int)).bind fun y224 => (if (t222.extract 0 ((wrap64 (Int.tmod (IntKind.u64.wrap (a3)) (IntKind.u64.wrap (wrap64 ((t222.size : Int) + 1))))) : Int).toNat).size + (strOfNums y224).size ≤ 9223372036854775807 then (if ((t222.extract 0 ((wrap64 (Int.tmod (IntKind.u64.wrap (a3)) (IntKind.u64.wrap (wrap64 ((t222.size : Int) + 1))))) : Int).toNat) ++ (strOfNums y224)).size + (t222.extract ((wrap64 (Int.tmod (IntKind.u64.wrap (a3)) (IntKind.u64.wrap (wrap64 ((t222.size : Int) + 1))))) : Int).toNat t222.size).size ≤ 9223372036854775807 then (law03_AddrReads.j0 k (((t222.extract 0 ((wrap64 (Int.tmod (IntKind.u64.wrap (a3)) (IntKind.u64.wrap (wrap64 ((t222.size : Int) + 1))))) : Int).toNat) ++ (strOfNums y224)) ++ (t222.extract ((wrap64 (Int.tmod (IntKind.u64.wrap (a3)) (IntKind.u64.wrap (wrap64 ((t222.size : Int) + 1))))) : Int).toNat t222.size)) a5) else (none)) else (none))) else (none)) else (none)) else (none)) else (none))) else (if (Int.tmod a2 4) = 3 then (if (IntKind.u64.wrap ((t222.size : Int))) = 0 then (none) else (if 0 ≤ (wrap64 (Int.tmod (IntKind.u64.wrap (a3)) (IntKind.u64.wrap ((t222.size : Int))))) then (if (wrap64 (Int.tmod (IntKind.u64.wrap (a3)) (IntKind.u64.wrap ((t222.size : Int))))) ≤ (t222.size : Int) then (if 0 ≤ (wrap64 ((wrap64 (Int.tmod (IntKind.u64.wrap (a3)) (IntKind.u64.wrap ((t222.size : Int))))) + 1)) then (if (wrap64 ((wrap64 (Int.tmod (IntKind.u64.wrap (a3)) (IntKind.u64.wrap ((t222.size : Int))))) + 1)) ≤ (t222.size : Int) then (if (t222.extract 0 ((wrap64 (Int.tmod (IntKind.u64.wrap (a3)) (IntKind.u64.wrap ((t222.size : Int))))) : Int).toNat).size + (t222.extract ((wrap64 ((wrap64 (Int.tmod (IntKind.u64.wrap (a3)) (IntKind.u64.wrap ((t222.size : Int))))) + 1)) : Int).toNat t222.size).size ≤ 9223372036854775807 then (law03_AddrReads.j0 k ((t222.extract 0 ((wrap64 (Int.tmod (IntKind.u64.wrap (a3)) (IntKind.u64.wrap ((t222.size : Int))))) : Int).toNat) ++ (t222.extract ((wrap64 ((wrap64 (Int.tmod (IntKind.u64.wrap (a3)) (IntKind.u64.wrap ((t222.size : Int))))) + 1)) : Int).toNat t222.size)) a5) else (none)) else (none)) else (none)) else (none)) else (none))) else (law03_AddrReads.j0 k a1 a5))))) = some r := H
  have A9 := Aside0.mk A90
  clear A90
  replace H := Option.bind_eq_some_iff.mp H
  obtain ⟨t222, A100, H⟩ := H
  replace H : (if (Int.tmod a2 4) = 1 then ((law03_bend.f t222 a3 a4).bind fun t223 => (law03_AddrReads.j0 k t223 a5)) else (if (Int.tmod a2 4) = 2 then (if (IntKind.u64.wrap (wrap64 ((t222.size : Int) + 1))) = 0 then (none) else (if 0 ≤ (wrap64 (Int.tmod (IntKind.u64.wrap (a3)) (IntKind.u64.wrap (wrap64 ((t222.size : Int) + 1))))) then (if (wrap64 (Int.tmod (IntKind.u64.wrap (a3)) (IntKind.u64.wrap (wrap64 ((t222.size : Int) + 1))))) ≤ (t222.size : Int) then (if 0 ≤ (Int.tmod a4 16) then (if (Int.tmod a4 16) < 16 then ((some (([bt (⟨#[48, 49, 50, 51, 52, 53, 54, 55, 56, 57, 46, 58, 45, 43, 32, 120]⟩ : ByteArray) (Int.tmod a4 16)] : List Int) : List Int)).bind fun y224 => (if (t222.extract 0 ((wrap64 (Int.tmod (IntKind.u64.wrap (a3)) (IntKind.u64.wrap (wrap64 ((t222.size : Int) + 1))))) : Int).toNat).size + (strOfNums y224).size ≤ 9223372036854775807 then (if ((t222.extract 0 ((wrap64 (Int.tmod (IntKind.u64.wrap (a3)) (IntKind.u64.wrap (wrap64 ((t222.size : Int) + 1))))) : Int).toNat) ++ (strOfNums y224)).size + (t222.extract ((wrap64 (Int.tmod (IntKind.u64.wrap (a3)) (IntKind.u64.wrap (wrap64 ((t222.size : Int) + 1))))) : Int).toNat t222.size).size ≤ 9223372036854775807 then (law03_AddrReads.j0 k (((t222.extract 0 ((wrap64 (Int.tmod (IntKind.u64.wrap (a3)) (IntKind.u64.wrap (wrap64 ((t222.size : Int) + 1))))) : Int).toNat) ++ (strOfNums y224)) ++ (t222.extract ((wrap64 (Int.tmod (IntKind.u64.wrap (a3)) (IntKind.u64.wrap (wrap64 ((t222.size : Int) + 1))))) : Int).toNat t222.size)) a5) else (none)) else (none))) else (none)) else (none)) else (none)) else (none))) else (if (Int.tmod a2 4) = 3 then (if (IntKind.u64.wrap ((t222.size : Int))) = 0 then (none) else (if 0 ≤ (wrap64 (Int.tmod (IntKind.u64.wrap (a3)) (IntKind.u64.wrap ((t222.size : Int))))) then (if (wrap64 (Int.tmod (IntKind.u64.wrap (a3)) (IntKind.u64.wrap ((t222.size : Int))))) ≤ (t222.size : Int) then (if 0 ≤ (wrap64 ((wrap64 (Int.tmod (IntKind.u64.wrap (a3)) (IntKind.u64.wrap ((t222.size : Int))))) + 1)) then (if (wrap64 ((wrap64 (Int.tmod (IntKind.u64.wrap (a3)) (IntKind.u64.wrap ((t222.size : Int))))) + 1)) ≤ (t222.size : Int) then (if (t222.extract 0 ((wrap64 (Int.tmod (IntKind.u64.wrap (a3)) (IntKind.u64.wrap ((t222.size : Int))))) : Int).toNat).size + (t222.extract ((wrap64 ((wrap64 (Int.tmod (IntKind.u64.wrap (a3)) (IntKind.u64.wrap ((t222.size : Int))))) + 1)) : Int).toNat t222.size).size ≤ 9223372036854775807 then (law03_AddrReads.j0 k ((t222.extract 0 ((wrap64 (Int.tmod (IntKind.u64.wrap (a3)) (IntKind.u64.wrap ((t222.size : Int))))) : Int).toNat) ++ (t222.extract ((wrap64 ((wrap64 (Int.tmod (IntKind.u64.wrap (a3)) (IntKind.u64.wrap ((t222.size : Int))))) + 1)) : Int).toNat t222.size)) a5) else (none)) else (none)) else (none)) else (none)) else (none))) else (law03_AddrReads.j0 k a1 a5)))) = some r := H
  have A10 := Aside0.mk A100
  clear A100
  have HC11 := Aside0.mk H
  clear H
  go_enter Tryd.func4, Tryd.ntmps4
  go_upto_block 0 with (first | ((with_reducible refine gate_dst (N := 6) rfl ?_); refine box_event ?hg (N := 6) ?hd (cs := #[.int .u32 a0_0, .int .u16 a0_1]) (t := 25) ?hr ?_; (case hd => rfl); (case hg => rfl); (case hr => first | (go_simp; done) | (go_simp; rfl)); intro gb218 hg w12 hbox hb; have n0_ := Aside0.mk (below_step (by repeat (first | (with_reducible first | exact HB.out | apply below_alloc | apply pw_below_drewN | apply below_drew1) | exact HB.out)) hb); have n1_ := Aside0.mk (hbox); have n2_ := Aside0.mk ((by rw [hg]; exact (below_size (by repeat (first | (with_reducible first | exact HB.out | apply below_alloc | apply pw_below_drewN | apply below_drew1) | exact HB.out))) : w.heap.size ≤ gb218)); have n3_ := Aside0.mk ((by rw [hg]; exact (below_size (by repeat (first | (with_reducible first | exact HB.out | apply below_alloc | apply pw_below_drewN | apply below_drew1) | exact HB.out))) : w.heap.size ≤ gb218)); clear HB; have HB := n0_; have BK218 := n1_; have GW218 := n2_; have GE218 := n3_; clear n0_ n1_ n2_ n3_; clear hb hbox hg) | ((with_reducible refine gate_callee (f := 9) rfl ?_); refine goesL_ (some 25) rfl rfl Tryd.func9 (by kernel_rfl) rfl #[] rfl (by (try simp only [List.map_toArray, List.map_cons, List.map_nil]); first | done | rfl | (simp only [List.length_drop, List.length_take]; rfl)) ?_; (with_reducible refine (law03_examples.calls k  true _ A7.out ?htb).mono ?_); (case htb => exact ⟨IT.tab_below htab.out (by repeat (first | (with_reducible first | exact HB.out | apply below_alloc | apply pw_below_drewN | apply below_drew1 | refine below_set ?_ GE218.out) | exact HB.out))⟩); rintro e w13 ⟨rfl, hb⟩; refine ⟨_, rfl, ?_⟩; have n0_ := Aside0.mk (blk_below (g := gb218) (o := .cells #[.int .u32 a0_0, .int .u16 a0_1] 25 (0, 0)) (by (with_reducible repeat (first | refine blk_drewN ?_ _ | refine blk_drew ?_ | refine blk_alloc ?_ _)); exact BK218.out) hb); have n1_ := Aside0.mk (below_step (by repeat (first | (with_reducible first | exact HB.out | apply below_alloc | apply pw_below_drewN | apply below_drew1 | refine below_set ?_ GE218.out) | exact HB.out)) hb); clear BK218; clear HB; have BK218 := n0_; have HB := n1_; clear n0_ n1_; (try clear hb); (try clear hb2); (try clear hk); (try clear hi); have hcz14_0 : w13.cell? ⟨gb218, 0, none⟩ = some (.int .u32 a0_0) := (blk_cell BK218.out 0).trans rfl; have hcz14_1 : w13.cell? ⟨gb218, 1, none⟩ = some (.int .u16 a0_1) := (blk_cell BK218.out 1).trans rfl; have hfz14_0 := blk_frozen BK218.out 0; have hfz14_1 := blk_frozen BK218.out 1) | ((with_reducible refine gate_callee (f := 10) rfl ?_); refine goesL_ (some 29) rfl rfl Tryd.func10 (by kernel_rfl) rfl #[.agg #[.int .u32 a0_0, .int .u16 a0_1]] rfl (by (try simp only [List.map_toArray, List.map_cons, List.map_nil]); first | done | rfl | (simp only [List.length_drop, List.length_take]; rfl)) ?_; (with_reducible refine (law03_ref.calls a0_0 a0_1 t220 t221 _ A9.out).mono ?_); rintro e w15 ⟨rfl, hb⟩; refine ⟨_, rfl, ?_⟩; have n0_ := Aside0.mk (blk_below (g := gb218) (o := .cells #[.int .u32 a0_0, .int .u16 a0_1] 25 (0, 0)) (by (with_reducible repeat (first | refine blk_drewN ?_ _ | refine blk_drew ?_ | refine blk_alloc ?_ _)); exact BK218.out) hb); have n1_ := Aside0.mk (below_step (by repeat (first | (with_reducible first | exact HB.out | apply below_alloc | apply pw_below_drewN | apply below_drew1 | refine below_set ?_ GE218.out) | exact HB.out)) hb); clear BK218; clear HB; have BK218 := n0_; have HB := n1_; clear n0_ n1_; (try clear hb); (try clear hb2); (try clear hk); (try clear hi)) | ((with_reducible refine gate_callee (f := 12) rfl ?_); refine goesL_ (some 30) rfl rfl Tryd.func12 (by kernel_rfl) rfl #[.agg #[.int .u32 t220, .int .u16 t221]] rfl (by (try simp only [List.map_toArray, List.map_cons, List.map_nil]); first | done | rfl | (simp only [List.length_drop, List.length_take]; rfl)) ?_; (with_reducible refine (ref03_Addr_Text.calls k t220 t221 t222 _ A10.out).mono ?_); rintro e w16 ⟨rfl, hb⟩; refine ⟨_, rfl, ?_⟩; have n0_ := Aside0.mk (blk_below (g := gb218) (o := .cells #[.int .u32 a0_0, .int .u16 a0_1] 25 (0, 0)) (by (with_reducible repeat (first | refine blk_drewN ?_ _ | refine blk_drew ?_ | refine blk_alloc ?_ _)); exact BK218.out) hb); have n1_ := Aside0.mk (below_step (by repeat (first | (with_reducible first | exact HB.out | apply below_alloc | apply pw_below_drewN | apply below_drew1 | refine below_set ?_ GE218.out) | exact HB.out)) hb); clear BK218; clear HB; have BK218 := n0_; have HB := n1_; clear n0_ n1_; (try clear hb); (try clear hb2); (try clear hk); (try clear hi)))
  (try simp only [Act.put, List.setIfInBounds_toArray, List.set_cons_zero, List.set_cons_succ])
  go_cut [1] (fun v1 wc => ∃ (kq : Nat) (x1_10 : ByteArray), v1 = .string x1_10 ∧ Aside0 (law03_AddrReads.j0 kq x1_10 a5 = some r) ∧ Aside0 (kq ≤ k) ∧ Aside0 (wc.heap[gb218]? = some (.cells #[.int .u32 a0_0, .int .u16 a0_1] 25 (0, 0))) ∧ Aside0 (Below w.heap.size w wc))
  case first =>
   have H := HC11.out
   clear HC11
   by_cases c17 : (Int.tmod a2 4) = 1
   ·rw [if_pos c17] at H
    have c17b0 : ((Int.tmod a2 4) == 1) = true := beq_iff_eq.mpr c17
    have c17b1 : ((Int.tmod a2 4) != 1) = false := bne_eq_false_iff_eq.mpr c17
    clear c17
    (first | rw [c17b0] | (simp only [i64_w, i32_w]; rw [c17b0]) | skip)
    replace H := Option.bind_eq_some_iff.mp H
    obtain ⟨t223, A180, H⟩ := H
    replace H : (law03_AddrReads.j0 k t223 a5) = some r := H
    have A18 := Aside0.mk A180
    clear A180
    have H' := Aside0.mk H
    clear H
    go_wp2_with (first | ((with_reducible refine gate_callee (f := 21) rfl ?_); refine goesL_ (some 38) rfl rfl Tryd.func21 (by kernel_rfl) rfl #[.string t222, .int .i64 a3, .int .u8 a4] rfl (by (try simp only [List.map_toArray, List.map_cons, List.map_nil]); first | done | rfl | (simp only [List.length_drop, List.length_take]; rfl)) ?_; (with_reducible refine (law03_bend.calls t222 a3 a4 t223 _ A18.out).mono ?_); rintro e w19 ⟨rfl, hb⟩; refine ⟨_, rfl, ?_⟩; have n0_ := Aside0.mk (blk_below (g := gb218) (o := .cells #[.int .u32 a0_0, .int .u16 a0_1] 25 (0, 0)) (by (with_reducible repeat (first | refine blk_drewN ?_ _ | refine blk_drew ?_ | refine blk_alloc ?_ _)); exact BK218.out) hb); have n1_ := Aside0.mk (below_step (by repeat (first | (with_reducible first | exact HB.out | apply below_alloc | apply pw_below_drewN | apply below_drew1 | refine below_set ?_ GE218.out) | exact HB.out)) hb); clear BK218; clear HB; have BK218 := n0_; have HB := n1_; clear n0_ n1_; (try clear hb); (try clear hb2); (try clear hk); (try clear hi)))
    go_meet
    case rel => exact ⟨_, (t223), (by first | rfl | (simp; done) | (simp [*]; done)), H', ⟨by first | omega | exact Nat.le_refl _⟩, ⟨by (with_reducible repeat (first | refine blk_drewN ?_ _ | refine blk_drew ?_ | refine blk_alloc ?_ _)); exact BK218.out⟩, ⟨by repeat (first | (with_reducible first | exact HB.out | apply below_alloc | apply pw_below_drewN | apply below_drew1 | refine below_set ?_ GE218.out) | exact HB.out)⟩⟩
   ·(first | rw [if_neg c17] at H | exact absurd rfl c17)
    have c17b0 : ((Int.tmod a2 4) == 1) = false := beq_eq_false_iff_ne.mpr c17
    have c17b1 : ((Int.tmod a2 4) != 1) = true := bne_iff_ne.mpr c17
    (first | rw [c17b0] | (simp only [i64_w, i32_w]; rw [c17b0]) | skip)
    by_cases c20 : (Int.tmod a2 4) = 2
    ·rw [if_pos c20] at H
     have c20b0 : ((Int.tmod a2 4) == 2) = true := beq_iff_eq.mpr c20
     have c20b1 : ((Int.tmod a2 4) != 2) = false := bne_eq_false_iff_eq.mpr c20
     clear c20
     by_cases c21 : (IntKind.u64.wrap (wrap64 ((t222.size : Int) + 1))) = 0
     ·rw [if_pos c21] at H
      exact absurd H (by simp)
     ·(first | rw [if_neg c21] at H | exact absurd rfl c21)
      have c21b0 : ((IntKind.u64.wrap (wrap64 ((t222.size : Int) + 1))) == 0) = false := beq_eq_false_iff_ne.mpr c21
      have c21b1 : ((IntKind.u64.wrap (wrap64 ((t222.size : Int) + 1))) != 0) = true := bne_iff_ne.mpr c21
      obtain ⟨ji22, hji22⟩ : ∃ j_ : Int, (wrap64 (Int.tmod (IntKind.u64.wrap (a3)) (IntKind.u64.wrap (wrap64 ((t222.size : Int) + 1))))) = j_ := ⟨_, rfl⟩
      replace H : (if 0 ≤ (ji22) then (if (ji22) ≤ (t222.size : Int) then (if 0 ≤ (Int.tmod a4 16) then (if (Int.tmod a4 16) < 16 then ((some (([bt (⟨#[48, 49, 50, 51, 52, 53, 54, 55, 56, 57, 46, 58, 45, 43, 32, 120]⟩ : ByteArray) (Int.tmod a4 16)] : List Int) : List Int)).bind fun y224 => (if (t222.extract 0 ((ji22) : Int).toNat).size + (strOfNums y224).size ≤ 9223372036854775807 then (if ((t222.extract 0 ((ji22) : Int).toNat) ++ (strOfNums y224)).size + (t222.extract ((ji22) : Int).toNat t222.size).size ≤ 9223372036854775807 then (law03_AddrReads.j0 k (((t222.extract 0 ((ji22) : Int).toNat) ++ (strOfNums y224)) ++ (t222.extract ((ji22) : Int).toNat t222.size)) a5) else (none)) else (none))) else (none)) else (none)) else (none)) else (none)) = some r := by first | (rw [hji22] at H; exact H) | (simp only [hji22] at H ⊢; exact H)
      have hji22w : (IntKind.i64.wrap (Int.tmod (IntKind.u64.wrap (a3)) (IntKind.u64.wrap (wrap64 ((t222.size : Int) + 1))))) = ji22 := (i64_w _).trans hji22
      by_cases c23 : 0 ≤ (ji22)
      ·rw [if_pos c23] at H
       have c23b0 := eq_true c23
       have c23b1 : decide (0 ≤ (ji22)) = true := decide_eq_true c23
       clear c23
       by_cases c24 : (ji22) ≤ (t222.size : Int)
       ·rw [if_pos c24] at H
        have c24b0 := eq_true c24
        have c24b1 : decide ((ji22) ≤ (t222.size : Int)) = true := decide_eq_true c24
        clear c24
        obtain ⟨ji25, hji25⟩ : ∃ j_ : Int, (Int.tmod a4 16) = j_ := ⟨_, rfl⟩
        replace H : (if 0 ≤ (ji25) then (if (ji25) < 16 then ((some (([bt (⟨#[48, 49, 50, 51, 52, 53, 54, 55, 56, 57, 46, 58, 45, 43, 32, 120]⟩ : ByteArray) (ji25)] : List Int) : List Int)).bind fun y224 => (if (t222.extract 0 ((ji22) : Int).toNat).size + (strOfNums y224).size ≤ 9223372036854775807 then (if ((t222.extract 0 ((ji22) : Int).toNat) ++ (strOfNums y224)).size + (t222.extract ((ji22) : Int).toNat t222.size).size ≤ 9223372036854775807 then (law03_AddrReads.j0 k (((t222.extract 0 ((ji22) : Int).toNat) ++ (strOfNums y224)) ++ (t222.extract ((ji22) : Int).toNat t222.size)) a5) else (none)) else (none))) else (none)) else (none)) = some r := by first | (rw [hji25] at H; exact H) | (simp only [hji25] at H ⊢; exact H)
        by_cases c26 : 0 ≤ (ji25)
        ·rw [if_pos c26] at H
         have c26b0 : decide (0 ≤ (ji25)) = true := decide_eq_true c26
         clear c26
         by_cases c27 : (ji25) < 16
         ·rw [if_pos c27] at H
          have c27b0 : decide ((ji25) < 16) = true := decide_eq_true c27
          clear c27
          obtain ⟨y224, hy224⟩ : ∃ y_ : List Int, y_ = (([bt (⟨#[48, 49, 50, 51, 52, 53, 54, 55, 56, 57, 46, 58, 45, 43, 32, 120]⟩ : ByteArray) (ji25)] : List Int)) := ⟨_, rfl⟩
          replace H : (if (t222.extract 0 ((ji22) : Int).toNat).size + (strOfNums y224).size ≤ 9223372036854775807 then (if ((t222.extract 0 ((ji22) : Int).toNat) ++ (strOfNums y224)).size + (t222.extract ((ji22) : Int).toNat t222.size).size ≤ 9223372036854775807 then (law03_AddrReads.j0 k (((t222.extract 0 ((ji22) : Int).toNat) ++ (strOfNums y224)) ++ (t222.extract ((ji22) : Int).toNat t222.size)) a5) else (none)) else (none)) = some r := by first | (rw [hy224]; with_reducible exact H) | (have H2_ := (Option.bind_some _ _).symm.trans H; rw [hy224]; with_reducible exact H2_) | (have H2_ := (Option.bind_some _ _).symm.trans H; with_reducible exact H2_) | with_reducible exact H | (rw [hy224]; exact H) | exact H
          have Ny224 := Aside0.mk hy224
          clear hy224
          by_cases c29 : (t222.extract 0 ((ji22) : Int).toNat).size + (strOfNums y224).size ≤ 9223372036854775807
          ·rw [if_pos c29] at H
           have c29b0 := eq_true c29
           have c29b1 : decide ((t222.extract 0 ((ji22) : Int).toNat).size + (strOfNums y224).size ≤ 9223372036854775807) = true := decide_eq_true c29
           try have c29b2 : (9223372036854775807 < (t222.extract 0 ((ji22) : Int).toNat).size + (strOfNums y224).size) = False := eq_false (Nat.not_lt.2 c29)
           try have c29b5 : (9223372036854775807 < ji22.toNat + (strOfNums y224).size) = False := eq_false (by have g0_ : ji22 ≤ (t222.size : Int) := (by first | assumption | exact of_eq_true (by assumption) | exact of_decide_eq_true (by assumption)); have h_ := c29; simp only [ByteArray.size_append, ByteArray.size_extract] at h_; omega)
           have c30b0 := eq_true (of_decide_eq_true (by first | (with_reducible assumption) | assumption) : 0 ≤ (ji22))
           have c31b0 := eq_true (of_decide_eq_true (by first | (with_reducible assumption) | assumption) : (ji22) ≤ (t222.size : Int))
           by_cases c32 : ((t222.extract 0 ((ji22) : Int).toNat) ++ (strOfNums y224)).size + (t222.extract ((ji22) : Int).toNat t222.size).size ≤ 9223372036854775807
           ·rw [if_pos c32] at H
            have c32b0 := eq_true c32
            (try (have c32b0z := c32b0; simp only [ByteArray.size_append, Int.natCast_add] at c32b0z))
            (try (have c32z := c32; simp only [ByteArray.size_append, Int.natCast_add] at c32z))
            have c32b1 : decide (((t222.extract 0 ((ji22) : Int).toNat) ++ (strOfNums y224)).size + (t222.extract ((ji22) : Int).toNat t222.size).size ≤ 9223372036854775807) = true := decide_eq_true c32
            (try (have c32b1z := c32b1; simp only [ByteArray.size_append, Int.natCast_add] at c32b1z))
            try have c32b2 : (9223372036854775807 < ((t222.extract 0 ((ji22) : Int).toNat) ++ (strOfNums y224)).size + (t222.extract ((ji22) : Int).toNat t222.size).size) = False := eq_false (Nat.not_lt.2 c32)
            try have c32b5 : (9223372036854775807 < ji22.toNat + (strOfNums y224).size + (t222.size - ji22.toNat)) = False := eq_false (by have g0_ : ji22 ≤ (t222.size : Int) := (by first | assumption | exact of_eq_true (by assumption) | exact of_decide_eq_true (by assumption)); have h_ := c32; simp only [ByteArray.size_append, ByteArray.size_extract] at h_; omega)
            try have c32b3 : (9223372036854775807 < (t222.extract 0 ((ji22) : Int).toNat).size + (strOfNums y224).size + (t222.extract ((ji22) : Int).toNat t222.size).size) = False := eq_false (by have h_ := c32; simp only [ByteArray.size_append] at h_; omega)
            have H' := Aside0.mk H
            clear H
            try go_wp2
            have n0_ := Aside0.mk (blk_drew BK218.out)
            have n1_ := Aside0.mk (below_drew1 HB.out)
            clear BK218
            clear HB
            have BK218 := n0_
            have HB := n1_
            clear n0_ n1_
            have p28 : 0 ≤ ((ji25) : Int) := of_decide_eq_true (by first | (with_reducible assumption) | assumption)
            have q28 : (ji25) < (16 : Int) := of_decide_eq_true (by first | (with_reducible assumption) | assumption)
            have hx28 := bt_at (⟨#[48, 49, 50, 51, 52, 53, 54, 55, 56, 57, 46, 58, 45, 43, 32, 120]⟩ : ByteArray) (ji25)
            replace p28 := eq_true p28
            replace q28 := eq_true q28
            refine start_ (n := 14) (S := fun w' => True) (ds := []) #[false, false, false, false, false, false, false, false, false, false, false, false, false, false] (by kernel_rfl) rfl rfl trivial (fun hHeld => ?_); refine with_tabW law03_AddrReads.tab10 law03_AddrReads.bits10 (fun HT_ HW_ => ?_)
            generalize w16.drew = w33 at BK218 HB hHeld ⊢
            refine pure_ (i := 0) (N := some 49) (v := ?_) (a' := ?_) #[true, false, false, false, false, false, false, false, false, false, false, false, false, false] rfl rfl (any_of HT_.out (by kernel_rfl)) (fun _ _ _ h => h) (Or.inl ⟨by first | rfl | (simp only [c17b0, c20b0, c21b0]; rfl), ?_⟩) ?_ ?_
            rotate_left
            ·intro w'
             go_simp
             with_reducible rfl
            rotate_left
            ·simp only [Act.put, List.setIfInBounds_toArray, List.set_cons_zero, List.set_cons_succ, i64_w, i32_w]
             rfl
            refine pure_ (i := 1) (N := some 50) (v := ?_) (a' := ?_) #[true, true, false, false, false, false, false, false, false, false, false, false, false, false] rfl rfl (any_of HT_.out (by kernel_rfl)) (fun _ _ _ h => h) (Or.inl ⟨by first | rfl | (simp only [c17b0, c20b0, c21b0]; rfl), ?_⟩) ?_ ?_
            rotate_left
            ·intro w'
             go_simp
             with_reducible rfl
            rotate_left
            ·simp only [Act.put, List.setIfInBounds_toArray, List.set_cons_zero, List.set_cons_succ, i64_w, i32_w]
             rfl
            refine pure_ (i := 2) (N := some 51) (v := ?_) (a' := ?_) #[true, true, true, false, false, false, false, false, false, false, false, false, false, false] rfl rfl (any_of HT_.out (by kernel_rfl)) (fun _ _ _ h => h) (Or.inl ⟨by first | rfl | (simp only [c17b0, c20b0, c21b0]; rfl), ?_⟩) ?_ ?_
            rotate_left
            ·intro w'
             go_simp
             with_reducible rfl
            rotate_left
            ·simp only [Act.put, List.setIfInBounds_toArray, List.set_cons_zero, List.set_cons_succ, i64_w, i32_w]
             rfl
            refine pure_ (i := 3) (N := some 52) (v := ?_) (a' := ?_) #[true, true, true, true, false, false, false, false, false, false, false, false, false, false] rfl rfl (any_of HT_.out (by kernel_rfl)) (fun _ _ _ h => h) (Or.inl ⟨by first | rfl | (simp only [c17b0, c20b0, c21b0]; rfl), ?_⟩) ?_ ?_
            rotate_left
            ·intro w'
             go_simp
             with_reducible rfl
            rotate_left
            ·simp only [Act.put, List.setIfInBounds_toArray, List.set_cons_zero, List.set_cons_succ, i64_w, i32_w]
             rfl
            refine pure_ (i := 4) (N := some 53) (v := ?_) (a' := ?_) #[true, true, true, true, true, false, false, false, false, false, false, false, false, false] rfl rfl (any_of HT_.out (by kernel_rfl)) (fun _ _ _ h => h) (Or.inl ⟨by first | rfl | (simp only [c17b0, c20b0, c21b0]; rfl), ?_⟩) ?_ ?_
            rotate_left
            ·intro w'
             go_simp
             with_reducible rfl
            rotate_left
            ·simp only [Act.put, List.setIfInBounds_toArray, List.set_cons_zero, List.set_cons_succ, i64_w, i32_w]
             rfl
            refine pure_ (i := 9) (N := some 58) (v := ?_) (a' := ?_) #[true, true, true, true, true, false, false, false, false, true, false, false, false, false] rfl rfl (any_of HT_.out (by kernel_rfl)) (fun _ _ _ h => h) (Or.inl ⟨by first | rfl | (simp only [c17b0, c20b0, c21b0]; rfl), ?_⟩) ?_ ?_
            rotate_left
            ·intro w'
             go_simp
             with_reducible rfl
            rotate_left
            ·simp only [Act.put, List.setIfInBounds_toArray, List.set_cons_zero, List.set_cons_succ, i64_w, i32_w]
             rfl
            refine pure_ (i := 10) (N := some 59) (v := ?_) (a' := ?_) #[true, true, true, true, true, false, false, false, false, true, true, false, false, false] rfl rfl (any_of HT_.out (by kernel_rfl)) (fun _ _ _ h => h) (Or.inl ⟨by first | rfl | (simp only [c17b0, c20b0, c21b0]; rfl), ?_⟩) ?_ ?_
            rotate_left
            ·intro w'
             go_simp
             with_reducible rfl
            rotate_left
            ·simp only [Act.put, List.setIfInBounds_toArray, List.set_cons_zero, List.set_cons_succ, i64_w, i32_w]
             rfl
            refine pure_ (i := 11) (N := some 60) (v := ?_) (a' := ?_) #[true, true, true, true, true, false, false, false, false, true, true, true, false, false] rfl rfl (any_of HT_.out (by kernel_rfl)) (fun _ _ _ h => h) (Or.inl ⟨by first | rfl | (simp only [c17b0, c20b0, c21b0]; rfl), ?_⟩) ?_ ?_
            rotate_left
            ·intro w'
             go_simp
             with_reducible rfl
            rotate_left
            ·simp only [Act.put, List.setIfInBounds_toArray, List.set_cons_zero, List.set_cons_succ, i64_w, i32_w]
             rfl
            refine take_ (i := 5) (N := some 54) (v := ?_) (a' := ?_) #[true, true, true, true, true, true, false, false, false, true, true, true, false, false] rfl rfl (take_ofW HT_.out HW_.out (by kernel_rfl)) (fun _ _ _ h => h) (Or.inl ⟨by first | rfl | (simp only [c17b0, c20b0, c21b0]; rfl), ?_⟩) hHeld ?_ ?_
            rotate_left
            ·intro w' _
             go_simp
             with_reducible rfl
            rotate_left
            ·simp only [Act.put, List.setIfInBounds_toArray, List.set_cons_zero, List.set_cons_succ, i64_w, i32_w]
             rfl
            refine one_ (i := 6) (N := some 55) #[true, true, true, true, true, true, true, false, false, true, true, true, false, false] rfl rfl (one_of HT_.out (by kernel_rfl)) (by decide) (fun K hK => ?_)
            refine Kd.R_lit_step (Kd.int .u8) _ 5 ?hg (N := 55) ?hd (xs := ([bt (⟨#[48, 49, 50, 51, 52, 53, 54, 55, 56, 57, 46, 58, 45, 43, 32, 120]⟩ : ByteArray) (ji25)] : List Int)) (inner := [.int .u8 (bt (⟨#[48, 49, 50, 51, 52, 53, 54, 55, 56, 57, 46, 58, 45, 43, 32, 120]⟩ : ByteArray) (ji25))]) (ok := fun _ => True) (okp := fun _ => True) ?hr ?hp (fun _ hk => hk) trivial (Below.refl _ _) (Nat.le_refl _) (by simp) ?_; (case hd => rfl); (case hg => rfl); (case hr => first | (go_simp; done) | (go_simp; rfl)); (case hp => exact (Reps.one (show Kd.M (Kd.int .u8) _ _ _ (bt (⟨#[48, 49, 50, 51, 52, 53, 54, 55, 56, 57, 46, 58, 45, 43, 32, 120]⟩ : ByteArray) (ji25)) [.int .u8 (bt (⟨#[48, 49, 50, 51, 52, 53, 54, 55, 56, 57, 46, 58, 45, 43, 32, 120]⟩ : ByteArray) (ji25))] from rfl) (Reps.none _ _)))
            intro v225 w34 ho35 hb hg_ hnew_
            clear hg_ hnew_
            (first | rw [← Ny224.out] at ho35 | (simp only [Int.reduceToNat] at ho35; rw [← Ny224.out] at ho35))
            have n0_ := Aside0.mk (Kd.R_lower ho35 (below_size (by repeat (first | (with_reducible first | exact HB.out | apply below_alloc | apply pw_below_drewN | apply below_drew1 | refine below_set ?_ GE218.out) | exact HB.out))))
            have n1_ := Aside0.mk (blk_below (g := gb218) (o := .cells #[.int .u32 a0_0, .int .u16 a0_1] 25 (0, 0)) (by (with_reducible repeat (first | refine blk_drewN ?_ _ | refine blk_drew ?_ | refine blk_alloc ?_ _)); exact BK218.out) hb)
            have n2_ := Aside0.mk (below_step (by repeat (first | (with_reducible first | exact HB.out | apply below_alloc | apply pw_below_drewN | apply below_drew1 | refine below_set ?_ GE218.out) | exact HB.out)) hb)
            clear BK218
            clear HB
            have HO226 := n0_
            have BK218 := n1_
            have HB := n2_
            clear n0_ n1_ n2_
            clear hb ho35
            refine hK.out _ _ trivial (fun hHeld => ?_)
            clear hK K
            refine norm_ (a' := ?_) ?_ ?_
            rotate_left
            ·show Act.put _ (some 55) _ = _
             simp only [Act.put, List.setIfInBounds_toArray, List.set_cons_zero, List.set_cons_succ, i64_w, i32_w]
             rfl
            refine one_ (i := 7) (N := some 56) #[true, true, true, true, true, true, true, true, false, true, true, true, false, false] rfl rfl (one_of HT_.out (by kernel_rfl)) (by decide) (fun K hK => ?_)
            have hcv36 := own_string (P := Tryd.prog) Tryd.underlying35 Tryd.underlying5 Tryd.underlying9 (Kd.own_of_R HO226.out)
            refine value_ (w1 := ?_) (v := ?_) (by rfl) rfl ?_ ?_
            rotate_left 2
            ·go_simp
             constructor
             ·rfl
             ·rfl
            clear hcv36
            refine hK.out _ _ trivial (fun hHeld => ?_)
            clear hK K
            refine norm_ (a' := ?_) ?_ ?_
            rotate_left
            ·show Act.put _ (some 56) _ = _
             simp only [Act.put, List.setIfInBounds_toArray, List.set_cons_zero, List.set_cons_succ, i64_w, i32_w]
             rfl
            refine pure_ (i := 8) (N := some 57) (v := ?_) (a' := ?_) #[true, true, true, true, true, true, true, true, true, true, true, true, false, false] rfl rfl (any_of HT_.out (by kernel_rfl)) (fun _ _ _ h => h) (Or.inl ⟨by first | rfl | (simp only [c17b0, c20b0, c21b0]; rfl), ?_⟩) ?_ ?_
            rotate_left
            ·intro w'
             go_simp
             with_reducible rfl
            rotate_left
            ·simp only [Act.put, List.setIfInBounds_toArray, List.set_cons_zero, List.set_cons_succ, i64_w, i32_w]
             rfl
            refine pure_ (i := 12) (N := some 61) (v := ?_) (a' := ?_) #[true, true, true, true, true, true, true, true, true, true, true, true, true, false] rfl rfl (any_of HT_.out (by kernel_rfl)) (fun _ _ _ h => h) (Or.inl ⟨by first | rfl | (simp only [c17b0, c20b0, c21b0]; rfl), ?_⟩) ?_ ?_
            rotate_left
            ·intro w'
             go_simp
             with_reducible rfl
            rotate_left
            ·simp only [Act.put, List.setIfInBounds_toArray, List.set_cons_zero, List.set_cons_succ, i64_w, i32_w]
             rfl
            refine pure_ (i := 13) (N := some 1) (v := ?_) (a' := ?_) #[true, true, true, true, true, true, true, true, true, true, true, true, true, true] rfl rfl (any_of HT_.out (by kernel_rfl)) (fun _ _ _ h => h) (Or.inl ⟨by first | rfl | (simp only [c17b0, c20b0, c21b0]; rfl), ?_⟩) ?_ ?_
            rotate_left
            ·intro w'
             go_simp
             with_reducible rfl
            rotate_left
            ·simp only [Act.put, List.setIfInBounds_toArray, List.set_cons_zero, List.set_cons_succ, i64_w, i32_w]
             rfl
            refine done_ (done_of HT_.out (by kernel_rfl)) ?_
            try go_wp2
            go_meet
            case rel => exact ⟨_, (((t222.extract 0 ((ji22) : Int).toNat) ++ (strOfNums y224)) ++ (t222.extract ((ji22) : Int).toNat t222.size)), (by first | rfl | (simp; done) | (simp only [← hji22] <;> (first | rfl | simp)) | (simp [*]; done)), H', ⟨by first | omega | exact Nat.le_refl _⟩, ⟨by (with_reducible repeat (first | refine blk_drewN ?_ _ | refine blk_drew ?_ | refine blk_alloc ?_ _)); exact BK218.out⟩, ⟨by repeat (first | (with_reducible first | exact HB.out | apply below_alloc | apply pw_below_drewN | apply below_drew1 | refine below_set ?_ GE218.out) | exact HB.out)⟩⟩
           ·(first | rw [if_neg c32] at H | exact absurd rfl c32)
            exact absurd H (by simp)
          ·(first | rw [if_neg c29] at H | exact absurd rfl c29)
           exact absurd H (by simp)
         ·(first | rw [if_neg c27] at H | exact absurd rfl c27)
          exact absurd H (by simp)
        ·(first | rw [if_neg c26] at H | exact absurd rfl c26)
         exact absurd H (by simp)
       ·(first | rw [if_neg c24] at H | exact absurd rfl c24)
        exact absurd H (by simp)
      ·(first | rw [if_neg c23] at H | exact absurd rfl c23)
       exact absurd H (by simp)
    ·(first | rw [if_neg c20] at H | exact absurd rfl c20)
     have c20b0 : ((Int.tmod a2 4) == 2) = false := beq_eq_false_iff_ne.mpr c20
     have c20b1 : ((Int.tmod a2 4) != 2) = true := bne_iff_ne.mpr c20
     by_cases c37 : (Int.tmod a2 4) = 3
     ·rw [if_pos c37] at H
      have c37b0 : ((Int.tmod a2 4) == 3) = true := beq_iff_eq.mpr c37
      have c37b1 : ((Int.tmod a2 4) != 3) = false := bne_eq_false_iff_eq.mpr c37
      clear c37
      by_cases c38 : (IntKind.u64.wrap ((t222.size : Int))) = 0
      ·rw [if_pos c38] at H
       exact absurd H (by simp)
      ·(first | rw [if_neg c38] at H | exact absurd rfl c38)
       have c38b0 : ((IntKind.u64.wrap ((t222.size : Int))) == 0) = false := beq_eq_false_iff_ne.mpr c38
       have c38b1 : ((IntKind.u64.wrap ((t222.size : Int))) != 0) = true := bne_iff_ne.mpr c38
       obtain ⟨ji39, hji39⟩ : ∃ j_ : Int, (wrap64 (Int.tmod (IntKind.u64.wrap (a3)) (IntKind.u64.wrap ((t222.size : Int))))) = j_ := ⟨_, rfl⟩
       replace H : (if 0 ≤ (ji39) then (if (ji39) ≤ (t222.size : Int) then (if 0 ≤ (wrap64 ((ji39) + 1)) then (if (wrap64 ((ji39) + 1)) ≤ (t222.size : Int) then (if (t222.extract 0 ((ji39) : Int).toNat).size + (t222.extract ((wrap64 ((ji39) + 1)) : Int).toNat t222.size).size ≤ 9223372036854775807 then (law03_AddrReads.j0 k ((t222.extract 0 ((ji39) : Int).toNat) ++ (t222.extract ((wrap64 ((ji39) + 1)) : Int).toNat t222.size)) a5) else (none)) else (none)) else (none)) else (none)) else (none)) = some r := by first | (rw [hji39] at H; exact H) | (simp only [hji39] at H ⊢; exact H)
       have hji39w : (IntKind.i64.wrap (Int.tmod (IntKind.u64.wrap (a3)) (IntKind.u64.wrap ((t222.size : Int))))) = ji39 := (i64_w _).trans hji39
       by_cases c40 : 0 ≤ (ji39)
       ·rw [if_pos c40] at H
        have c40b0 := eq_true c40
        have c40b1 : decide (0 ≤ (ji39)) = true := decide_eq_true c40
        clear c40
        by_cases c41 : (ji39) ≤ (t222.size : Int)
        ·rw [if_pos c41] at H
         have c41b0 := eq_true c41
         have c41b1 : decide ((ji39) ≤ (t222.size : Int)) = true := decide_eq_true c41
         clear c41
         obtain ⟨ji42, hji42⟩ : ∃ j_ : Int, (wrap64 ((ji39) + 1)) = j_ := ⟨_, rfl⟩
         replace H : (if 0 ≤ (ji42) then (if (ji42) ≤ (t222.size : Int) then (if (t222.extract 0 ((ji39) : Int).toNat).size + (t222.extract ((ji42) : Int).toNat t222.size).size ≤ 9223372036854775807 then (law03_AddrReads.j0 k ((t222.extract 0 ((ji39) : Int).toNat) ++ (t222.extract ((ji42) : Int).toNat t222.size)) a5) else (none)) else (none)) else (none)) = some r := by first | (rw [hji42] at H; exact H) | (simp only [hji42] at H ⊢; exact H)
         have hji42w : (IntKind.i64.wrap ((ji39) + 1)) = ji42 := (i64_w _).trans hji42
         by_cases c43 : 0 ≤ (ji42)
         ·rw [if_pos c43] at H
          have c43b0 := eq_true c43
          have c43b1 : decide (0 ≤ (ji42)) = true := decide_eq_true c43
          clear c43
          by_cases c44 : (ji42) ≤ (t222.size : Int)
          ·rw [if_pos c44] at H
           have c44b0 := eq_true c44
           have c44b1 : decide ((ji42) ≤ (t222.size : Int)) = true := decide_eq_true c44
           clear c44
           by_cases c45 : (t222.extract 0 ((ji39) : Int).toNat).size + (t222.extract ((ji42) : Int).toNat t222.size).size ≤ 9223372036854775807
           ·rw [if_pos c45] at H
            have c45b0 := eq_true c45
            have c45b1 : decide ((t222.extract 0 ((ji39) : Int).toNat).size + (t222.extract ((ji42) : Int).toNat t222.size).size ≤ 9223372036854775807) = true := decide_eq_true c45
            try have c45b2 : (9223372036854775807 < (t222.extract 0 ((ji39) : Int).toNat).size + (t222.extract ((ji42) : Int).toNat t222.size).size) = False := eq_false (Nat.not_lt.2 c45)
            try have c45b5 : (9223372036854775807 < ji39.toNat + (t222.size - ji42.toNat)) = False := eq_false (by have g0_ : ji39 ≤ (t222.size : Int) := (by first | assumption | exact of_eq_true (by assumption) | exact of_decide_eq_true (by assumption)); have h_ := c45; simp only [ByteArray.size_append, ByteArray.size_extract] at h_; omega)
            have H' := Aside0.mk H
            clear H
            try go_wp2
            have n0_ := Aside0.mk (blk_drew BK218.out)
            have n1_ := Aside0.mk (below_drew1 HB.out)
            clear BK218
            clear HB
            have BK218 := n0_
            have HB := n1_
            clear n0_ n1_
            refine start_ (n := 9) (S := fun w' => True) (ds := []) #[false, false, false, false, false, false, false, false, false] (by kernel_rfl) rfl rfl trivial (fun hHeld => ?_); refine with_tabW law03_AddrReads.tab13 law03_AddrReads.bits13 (fun HT_ HW_ => ?_)
            generalize w16.drew = w46 at BK218 HB hHeld ⊢
            refine pure_ (i := 0) (N := some 71) (v := ?_) (a' := ?_) #[true, false, false, false, false, false, false, false, false] rfl rfl (any_of HT_.out (by kernel_rfl)) (fun _ _ _ h => h) (Or.inl ⟨by first | rfl | (simp only [c17b0, c20b0, c37b0, c38b0]; rfl), ?_⟩) ?_ ?_
            rotate_left
            ·intro w'
             go_simp
             with_reducible rfl
            rotate_left
            ·simp only [Act.put, List.setIfInBounds_toArray, List.set_cons_zero, List.set_cons_succ, i64_w, i32_w]
             rfl
            refine pure_ (i := 1) (N := some 72) (v := ?_) (a' := ?_) #[true, true, false, false, false, false, false, false, false] rfl rfl (any_of HT_.out (by kernel_rfl)) (fun _ _ _ h => h) (Or.inl ⟨by first | rfl | (simp only [c17b0, c20b0, c37b0, c38b0]; rfl), ?_⟩) ?_ ?_
            rotate_left
            ·intro w'
             go_simp
             with_reducible rfl
            rotate_left
            ·simp only [Act.put, List.setIfInBounds_toArray, List.set_cons_zero, List.set_cons_succ, i64_w, i32_w]
             rfl
            refine pure_ (i := 2) (N := some 73) (v := ?_) (a' := ?_) #[true, true, true, false, false, false, false, false, false] rfl rfl (any_of HT_.out (by kernel_rfl)) (fun _ _ _ h => h) (Or.inl ⟨by first | rfl | (simp only [c17b0, c20b0, c37b0, c38b0]; rfl), ?_⟩) ?_ ?_
            rotate_left
            ·intro w'
             go_simp
             with_reducible rfl
            rotate_left
            ·simp only [Act.put, List.setIfInBounds_toArray, List.set_cons_zero, List.set_cons_succ, i64_w, i32_w]
             rfl
            refine pure_ (i := 3) (N := some 74) (v := ?_) (a' := ?_) #[true, true, true, true, false, false, false, false, false] rfl rfl (any_of HT_.out (by kernel_rfl)) (fun _ _ _ h => h) (Or.inl ⟨by first | rfl | (simp only [c17b0, c20b0, c37b0, c38b0]; rfl), ?_⟩) ?_ ?_
            rotate_left
            ·intro w'
             go_simp
             with_reducible rfl
            rotate_left
            ·simp only [Act.put, List.setIfInBounds_toArray, List.set_cons_zero, List.set_cons_succ, i64_w, i32_w]
             rfl
            refine pure_ (i := 4) (N := some 75) (v := ?_) (a' := ?_) #[true, true, true, true, true, false, false, false, false] rfl rfl (any_of HT_.out (by kernel_rfl)) (fun _ _ _ h => h) (Or.inl ⟨by first | rfl | (simp only [c17b0, c20b0, c37b0, c38b0]; rfl), ?_⟩) ?_ ?_
            rotate_left
            ·intro w'
             go_simp
             with_reducible rfl
            rotate_left
            ·simp only [Act.put, List.setIfInBounds_toArray, List.set_cons_zero, List.set_cons_succ, i64_w, i32_w]
             rfl
            refine pure_ (i := 5) (N := some 76) (v := ?_) (a' := ?_) #[true, true, true, true, true, true, false, false, false] rfl rfl (any_of HT_.out (by kernel_rfl)) (fun _ _ _ h => h) (Or.inl ⟨by first | rfl | (simp only [c17b0, c20b0, c37b0, c38b0]; rfl), ?_⟩) ?_ ?_
            rotate_left
            ·intro w'
             go_simp
             with_reducible rfl
            rotate_left
            ·simp only [Act.put, List.setIfInBounds_toArray, List.set_cons_zero, List.set_cons_succ, i64_w, i32_w]
             rfl
            refine pure_ (i := 6) (N := some 77) (v := ?_) (a' := ?_) #[true, true, true, true, true, true, true, false, false] rfl rfl (any_of HT_.out (by kernel_rfl)) (fun _ _ _ h => h) (Or.inl ⟨by first | rfl | (simp only [c17b0, c20b0, c37b0, c38b0]; rfl), ?_⟩) ?_ ?_
            rotate_left
            ·intro w'
             go_simp
             with_reducible rfl
            rotate_left
            ·simp only [Act.put, List.setIfInBounds_toArray, List.set_cons_zero, List.set_cons_succ, i64_w, i32_w]
             rfl
            refine pure_ (i := 7) (N := some 78) (v := ?_) (a' := ?_) #[true, true, true, true, true, true, true, true, false] rfl rfl (any_of HT_.out (by kernel_rfl)) (fun _ _ _ h => h) (Or.inl ⟨by first | rfl | (simp only [c17b0, c20b0, c37b0, c38b0]; rfl), ?_⟩) ?_ ?_
            rotate_left
            ·intro w'
             go_simp
             with_reducible rfl
            rotate_left
            ·simp only [Act.put, List.setIfInBounds_toArray, List.set_cons_zero, List.set_cons_succ, i64_w, i32_w]
             rfl
            refine pure_ (i := 8) (N := some 1) (v := ?_) (a' := ?_) #[true, true, true, true, true, true, true, true, true] rfl rfl (any_of HT_.out (by kernel_rfl)) (fun _ _ _ h => h) (Or.inl ⟨by first | rfl | (simp only [c17b0, c20b0, c37b0, c38b0]; rfl), ?_⟩) ?_ ?_
            rotate_left
            ·intro w'
             go_simp
             with_reducible rfl
            rotate_left
            ·simp only [Act.put, List.setIfInBounds_toArray, List.set_cons_zero, List.set_cons_succ, i64_w, i32_w]
             rfl
            refine done_ (done_of HT_.out (by kernel_rfl)) ?_
            try go_wp2
            go_meet
            case rel => exact ⟨_, ((t222.extract 0 ((ji39) : Int).toNat) ++ (t222.extract ((ji42) : Int).toNat t222.size)), (by first | rfl | (simp; done) | (simp only [← hji39, ← hji42] <;> (first | rfl | simp)) | (simp [*]; done)), H', ⟨by first | omega | exact Nat.le_refl _⟩, ⟨by (with_reducible repeat (first | refine blk_drewN ?_ _ | refine blk_drew ?_ | refine blk_alloc ?_ _)); exact BK218.out⟩, ⟨by repeat (first | (with_reducible first | exact HB.out | apply below_alloc | apply pw_below_drewN | apply below_drew1 | refine below_set ?_ GE218.out) | exact HB.out)⟩⟩
           ·(first | rw [if_neg c45] at H | exact absurd rfl c45)
            exact absurd H (by simp)
          ·(first | rw [if_neg c44] at H | exact absurd rfl c44)
           exact absurd H (by simp)
         ·(first | rw [if_neg c43] at H | exact absurd rfl c43)
          exact absurd H (by simp)
        ·(first | rw [if_neg c41] at H | exact absurd rfl c41)
         exact absurd H (by simp)
       ·(first | rw [if_neg c40] at H | exact absurd rfl c40)
        exact absurd H (by simp)
     ·(first | rw [if_neg c37] at H | exact absurd rfl c37)
      have c37b0 : ((Int.tmod a2 4) == 3) = false := beq_eq_false_iff_ne.mpr c37
      have c37b1 : ((Int.tmod a2 4) != 3) = true := bne_iff_ne.mpr c37
      have H' := Aside0.mk H
      clear H
      go_wp2
      go_meet
      case rel => exact ⟨_, (a1), (by first | rfl | (simp; done) | (simp [*]; done)), H', ⟨by first | omega | exact Nat.le_refl _⟩, ⟨by (with_reducible repeat (first | refine blk_drewN ?_ _ | refine blk_drew ?_ | refine blk_alloc ?_ _)); exact BK218.out⟩, ⟨by repeat (first | (with_reducible first | exact HB.out | apply below_alloc | apply pw_below_drewN | apply below_drew1 | refine below_set ?_ GE218.out) | exact HB.out)⟩⟩
  case rest =>
   clear HC11
   try clear c1
   try clear c2
   try clear p2
   try clear q2
   try clear hx2
   try clear c3
   try clear hcv3
   try clear c4
   try clear p6
   try clear c8
   try clear c9
   try clear c10
   try clear c12
   try clear c17
   try clear c17b0
   try clear c17b1
   try clear c20
   try clear c20b0
   try clear c20b1
   try clear c21
   try clear c21b0
   try clear c21b1
   try clear c23
   try clear c23b0
   try clear c23b1
   try clear c24
   try clear c24b0
   try clear c24b1
   try clear c26
   try clear c26b0
   try clear c27
   try clear c27b0
   try clear p28
   try clear q28
   try clear hx28
   try clear c29
   try clear c29b0
   try clear c29b1
   try clear c29b2
   try clear c30
   try clear c30b0
   try clear c31
   try clear c31b0
   try clear c32
   try clear c32b0
   try clear c32b1
   try clear c32b2
   try clear hcv36
   try clear c37
   try clear c37b0
   try clear c37b1
   try clear c38
   try clear c38b0
   try clear c38b1
   try clear c40
   try clear c40b0
   try clear c40b1
   try clear c41
   try clear c41b0
   try clear c41b1
   try clear c43
   try clear c43b0
   try clear c43b1
   try clear c44
   try clear c44b0
   try clear c44b1
   try clear c45
   try clear c45b0
   try clear c45b1
   try clear c45b2
   try clear hcz14_0
   try clear hcz14_1
   try clear hfz14_0
   try clear hfz14_1
   try clear p28
   try clear q28
   obtain ⟨kq, x1_10, rfl, HA, HJ10, BK218, HB⟩ := hcut
   cases kq with
   | zero => exact absurd HA.out (by simp [law03_AddrReads.j0])
   | succ kj10 =>
    have H := HA.out
    clear HA
    simp only [law03_AddrReads.j0] at H
    replace H := Option.bind_eq_some_iff.mp H
    obtain ⟨⟨t227, t228, t229⟩, A470, H⟩ := H
    replace H : ((ref03_Read.f kj10 x1_10).bind fun bt231 => ((addr_Get.f kj10 a5).bind fun bt235 => ((ref03_Get.f kj10 a5).bind fun bt239 => ((law03_ref.f t227 t228).bind fun bt243 => (if (bt243.1 == bt231.1 && (bt243.2 == bt231.2.1)) = true then (if (t229 == bt231.2.2) = true then ((law03_ref.f bt235.1 bt235.2.1).bind fun bt245 => (if (bt245.1 == bt239.1 && (bt245.2 == bt239.2.1)) = true then (some (bt235.2.2 == bt239.2.2)) else (none))) else (none)) else (none)))))) = some r := H
    have A47 := Aside0.mk A470
    clear A470
    replace H := Option.bind_eq_some_iff.mp H
    obtain ⟨⟨t231, t232, t233⟩, A480, H⟩ := H
    replace H : ((addr_Get.f kj10 a5).bind fun bt235 => ((ref03_Get.f kj10 a5).bind fun bt239 => ((law03_ref.f t227 t228).bind fun bt243 => (if (bt243.1 == t231 && (bt243.2 == t232)) = true then (if (t229 == t233) = true then ((law03_ref.f bt235.1 bt235.2.1).bind fun bt245 => (if (bt245.1 == bt239.1 && (bt245.2 == bt239.2.1)) = true then (some (bt235.2.2 == bt239.2.2)) else (none))) else (none)) else (none))))) = some r := H
    have A48 := Aside0.mk A480
    clear A480
    replace H := Option.bind_eq_some_iff.mp H
    obtain ⟨⟨t235, t236, t237⟩, A490, H⟩ := H
    replace H : ((ref03_Get.f kj10 a5).bind fun bt239 => ((law03_ref.f t227 t228).bind fun bt243 => (if (bt243.1 == t231 && (bt243.2 == t232)) = true then (if (t229 == t233) = true then ((law03_ref.f t235 t236).bind fun bt245 => (if (bt245.1 == bt239.1 && (bt245.2 == bt239.2.1)) = true then (some (t237 == bt239.2.2)) else (none))) else (none)) else (none)))) = some r := H
    have A49 := Aside0.mk A490
    clear A490
    replace H := Option.bind_eq_some_iff.mp H
    obtain ⟨⟨t239, t240, t241⟩, A500, H⟩ := H
    replace H : ((law03_ref.f t227 t228).bind fun bt243 => (if (bt243.1 == t231 && (bt243.2 == t232)) = true then (if (t229 == t233) = true then ((law03_ref.f t235 t236).bind fun bt245 => (if (bt245.1 == t239 && (bt245.2 == t240)) = true then (some (t237 == t241)) else (none))) else (none)) else (none))) = some r := H
    have A50 := Aside0.mk A500
    clear A500
    replace H := Option.bind_eq_some_iff.mp H
    obtain ⟨⟨t243, t244⟩, A510, H⟩ := H
    replace H : (if (t243 == t231 && (t244 == t232)) = true then (if (t229 == t233) = true then ((law03_ref.f t235 t236).bind fun bt245 => (if (bt245.1 == t239 && (bt245.2 == t240)) = true then (some (t237 == t241)) else (none))) else (none)) else (none)) = some r := H
    have A51 := Aside0.mk A510
    clear A510
    by_cases c52 : (t243 == t231 && (t244 == t232)) = true
    ·rw [if_pos c52] at H
     have c52b0 : (t243 == t231 && (t244 == t232)) = true := c52
     (try (have c52b1 : decide (t243 = t231 && (t244 == t232)) = true := by simpa using c52))
     (try (have c52b2 : (t243 == t231 && (t244 == t232)) = true := by simpa using c52))
     clear c52
     by_cases c53 : (t229 == t233) = true
     ·rw [if_pos c53] at H
      have c53b0 : (t229 == t233) = true := c53
      (try (have c53b1 : decide (t229 = t233) = true := by simpa using c53))
      (try (have c53b2 : (t229 == t233) = true := by simpa using c53))
      clear c53
      replace H := Option.bind_eq_some_iff.mp H
      obtain ⟨⟨t245, t246⟩, A540, H⟩ := H
      replace H : (if (t245 == t239 && (t246 == t240)) = true then (some (t237 == t241)) else (none)) = some r := H
      have A54 := Aside0.mk A540
      clear A540
      by_cases c55 : (t245 == t239 && (t246 == t240)) = true
      ·rw [if_pos c55] at H
       have c55b0 : (t245 == t239 && (t246 == t240)) = true := c55
       (try (have c55b1 : decide (t245 = t239 && (t246 == t240)) = true := by simpa using c55))
       (try (have c55b2 : (t245 == t239 && (t246 == t240)) = true := by simpa using c55))
       clear c55
       obtain rfl := Option.some.inj H
       try go_wp2_with (first | ((with_reducible refine gate_callee (f := 22) rfl ?_); refine goesL_ (some 81) rfl rfl Tryd.func22 (by kernel_rfl) rfl #[.string x1_10] rfl (by (try simp only [List.map_toArray, List.map_cons, List.map_nil]); first | done | rfl | (simp only [List.length_drop, List.length_take]; rfl)) ?_; (with_reducible refine (addr_Read.calls kj10 x1_10 t227 t228 t229 _ A47.out ?htb).mono ?_); (case htb => exact ⟨IT.tab_below htab.out (by repeat (first | (with_reducible first | exact HB.out | apply below_alloc | apply pw_below_drewN | apply below_drew1 | refine below_set ?_ GE218.out) | exact HB.out))⟩); rintro e w56 ⟨rfl, hb⟩; refine ⟨_, rfl, ?_⟩; have n0_ := Aside0.mk (blk_below (g := gb218) (o := .cells #[.int .u32 a0_0, .int .u16 a0_1] 25 (0, 0)) (by (with_reducible repeat (first | refine blk_drewN ?_ _ | refine blk_drew ?_ | refine blk_alloc ?_ _)); exact BK218.out) hb); have n1_ := Aside0.mk (below_step (by repeat (first | (with_reducible first | exact HB.out | apply below_alloc | apply pw_below_drewN | apply below_drew1 | refine below_set ?_ GE218.out) | exact HB.out)) hb); clear BK218; clear HB; have BK218 := n0_; have HB := n1_; clear n0_ n1_; (try clear hb); (try clear hb2); (try clear hk); (try clear hi)) | ((with_reducible refine gate_dst (N := 17) rfl ?_); refine box_event ?hg (N := 17) ?hd (cs := #[.int .u32 0, .int .u16 0]) (t := 25) ?hr ?_; (case hd => rfl); (case hg => rfl); (case hr => first | (go_simp; done) | (go_simp; rfl)); intro gb230 hg w57 hbox hb; have n0_ := Aside0.mk (blk_below (g := gb218) (o := .cells #[.int .u32 a0_0, .int .u16 a0_1] 25 (0, 0)) (by (with_reducible repeat (first | refine blk_drewN ?_ _ | refine blk_drew ?_ | refine blk_alloc ?_ _)); exact BK218.out) hb); have n1_ := Aside0.mk (below_step (by repeat (first | (with_reducible first | exact HB.out | apply below_alloc | apply pw_below_drewN | apply below_drew1 | refine below_set ?_ GE218.out) | exact HB.out)) hb); have n2_ := Aside0.mk (hbox); have n3_ := Aside0.mk ((by rw [hg]; exact (below_size (by repeat (first | (with_reducible first | exact HB.out | apply below_alloc | apply pw_below_drewN | apply below_drew1 | refine below_set ?_ GE218.out) | exact HB.out))) : w.heap.size ≤ gb230)); have n4_ := Aside0.mk ((by rw [hg]; exact (below_size (by repeat (first | (with_reducible first | exact HB.out | apply below_alloc | apply pw_below_drewN | apply below_drew1 | refine below_set ?_ GE218.out) | exact HB.out))) : w.heap.size ≤ gb230)); have n5_ := Aside0.mk ((by rw [hg]; exact Nat.ne_of_lt (blk_lt (g := gb218) (o := .cells #[.int .u32 a0_0, .int .u16 a0_1] 25 (0, 0)) (by (with_reducible repeat (first | refine blk_drewN ?_ _ | refine blk_drew ?_ | refine blk_alloc ?_ _)); exact BK218.out)) : gb218 ≠ gb230)); have n6_ := Aside0.mk ((by rw [hg]; exact Nat.ne_of_gt (blk_lt (g := gb218) (o := .cells #[.int .u32 a0_0, .int .u16 a0_1] 25 (0, 0)) (by (with_reducible repeat (first | refine blk_drewN ?_ _ | refine blk_drew ?_ | refine blk_alloc ?_ _)); exact BK218.out)) : gb230 ≠ gb218)); clear BK218; clear HB; have BK218 := n0_; have HB := n1_; have BK230 := n2_; have GW230 := n3_; have GE230 := n4_; have NB218_230 := n5_; have NB230_218 := n6_; clear n0_ n1_ n2_ n3_ n4_ n5_ n6_; clear hb hbox hg; have hnb58 := NB230_218.out; have hnc58 := NB218_230.out; have hcz59_0 : w57.cell? ⟨gb230, 0, none⟩ = some (.int .u32 0) := (blk_cell BK230.out 0).trans rfl; have hcz59_1 : w57.cell? ⟨gb230, 1, none⟩ = some (.int .u16 0) := (blk_cell BK230.out 1).trans rfl; have hfz59_0 := blk_frozen BK230.out 0; have hfz59_1 := blk_frozen BK230.out 1) | ((with_reducible refine gate_callee (f := 23) rfl ?_); refine goesL_ (some 86) rfl rfl Tryd.func23 (by kernel_rfl) rfl #[.string x1_10] rfl (by (try simp only [List.map_toArray, List.map_cons, List.map_nil]); first | done | rfl | (simp only [List.length_drop, List.length_take]; rfl)) ?_; (with_reducible refine (ref03_Read.calls kj10 x1_10 t231 t232 t233 _ A48.out).mono ?_); rintro e w60 ⟨rfl, hb⟩; refine ⟨_, rfl, ?_⟩; have n0_ := Aside0.mk (blk_below (g := gb218) (o := .cells #[.int .u32 a0_0, .int .u16 a0_1] 25 (0, 0)) (by (with_reducible repeat (first | refine blk_drewN ?_ _ | refine blk_drew ?_ | refine blk_alloc ?_ _)); refine blk_far ?_ NB218_230.out _; (with_reducible repeat (first | refine blk_drewN ?_ _ | refine blk_drew ?_ | refine blk_alloc ?_ _)); refine blk_far ?_ NB218_230.out _; (with_reducible repeat (first | refine blk_drewN ?_ _ | refine blk_drew ?_ | refine blk_alloc ?_ _)); exact BK218.out) hb); have n1_ := Aside0.mk (blk_below (g := gb230) (o := .cells #[.int .u32 t227, .int .u16 t228] 25 (0, 0)) (by (with_reducible repeat (first | refine blk_drewN ?_ _ | refine blk_drew ?_ | refine blk_alloc ?_ _)); refine blk_put (cs := #[.int .u32 t227, .int .u16 0]) ?_ 1 _ rfl; (with_reducible repeat (first | refine blk_drewN ?_ _ | refine blk_drew ?_ | refine blk_alloc ?_ _)); refine blk_put (cs := #[.int .u32 0, .int .u16 0]) ?_ 0 _ rfl; (with_reducible repeat (first | refine blk_drewN ?_ _ | refine blk_drew ?_ | refine blk_alloc ?_ _)); exact BK230.out) hb); have n2_ := Aside0.mk (below_step (by repeat (first | (with_reducible first | exact HB.out | apply below_alloc | apply pw_below_drewN | apply below_drew1 | refine below_set ?_ GE218.out | refine below_set ?_ GE230.out) | exact HB.out)) hb); clear BK218; clear BK230; clear HB; have BK218 := n0_; have BK230 := n1_; have HB := n2_; clear n0_ n1_ n2_; (try clear hb); (try clear hb2); (try clear hk); (try clear hi)) | ((with_reducible refine gate_dst (N := 19) rfl ?_); refine box_event ?hg (N := 19) ?hd (cs := #[.int .u32 0, .int .u16 0]) (t := 27) ?hr ?_; (case hd => rfl); (case hg => rfl); (case hr => first | (go_simp; done) | (go_simp; rfl)); intro gb234 hg w61 hbox hb; have n0_ := Aside0.mk (blk_below (g := gb218) (o := .cells #[.int .u32 a0_0, .int .u16 a0_1] 25 (0, 0)) (by (with_reducible repeat (first | refine blk_drewN ?_ _ | refine blk_drew ?_ | refine blk_alloc ?_ _)); exact BK218.out) hb); have n1_ := Aside0.mk (blk_below (g := gb230) (o := .cells #[.int .u32 t227, .int .u16 t228] 25 (0, 0)) (by (with_reducible repeat (first | refine blk_drewN ?_ _ | refine blk_drew ?_ | refine blk_alloc ?_ _)); exact BK230.out) hb); have n2_ := Aside0.mk (below_step (by repeat (first | (with_reducible first | exact HB.out | apply below_alloc | apply pw_below_drewN | apply below_drew1 | refine below_set ?_ GE218.out | refine below_set ?_ GE230.out) | exact HB.out)) hb); have n3_ := Aside0.mk (hbox); have n4_ := Aside0.mk ((by rw [hg]; exact (below_size (by repeat (first | (with_reducible first | exact HB.out | apply below_alloc | apply pw_below_drewN | apply below_drew1 | refine below_set ?_ GE218.out | refine below_set ?_ GE230.out) | exact HB.out))) : w.heap.size ≤ gb234)); have n5_ := Aside0.mk ((by rw [hg]; exact (below_size (by repeat (first | (with_reducible first | exact HB.out | apply below_alloc | apply pw_below_drewN | apply below_drew1 | refine below_set ?_ GE218.out | refine below_set ?_ GE230.out) | exact HB.out))) : w.heap.size ≤ gb234)); have n6_ := Aside0.mk ((by rw [hg]; exact Nat.ne_of_lt (blk_lt (g := gb218) (o := .cells #[.int .u32 a0_0, .int .u16 a0_1] 25 (0, 0)) (by (with_reducible repeat (first | refine blk_drewN ?_ _ | refine blk_drew ?_ | refine blk_alloc ?_ _)); exact BK218.out)) : gb218 ≠ gb234)); have n7_ := Aside0.mk ((by rw [hg]; exact Nat.ne_of_gt (blk_lt (g := gb218) (o := .cells #[.int .u32 a0_0, .int .u16 a0_1] 25 (0, 0)) (by (with_reducible repeat (first | refine blk_drewN ?_ _ | refine blk_drew ?_ | refine blk_alloc ?_ _)); exact BK218.out)) : gb234 ≠ gb218)); have n8_ := Aside0.mk ((by rw [hg]; exact Nat.ne_of_lt (blk_lt (g := gb230) (o := .cells #[.int .u32 t227, .int .u16 t228] 25 (0, 0)) (by (with_reducible repeat (first | refine blk_drewN ?_ _ | refine blk_drew ?_ | refine blk_alloc ?_ _)); exact BK230.out)) : gb230 ≠ gb234)); have n9_ := Aside0.mk ((by rw [hg]; exact Nat.ne_of_gt (blk_lt (g := gb230) (o := .cells #[.int .u32 t227, .int .u16 t228] 25 (0, 0)) (by (with_reducible repeat (first | refine blk_drewN ?_ _ | refine blk_drew ?_ | refine blk_alloc ?_ _)); exact BK230.out)) : gb234 ≠ gb230)); clear BK218; clear BK230; clear HB; have BK218 := n0_; have BK230 := n1_; have HB := n2_; have BK234 := n3_; have GW234 := n4_; have GE234 := n5_; have NB218_234 := n6_; have NB234_218 := n7_; have NB230_234 := n8_; have NB234_230 := n9_; clear n0_ n1_ n2_ n3_ n4_ n5_ n6_ n7_ n8_ n9_; clear hb hbox hg; have hnb62 := NB234_218.out; have hnc62 := NB218_234.out; have hnb63 := NB234_230.out; have hnc63 := NB230_234.out; have hcz64_0 : w61.cell? ⟨gb234, 0, none⟩ = some (.int .u32 0) := (blk_cell BK234.out 0).trans rfl; have hcz64_1 : w61.cell? ⟨gb234, 1, none⟩ = some (.int .u16 0) := (blk_cell BK234.out 1).trans rfl; have hfz64_0 := blk_frozen BK234.out 0; have hfz64_1 := blk_frozen BK234.out 1) | ((with_reducible refine gate_callee (f := 24) rfl ?_); refine goesL_ (some 91) rfl rfl Tryd.func24 (by kernel_rfl) rfl #[.string a5] rfl (by (try simp only [List.map_toArray, List.map_cons, List.map_nil]); first | done | rfl | (simp only [List.length_drop, List.length_take]; rfl)) ?_; (with_reducible refine (addr_Get.calls kj10 a5 t235 t236 t237 _ A49.out).mono ?_); rintro e w65 ⟨rfl, hb⟩; refine ⟨_, rfl, ?_⟩; have n0_ := Aside0.mk (blk_below (g := gb218) (o := .cells #[.int .u32 a0_0, .int .u16 a0_1] 25 (0, 0)) (by (with_reducible repeat (first | refine blk_drewN ?_ _ | refine blk_drew ?_ | refine blk_alloc ?_ _)); refine blk_far ?_ NB218_234.out _; (with_reducible repeat (first | refine blk_drewN ?_ _ | refine blk_drew ?_ | refine blk_alloc ?_ _)); refine blk_far ?_ NB218_234.out _; (with_reducible repeat (first | refine blk_drewN ?_ _ | refine blk_drew ?_ | refine blk_alloc ?_ _)); exact BK218.out) hb); have n1_ := Aside0.mk (blk_below (g := gb230) (o := .cells #[.int .u32 t227, .int .u16 t228] 25 (0, 0)) (by (with_reducible repeat (first | refine blk_drewN ?_ _ | refine blk_drew ?_ | refine blk_alloc ?_ _)); refine blk_far ?_ NB230_234.out _; (with_reducible repeat (first | refine blk_drewN ?_ _ | refine blk_drew ?_ | refine blk_alloc ?_ _)); refine blk_far ?_ NB230_234.out _; (with_reducible repeat (first | refine blk_drewN ?_ _ | refine blk_drew ?_ | refine blk_alloc ?_ _)); exact BK230.out) hb); have n2_ := Aside0.mk (blk_below (g := gb234) (o := .cells #[.int .u32 t231, .int .u16 t232] 27 (0, 0)) (by (with_reducible repeat (first | refine blk_drewN ?_ _ | refine blk_drew ?_ | refine blk_alloc ?_ _)); refine blk_put (cs := #[.int .u32 t231, .int .u16 0]) ?_ 1 _ rfl; (with_reducible repeat (first | refine blk_drewN ?_ _ | refine blk_drew ?_ | refine blk_alloc ?_ _)); refine blk_put (cs := #[.int .u32 0, .int .u16 0]) ?_ 0 _ rfl; (with_reducible repeat (first | refine blk_drewN ?_ _ | refine blk_drew ?_ | refine blk_alloc ?_ _)); exact BK234.out) hb); have n3_ := Aside0.mk (below_step (by repeat (first | (with_reducible first | exact HB.out | apply below_alloc | apply pw_below_drewN | apply below_drew1 | refine below_set ?_ GE218.out | refine below_set ?_ GE230.out | refine below_set ?_ GE234.out) | exact HB.out)) hb); clear BK218; clear BK230; clear BK234; clear HB; have BK218 := n0_; have BK230 := n1_; have BK234 := n2_; have HB := n3_; clear n0_ n1_ n2_ n3_; (try clear hb); (try clear hb2); (try clear hk); (try clear hi)) | ((with_reducible refine gate_dst (N := 21) rfl ?_); refine box_event ?hg (N := 21) ?hd (cs := #[.int .u32 0, .int .u16 0]) (t := 25) ?hr ?_; (case hd => rfl); (case hg => rfl); (case hr => first | (go_simp; done) | (go_simp; rfl)); intro gb238 hg w66 hbox hb; have n0_ := Aside0.mk (blk_below (g := gb218) (o := .cells #[.int .u32 a0_0, .int .u16 a0_1] 25 (0, 0)) (by (with_reducible repeat (first | refine blk_drewN ?_ _ | refine blk_drew ?_ | refine blk_alloc ?_ _)); exact BK218.out) hb); have n1_ := Aside0.mk (blk_below (g := gb230) (o := .cells #[.int .u32 t227, .int .u16 t228] 25 (0, 0)) (by (with_reducible repeat (first | refine blk_drewN ?_ _ | refine blk_drew ?_ | refine blk_alloc ?_ _)); exact BK230.out) hb); have n2_ := Aside0.mk (blk_below (g := gb234) (o := .cells #[.int .u32 t231, .int .u16 t232] 27 (0, 0)) (by (with_reducible repeat (first | refine blk_drewN ?_ _ | refine blk_drew ?_ | refine blk_alloc ?_ _)); exact BK234.out) hb); have n3_ := Aside0.mk (below_step (by repeat (first | (with_reducible first | exact HB.out | apply below_alloc | apply pw_below_drewN | apply below_drew1 | refine below_set ?_ GE218.out | refine below_set ?_ GE230.out | refine below_set ?_ GE234.out) | exact HB.out)) hb); have n4_ := Aside0.mk (hbox); have n5_ := Aside0.mk ((by rw [hg]; exact (below_size (by repeat (first | (with_reducible first | exact HB.out | apply below_alloc | apply pw_below_drewN | apply below_drew1 | refine below_set ?_ GE218.out | refine below_set ?_ GE230.out | refine below_set ?_ GE234.out) | exact HB.out))) : w.heap.size ≤ gb238)); have n6_ := Aside0.mk ((by rw [hg]; exact (below_size (by repeat (first | (with_reducible first | exact HB.out | apply below_alloc | apply pw_below_drewN | apply below_drew1 | refine below_set ?_ GE218.out | refine below_set ?_ GE230.out | refine below_set ?_ GE234.out) | exact HB.out))) : w.heap.size ≤ gb238)); have n7_ := Aside0.mk ((by rw [hg]; exact Nat.ne_of_lt (blk_lt (g := gb218) (o := .cells #[.int .u32 a0_0, .int .u16 a0_1] 25 (0, 0)) (by (with_reducible repeat (first | refine blk_drewN ?_ _ | refine blk_drew ?_ | refine blk_alloc ?_ _)); exact BK218.out)) : gb218 ≠ gb238)); have n8_ := Aside0.mk ((by rw [hg]; exact Nat.ne_of_gt (blk_lt (g := gb218) (o := .cells #[.int .u32 a0_0, .int .u16 a0_1] 25 (0, 0)) (by (with_reducible repeat (first | refine blk_drewN ?_ _ | refine blk_drew ?_ | refine blk_alloc ?_ _)); exact BK218.out)) : gb238 ≠ gb218)); have n9_ := Aside0.mk ((by rw [hg]; exact Nat.ne_of_lt (blk_lt (g := gb230) (o := .cells #[.int .u32 t227, .int .u16 t228] 25 (0, 0)) (by (with_reducible repeat (first | refine blk_drewN ?_ _ | refine blk_drew ?_ | refine blk_alloc ?_ _)); exact BK230.out)) : gb230 ≠ gb238)); have n10_ := Aside0.mk ((by rw [hg]; exact Nat.ne_of_gt (blk_lt (g := gb230) (o := .cells #[.int .u32 t227, .int .u16 t228] 25 (0, 0)) (by (with_reducible repeat (first | refine blk_drewN ?_ _ | refine blk_drew ?_ | refine blk_alloc ?_ _)); exact BK230.out)) : gb238 ≠ gb230)); have n11_ := Aside0.mk ((by rw [hg]; exact Nat.ne_of_lt (blk_lt (g := gb234) (o := .cells #[.int .u32 t231, .int .u16 t232] 27 (0, 0)) (by (with_reducible repeat (first | refine blk_drewN ?_ _ | refine blk_drew ?_ | refine blk_alloc ?_ _)); exact BK234.out)) : gb234 ≠ gb238)); have n12_ := Aside0.mk ((by rw [hg]; exact Nat.ne_of_gt (blk_lt (g := gb234) (o := .cells #[.int .u32 t231, .int .u16 t232] 27 (0, 0)) (by (with_reducible repeat (first | refine blk_drewN ?_ _ | refine blk_drew ?_ | refine blk_alloc ?_ _)); exact BK234.out)) : gb238 ≠ gb234)); clear BK218; clear BK230; clear BK234; clear HB; have BK218 := n0_; have BK230 := n1_; have BK234 := n2_; have HB := n3_; have BK238 := n4_; have GW238 := n5_; have GE238 := n6_; have NB218_238 := n7_; have NB238_218 := n8_; have NB230_238 := n9_; have NB238_230 := n10_; have NB234_238 := n11_; have NB238_234 := n12_; clear n0_ n1_ n2_ n3_ n4_ n5_ n6_ n7_ n8_ n9_ n10_ n11_ n12_; clear hb hbox hg; have hnb67 := NB238_218.out; have hnc67 := NB218_238.out; have hnb68 := NB238_230.out; have hnc68 := NB230_238.out; have hnb69 := NB238_234.out; have hnc69 := NB234_238.out; have hcz70_0 : w66.cell? ⟨gb238, 0, none⟩ = some (.int .u32 0) := (blk_cell BK238.out 0).trans rfl; have hcz70_1 : w66.cell? ⟨gb238, 1, none⟩ = some (.int .u16 0) := (blk_cell BK238.out 1).trans rfl; have hfz70_0 := blk_frozen BK238.out 0; have hfz70_1 := blk_frozen BK238.out 1) | ((with_reducible refine gate_callee (f := 25) rfl ?_); refine goesL_ (some 96) rfl rfl Tryd.func25 (by kernel_rfl) rfl #[.string a5] rfl (by (try simp only [List.map_toArray, List.map_cons, List.map_nil]); first | done | rfl | (simp only [List.length_drop, List.length_take]; rfl)) ?_; (with_reducible refine (ref03_Get.calls kj10 a5 t239 t240 t241 _ A50.out).mono ?_); rintro e w71 ⟨rfl, hb⟩; refine ⟨_, rfl, ?_⟩; have n0_ := Aside0.mk (blk_below (g := gb218) (o := .cells #[.int .u32 a0_0, .int .u16 a0_1] 25 (0, 0)) (by (with_reducible repeat (first | refine blk_drewN ?_ _ | refine blk_drew ?_ | refine blk_alloc ?_ _)); refine blk_far ?_ NB218_238.out _; (with_reducible repeat (first | refine blk_drewN ?_ _ | refine blk_drew ?_ | refine blk_alloc ?_ _)); refine blk_far ?_ NB218_238.out _; (with_reducible repeat (first | refine blk_drewN ?_ _ | refine blk_drew ?_ | refine blk_alloc ?_ _)); exact BK218.out) hb); have n1_ := Aside0.mk (blk_below (g := gb230) (o := .cells #[.int .u32 t227, .int .u16 t228] 25 (0, 0)) (by (with_reducible repeat (first | refine blk_drewN ?_ _ | refine blk_drew ?_ | refine blk_alloc ?_ _)); refine blk_far ?_ NB230_238.out _; (with_reducible repeat (first | refine blk_drewN ?_ _ | refine blk_drew ?_ | refine blk_alloc ?_ _)); refine blk_far ?_ NB230_238.out _; (with_reducible repeat (first | refine blk_drewN ?_ _ | refine blk_drew ?_ | refine blk_alloc ?_ _)); exact BK230.out) hb); have n2_ := Aside0.mk (blk_below (g := gb234) (o := .cells #[.int .u32 t231, .int .u16 t232] 27 (0, 0)) (by (with_reducible repeat (first | refine blk_drewN ?_ _ | refine blk_drew ?_ | refine blk_alloc ?_ _)); refine blk_far ?_ NB234_238.out _; (with_reducible repeat (first | refine blk_drewN ?_ _ | refine blk_drew ?_ | refine blk_alloc ?_ _)); refine blk_far ?_ NB234_238.out _; (with_reducible repeat (first | refine blk_drewN ?_ _ | refine blk_drew ?_ | refine blk_alloc ?_ _)); exact BK234.out) hb); have n3_ := Aside0.mk (blk_below (g := gb238) (o := .cells #[.int .u32 t235, .int .u16 t236] 25 (0, 0)) (by (with_reducible repeat (first | refine blk_drewN ?_ _ | refine blk_drew ?_ | refine blk_alloc ?_ _)); refine blk_put (cs := #[.int .u32 t235, .int .u16 0]) ?_ 1 _ rfl; (with_reducible repeat (first | refine blk_drewN ?_ _ | refine blk_drew ?_ | refine blk_alloc ?_ _)); refine blk_put (cs := #[.int .u32 0, .int .u16 0]) ?_ 0 _ rfl; (with_reducible repeat (first | refine blk_drewN ?_ _ | refine blk_drew ?_ | refine blk_alloc ?_ _)); exact BK238.out) hb); have n4_ := Aside0.mk (below_step (by repeat (first | (with_reducible first | exact HB.out | apply below_alloc | apply pw_below_drewN | apply below_drew1 | refine below_set ?_ GE218.out | refine below_set ?_ GE230.out | refine below_set ?_ GE234.out | refine below_set ?_ GE238.out) | exact HB.out)) hb); clear BK218; clear BK230; clear BK234; clear BK238; clear HB; have BK218 := n0_; have BK230 := n1_; have BK234 := n2_; have BK238 := n3_; have HB := n4_; clear n0_ n1_ n2_ n3_ n4_; (try clear hb); (try clear hb2); (try clear hk); (try clear hi)) | ((with_reducible refine gate_dst (N := 23) rfl ?_); refine box_event ?hg (N := 23) ?hd (cs := #[.int .u32 0, .int .u16 0]) (t := 27) ?hr ?_; (case hd => rfl); (case hg => rfl); (case hr => first | (go_simp; done) | (go_simp; rfl)); intro gb242 hg w72 hbox hb; have n0_ := Aside0.mk (blk_below (g := gb218) (o := .cells #[.int .u32 a0_0, .int .u16 a0_1] 25 (0, 0)) (by (with_reducible repeat (first | refine blk_drewN ?_ _ | refine blk_drew ?_ | refine blk_alloc ?_ _)); exact BK218.out) hb); have n1_ := Aside0.mk (blk_below (g := gb230) (o := .cells #[.int .u32 t227, .int .u16 t228] 25 (0, 0)) (by (with_reducible repeat (first | refine blk_drewN ?_ _ | refine blk_drew ?_ | refine blk_alloc ?_ _)); exact BK230.out) hb); have n2_ := Aside0.mk (blk_below (g := gb234) (o := .cells #[.int .u32 t231, .int .u16 t232] 27 (0, 0)) (by (with_reducible repeat (first | refine blk_drewN ?_ _ | refine blk_drew ?_ | refine blk_alloc ?_ _)); exact BK234.out) hb); have n3_ := Aside0.mk (blk_below (g := gb238) (o := .cells #[.int .u32 t235, .int .u16 t236] 25 (0, 0)) (by (with_reducible repeat (first | refine blk_drewN ?_ _ | refine blk_drew ?_ | refine blk_alloc ?_ _)); exact BK238.out) hb); have n4_ := Aside0.mk (below_step (by repeat (first | (with_reducible first | exact HB.out | apply below_alloc | apply pw_below_drewN | apply below_drew1 | refine below_set ?_ GE218.out | refine below_set ?_ GE230.out | refine below_set ?_ GE234.out | refine below_set ?_ GE238.out) | exact HB.out)) hb); have n5_ := Aside0.mk (hbox); have n6_ := Aside0.mk ((by rw [hg]; exact (below_size (by repeat (first | (with_reducible first | exact HB.out | apply below_alloc | apply pw_below_drewN | apply below_drew1 | refine below_set ?_ GE218.out | refine below_set ?_ GE230.out | refine below_set ?_ GE234.out | refine below_set ?_ GE238.out) | exact HB.out))) : w.heap.size ≤ gb242)); have n7_ := Aside0.mk ((by rw [hg]; exact (below_size (by repeat (first | (with_reducible first | exact HB.out | apply below_alloc | apply pw_below_drewN | apply below_drew1 | refine below_set ?_ GE218.out | refine below_set ?_ GE230.out | refine below_set ?_ GE234.out | refine below_set ?_ GE238.out) | exact HB.out))) : w.heap.size ≤ gb242)); have n8_ := Aside0.mk ((by rw [hg]; exact Nat.ne_of_lt (blk_lt (g := gb218) (o := .cells #[.int .u32 a0_0, .int .u16 a0_1] 25 (0, 0)) (by (with_reducible repeat (first | refine blk_drewN ?_ _ | refine blk_drew ?_ | refine blk_alloc ?_ _)); exact BK218.out)) : gb218 ≠ gb242)); have n9_ := Aside0.mk ((by rw [hg]; exact Nat.ne_of_gt (blk_lt (g := gb218) (o := .cells #[.int .u32 a0_0, .int .u16 a0_1] 25 (0, 0)) (by (with_reducible repeat (first | refine blk_drewN ?_ _ | refine blk_drew ?_ | refine blk_alloc ?_ _)); exact BK218.out)) : gb242 ≠ gb218)); have n10_ := Aside0.mk ((by rw [hg]; exact Nat.ne_of_lt (blk_lt (g := gb230) (o := .cells #[.int .u32 t227, .int .u16 t228] 25 (0, 0)) (by (with_reducible repeat (first | refine blk_drewN ?_ _ | refine blk_drew ?_ | refine blk_alloc ?_ _)); exact BK230.out)) : gb230 ≠ gb242)); have n11_ := Aside0.mk ((by rw [hg]; exact Nat.ne_of_gt (blk_lt (g := gb230) (o := .cells #[.int .u32 t227, .int .u16 t228] 25 (0, 0)) (by (with_reducible repeat (first | refine blk_drewN ?_ _ | refine blk_drew ?_ | refine blk_alloc ?_ _)); exact BK230.out)) : gb242 ≠ gb230)); have n12_ := Aside0.mk ((by rw [hg]; exact Nat.ne_of_lt (blk_lt (g := gb234) (o := .cells #[.int .u32 t231, .int .u16 t232] 27 (0, 0)) (by (with_reducible repeat (first | refine blk_drewN ?_ _ | refine blk_drew ?_ | refine blk_alloc ?_ _)); exact BK234.out)) : gb234 ≠ gb242)); have n13_ := Aside0.mk ((by rw [hg]; exact Nat.ne_of_gt (blk_lt (g := gb234) (o := .cells #[.int .u32 t231, .int .u16 t232] 27 (0, 0)) (by (with_reducible repeat (first | refine blk_drewN ?_ _ | refine blk_drew ?_ | refine blk_alloc ?_ _)); exact BK234.out)) : gb242 ≠ gb234)); have n14_ := Aside0.mk ((by rw [hg]; exact Nat.ne_of_lt (blk_lt (g := gb238) (o := .cells #[.int .u32 t235, .int .u16 t236] 25 (0, 0)) (by (with_reducible repeat (first | refine blk_drewN ?_ _ | refine blk_drew ?_ | refine blk_alloc ?_ _)); exact BK238.out)) : gb238 ≠ gb242)); have n15_ := Aside0.mk ((by rw [hg]; exact Nat.ne_of_gt (blk_lt (g := gb238) (o := .cells #[.int .u32 t235, .int .u16 t236] 25 (0, 0)) (by (with_reducible repeat (first | refine blk_drewN ?_ _ | refine blk_drew ?_ | refine blk_alloc ?_ _)); exact BK238.out)) : gb242 ≠ gb238)); clear BK218; clear BK230; clear BK234; clear BK238; clear HB; have BK218 := n0_; have BK230 := n1_; have BK234 := n2_; have BK238 := n3_; have HB := n4_; have BK242 := n5_; have GW242 := n6_; have GE242 := n7_; have NB218_242 := n8_; have NB242_218 := n9_; have NB230_242 := n10_; have NB242_230 := n11_; have NB234_242 := n12_; have NB242_234 := n13_; have NB238_242 := n14_; have NB242_238 := n15_; clear n0_ n1_ n2_ n3_ n4_ n5_ n6_ n7_ n8_ n9_ n10_ n11_ n12_ n13_ n14_ n15_; clear hb hbox hg; have hnb73 := NB242_218.out; have hnc73 := NB218_242.out; have hnb74 := NB242_230.out; have hnc74 := NB230_242.out; have hnb75 := NB242_234.out; have hnc75 := NB234_242.out; have hnb76 := NB242_238.out; have hnc76 := NB238_242.out; have hcz77_0 : w72.cell? ⟨gb242, 0, none⟩ = some (.int .u32 0) := (blk_cell BK242.out 0).trans rfl; have hcz77_1 : w72.cell? ⟨gb242, 1, none⟩ = some (.int .u16 0) := (blk_cell BK242.out 1).trans rfl; have hfz77_0 := blk_frozen BK242.out 0; have hfz77_1 := blk_frozen BK242.out 1))
       have n0_ : Aside0 (((w72.setCell ⟨gb242, 0, none⟩ (.int .u32 t239)).setCell ⟨gb242, 1, none⟩ (.int .u16 t240)).heap[gb218]? = some (.cells #[.int .u32 a0_0, .int .u16 a0_1] 25 (0, 0))) := ⟨by (with_reducible repeat (first | refine blk_drewN ?_ _ | refine blk_drew ?_ | refine blk_alloc ?_ _)); refine blk_far ?_ NB218_242.out _; (with_reducible repeat (first | refine blk_drewN ?_ _ | refine blk_drew ?_ | refine blk_alloc ?_ _)); refine blk_far ?_ NB218_242.out _; (with_reducible repeat (first | refine blk_drewN ?_ _ | refine blk_drew ?_ | refine blk_alloc ?_ _)); exact BK218.out⟩
       have n1_ : Aside0 (((w72.setCell ⟨gb242, 0, none⟩ (.int .u32 t239)).setCell ⟨gb242, 1, none⟩ (.int .u16 t240)).heap[gb230]? = some (.cells #[.int .u32 t227, .int .u16 t228] 25 (0, 0))) := ⟨by (with_reducible repeat (first | refine blk_drewN ?_ _ | refine blk_drew ?_ | refine blk_alloc ?_ _)); refine blk_far ?_ NB230_242.out _; (with_reducible repeat (first | refine blk_drewN ?_ _ | refine blk_drew ?_ | refine blk_alloc ?_ _)); refine blk_far ?_ NB230_242.out _; (with_reducible repeat (first | refine blk_drewN ?_ _ | refine blk_drew ?_ | refine blk_alloc ?_ _)); exact BK230.out⟩
       have n2_ : Aside0 (((w72.setCell ⟨gb242, 0, none⟩ (.int .u32 t239)).setCell ⟨gb242, 1, none⟩ (.int .u16 t240)).heap[gb234]? = some (.cells #[.int .u32 t231, .int .u16 t232] 27 (0, 0))) := ⟨by (with_reducible repeat (first | refine blk_drewN ?_ _ | refine blk_drew ?_ | refine blk_alloc ?_ _)); refine blk_far ?_ NB234_242.out _; (with_reducible repeat (first | refine blk_drewN ?_ _ | refine blk_drew ?_ | refine blk_alloc ?_ _)); refine blk_far ?_ NB234_242.out _; (with_reducible repeat (first | refine blk_drewN ?_ _ | refine blk_drew ?_ | refine blk_alloc ?_ _)); exact BK234.out⟩
       have n3_ : Aside0 (((w72.setCell ⟨gb242, 0, none⟩ (.int .u32 t239)).setCell ⟨gb242, 1, none⟩ (.int .u16 t240)).heap[gb238]? = some (.cells #[.int .u32 t235, .int .u16 t236] 25 (0, 0))) := ⟨by (with_reducible repeat (first | refine blk_drewN ?_ _ | refine blk_drew ?_ | refine blk_alloc ?_ _)); refine blk_far ?_ NB238_242.out _; (with_reducible repeat (first | refine blk_drewN ?_ _ | refine blk_drew ?_ | refine blk_alloc ?_ _)); refine blk_far ?_ NB238_242.out _; (with_reducible repeat (first | refine blk_drewN ?_ _ | refine blk_drew ?_ | refine blk_alloc ?_ _)); exact BK238.out⟩
       have n4_ : Aside0 (((w72.setCell ⟨gb242, 0, none⟩ (.int .u32 t239)).setCell ⟨gb242, 1, none⟩ (.int .u16 t240)).heap[gb242]? = some (.cells #[.int .u32 t239, .int .u16 t240] 27 (0, 0))) := ⟨by (with_reducible repeat (first | refine blk_drewN ?_ _ | refine blk_drew ?_ | refine blk_alloc ?_ _)); refine blk_put (cs := #[.int .u32 t239, .int .u16 0]) ?_ 1 _ rfl; (with_reducible repeat (first | refine blk_drewN ?_ _ | refine blk_drew ?_ | refine blk_alloc ?_ _)); refine blk_put (cs := #[.int .u32 0, .int .u16 0]) ?_ 0 _ rfl; (with_reducible repeat (first | refine blk_drewN ?_ _ | refine blk_drew ?_ | refine blk_alloc ?_ _)); exact BK242.out⟩
       have n5_ : Aside0 (Below w.heap.size w ((w72.setCell ⟨gb242, 0, none⟩ (.int .u32 t239)).setCell ⟨gb242, 1, none⟩ (.int .u16 t240))) := ⟨by repeat (first | (with_reducible first | exact HB.out | apply below_alloc | apply pw_below_drewN | apply below_drew1 | refine below_set ?_ GE218.out | refine below_set ?_ GE230.out | refine below_set ?_ GE234.out | refine below_set ?_ GE238.out | refine below_set ?_ GE242.out) | exact HB.out)⟩
       (try clear BK218)
       (try clear BK230)
       (try clear BK234)
       (try clear BK238)
       (try clear BK242)
       (try clear HB)
       generalize ((w72.setCell ⟨gb242, 0, none⟩ (.int .u32 t239)).setCell ⟨gb242, 1, none⟩ (.int .u16 t240)) = w78 at n0_ n1_ n2_ n3_ n4_ n5_ ⊢
       have BK218 := n0_
       have BK230 := n1_
       have BK234 := n2_
       have BK238 := n3_
       have BK242 := n4_
       have HB := n5_
       clear n0_ n1_ n2_ n3_ n4_ n5_
       have n0_ := Aside0.mk (blk_drew BK218.out)
       have n1_ := Aside0.mk (blk_drew BK230.out)
       have n2_ := Aside0.mk (blk_drew BK234.out)
       have n3_ := Aside0.mk (blk_drew BK238.out)
       have n4_ := Aside0.mk (blk_drew BK242.out)
       have n5_ := Aside0.mk (below_drew1 HB.out)
       clear BK218
       clear BK230
       clear BK234
       clear BK238
       clear BK242
       clear HB
       have BK218 := n0_
       have BK230 := n1_
       have BK234 := n2_
       have BK238 := n3_
       have BK242 := n4_
       have HB := n5_
       clear n0_ n1_ n2_ n3_ n4_ n5_
       refine start_ (n := 24) (S := fun w' => w'.cell? ⟨gb230, 0, none⟩ = some (.int .u32 t227) ∧ w'.cell? ⟨gb230, 1, none⟩ = some (.int .u16 t228) ∧ w'.cell? ⟨gb234, 0, none⟩ = some (.int .u32 t231) ∧ w'.cell? ⟨gb234, 1, none⟩ = some (.int .u16 t232) ∧ w'.cell? ⟨gb238, 0, none⟩ = some (.int .u32 t235) ∧ w'.cell? ⟨gb238, 1, none⟩ = some (.int .u16 t236) ∧ w'.cell? ⟨gb242, 0, none⟩ = some (.int .u32 t239) ∧ w'.cell? ⟨gb242, 1, none⟩ = some (.int .u16 t240)) (ds := []) #[false, false, false, false, false, false, false, false, false, false, false, false, false, false, false, false, false, false, false, false, false, false, false, false] (by kernel_rfl) rfl rfl ⟨(blk_cell BK230.out 0).trans rfl, (blk_cell BK230.out 1).trans rfl, (blk_cell BK234.out 0).trans rfl, (blk_cell BK234.out 1).trans rfl, (blk_cell BK238.out 0).trans rfl, (blk_cell BK238.out 1).trans rfl, (blk_cell BK242.out 0).trans rfl, (blk_cell BK242.out 1).trans rfl⟩ (fun hHeld => ?_); refine with_tabW law03_AddrReads.tab18 law03_AddrReads.bits18 (fun HT_ HW_ => ?_)
       generalize w78.drew = w79 at BK218 BK230 BK234 BK238 BK242 HB hHeld ⊢
       refine pure_ (i := 0) (N := some 99) (v := ?_) (a' := ?_) #[true, false, false, false, false, false, false, false, false, false, false, false, false, false, false, false, false, false, false, false, false, false, false, false] rfl rfl (any_of HT_.out (by kernel_rfl)) (fun _ _ _ h => h) (Or.inl ⟨by first | rfl | (simp only [c52b0, c53b0, c55b0]; rfl), ?_⟩) ?_ ?_
       rotate_left
       ·intro w'
        go_simp
        with_reducible rfl
       rotate_left
       ·simp only [Act.put, List.setIfInBounds_toArray, List.set_cons_zero, List.set_cons_succ, i64_w, i32_w]
        rfl
       refine pure_ (i := 1) (N := some 100) (v := ?_) (a' := ?_) #[true, true, false, false, false, false, false, false, false, false, false, false, false, false, false, false, false, false, false, false, false, false, false, false] rfl rfl (any_of HT_.out (by kernel_rfl)) (fun _ _ _ h => h) (Or.inl ⟨by first | rfl | (simp only [c52b0, c53b0, c55b0]; rfl), ?_⟩) ?_ ?_
       rotate_left
       ·intro w'
        go_simp
        with_reducible rfl
       rotate_left
       ·simp only [Act.put, List.setIfInBounds_toArray, List.set_cons_zero, List.set_cons_succ, i64_w, i32_w]
        rfl
       refine take_ (i := 2) (N := some 101) (v := ?_) (a' := ?_) #[true, true, true, false, false, false, false, false, false, false, false, false, false, false, false, false, false, false, false, false, false, false, false, false] rfl rfl (take_ofW HT_.out HW_.out (by kernel_rfl)) (fun _ _ _ h => h) (Or.inl ⟨by first | rfl | (simp only [c52b0, c53b0, c55b0]; rfl), ?_⟩) hHeld ?_ ?_
       rotate_left
       ·rintro w' ⟨s0, s1, s2, s3, s4, s5, s6, s7⟩
        go_simp
        with_reducible rfl
       rotate_left
       ·simp only [Act.put, List.setIfInBounds_toArray, List.set_cons_zero, List.set_cons_succ, i64_w, i32_w]
        rfl
       refine take_ (i := 4) (N := some 103) (v := ?_) (a' := ?_) #[true, true, true, false, true, false, false, false, false, false, false, false, false, false, false, false, false, false, false, false, false, false, false, false] rfl rfl (take_ofW HT_.out HW_.out (by kernel_rfl)) (fun _ _ _ h => h) (Or.inl ⟨by first | rfl | (simp only [c52b0, c53b0, c55b0]; rfl), ?_⟩) hHeld ?_ ?_
       rotate_left
       ·rintro w' ⟨s0, s1, s2, s3, s4, s5, s6, s7⟩
        go_simp
        with_reducible rfl
       rotate_left
       ·simp only [Act.put, List.setIfInBounds_toArray, List.set_cons_zero, List.set_cons_succ, i64_w, i32_w]
        rfl
       refine one_ (i := 3) (N := some 102) #[true, true, true, true, true, false, false, false, false, false, false, false, false, false, false, false, false, false, false, false, false, false, false, false] rfl rfl (one_of HT_.out (by kernel_rfl)) (by decide) (fun K hK => ?_)
       refine goes_ Tryd.func10 (by kernel_rfl) rfl #[.agg #[.int .u32 t227, .int .u16 t228]] (by rfl) rfl rfl (by (try simp only [List.map_toArray, List.map_cons, List.map_nil]); first | done | rfl | (simp only [List.length_drop, List.length_take]; rfl)) ?_
       with_reducible refine (law03_ref.calls t227 t228 t243 t244 _ A51.out).mono ?_
       rintro e w80 ⟨rfl, hb⟩
       refine ⟨_, rfl, ?_⟩
       have n0_ := Aside0.mk (blk_below (g := gb218) (o := .cells #[.int .u32 a0_0, .int .u16 a0_1] 25 (0, 0)) (by (with_reducible repeat (first | refine blk_drewN ?_ _ | refine blk_drew ?_ | refine blk_alloc ?_ _)); exact BK218.out) hb)
       have n1_ := Aside0.mk (blk_below (g := gb230) (o := .cells #[.int .u32 t227, .int .u16 t228] 25 (0, 0)) (by (with_reducible repeat (first | refine blk_drewN ?_ _ | refine blk_drew ?_ | refine blk_alloc ?_ _)); exact BK230.out) hb)
       have n2_ := Aside0.mk (blk_below (g := gb234) (o := .cells #[.int .u32 t231, .int .u16 t232] 27 (0, 0)) (by (with_reducible repeat (first | refine blk_drewN ?_ _ | refine blk_drew ?_ | refine blk_alloc ?_ _)); exact BK234.out) hb)
       have n3_ := Aside0.mk (blk_below (g := gb238) (o := .cells #[.int .u32 t235, .int .u16 t236] 25 (0, 0)) (by (with_reducible repeat (first | refine blk_drewN ?_ _ | refine blk_drew ?_ | refine blk_alloc ?_ _)); exact BK238.out) hb)
       have n4_ := Aside0.mk (blk_below (g := gb242) (o := .cells #[.int .u32 t239, .int .u16 t240] 27 (0, 0)) (by (with_reducible repeat (first | refine blk_drewN ?_ _ | refine blk_drew ?_ | refine blk_alloc ?_ _)); exact BK242.out) hb)
       have n5_ := Aside0.mk (below_step (by repeat (first | (with_reducible first | exact HB.out | apply below_alloc | apply pw_below_drewN | apply below_drew1 | refine below_set ?_ GE218.out | refine below_set ?_ GE230.out | refine below_set ?_ GE234.out | refine below_set ?_ GE238.out | refine below_set ?_ GE242.out) | exact HB.out)) hb)
       clear BK218
       clear BK230
       clear BK234
       clear BK238
       clear BK242
       clear HB
       have BK218 := n0_
       have BK230 := n1_
       have BK234 := n2_
       have BK238 := n3_
       have BK242 := n4_
       have HB := n5_
       clear n0_ n1_ n2_ n3_ n4_ n5_
       (try clear hb)
       (try clear hb2)
       (try clear hk)
       (try clear hi)
       refine hK.out _ _ ⟨(blk_cell BK230.out 0).trans rfl, (blk_cell BK230.out 1).trans rfl, (blk_cell BK234.out 0).trans rfl, (blk_cell BK234.out 1).trans rfl, (blk_cell BK238.out 0).trans rfl, (blk_cell BK238.out 1).trans rfl, (blk_cell BK242.out 0).trans rfl, (blk_cell BK242.out 1).trans rfl⟩ (fun hHeld => ?_)
       clear hK K
       refine norm_ (a' := ?_) ?_ ?_
       rotate_left
       ·show Act.put _ (some 102) _ = _
        simp only [Act.put, List.setIfInBounds_toArray, List.set_cons_zero, List.set_cons_succ, i64_w, i32_w]
        rfl
       refine pure_ (i := 5) (N := some 104) (v := ?_) (a' := ?_) #[true, true, true, true, true, true, false, false, false, false, false, false, false, false, false, false, false, false, false, false, false, false, false, false] rfl rfl (any_of HT_.out (by kernel_rfl)) (fun _ _ _ h => h) (Or.inl ⟨by first | rfl | (simp only [c52b0, c53b0, c55b0]; rfl), ?_⟩) ?_ ?_
       rotate_left
       ·intro w'
        go_simp
        with_reducible rfl
       rotate_left
       ·simp only [Act.put, List.setIfInBounds_toArray, List.set_cons_zero, List.set_cons_succ, i64_w, i32_w]
        rfl
       refine pure_ (i := 6) (N := some 105) (v := ?_) (a' := ?_) #[true, true, true, true, true, true, true, false, false, false, false, false, false, false, false, false, false, false, false, false, false, false, false, false] rfl rfl (any_of HT_.out (by kernel_rfl)) (fun _ _ _ h => h) (Or.inl ⟨by first | rfl | (simp only [c52b0, c53b0, c55b0]; rfl), ?_⟩) ?_ ?_
       rotate_left
       ·intro w'
        go_simp
        with_reducible rfl
       rotate_left
       ·simp only [Act.put, List.setIfInBounds_toArray, List.set_cons_zero, List.set_cons_succ, i64_w, i32_w]
        rfl
       refine pure_ (i := 7) (N := some 106) (v := ?_) (a' := ?_) #[true, true, true, true, true, true, true, true, false, false, false, false, false, false, false, false, false, false, false, false, false, false, false, false] rfl rfl (any_of HT_.out (by kernel_rfl)) (fun _ _ _ h => h) (Or.inl ⟨by first | rfl | (simp only [c52b0, c53b0, c55b0]; rfl), ?_⟩) ?_ ?_
       rotate_left
       ·intro w'
        go_simp
        with_reducible rfl
       rotate_left
       ·simp only [Act.put, List.setIfInBounds_toArray, List.set_cons_zero, List.set_cons_succ, i64_w, i32_w]
        rfl
       refine pure_ (i := 8) (N := some 107) (v := ?_) (a' := ?_) #[true, true, true, true, true, true, true, true, true, false, false, false, false, false, false, false, false, false, false, false, false, false, false, false] rfl rfl (any_of HT_.out (by kernel_rfl)) (fun _ _ _ h => h) (Or.inl ⟨by first | rfl | (simp only [c52b0, c53b0, c55b0]; rfl), ?_⟩) ?_ ?_
       rotate_left
       ·intro w'
        go_simp
        with_reducible rfl
       rotate_left
       ·simp only [Act.put, List.setIfInBounds_toArray, List.set_cons_zero, List.set_cons_succ, i64_w, i32_w]
        rfl
       refine pure_ (i := 9) (N := some 108) (v := ?_) (a' := ?_) #[true, true, true, true, true, true, true, true, true, true, false, false, false, false, false, false, false, false, false, false, false, false, false, false] rfl rfl (any_of HT_.out (by kernel_rfl)) (fun _ _ _ h => h) (Or.inl ⟨by first | rfl | (simp only [c52b0, c53b0, c55b0]; rfl), ?_⟩) ?_ ?_
       rotate_left
       ·intro w'
        go_simp
        with_reducible rfl
       rotate_left
       ·simp only [Act.put, List.setIfInBounds_toArray, List.set_cons_zero, List.set_cons_succ, i64_w, i32_w]
        rfl
       refine pure_ (i := 10) (N := some 109) (v := ?_) (a' := ?_) #[true, true, true, true, true, true, true, true, true, true, true, false, false, false, false, false, false, false, false, false, false, false, false, false] rfl rfl (any_of HT_.out (by kernel_rfl)) (fun _ _ _ h => h) (Or.inl ⟨by first | rfl | (simp only [c52b0, c53b0, c55b0]; rfl), ?_⟩) ?_ ?_
       rotate_left
       ·intro w'
        go_simp
        with_reducible rfl
       rotate_left
       ·simp only [Act.put, List.setIfInBounds_toArray, List.set_cons_zero, List.set_cons_succ, i64_w, i32_w]
        rfl
       refine pure_ (i := 11) (N := some 110) (v := ?_) (a' := ?_) #[true, true, true, true, true, true, true, true, true, true, true, true, false, false, false, false, false, false, false, false, false, false, false, false] rfl rfl (any_of HT_.out (by kernel_rfl)) (fun _ _ _ h => h) (Or.inl ⟨by first | rfl | (simp only [c52b0, c53b0, c55b0]; rfl), ?_⟩) ?_ ?_
       rotate_left
       ·intro w'
        go_simp
        with_reducible rfl
       rotate_left
       ·simp only [Act.put, List.setIfInBounds_toArray, List.set_cons_zero, List.set_cons_succ, i64_w, i32_w]
        rfl
       refine pure_ (i := 12) (N := some 111) (v := ?_) (a' := ?_) #[true, true, true, true, true, true, true, true, true, true, true, true, true, false, false, false, false, false, false, false, false, false, false, false] rfl rfl (any_of HT_.out (by kernel_rfl)) (fun _ _ _ h => h) (Or.inl ⟨by first | rfl | (simp only [c52b0, c53b0, c55b0]; rfl), ?_⟩) ?_ ?_
       rotate_left
       ·intro w'
        go_simp
        with_reducible rfl
       rotate_left
       ·simp only [Act.put, List.setIfInBounds_toArray, List.set_cons_zero, List.set_cons_succ, i64_w, i32_w]
        rfl
       refine take_ (i := 13) (N := some 112) (v := ?_) (a' := ?_) #[true, true, true, true, true, true, true, true, true, true, true, true, true, true, false, false, false, false, false, false, false, false, false, false] rfl rfl (take_ofW HT_.out HW_.out (by kernel_rfl)) (fun _ _ _ h => h) (Or.inl ⟨by first | rfl | (simp only [c52b0, c53b0, c55b0]; rfl), ?_⟩) hHeld ?_ ?_
       rotate_left
       ·rintro w' ⟨s0, s1, s2, s3, s4, s5, s6, s7⟩
        go_simp
        with_reducible rfl
       rotate_left
       ·simp only [Act.put, List.setIfInBounds_toArray, List.set_cons_zero, List.set_cons_succ, i64_w, i32_w]
        rfl
       refine take_ (i := 15) (N := some 114) (v := ?_) (a' := ?_) #[true, true, true, true, true, true, true, true, true, true, true, true, true, true, false, true, false, false, false, false, false, false, false, false] rfl rfl (take_ofW HT_.out HW_.out (by kernel_rfl)) (fun _ _ _ h => h) (Or.inl ⟨by first | rfl | (simp only [c52b0, c53b0, c55b0]; rfl), ?_⟩) hHeld ?_ ?_
       rotate_left
       ·rintro w' ⟨s0, s1, s2, s3, s4, s5, s6, s7⟩
        go_simp
        with_reducible rfl
       rotate_left
       ·simp only [Act.put, List.setIfInBounds_toArray, List.set_cons_zero, List.set_cons_succ, i64_w, i32_w]
        rfl
       refine one_ (i := 14) (N := some 113) #[true, true, true, true, true, true, true, true, true, true, true, true, true, true, true, true, false, false, false, false, false, false, false, false] rfl rfl (one_of HT_.out (by kernel_rfl)) (by decide) (fun K hK => ?_)
       refine goes_ Tryd.func10 (by kernel_rfl) rfl #[.agg #[.int .u32 t235, .int .u16 t236]] (by rfl) rfl rfl (by (try simp only [List.map_toArray, List.map_cons, List.map_nil]); first | done | rfl | (simp only [List.length_drop, List.length_take]; rfl)) ?_
       with_reducible refine (law03_ref.calls t235 t236 t245 t246 _ A54.out).mono ?_
       rintro e w81 ⟨rfl, hb⟩
       refine ⟨_, rfl, ?_⟩
       have n0_ := Aside0.mk (blk_below (g := gb218) (o := .cells #[.int .u32 a0_0, .int .u16 a0_1] 25 (0, 0)) (by (with_reducible repeat (first | refine blk_drewN ?_ _ | refine blk_drew ?_ | refine blk_alloc ?_ _)); exact BK218.out) hb)
       have n1_ := Aside0.mk (blk_below (g := gb230) (o := .cells #[.int .u32 t227, .int .u16 t228] 25 (0, 0)) (by (with_reducible repeat (first | refine blk_drewN ?_ _ | refine blk_drew ?_ | refine blk_alloc ?_ _)); exact BK230.out) hb)
       have n2_ := Aside0.mk (blk_below (g := gb234) (o := .cells #[.int .u32 t231, .int .u16 t232] 27 (0, 0)) (by (with_reducible repeat (first | refine blk_drewN ?_ _ | refine blk_drew ?_ | refine blk_alloc ?_ _)); exact BK234.out) hb)
       have n3_ := Aside0.mk (blk_below (g := gb238) (o := .cells #[.int .u32 t235, .int .u16 t236] 25 (0, 0)) (by (with_reducible repeat (first | refine blk_drewN ?_ _ | refine blk_drew ?_ | refine blk_alloc ?_ _)); exact BK238.out) hb)
       have n4_ := Aside0.mk (blk_below (g := gb242) (o := .cells #[.int .u32 t239, .int .u16 t240] 27 (0, 0)) (by (with_reducible repeat (first | refine blk_drewN ?_ _ | refine blk_drew ?_ | refine blk_alloc ?_ _)); exact BK242.out) hb)
       have n5_ := Aside0.mk (below_step (by repeat (first | (with_reducible first | exact HB.out | apply below_alloc | apply pw_below_drewN | apply below_drew1 | refine below_set ?_ GE218.out | refine below_set ?_ GE230.out | refine below_set ?_ GE234.out | refine below_set ?_ GE238.out | refine below_set ?_ GE242.out) | exact HB.out)) hb)
       clear BK218
       clear BK230
       clear BK234
       clear BK238
       clear BK242
       clear HB
       have BK218 := n0_
       have BK230 := n1_
       have BK234 := n2_
       have BK238 := n3_
       have BK242 := n4_
       have HB := n5_
       clear n0_ n1_ n2_ n3_ n4_ n5_
       (try clear hb)
       (try clear hb2)
       (try clear hk)
       (try clear hi)
       refine hK.out _ _ ⟨(blk_cell BK230.out 0).trans rfl, (blk_cell BK230.out 1).trans rfl, (blk_cell BK234.out 0).trans rfl, (blk_cell BK234.out 1).trans rfl, (blk_cell BK238.out 0).trans rfl, (blk_cell BK238.out 1).trans rfl, (blk_cell BK242.out 0).trans rfl, (blk_cell BK242.out 1).trans rfl⟩ (fun hHeld => ?_)
       clear hK K
       refine norm_ (a' := ?_) ?_ ?_
       rotate_left
       ·show Act.put _ (some 113) _ = _
        simp only [Act.put, List.setIfInBounds_toArray, List.set_cons_zero, List.set_cons_succ, i64_w, i32_w]
        rfl
       refine pure_ (i := 16) (N := some 115) (v := ?_) (a' := ?_) #[true, true, true, true, true, true, true, true, true, true, true, true, true, true, true, true, true, false, false, false, false, false, false, false] rfl rfl (any_of HT_.out (by kernel_rfl)) (fun _ _ _ h => h) (Or.inl ⟨by first | rfl | (simp only [c52b0, c53b0, c55b0]; rfl), ?_⟩) ?_ ?_
       rotate_left
       ·intro w'
        go_simp
        with_reducible rfl
       rotate_left
       ·simp only [Act.put, List.setIfInBounds_toArray, List.set_cons_zero, List.set_cons_succ, i64_w, i32_w]
        rfl
       refine pure_ (i := 17) (N := some 116) (v := ?_) (a' := ?_) #[true, true, true, true, true, true, true, true, true, true, true, true, true, true, true, true, true, true, false, false, false, false, false, false] rfl rfl (any_of HT_.out (by kernel_rfl)) (fun _ _ _ h => h) (Or.inl ⟨by first | rfl | (simp only [c52b0, c53b0, c55b0]; rfl), ?_⟩) ?_ ?_
       rotate_left
       ·intro w'
        go_simp
        with_reducible rfl
       rotate_left
       ·simp only [Act.put, List.setIfInBounds_toArray, List.set_cons_zero, List.set_cons_succ, i64_w, i32_w]
        rfl
       refine pure_ (i := 18) (N := some 117) (v := ?_) (a' := ?_) #[true, true, true, true, true, true, true, true, true, true, true, true, true, true, true, true, true, true, true, false, false, false, false, false] rfl rfl (any_of HT_.out (by kernel_rfl)) (fun _ _ _ h => h) (Or.inl ⟨by first | rfl | (simp only [c52b0, c53b0, c55b0]; rfl), ?_⟩) ?_ ?_
       rotate_left
       ·intro w'
        go_simp
        with_reducible rfl
       rotate_left
       ·simp only [Act.put, List.setIfInBounds_toArray, List.set_cons_zero, List.set_cons_succ, i64_w, i32_w]
        rfl
       refine pure_ (i := 19) (N := some 118) (v := ?_) (a' := ?_) #[true, true, true, true, true, true, true, true, true, true, true, true, true, true, true, true, true, true, true, true, false, false, false, false] rfl rfl (any_of HT_.out (by kernel_rfl)) (fun _ _ _ h => h) (Or.inl ⟨by first | rfl | (simp only [c52b0, c53b0, c55b0]; rfl), ?_⟩) ?_ ?_
       rotate_left
       ·intro w'
        go_simp
        with_reducible rfl
       rotate_left
       ·simp only [Act.put, List.setIfInBounds_toArray, List.set_cons_zero, List.set_cons_succ, i64_w, i32_w]
        rfl
       refine pure_ (i := 20) (N := some 119) (v := ?_) (a' := ?_) #[true, true, true, true, true, true, true, true, true, true, true, true, true, true, true, true, true, true, true, true, true, false, false, false] rfl rfl (any_of HT_.out (by kernel_rfl)) (fun _ _ _ h => h) (Or.inl ⟨by first | rfl | (simp only [c52b0, c53b0, c55b0]; rfl), ?_⟩) ?_ ?_
       rotate_left
       ·intro w'
        go_simp
        with_reducible rfl
       rotate_left
       ·simp only [Act.put, List.setIfInBounds_toArray, List.set_cons_zero, List.set_cons_succ, i64_w, i32_w]
        rfl
       refine pure_ (i := 21) (N := some 120) (v := ?_) (a' := ?_) #[true, true, true, true, true, true, true, true, true, true, true, true, true, true, true, true, true, true, true, true, true, true, false, false] rfl rfl (any_of HT_.out (by kernel_rfl)) (fun _ _ _ h => h) (Or.inl ⟨by first | rfl | (simp only [c52b0, c53b0, c55b0]; rfl), ?_⟩) ?_ ?_
       rotate_left
       ·intro w'
        go_simp
        with_reducible rfl
       rotate_left
       ·simp only [Act.put, List.setIfInBounds_toArray, List.set_cons_zero, List.set_cons_succ, i64_w, i32_w]
        rfl
       refine pure_ (i := 22) (N := some 121) (v := ?_) (a' := ?_) #[true, true, true, true, true, true, true, true, true, true, true, true, true, true, true, true, true, true, true, true, true, true, true, false] rfl rfl (any_of HT_.out (by kernel_rfl)) (fun _ _ _ h => h) (Or.inl ⟨by first | rfl | (simp only [c52b0, c53b0, c55b0]; rfl), ?_⟩) ?_ ?_
       rotate_left
       ·intro w'
        go_simp
        with_reducible rfl
       rotate_left
       ·simp only [Act.put, List.setIfInBounds_toArray, List.set_cons_zero, List.set_cons_succ, i64_w, i32_w]
        rfl
       refine pure_ (i := 23) (N := some 12) (v := ?_) (a' := ?_) #[true, true, true, true, true, true, true, true, true, true, true, true, true, true, true, true, true, true, true, true, true, true, true, true] rfl rfl (any_of HT_.out (by kernel_rfl)) (fun _ _ _ h => h) (Or.inl ⟨by first | rfl | (simp only [c52b0, c53b0, c55b0]; rfl), ?_⟩) ?_ ?_
       rotate_left
       ·intro w'
        go_simp
        with_reducible rfl
       rotate_left
       ·simp only [Act.put, List.setIfInBounds_toArray, List.set_cons_zero, List.set_cons_succ, i64_w, i32_w]
        rfl
       refine done_ (done_of HT_.out (by kernel_rfl)) ?_
       try go_wp2
       go_ret
       exact ⟨by first | rfl | (simp only [Go.Proofs.YtjlpfmiipicnoaaDoorX.ne_nil, Go.Proofs.YtjlpfmiipicnoaaDoorX.eq_nil]; rfl) | (simp [Go.Proofs.YtjlpfmiipicnoaaDoorX.ne_nil, Go.Proofs.YtjlpfmiipicnoaaDoorX.eq_nil]; done) | (simp [errW_none, errW_some] <;> rfl) | (simp [*, errW_none, errW_some] <;> rfl), by repeat (first | (with_reducible first | exact HB.out | apply below_alloc | apply pw_below_drewN | apply below_drew1 | refine below_set ?_ GE218.out | refine below_set ?_ GE230.out | refine below_set ?_ GE234.out | refine below_set ?_ GE238.out | refine below_set ?_ GE242.out) | exact HB.out)⟩
      ·(first | rw [if_neg c55] at H | exact absurd rfl c55)
       have c55b0 : (t245 == t239 && (t246 == t240)) = false := by simpa using c55
       (try (have c55b1 : decide (t245 = t239 && (t246 == t240)) = false := by simpa using c55))
       (try (have c55b2 : (t245 == t239 && (t246 == t240)) = false := by simpa using c55))
       (try (have c55b3 : ¬ (t245 = t239 && (t246 == t240)) := by simpa using c55))
       clear c55
       exact absurd H (by simp)
     ·(first | rw [if_neg c53] at H | exact absurd rfl c53)
      have c53b0 : (t229 == t233) = false := by simpa using c53
      (try (have c53b1 : decide (t229 = t233) = false := by simpa using c53))
      (try (have c53b2 : (t229 == t233) = false := by simpa using c53))
      (try (have c53b3 : ¬ (t229 = t233) := by simpa using c53))
      clear c53
      exact absurd H (by simp)
    ·(first | rw [if_neg c52] at H | exact absurd rfl c52)
     have c52b0 : (t243 == t231 && (t244 == t232)) = false := by simpa using c52
     (try (have c52b1 : decide (t243 = t231 && (t244 == t232)) = false := by simpa using c52))
     (try (have c52b2 : (t243 == t231 && (t244 == t232)) = false := by simpa using c52))
     (try (have c52b3 : ¬ (t243 = t231 && (t244 == t232)) := by simpa using c52))
     clear c52
     exact absurd H (by simp)
 ·replace c8 := Bool.eq_false_iff.mpr c8
  (first | subst c8 | clear c8)
  have H1 : (none) = some r := by rw [if_neg (show ¬ (false = true) by decide)] at H; exact H
  clear H
  have H := H1
  clear H1
  exact absurd H (by simp)

/-- THE ONE PURE STATEMENT of law03_AddrReads: yours. -/
def law03_AddrReads.Pure : Prop := ∀ (a0_0 : Int) (a0_1 : Int) (a1 : ByteArray) (a2 : Int) (a3 : Int) (a4 : Int) (a5 : ByteArray), (Lit.int .u32 a0_0).wf = true → (Lit.int .u16 a0_1).wf = true → a1.size ≤ 140737488351232 → (Lit.int .u8 a2).wf = true → (Lit.int .i64 a3).wf = true → (Lit.int .u8 a4).wf = true → a5.size ≤ 140737488351232 → ∃ k, law03_AddrReads.f k a0_0 a0_1 a1 a2 a3 a4 a5 = some true
theorem law03_AddrReads.walk (P : law03_AddrReads.Pure) (a0_0 : Int) (a0_1 : Int) (a1 : ByteArray) (a2 : Int) (a3 : Int) (a4 : Int) (a5 : ByteArray) (w : World) (w0_0 : (Lit.int .u32 a0_0).wf = true) (w0_1 : (Lit.int .u16 a0_1).wf = true) (w1 : a1.size ≤ 140737488351232) (w2 : (Lit.int .u8 a2).wf = true) (w3 : (Lit.int .i64 a3).wf = true) (w4 : (Lit.int .u8 a4).wf = true) (w5 : a5.size ≤ 140737488351232) (htab : Aside0 (IT.TabP w)) :
  Calls Tryd.prog 4 #[.agg #[.int .u32 a0_0, .int .u16 a0_1], .string a1, .int .u8 a2, .int .i64 a3, .int .u8 a4, .string a5] w fun e w' => e = .returned (.bool true) ∧ Below w.heap.size w w' := by
 obtain ⟨k, h⟩ := P a0_0 a0_1 a1 a2 a3 a4 a5 w0_0 w0_1 w1 w2 w3 w4 w5
 refine (law03_AddrReads.calls k a0_0 a0_1 a1 a2 a3 a4 a5 true w h htab).mono ?_
 rintro e w' ⟨rfl, hd⟩
 exact ⟨rfl, hd⟩

end Go.Proofs.YtjlpfmiipicnoaaDoor.PA
