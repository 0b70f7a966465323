/- Written by xprint.py, a program of this session: Go functions that the laws reach, each as a plain Lean function, and the proof that the Go code comes to what it says. No condition but those that each theorem names. -/
import Derived.Test.YtjlpfmiipicnoaaDoorPAx0
import Derived.Test.YtjlpfmiipicnoaaDoorPAx9
import Derived.WalkSpells
import Derived.WalkLawsBesides
import Derived.Laws.IdiomStrings
import Derived.Laws.BytesArg
import Derived.Test.YtjlpfmiipicnoaaDoorXAux
namespace Go.Proofs.YtjlpfmiipicnoaaDoor.PA
open Go.RowKit Go.Proofs.YtjlpfmiipicnoaaDoorW.PrintWords Go.Proofs.YtjlpfmiipicnoaaDoorW.PrintLast Go.Proofs.YtjlpfmiipicnoaaDoorW.PrintMore
attribute [local go_sem] max2_int min2_int max_two min_two max_three min_three max_four min_four   -- for this text's walks alone
set_option linter.unusedVariables false
set_option linter.unusedSimpArgs false

/-! ### ref03_Addr_Text: function 12 -/
def ref03_Addr_Text.f (k : Nat) (a0_0 : Int) (a0_1 : Int) : Option (ByteArray) := (ref03_Digits.f k ((IntKind.u64.wrap (a0_0)) / 16777216)).bind fun t182 => (if t182.size + 1 ≤ 9223372036854775807 then ((ref03_Digits.f k (Int.tmod ((IntKind.u64.wrap (a0_0)) / 65536) 256)).bind fun t183 => (if (t182 ++ (⟨#[46]⟩ : ByteArray)).size + t183.size ≤ 9223372036854775807 then (if ((t182 ++ (⟨#[46]⟩ : ByteArray)) ++ t183).size + 1 ≤ 9223372036854775807 then ((ref03_Digits.f k (Int.tmod ((IntKind.u64.wrap (a0_0)) / 256) 256)).bind fun t184 => (if (((t182 ++ (⟨#[46]⟩ : ByteArray)) ++ t183) ++ (⟨#[46]⟩ : ByteArray)).size + t184.size ≤ 9223372036854775807 then (if ((((t182 ++ (⟨#[46]⟩ : ByteArray)) ++ t183) ++ (⟨#[46]⟩ : ByteArray)) ++ t184).size + 1 ≤ 9223372036854775807 then ((ref03_Digits.f k (Int.tmod (IntKind.u64.wrap (a0_0)) 256)).bind fun t185 => (if (((((t182 ++ (⟨#[46]⟩ : ByteArray)) ++ t183) ++ (⟨#[46]⟩ : ByteArray)) ++ t184) ++ (⟨#[46]⟩ : ByteArray)).size + t185.size ≤ 9223372036854775807 then (if ((((((t182 ++ (⟨#[46]⟩ : ByteArray)) ++ t183) ++ (⟨#[46]⟩ : ByteArray)) ++ t184) ++ (⟨#[46]⟩ : ByteArray)) ++ t185).size + 1 ≤ 9223372036854775807 then ((ref03_Digits.f k (IntKind.u64.wrap (a0_1))).bind fun t186 => (if (((((((t182 ++ (⟨#[46]⟩ : ByteArray)) ++ t183) ++ (⟨#[46]⟩ : ByteArray)) ++ t184) ++ (⟨#[46]⟩ : ByteArray)) ++ t185) ++ (⟨#[58]⟩ : ByteArray)).size + t186.size ≤ 9223372036854775807 then (some ((((((((t182 ++ (⟨#[46]⟩ : ByteArray)) ++ t183) ++ (⟨#[46]⟩ : ByteArray)) ++ t184) ++ (⟨#[46]⟩ : ByteArray)) ++ t185) ++ (⟨#[58]⟩ : ByteArray)) ++ t186)) else (none))) else (none)) else (none))) else (none)) else (none))) else (none)) else (none))) else (none))
theorem ref03_Addr_Text.mono : ∀ a0 a1 k, LeO (ref03_Addr_Text.f k a0 a1) (ref03_Addr_Text.f (k + 1) a0 a1) := by
 intro a0 a1 k
 unfold ref03_Addr_Text.f
 repeat' first
   | (with_reducible exact ref03_Digits.mono _ _)
   | (with_reducible exact LeO.refl _)
   | (with_reducible exact LeO.none _)
   | (with_reducible refine LeO.ite ?_ ?_)
   | (with_reducible refine LeO.bind ?_ (fun _ => ?_))
   | exact ref03_Digits.mono _ _
   | exact LeO.none _
   | refine LeO.ite ?_ ?_
   | refine LeO.bind ?_ (fun _ => ?_)
def ref03_Addr_Text.T2 : Bool × List (List Nat × List Nat) := (true, [([], []), ([0], [0]), ([1], [1]), ([2], [2]), ([], []), ([4], [4]), ([5], [5]), ([6, 2], [6]), ([3, 7], [3, 7]), ([8], [8]), ([], []), ([10], [10]), ([11], [11]), ([12, 7], [12]), ([9, 13], [9, 13]), ([14], [14]), ([], []), ([16], [16]), ([17, 13], [17]), ([15, 18], [15, 18]), ([19], [19]), ([], []), ([21], [21]), ([22], [22]), ([23, 18], [23]), ([20, 24], [20, 24]), ([25, 24, 0, 1, 2, 3, 4, 5, 6, 7, 8, 9, 10, 11, 12, 13, 14, 15, 16, 17, 18, 19, 20, 21, 22, 23, 24, 25], [25])])
def ref03_Addr_Text.B2 : List Nat := [0, 1, 3, 7, 0, 16, 48, 119, 255, 511, 0, 1024, 3072, 7415, 16383, 32767, 0, 65536, 212215, 524287, 1048575, 0, 2097152, 6291456, 15154423, 33554431, 67108863]
theorem ref03_Addr_Text.tab2 : rtab .any (opsOf Tryd.f12 2) = ref03_Addr_Text.T2 := by kernel_rfl
theorem ref03_Addr_Text.bits2 : waitsOk ref03_Addr_Text.T2.2 ref03_Addr_Text.B2 = true := by kernel_rfl
set_option maxHeartbeats 8000000 in
set_option maxRecDepth 100000 in
theorem ref03_Addr_Text.calls (k : Nat) (a0_0 : Int) (a0_1 : Int) (r : ByteArray) (w : World) (h : ref03_Addr_Text.f k a0_0 a0_1 = some r) :
  Calls Tryd.prog 12 #[.agg #[.int .u32 a0_0, .int .u16 a0_1]] w fun e w' => e = .returned (.string r) ∧ Below w.heap.size w w' := by
 have hu27 := Tryd.underlying27
 have HB := Aside0.mk (Below.refl w.heap.size w)
 have H : ((ref03_Digits.f k ((IntKind.u64.wrap (a0_0)) / 16777216)).bind fun t182 => (if t182.size + 1 ≤ 9223372036854775807 then ((ref03_Digits.f k (Int.tmod ((IntKind.u64.wrap (a0_0)) / 65536) 256)).bind fun t183 => (if (t182 ++ (⟨#[46]⟩ : ByteArray)).size + t183.size ≤ 9223372036854775807 then (if ((t182 ++ (⟨#[46]⟩ : ByteArray)) ++ t183).size + 1 ≤ 9223372036854775807 then ((ref03_Digits.f k (Int.tmod ((IntKind.u64.wrap (a0_0)) / 256) 256)).bind fun t184 => (if (((t182 ++ (⟨#[46]⟩ : ByteArray)) ++ t183) ++ (⟨#[46]⟩ : ByteArray)).size + t184.size ≤ 9223372036854775807 then (if ((((t182 ++ (⟨#[46]⟩ : ByteArray)) ++ t183) ++ (⟨#[46]⟩ : ByteArray)) ++ t184).size + 1 ≤ 9223372036854775807 then ((ref03_Digits.f k (Int.tmod (IntKind.u64.wrap (a0_0)) 256)).bind fun t185 => (if (((((t182 ++ (⟨#[46]⟩ : ByteArray)) ++ t183) ++ (⟨#[46]⟩ : ByteArray)) ++ t184) ++ (⟨#[46]⟩ : ByteArray)).size + t185.size ≤ 9223372036854775807 then (if ((((((t182 ++ (⟨#[46]⟩ : ByteArray)) ++ t183) ++ (⟨#[46]⟩ : ByteArray)) ++ t184) ++ (⟨#[46]⟩ : ByteArray)) ++ t185).size + 1 ≤ 9223372036854775807 then ((ref03_Digits.f k (IntKind.u64.wrap (a0_1))).bind fun t186 => (if (((((((t182 ++ (⟨#[46]⟩ : ByteArray)) ++ t183) ++ (⟨#[46]⟩ : ByteArray)) ++ t184) ++ (⟨#[46]⟩ : ByteArray)) ++ t185) ++ (⟨#[58]⟩ : ByteArray)).size + t186.size ≤ 9223372036854775807 then (some ((((((((t182 ++ (⟨#[46]⟩ : ByteArray)) ++ t183) ++ (⟨#[46]⟩ : ByteArray)) ++ t184) ++ (⟨#[46]⟩ : ByteArray)) ++ t185) ++ (⟨#[58]⟩ : ByteArray)) ++ t186)) else (none))) else (none)) else (none))) else (none)) else (none))) else (none)) else (none))) else (none))) = some r := h
 clear h
 replace H := Option.bind_eq_some_iff.mp H
 obtain ⟨t182, A20, H⟩ := H
 replace H : (if t182.size + 1 ≤ 9223372036854775807 then ((ref03_Digits.f k (Int.tmod ((IntKind.u64.wrap (a0_0)) / 65536) 256)).bind fun t183 => (if (t182 ++ (⟨#[46]⟩ : ByteArray)).size + t183.size ≤ 9223372036854775807 then (if ((t182 ++ (⟨#[46]⟩ : ByteArray)) ++ t183).size + 1 ≤ 9223372036854775807 then ((ref03_Digits.f k (Int.tmod ((IntKind.u64.wrap (a0_0)) / 256) 256)).bind fun t184 => (if (((t182 ++ (⟨#[46]⟩ : ByteArray)) ++ t183) ++ (⟨#[46]⟩ : ByteArray)).size + t184.size ≤ 9223372036854775807 then (if ((((t182 ++ (⟨#[46]⟩ : ByteArray)) ++ t183) ++ (⟨#[46]⟩ : ByteArray)) ++ t184).size + 1 ≤ 9223372036854775807 then ((ref03_Digits.f k (Int.tmod (IntKind.u64.wrap (a0_0)) 256)).bind fun t185 => (if (((((t182 ++ (⟨#[46]⟩ : ByteArray)) ++ t183) ++ (⟨#[46]⟩ : ByteArray)) ++ t184) ++ (⟨#[46]⟩ : ByteArray)).size + t185.size ≤ 9223372036854775807 then (if ((((((t182 ++ (⟨#[46]⟩ : ByteArray)) ++ t183) ++ (⟨#[46]⟩ : ByteArray)) ++ t184) ++ (⟨#[46]⟩ : ByteArray)) ++ t185).size + 1 ≤ 9223372036854775807 then ((ref03_Digits.f k (IntKind.u64.wrap (a0_1))).bind fun t186 => (if (((((((t182 ++ (⟨#[46]⟩ : ByteArray)) ++ t183) ++ (⟨#[46]⟩ : ByteArray)) ++ t184) ++ (⟨#[46]⟩ : ByteArray)) ++ t185) ++ (⟨#[58]⟩ : ByteArray)).size + t186.size ≤ 9223372036854775807 then (some ((((((((t182 ++ (⟨#[46]⟩ : ByteArray)) ++ t183) ++ (⟨#[46]⟩ : ByteArray)) ++ t184) ++ (⟨#[46]⟩ : ByteArray)) ++ t185) ++ (⟨#[58]⟩ : ByteArray)) ++ t186)) else (none))) else (none)) else (none))) else (none)) else (none))) else (none)) else (none))) else (none)) = some r := H
 have A2 := Aside0.mk A20
 clear A20
 by_cases c3 : t182.size + 1 ≤ 9223372036854775807
 ·rw [if_pos c3] at H
  have c3b0 := eq_true c3
  have c3b1 : decide (t182.size + 1 ≤ 9223372036854775807) = true := decide_eq_true c3
  try have c3b2 : (9223372036854775807 < t182.size + 1) = False := eq_false (Nat.not_lt.2 c3)
  replace H := Option.bind_eq_some_iff.mp H
  obtain ⟨t183, A40, H⟩ := H
  replace H : (if (t182 ++ (⟨#[46]⟩ : ByteArray)).size + t183.size ≤ 9223372036854775807 then (if ((t182 ++ (⟨#[46]⟩ : ByteArray)) ++ t183).size + 1 ≤ 9223372036854775807 then ((ref03_Digits.f k (Int.tmod ((IntKind.u64.wrap (a0_0)) / 256) 256)).bind fun t184 => (if (((t182 ++ (⟨#[46]⟩ : ByteArray)) ++ t183) ++ (⟨#[46]⟩ : ByteArray)).size + t184.size ≤ 9223372036854775807 then (if ((((t182 ++ (⟨#[46]⟩ : ByteArray)) ++ t183) ++ (⟨#[46]⟩ : ByteArray)) ++ t184).size + 1 ≤ 9223372036854775807 then ((ref03_Digits.f k (Int.tmod (IntKind.u64.wrap (a0_0)) 256)).bind fun t185 => (if (((((t182 ++ (⟨#[46]⟩ : ByteArray)) ++ t183) ++ (⟨#[46]⟩ : ByteArray)) ++ t184) ++ (⟨#[46]⟩ : ByteArray)).size + t185.size ≤ 9223372036854775807 then (if ((((((t182 ++ (⟨#[46]⟩ : ByteArray)) ++ t183) ++ (⟨#[46]⟩ : ByteArray)) ++ t184) ++ (⟨#[46]⟩ : ByteArray)) ++ t185).size + 1 ≤ 9223372036854775807 then ((ref03_Digits.f k (IntKind.u64.wrap (a0_1))).bind fun t186 => (if (((((((t182 ++ (⟨#[46]⟩ : ByteArray)) ++ t183) ++ (⟨#[46]⟩ : ByteArray)) ++ t184) ++ (⟨#[46]⟩ : ByteArray)) ++ t185) ++ (⟨#[58]⟩ : ByteArray)).size + t186.size ≤ 9223372036854775807 then (some ((((((((t182 ++ (⟨#[46]⟩ : ByteArray)) ++ t183) ++ (⟨#[46]⟩ : ByteArray)) ++ t184) ++ (⟨#[46]⟩ : ByteArray)) ++ t185) ++ (⟨#[58]⟩ : ByteArray)) ++ t186)) else (none))) else (none)) else (none))) else (none)) else (none))) else (none)) else (none)) = some r := H
  have A4 := Aside0.mk A40
  clear A40
  by_cases c5 : (t182 ++ (⟨#[46]⟩ : ByteArray)).size + t183.size ≤ 9223372036854775807
  ·rw [if_pos c5] at H
   have c5b0 := eq_true c5
   (try (have c5b0z := c5b0; simp only [ByteArray.size_append, Int.natCast_add] at c5b0z))
   (try (have c5z := c5; simp only [ByteArray.size_append, Int.natCast_add] at c5z))
   have c5b1 : decide ((t182 ++ (⟨#[46]⟩ : ByteArray)).size + t183.size ≤ 9223372036854775807) = true := decide_eq_true c5
   (try (have c5b1z := c5b1; simp only [ByteArray.size_append, Int.natCast_add] at c5b1z))
   try have c5b2 : (9223372036854775807 < (t182 ++ (⟨#[46]⟩ : ByteArray)).size + t183.size) = False := eq_false (Nat.not_lt.2 c5)
   try have c5b3 : (9223372036854775807 < t182.size + (⟨#[46]⟩ : ByteArray).size + t183.size) = False := eq_false (by have h_ := c5; simp only [ByteArray.size_append] at h_; omega)
   try have c5b4 : (9223372036854775807 < t182.size + 1 + t183.size) = False := eq_false (by have h_ := c5; simp only [ByteArray.size_append] at h_; exact Nat.not_lt.2 h_)
   by_cases c6 : ((t182 ++ (⟨#[46]⟩ : ByteArray)) ++ t183).size + 1 ≤ 9223372036854775807
   ·rw [if_pos c6] at H
    have c6b0 := eq_true c6
    (try (have c6b0z := c6b0; simp only [ByteArray.size_append, Int.natCast_add] at c6b0z))
    (try (have c6z := c6; simp only [ByteArray.size_append, Int.natCast_add] at c6z))
    have c6b1 : decide (((t182 ++ (⟨#[46]⟩ : ByteArray)) ++ t183).size + 1 ≤ 9223372036854775807) = true := decide_eq_true c6
    (try (have c6b1z := c6b1; simp only [ByteArray.size_append, Int.natCast_add] at c6b1z))
    try have c6b2 : (9223372036854775807 < ((t182 ++ (⟨#[46]⟩ : ByteArray)) ++ t183).size + 1) = False := eq_false (Nat.not_lt.2 c6)
    try have c6b3 : (9223372036854775807 < t182.size + (⟨#[46]⟩ : ByteArray).size + t183.size + 1) = False := eq_false (by have h_ := c6; simp only [ByteArray.size_append] at h_; omega)
    try have c6b4 : (9223372036854775807 < t182.size + 1 + t183.size + 1) = False := eq_false (by have h_ := c6; simp only [ByteArray.size_append] at h_; exact Nat.not_lt.2 h_)
    replace H := Option.bind_eq_some_iff.mp H
    obtain ⟨t184, A70, H⟩ := H
    replace H : (if (((t182 ++ (⟨#[46]⟩ : ByteArray)) ++ t183) ++ (⟨#[46]⟩ : ByteArray)).size + t184.size ≤ 9223372036854775807 then (if ((((t182 ++ (⟨#[46]⟩ : ByteArray)) ++ t183) ++ (⟨#[46]⟩ : ByteArray)) ++ t184).size + 1 ≤ 9223372036854775807 then ((ref03_Digits.f k (Int.tmod (IntKind.u64.wrap (a0_0)) 256)).bind fun t185 => (if (((((t182 ++ (⟨#[46]⟩ : ByteArray)) ++ t183) ++ (⟨#[46]⟩ : ByteArray)) ++ t184) ++ (⟨#[46]⟩ : ByteArray)).size + t185.size ≤ 9223372036854775807 then (if ((((((t182 ++ (⟨#[46]⟩ : ByteArray)) ++ t183) ++ (⟨#[46]⟩ : ByteArray)) ++ t184) ++ (⟨#[46]⟩ : ByteArray)) ++ t185).size + 1 ≤ 9223372036854775807 then ((ref03_Digits.f k (IntKind.u64.wrap (a0_1))).bind fun t186 => (if (((((((t182 ++ (⟨#[46]⟩ : ByteArray)) ++ t183) ++ (⟨#[46]⟩ : ByteArray)) ++ t184) ++ (⟨#[46]⟩ : ByteArray)) ++ t185) ++ (⟨#[58]⟩ : ByteArray)).size + t186.size ≤ 9223372036854775807 then (some ((((((((t182 ++ (⟨#[46]⟩ : ByteArray)) ++ t183) ++ (⟨#[46]⟩ : ByteArray)) ++ t184) ++ (⟨#[46]⟩ : ByteArray)) ++ t185) ++ (⟨#[58]⟩ : ByteArray)) ++ t186)) else (none))) else (none)) else (none))) else (none)) else (none)) = some r := H
    have A7 := Aside0.mk A70
    clear A70
    by_cases c8 : (((t182 ++ (⟨#[46]⟩ : ByteArray)) ++ t183) ++ (⟨#[46]⟩ : ByteArray)).size + t184.size ≤ 9223372036854775807
    ·rw [if_pos c8] at H
     have c8b0 := eq_true c8
     (try (have c8b0z := c8b0; simp only [ByteArray.size_append, Int.natCast_add] at c8b0z))
     (try (have c8z := c8; simp only [ByteArray.size_append, Int.natCast_add] at c8z))
     have c8b1 : decide ((((t182 ++ (⟨#[46]⟩ : ByteArray)) ++ t183) ++ (⟨#[46]⟩ : ByteArray)).size + t184.size ≤ 9223372036854775807) = true := decide_eq_true c8
     (try (have c8b1z := c8b1; simp only [ByteArray.size_append, Int.natCast_add] at c8b1z))
     try have c8b2 : (9223372036854775807 < (((t182 ++ (⟨#[46]⟩ : ByteArray)) ++ t183) ++ (⟨#[46]⟩ : ByteArray)).size + t184.size) = False := eq_false (Nat.not_lt.2 c8)
     try have c8b3 : (9223372036854775807 < t182.size + (⟨#[46]⟩ : ByteArray).size + t183.size + (⟨#[46]⟩ : ByteArray).size + t184.size) = False := eq_false (by have h_ := c8; simp only [ByteArray.size_append] at h_; omega)
     try have c8b4 : (9223372036854775807 < t182.size + 1 + t183.size + 1 + t184.size) = False := eq_false (by have h_ := c8; simp only [ByteArray.size_append] at h_; exact Nat.not_lt.2 h_)
     by_cases c9 : ((((t182 ++ (⟨#[46]⟩ : ByteArray)) ++ t183) ++ (⟨#[46]⟩ : ByteArray)) ++ t184).size + 1 ≤ 9223372036854775807
     ·rw [if_pos c9] at H
      have c9b0 := eq_true c9
      (try (have c9b0z := c9b0; simp only [ByteArray.size_append, Int.natCast_add] at c9b0z))
      (try (have c9z := c9; simp only [ByteArray.size_append, Int.natCast_add] at c9z))
      have c9b1 : decide (((((t182 ++ (⟨#[46]⟩ : ByteArray)) ++ t183) ++ (⟨#[46]⟩ : ByteArray)) ++ t184).size + 1 ≤ 9223372036854775807) = true := decide_eq_true c9
      (try (have c9b1z := c9b1; simp only [ByteArray.size_append, Int.natCast_add] at c9b1z))
      try have c9b2 : (9223372036854775807 < ((((t182 ++ (⟨#[46]⟩ : ByteArray)) ++ t183) ++ (⟨#[46]⟩ : ByteArray)) ++ t184).size + 1) = False := eq_false (Nat.not_lt.2 c9)
      try have c9b3 : (9223372036854775807 < t182.size + (⟨#[46]⟩ : ByteArray).size + t183.size + (⟨#[46]⟩ : ByteArray).size + t184.size + 1) = False := eq_false (by have h_ := c9; simp only [ByteArray.size_append] at h_; omega)
      try have c9b4 : (9223372036854775807 < t182.size + 1 + t183.size + 1 + t184.size + 1) = False := eq_false (by have h_ := c9; simp only [ByteArray.size_append] at h_; exact Nat.not_lt.2 h_)
      replace H := Option.bind_eq_some_iff.mp H
      obtain ⟨t185, A100, H⟩ := H
      replace H : (if (((((t182 ++ (⟨#[46]⟩ : ByteArray)) ++ t183) ++ (⟨#[46]⟩ : ByteArray)) ++ t184) ++ (⟨#[46]⟩ : ByteArray)).size + t185.size ≤ 9223372036854775807 then (if ((((((t182 ++ (⟨#[46]⟩ : ByteArray)) ++ t183) ++ (⟨#[46]⟩ : ByteArray)) ++ t184) ++ (⟨#[46]⟩ : ByteArray)) ++ t185).size + 1 ≤ 9223372036854775807 then ((ref03_Digits.f k (IntKind.u64.wrap (a0_1))).bind fun t186 => (if (((((((t182 ++ (⟨#[46]⟩ : ByteArray)) ++ t183) ++ (⟨#[46]⟩ : ByteArray)) ++ t184) ++ (⟨#[46]⟩ : ByteArray)) ++ t185) ++ (⟨#[58]⟩ : ByteArray)).size + t186.size ≤ 9223372036854775807 then (some ((((((((t182 ++ (⟨#[46]⟩ : ByteArray)) ++ t183) ++ (⟨#[46]⟩ : ByteArray)) ++ t184) ++ (⟨#[46]⟩ : ByteArray)) ++ t185) ++ (⟨#[58]⟩ : ByteArray)) ++ t186)) else (none))) else (none)) else (none)) = some r := H
      have A10 := Aside0.mk A100
      clear A100
      by_cases c11 : (((((t182 ++ (⟨#[46]⟩ : ByteArray)) ++ t183) ++ (⟨#[46]⟩ : ByteArray)) ++ t184) ++ (⟨#[46]⟩ : ByteArray)).size + t185.size ≤ 9223372036854775807
      ·rw [if_pos c11] at H
       have c11b0 := eq_true c11
       (try (have c11b0z := c11b0; simp only [ByteArray.size_append, Int.natCast_add] at c11b0z))
       (try (have c11z := c11; simp only [ByteArray.size_append, Int.natCast_add] at c11z))
       have c11b1 : decide ((((((t182 ++ (⟨#[46]⟩ : ByteArray)) ++ t183) ++ (⟨#[46]⟩ : ByteArray)) ++ t184) ++ (⟨#[46]⟩ : ByteArray)).size + t185.size ≤ 9223372036854775807) = true := decide_eq_true c11
       (try (have c11b1z := c11b1; simp only [ByteArray.size_append, Int.natCast_add] at c11b1z))
       try have c11b2 : (9223372036854775807 < (((((t182 ++ (⟨#[46]⟩ : ByteArray)) ++ t183) ++ (⟨#[46]⟩ : ByteArray)) ++ t184) ++ (⟨#[46]⟩ : ByteArray)).size + t185.size) = False := eq_false (Nat.not_lt.2 c11)
       try have c11b3 : (9223372036854775807 < t182.size + (⟨#[46]⟩ : ByteArray).size + t183.size + (⟨#[46]⟩ : ByteArray).size + t184.size + (⟨#[46]⟩ : ByteArray).size + t185.size) = False := eq_false (by have h_ := c11; simp only [ByteArray.size_append] at h_; omega)
       try have c11b4 : (9223372036854775807 < t182.size + 1 + t183.size + 1 + t184.size + 1 + t185.size) = False := eq_false (by have h_ := c11; simp only [ByteArray.size_append] at h_; exact Nat.not_lt.2 h_)
       by_cases c12 : ((((((t182 ++ (⟨#[46]⟩ : ByteArray)) ++ t183) ++ (⟨#[46]⟩ : ByteArray)) ++ t184) ++ (⟨#[46]⟩ : ByteArray)) ++ t185).size + 1 ≤ 9223372036854775807
       ·rw [if_pos c12] at H
        have c12b0 := eq_true c12
        (try (have c12b0z := c12b0; simp only [ByteArray.size_append, Int.natCast_add] at c12b0z))
        (try (have c12z := c12; simp only [ByteArray.size_append, Int.natCast_add] at c12z))
        have c12b1 : decide (((((((t182 ++ (⟨#[46]⟩ : ByteArray)) ++ t183) ++ (⟨#[46]⟩ : ByteArray)) ++ t184) ++ (⟨#[46]⟩ : ByteArray)) ++ t185).size + 1 ≤ 9223372036854775807) = true := decide_eq_true c12
        (try (have c12b1z := c12b1; simp only [ByteArray.size_append, Int.natCast_add] at c12b1z))
        try have c12b2 : (9223372036854775807 < ((((((t182 ++ (⟨#[46]⟩ : ByteArray)) ++ t183) ++ (⟨#[46]⟩ : ByteArray)) ++ t184) ++ (⟨#[46]⟩ : ByteArray)) ++ t185).size + 1) = False := eq_false (Nat.not_lt.2 c12)
        try have c12b3 : (9223372036854775807 < t182.size + (⟨#[46]⟩ : ByteArray).size + t183.size + (⟨#[46]⟩ : ByteArray).size + t184.size + (⟨#[46]⟩ : ByteArray).size + t185.size + 1) = False := eq_false (by have h_ := c12; simp only [ByteArray.size_append] at h_; omega)
        try have c12b4 : (9223372036854775807 < t182.size + 1 + t183.size + 1 + t184.size + 1 + t185.size + 1) = False := eq_false (by have h_ := c12; simp only [ByteArray.size_append] at h_; exact Nat.not_lt.2 h_)
        replace H := Option.bind_eq_some_iff.mp H
        obtain ⟨t186, A130, H⟩ := H
        replace H : (if (((((((t182 ++ (⟨#[46]⟩ : ByteArray)) ++ t183) ++ (⟨#[46]⟩ : ByteArray)) ++ t184) ++ (⟨#[46]⟩ : ByteArray)) ++ t185) ++ (⟨#[58]⟩ : ByteArray)).size + t186.size ≤ 9223372036854775807 then (some ((((((((t182 ++ (⟨#[46]⟩ : ByteArray)) ++ t183) ++ (⟨#[46]⟩ : ByteArray)) ++ t184) ++ (⟨#[46]⟩ : ByteArray)) ++ t185) ++ (⟨#[58]⟩ : ByteArray)) ++ t186)) else (none)) = some r := H
        have A13 := Aside0.mk A130
        clear A130
        by_cases c14 : (((((((t182 ++ (⟨#[46]⟩ : ByteArray)) ++ t183) ++ (⟨#[46]⟩ : ByteArray)) ++ t184) ++ (⟨#[46]⟩ : ByteArray)) ++ t185) ++ (⟨#[58]⟩ : ByteArray)).size + t186.size ≤ 9223372036854775807
        ·rw [if_pos c14] at H
         have c14b0 := eq_true c14
         (try (have c14b0z := c14b0; simp only [ByteArray.size_append, Int.natCast_add] at c14b0z))
         (try (have c14z := c14; simp only [ByteArray.size_append, Int.natCast_add] at c14z))
         have c14b1 : decide ((((((((t182 ++ (⟨#[46]⟩ : ByteArray)) ++ t183) ++ (⟨#[46]⟩ : ByteArray)) ++ t184) ++ (⟨#[46]⟩ : ByteArray)) ++ t185) ++ (⟨#[58]⟩ : ByteArray)).size + t186.size ≤ 9223372036854775807) = true := decide_eq_true c14
         (try (have c14b1z := c14b1; simp only [ByteArray.size_append, Int.natCast_add] at c14b1z))
         try have c14b2 : (9223372036854775807 < (((((((t182 ++ (⟨#[46]⟩ : ByteArray)) ++ t183) ++ (⟨#[46]⟩ : ByteArray)) ++ t184) ++ (⟨#[46]⟩ : ByteArray)) ++ t185) ++ (⟨#[58]⟩ : ByteArray)).size + t186.size) = False := eq_false (Nat.not_lt.2 c14)
         try have c14b3 : (9223372036854775807 < t182.size + (⟨#[46]⟩ : ByteArray).size + t183.size + (⟨#[46]⟩ : ByteArray).size + t184.size + (⟨#[46]⟩ : ByteArray).size + t185.size + (⟨#[58]⟩ : ByteArray).size + t186.size) = False := eq_false (by have h_ := c14; simp only [ByteArray.size_append] at h_; omega)
         try have c14b4 : (9223372036854775807 < t182.size + 1 + t183.size + 1 + t184.size + 1 + t185.size + 1 + t186.size) = False := eq_false (by have h_ := c14; simp only [ByteArray.size_append] at h_; exact Nat.not_lt.2 h_)
         obtain rfl := Option.some.inj H
         go_enter Tryd.func12, Tryd.ntmps12
         try go_wp2_with (first | ((with_reducible refine gate_dst (N := 1) rfl ?_); refine box_event ?hg (N := 1) ?hd (cs := #[.int .u32 a0_0, .int .u16 a0_1]) (t := 27) ?hr ?_; (case hd => rfl); (case hg => rfl); (case hr => first | (go_simp; done) | (go_simp; rfl)); intro gb181 hg w15 hbox hb; have n0_ := Aside0.mk (below_step (by repeat (first | (with_reducible first | exact HB.out | apply below_alloc | apply pw_below_drewN | apply below_drew1) | exact HB.out)) hb); have n1_ := Aside0.mk (hbox); have n2_ := Aside0.mk ((by rw [hg]; exact (below_size (by repeat (first | (with_reducible first | exact HB.out | apply below_alloc | apply pw_below_drewN | apply below_drew1) | exact HB.out))) : w.heap.size ≤ gb181)); have n3_ := Aside0.mk ((by rw [hg]; exact (below_size (by repeat (first | (with_reducible first | exact HB.out | apply below_alloc | apply pw_below_drewN | apply below_drew1) | exact HB.out))) : w.heap.size ≤ gb181)); clear HB; have HB := n0_; have BK181 := n1_; have GW181 := n2_; have GE181 := n3_; clear n0_ n1_ n2_ n3_; clear hb hbox hg; have hcz16_0 : w15.cell? ⟨gb181, 0, none⟩ = some (.int .u32 a0_0) := (blk_cell BK181.out 0).trans rfl; have hcz16_1 : w15.cell? ⟨gb181, 1, none⟩ = some (.int .u16 a0_1) := (blk_cell BK181.out 1).trans rfl; have hfz16_0 := blk_frozen BK181.out 0; have hfz16_1 := blk_frozen BK181.out 1))
         have n0_ := Aside0.mk (blk_drew BK181.out)
         have n1_ := Aside0.mk (below_drew1 HB.out)
         clear BK181
         clear HB
         have BK181 := n0_
         have HB := n1_
         clear n0_ n1_
         refine start_ (n := 27) (S := fun w' => w'.cell? ⟨gb181, 0, none⟩ = some (.int .u32 a0_0) ∧ w'.cell? ⟨gb181, 1, none⟩ = some (.int .u16 a0_1)) (ds := []) #[false, false, false, false, false, false, false, false, false, false, false, false, false, false, false, false, false, false, false, false, false, false, false, false, false, false, false] (by kernel_rfl) rfl rfl ⟨(blk_cell BK181.out 0).trans rfl, (blk_cell BK181.out 1).trans rfl⟩ (fun hHeld => ?_); refine with_tabW ref03_Addr_Text.tab2 ref03_Addr_Text.bits2 (fun HT_ HW_ => ?_)
         generalize w15.drew = w17 at BK181 HB hHeld ⊢
         refine pure_ (i := 0) (N := some 7) (v := ?_) (a' := ?_) #[true, false, false, false, false, false, false, false, false, false, false, false, false, false, false, false, false, false, false, false, false, false, false, false, false, false, false] rfl rfl (any_of HT_.out (by kernel_rfl)) (fun _ _ _ h => h) (Or.inl ⟨by rfl, ?_⟩) ?_ ?_
         rotate_left
         ·intro w'
          go_simp
          with_reducible rfl
         rotate_left
         ·simp only [Act.put, List.setIfInBounds_toArray, List.set_cons_zero, List.set_cons_succ, i64_w, i32_w]
          rfl
         refine pure_ (i := 1) (N := some 8) (v := ?_) (a' := ?_) #[true, true, false, false, false, false, false, false, false, false, false, false, false, false, false, false, false, false, false, false, false, false, false, false, false, false, false] rfl rfl (any_of HT_.out (by kernel_rfl)) (fun _ _ _ h => h) (Or.inl ⟨by rfl, ?_⟩) ?_ ?_
         rotate_left
         ·intro w'
          go_simp
          with_reducible rfl
         rotate_left
         ·simp only [Act.put, List.setIfInBounds_toArray, List.set_cons_zero, List.set_cons_succ, i64_w, i32_w]
          rfl
         refine pure_ (i := 4) (N := some 11) (v := ?_) (a' := ?_) #[true, true, false, false, true, false, false, false, false, false, false, false, false, false, false, false, false, false, false, false, false, false, false, false, false, false, false] rfl rfl (any_of HT_.out (by kernel_rfl)) (fun _ _ _ h => h) (Or.inl ⟨by rfl, ?_⟩) ?_ ?_
         rotate_left
         ·intro w'
          go_simp
          with_reducible rfl
         rotate_left
         ·simp only [Act.put, List.setIfInBounds_toArray, List.set_cons_zero, List.set_cons_succ, i64_w, i32_w]
          rfl
         refine pure_ (i := 5) (N := some 12) (v := ?_) (a' := ?_) #[true, true, false, false, true, true, false, false, false, false, false, false, false, false, false, false, false, false, false, false, false, false, false, false, false, false, false] rfl rfl (any_of HT_.out (by kernel_rfl)) (fun _ _ _ h => h) (Or.inl ⟨by rfl, ?_⟩) ?_ ?_
         rotate_left
         ·intro w'
          go_simp
          with_reducible rfl
         rotate_left
         ·simp only [Act.put, List.setIfInBounds_toArray, List.set_cons_zero, List.set_cons_succ, i64_w, i32_w]
          rfl
         refine pure_ (i := 6) (N := some 13) (v := ?_) (a' := ?_) #[true, true, false, false, true, true, true, false, false, false, false, false, false, false, false, false, false, false, false, false, false, false, false, false, false, false, false] rfl rfl (any_of HT_.out (by kernel_rfl)) (fun _ _ _ h => h) (Or.inl ⟨by rfl, ?_⟩) ?_ ?_
         rotate_left
         ·intro w'
          go_simp
          with_reducible rfl
         rotate_left
         ·simp only [Act.put, List.setIfInBounds_toArray, List.set_cons_zero, List.set_cons_succ, i64_w, i32_w]
          rfl
         refine pure_ (i := 10) (N := some 17) (v := ?_) (a' := ?_) #[true, true, false, false, true, true, true, false, false, false, true, false, false, false, false, false, false, false, false, false, false, false, false, false, false, false, false] rfl rfl (any_of HT_.out (by kernel_rfl)) (fun _ _ _ h => h) (Or.inl ⟨by rfl, ?_⟩) ?_ ?_
         rotate_left
         ·intro w'
          go_simp
          with_reducible rfl
         rotate_left
         ·simp only [Act.put, List.setIfInBounds_toArray, List.set_cons_zero, List.set_cons_succ, i64_w, i32_w]
          rfl
         refine pure_ (i := 11) (N := some 18) (v := ?_) (a' := ?_) #[true, true, false, false, true, true, true, false, false, false, true, true, false, false, false, false, false, false, false, false, false, false, false, false, false, false, false] rfl rfl (any_of HT_.out (by kernel_rfl)) (fun _ _ _ h => h) (Or.inl ⟨by rfl, ?_⟩) ?_ ?_
         rotate_left
         ·intro w'
          go_simp
          with_reducible rfl
         rotate_left
         ·simp only [Act.put, List.setIfInBounds_toArray, List.set_cons_zero, List.set_cons_succ, i64_w, i32_w]
          rfl
         refine pure_ (i := 12) (N := some 19) (v := ?_) (a' := ?_) #[true, true, false, false, true, true, true, false, false, false, true, true, true, false, false, false, false, false, false, false, false, false, false, false, false, false, false] rfl rfl (any_of HT_.out (by kernel_rfl)) (fun _ _ _ h => h) (Or.inl ⟨by rfl, ?_⟩) ?_ ?_
         rotate_left
         ·intro w'
          go_simp
          with_reducible rfl
         rotate_left
         ·simp only [Act.put, List.setIfInBounds_toArray, List.set_cons_zero, List.set_cons_succ, i64_w, i32_w]
          rfl
         refine pure_ (i := 16) (N := some 23) (v := ?_) (a' := ?_) #[true, true, false, false, true, true, true, false, false, false, true, true, true, false, false, false, true, false, false, false, false, false, false, false, false, false, false] rfl rfl (any_of HT_.out (by kernel_rfl)) (fun _ _ _ h => h) (Or.inl ⟨by rfl, ?_⟩) ?_ ?_
         rotate_left
         ·intro w'
          go_simp
          with_reducible rfl
         rotate_left
         ·simp only [Act.put, List.setIfInBounds_toArray, List.set_cons_zero, List.set_cons_succ, i64_w, i32_w]
          rfl
         refine pure_ (i := 17) (N := some 24) (v := ?_) (a' := ?_) #[true, true, false, false, true, true, true, false, false, false, true, true, true, false, false, false, true, true, false, false, false, false, false, false, false, false, false] rfl rfl (any_of HT_.out (by kernel_rfl)) (fun _ _ _ h => h) (Or.inl ⟨by rfl, ?_⟩) ?_ ?_
         rotate_left
         ·intro w'
          go_simp
          with_reducible rfl
         rotate_left
         ·simp only [Act.put, List.setIfInBounds_toArray, List.set_cons_zero, List.set_cons_succ, i64_w, i32_w]
          rfl
         refine pure_ (i := 21) (N := some 28) (v := ?_) (a' := ?_) #[true, true, false, false, true, true, true, false, false, false, true, true, true, false, false, false, true, true, false, false, false, true, false, false, false, false, false] rfl rfl (any_of HT_.out (by kernel_rfl)) (fun _ _ _ h => h) (Or.inl ⟨by rfl, ?_⟩) ?_ ?_
         rotate_left
         ·intro w'
          go_simp
          with_reducible rfl
         rotate_left
         ·simp only [Act.put, List.setIfInBounds_toArray, List.set_cons_zero, List.set_cons_succ, i64_w, i32_w]
          rfl
         refine take_ (i := 22) (N := some 29) (v := ?_) (a' := ?_) #[true, true, false, false, true, true, true, false, false, false, true, true, true, false, false, false, true, true, false, false, false, true, true, false, false, false, false] rfl rfl (take_ofW HT_.out HW_.out (by kernel_rfl)) (fun _ _ _ h => h) (Or.inl ⟨by rfl, ?_⟩) hHeld ?_ ?_
         rotate_left
         ·rintro w' ⟨s0, s1⟩
          go_simp
          with_reducible rfl
         rotate_left
         ·simp only [Act.put, List.setIfInBounds_toArray, List.set_cons_zero, List.set_cons_succ, i64_w, i32_w]
          rfl
         refine pure_ (i := 23) (N := some 30) (v := ?_) (a' := ?_) #[true, true, false, false, true, true, true, false, false, false, true, true, true, false, false, false, true, true, false, false, false, true, true, true, false, false, false] rfl rfl (any_of HT_.out (by kernel_rfl)) (fun _ _ _ h => h) (Or.inl ⟨by rfl, ?_⟩) ?_ ?_
         rotate_left
         ·intro w'
          go_simp
          with_reducible rfl
         rotate_left
         ·simp only [Act.put, List.setIfInBounds_toArray, List.set_cons_zero, List.set_cons_succ, i64_w, i32_w]
          rfl
         refine one_ (i := 2) (N := some 9) #[true, true, true, false, true, true, true, false, false, false, true, true, true, false, false, false, true, true, false, false, false, true, true, true, false, false, false] rfl rfl (one_of HT_.out (by kernel_rfl)) (by decide) (fun K hK => ?_)
         refine goes_ Tryd.func27 (by kernel_rfl) rfl #[.int .u64 ((IntKind.u64.wrap (a0_0)) / 16777216)] (by rfl) rfl rfl (by (try simp only [List.map_toArray, List.map_cons, List.map_nil]); first | done | rfl | (simp only [List.length_drop, List.length_take]; rfl)) ?_
         with_reducible refine (ref03_Digits.calls k ((IntKind.u64.wrap (a0_0)) / 16777216) t182 _ A2.out).mono ?_
         rintro e w18 ⟨rfl, hb⟩
         refine ⟨_, rfl, ?_⟩
         have n0_ := Aside0.mk (blk_below (g := gb181) (o := .cells #[.int .u32 a0_0, .int .u16 a0_1] 27 (0, 0)) (by (with_reducible repeat (first | refine blk_drewN ?_ _ | refine blk_drew ?_ | refine blk_alloc ?_ _)); exact BK181.out) hb)
         have n1_ := Aside0.mk (below_step (by repeat (first | (with_reducible first | exact HB.out | apply below_alloc | apply pw_below_drewN | apply below_drew1 | refine below_set ?_ GE181.out) | exact HB.out)) hb)
         clear BK181
         clear HB
         have BK181 := n0_
         have HB := n1_
         clear n0_ n1_
         (try clear hb)
         (try clear hb2)
         (try clear hk)
         (try clear hi)
         refine hK.out _ _ ⟨(blk_cell BK181.out 0).trans rfl, (blk_cell BK181.out 1).trans rfl⟩ (fun hHeld => ?_)
         clear hK K
         refine norm_ (a' := ?_) ?_ ?_
         rotate_left
         ·show Act.put _ (some 9) _ = _
          simp only [Act.put, List.setIfInBounds_toArray, List.set_cons_zero, List.set_cons_succ, i64_w, i32_w]
          rfl
         refine pure_ (i := 3) (N := some 10) (v := ?_) (a' := ?_) #[true, true, true, true, true, true, true, false, false, false, true, true, true, false, false, false, true, true, false, false, false, true, true, true, false, false, false] rfl rfl (any_of HT_.out (by kernel_rfl)) (fun _ _ _ h => h) (Or.inl ⟨by rfl, ?_⟩) ?_ ?_
         rotate_left
         ·intro w'
          go_simp
          with_reducible rfl
         rotate_left
         ·simp only [Act.put, List.setIfInBounds_toArray, List.set_cons_zero, List.set_cons_succ, i64_w, i32_w]
          rfl
         refine one_ (i := 7) (N := some 14) #[true, true, true, true, true, true, true, true, false, false, true, true, true, false, false, false, true, true, false, false, false, true, true, true, false, false, false] rfl rfl (one_of HT_.out (by kernel_rfl)) (by decide) (fun K hK => ?_)
         refine goes_ Tryd.func27 (by kernel_rfl) rfl #[.int .u64 (Int.tmod ((IntKind.u64.wrap (a0_0)) / 65536) 256)] (by rfl) rfl rfl (by (try simp only [List.map_toArray, List.map_cons, List.map_nil]); first | done | rfl | (simp only [List.length_drop, List.length_take]; rfl)) ?_
         with_reducible refine (ref03_Digits.calls k (Int.tmod ((IntKind.u64.wrap (a0_0)) / 65536) 256) t183 _ A4.out).mono ?_
         rintro e w19 ⟨rfl, hb⟩
         refine ⟨_, rfl, ?_⟩
         have n0_ := Aside0.mk (blk_below (g := gb181) (o := .cells #[.int .u32 a0_0, .int .u16 a0_1] 27 (0, 0)) (by (with_reducible repeat (first | refine blk_drewN ?_ _ | refine blk_drew ?_ | refine blk_alloc ?_ _)); exact BK181.out) hb)
         have n1_ := Aside0.mk (below_step (by repeat (first | (with_reducible first | exact HB.out | apply below_alloc | apply pw_below_drewN | apply below_drew1 | refine below_set ?_ GE181.out) | exact HB.out)) hb)
         clear BK181
         clear HB
         have BK181 := n0_
         have HB := n1_
         clear n0_ n1_
         (try clear hb)
         (try clear hb2)
         (try clear hk)
         (try clear hi)
         refine hK.out _ _ ⟨(blk_cell BK181.out 0).trans rfl, (blk_cell BK181.out 1).trans rfl⟩ (fun hHeld => ?_)
         clear hK K
         refine norm_ (a' := ?_) ?_ ?_
         rotate_left
         ·show Act.put _ (some 14) _ = _
          simp only [Act.put, List.setIfInBounds_toArray, List.set_cons_zero, List.set_cons_succ, i64_w, i32_w]
          rfl
         refine pure_ (i := 8) (N := some 15) (v := ?_) (a' := ?_) #[true, true, true, true, true, true, true, true, true, false, true, true, true, false, false, false, true, true, false, false, false, true, true, true, false, false, false] rfl rfl (any_of HT_.out (by kernel_rfl)) (fun _ _ _ h => h) (Or.inl ⟨by rfl, ?_⟩) ?_ ?_
         rotate_left
         ·intro w'
          go_simp
          with_reducible rfl
         rotate_left
         ·simp only [Act.put, List.setIfInBounds_toArray, List.set_cons_zero, List.set_cons_succ, i64_w, i32_w]
          rfl
         refine pure_ (i := 9) (N := some 16) (v := ?_) (a' := ?_) #[true, true, true, true, true, true, true, true, true, true, true, true, true, false, false, false, true, true, false, false, false, true, true, true, false, false, false] rfl rfl (any_of HT_.out (by kernel_rfl)) (fun _ _ _ h => h) (Or.inl ⟨by rfl, ?_⟩) ?_ ?_
         rotate_left
         ·intro w'
          go_simp
          with_reducible rfl
         rotate_left
         ·simp only [Act.put, List.setIfInBounds_toArray, List.set_cons_zero, List.set_cons_succ, i64_w, i32_w]
          rfl
         refine one_ (i := 13) (N := some 20) #[true, true, true, true, true, true, true, true, true, true, true, true, true, true, false, false, true, true, false, false, false, true, true, true, false, false, false] rfl rfl (one_of HT_.out (by kernel_rfl)) (by decide) (fun K hK => ?_)
         refine goes_ Tryd.func27 (by kernel_rfl) rfl #[.int .u64 (Int.tmod ((IntKind.u64.wrap (a0_0)) / 256) 256)] (by rfl) rfl rfl (by (try simp only [List.map_toArray, List.map_cons, List.map_nil]); first | done | rfl | (simp only [List.length_drop, List.length_take]; rfl)) ?_
         with_reducible refine (ref03_Digits.calls k (Int.tmod ((IntKind.u64.wrap (a0_0)) / 256) 256) t184 _ A7.out).mono ?_
         rintro e w20 ⟨rfl, hb⟩
         refine ⟨_, rfl, ?_⟩
         have n0_ := Aside0.mk (blk_below (g := gb181) (o := .cells #[.int .u32 a0_0, .int .u16 a0_1] 27 (0, 0)) (by (with_reducible repeat (first | refine blk_drewN ?_ _ | refine blk_drew ?_ | refine blk_alloc ?_ _)); exact BK181.out) hb)
         have n1_ := Aside0.mk (below_step (by repeat (first | (with_reducible first | exact HB.out | apply below_alloc | apply pw_below_drewN | apply below_drew1 | refine below_set ?_ GE181.out) | exact HB.out)) hb)
         clear BK181
         clear HB
         have BK181 := n0_
         have HB := n1_
         clear n0_ n1_
         (try clear hb)
         (try clear hb2)
         (try clear hk)
         (try clear hi)
         refine hK.out _ _ ⟨(blk_cell BK181.out 0).trans rfl, (blk_cell BK181.out 1).trans rfl⟩ (fun hHeld => ?_)
         clear hK K
         refine norm_ (a' := ?_) ?_ ?_
         rotate_left
         ·show Act.put _ (some 20) _ = _
          simp only [Act.put, List.setIfInBounds_toArray, List.set_cons_zero, List.set_cons_succ, i64_w, i32_w]
          rfl
         refine pure_ (i := 14) (N := some 21) (v := ?_) (a' := ?_) #[true, true, true, true, true, true, true, true, true, true, true, true, true, true, true, false, true, true, false, false, false, true, true, true, false, false, false] rfl rfl (any_of HT_.out (by kernel_rfl)) (fun _ _ _ h => h) (Or.inl ⟨by rfl, ?_⟩) ?_ ?_
         rotate_left
         ·intro w'
          go_simp
          with_reducible rfl
         rotate_left
         ·simp only [Act.put, List.setIfInBounds_toArray, List.set_cons_zero, List.set_cons_succ, i64_w, i32_w]
          rfl
         refine pure_ (i := 15) (N := some 22) (v := ?_) (a' := ?_) #[true, true, true, true, true, true, true, true, true, true, true, true, true, true, true, true, true, true, false, false, false, true, true, true, false, false, false] rfl rfl (any_of HT_.out (by kernel_rfl)) (fun _ _ _ h => h) (Or.inl ⟨by rfl, ?_⟩) ?_ ?_
         rotate_left
         ·intro w'
          go_simp
          with_reducible rfl
         rotate_left
         ·simp only [Act.put, List.setIfInBounds_toArray, List.set_cons_zero, List.set_cons_succ, i64_w, i32_w]
          rfl
         refine one_ (i := 18) (N := some 25) #[true, true, true, true, true, true, true, true, true, true, true, true, true, true, true, true, true, true, true, false, false, true, true, true, false, false, false] rfl rfl (one_of HT_.out (by kernel_rfl)) (by decide) (fun K hK => ?_)
         refine goes_ Tryd.func27 (by kernel_rfl) rfl #[.int .u64 (Int.tmod (IntKind.u64.wrap (a0_0)) 256)] (by rfl) rfl rfl (by (try simp only [List.map_toArray, List.map_cons, List.map_nil]); first | done | rfl | (simp only [List.length_drop, List.length_take]; rfl)) ?_
         with_reducible refine (ref03_Digits.calls k (Int.tmod (IntKind.u64.wrap (a0_0)) 256) t185 _ A10.out).mono ?_
         rintro e w21 ⟨rfl, hb⟩
         refine ⟨_, rfl, ?_⟩
         have n0_ := Aside0.mk (blk_below (g := gb181) (o := .cells #[.int .u32 a0_0, .int .u16 a0_1] 27 (0, 0)) (by (with_reducible repeat (first | refine blk_drewN ?_ _ | refine blk_drew ?_ | refine blk_alloc ?_ _)); exact BK181.out) hb)
         have n1_ := Aside0.mk (below_step (by repeat (first | (with_reducible first | exact HB.out | apply below_alloc | apply pw_below_drewN | apply below_drew1 | refine below_set ?_ GE181.out) | exact HB.out)) hb)
         clear BK181
         clear HB
         have BK181 := n0_
         have HB := n1_
         clear n0_ n1_
         (try clear hb)
         (try clear hb2)
         (try clear hk)
         (try clear hi)
         refine hK.out _ _ ⟨(blk_cell BK181.out 0).trans rfl, (blk_cell BK181.out 1).trans rfl⟩ (fun hHeld => ?_)
         clear hK K
         refine norm_ (a' := ?_) ?_ ?_
         rotate_left
         ·show Act.put _ (some 25) _ = _
          simp only [Act.put, List.setIfInBounds_toArray, List.set_cons_zero, List.set_cons_succ, i64_w, i32_w]
          rfl
         refine pure_ (i := 19) (N := some 26) (v := ?_) (a' := ?_) #[true, true, true, true, true, true, true, true, true, true, true, true, true, true, true, true, true, true, true, true, false, true, true, true, false, false, false] rfl rfl (any_of HT_.out (by kernel_rfl)) (fun _ _ _ h => h) (Or.inl ⟨by rfl, ?_⟩) ?_ ?_
         rotate_left
         ·intro w'
          go_simp
          with_reducible rfl
         rotate_left
         ·simp only [Act.put, List.setIfInBounds_toArray, List.set_cons_zero, List.set_cons_succ, i64_w, i32_w]
          rfl
         refine pure_ (i := 20) (N := some 27) (v := ?_) (a' := ?_) #[true, true, true, true, true, true, true, true, true, true, true, true, true, true, true, true, true, true, true, true, true, true, true, true, false, false, false] rfl rfl (any_of HT_.out (by kernel_rfl)) (fun _ _ _ h => h) (Or.inl ⟨by rfl, ?_⟩) ?_ ?_
         rotate_left
         ·intro w'
          go_simp
          with_reducible rfl
         rotate_left
         ·simp only [Act.put, List.setIfInBounds_toArray, List.set_cons_zero, List.set_cons_succ, i64_w, i32_w]
          rfl
         refine one_ (i := 24) (N := some 31) #[true, true, true, true, true, true, true, true, true, true, true, true, true, true, true, true, true, true, true, true, true, true, true, true, true, false, false] rfl rfl (one_of HT_.out (by kernel_rfl)) (by decide) (fun K hK => ?_)
         refine goes_ Tryd.func27 (by kernel_rfl) rfl #[.int .u64 (IntKind.u64.wrap (a0_1))] (by rfl) rfl rfl (by (try simp only [List.map_toArray, List.map_cons, List.map_nil]); first | done | rfl | (simp only [List.length_drop, List.length_take]; rfl)) ?_
         with_reducible refine (ref03_Digits.calls k (IntKind.u64.wrap (a0_1)) t186 _ A13.out).mono ?_
         rintro e w22 ⟨rfl, hb⟩
         refine ⟨_, rfl, ?_⟩
         have n0_ := Aside0.mk (blk_below (g := gb181) (o := .cells #[.int .u32 a0_0, .int .u16 a0_1] 27 (0, 0)) (by (with_reducible repeat (first | refine blk_drewN ?_ _ | refine blk_drew ?_ | refine blk_alloc ?_ _)); exact BK181.out) hb)
         have n1_ := Aside0.mk (below_step (by repeat (first | (with_reducible first | exact HB.out | apply below_alloc | apply pw_below_drewN | apply below_drew1 | refine below_set ?_ GE181.out) | exact HB.out)) hb)
         clear BK181
         clear HB
         have BK181 := n0_
         have HB := n1_
         clear n0_ n1_
         (try clear hb)
         (try clear hb2)
         (try clear hk)
         (try clear hi)
         refine hK.out _ _ ⟨(blk_cell BK181.out 0).trans rfl, (blk_cell BK181.out 1).trans rfl⟩ (fun hHeld => ?_)
         clear hK K
         refine norm_ (a' := ?_) ?_ ?_
         rotate_left
         ·show Act.put _ (some 31) _ = _
          simp only [Act.put, List.setIfInBounds_toArray, List.set_cons_zero, List.set_cons_succ, i64_w, i32_w]
          rfl
         refine pure_ (i := 25) (N := some 32) (v := ?_) (a' := ?_) #[true, true, true, true, true, true, true, true, true, true, true, true, true, true, true, true, true, true, true, true, true, true, true, true, true, true, false] rfl rfl (any_of HT_.out (by kernel_rfl)) (fun _ _ _ h => h) (Or.inl ⟨by rfl, ?_⟩) ?_ ?_
         rotate_left
         ·intro w'
          go_simp
          with_reducible rfl
         rotate_left
         ·simp only [Act.put, List.setIfInBounds_toArray, List.set_cons_zero, List.set_cons_succ, i64_w, i32_w]
          rfl
         refine pure_ (i := 26) (N := some 2) (v := ?_) (a' := ?_) #[true, true, true, true, true, true, true, true, true, true, true, true, true, true, true, true, true, true, true, true, true, true, true, true, true, true, true] rfl rfl (any_of HT_.out (by kernel_rfl)) (fun _ _ _ h => h) (Or.inl ⟨by rfl, ?_⟩) ?_ ?_
         rotate_left
         ·intro w'
          go_simp
          with_reducible rfl
         rotate_left
         ·simp only [Act.put, List.setIfInBounds_toArray, List.set_cons_zero, List.set_cons_succ, i64_w, i32_w]
          rfl
         refine done_ (done_of HT_.out (by kernel_rfl)) ?_
         try go_wp2
         go_ret
         exact ⟨by first | rfl | (simp only [Go.Proofs.YtjlpfmiipicnoaaDoorX.ne_nil, Go.Proofs.YtjlpfmiipicnoaaDoorX.eq_nil]; rfl) | (simp [Go.Proofs.YtjlpfmiipicnoaaDoorX.ne_nil, Go.Proofs.YtjlpfmiipicnoaaDoorX.eq_nil]; done) | (simp [errW_none, errW_some] <;> rfl) | (simp [*, errW_none, errW_some] <;> rfl), by repeat (first | (with_reducible first | exact HB.out | apply below_alloc | apply pw_below_drewN | apply below_drew1 | refine below_set ?_ GE181.out) | exact HB.out)⟩
        ·(first | rw [if_neg c14] at H | exact absurd rfl c14)
         exact absurd H (by simp)
       ·(first | rw [if_neg c12] at H | exact absurd rfl c12)
        exact absurd H (by simp)
      ·(first | rw [if_neg c11] at H | exact absurd rfl c11)
       exact absurd H (by simp)
     ·(first | rw [if_neg c9] at H | exact absurd rfl c9)
      exact absurd H (by simp)
    ·(first | rw [if_neg c8] at H | exact absurd rfl c8)
     exact absurd H (by simp)
   ·(first | rw [if_neg c6] at H | exact absurd rfl c6)
    exact absurd H (by simp)
  ·(first | rw [if_neg c5] at H | exact absurd rfl c5)
   exact absurd H (by simp)
 ·(first | rw [if_neg c3] at H | exact absurd rfl c3)
  exact absurd H (by simp)

end Go.Proofs.YtjlpfmiipicnoaaDoor.PA
