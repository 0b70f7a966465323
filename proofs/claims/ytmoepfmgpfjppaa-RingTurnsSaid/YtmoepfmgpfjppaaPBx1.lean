/- Written by xprint.py, a program of this session: Go functions that the laws reach, each as a plain Lean function, and the proof that the Go code comes to what it says. No condition but those that each theorem names. -/
import Derived.Test.YtmoepfmgpfjppaaPBx0
import Derived.WalkSpells
import Derived.WalkLawsBesides
import Derived.Laws.IdiomStrings
import Derived.Laws.BytesArg
import Derived.Test.YtmoepfmgpfjppaaXAux
namespace Go.Proofs.Ytmoepfmgpfjppaa.PB
open Go.RowKit Go.Proofs.YtmoepfmgpfjppaaW.PrintWords Go.Proofs.YtmoepfmgpfjppaaW.PrintLast Go.Proofs.YtmoepfmgpfjppaaW.PrintMore
attribute [local go_sem] max2_int min2_int max_two min_two max_three min_three max_four min_four   -- for this text's walks alone
set_option linter.unusedVariables false
set_option linter.unusedSimpArgs false

-- NOT PRINTED: function 19 (draw_New)

-- NOT PRINTED: function 9 (ring_New)

-- NOT PRINTED: function 26 (slices_Clone_int_int)

-- NOT PRINTED: function 30 (draw_Stream_Next)

-- NOT PRINTED: function 27 (draw_Stream_Below)

-- NOT PRINTED: function 22 (draw_Stream_Mix)

-- NOT PRINTED: function 20 (draw_Stream_Some)

-- NOT PRINTED: function 12 (ring_Ring_Some)

-- NOT PRINTED: function 28 (slices_Index_int_int)

-- NOT PRINTED: function 23 (slices_Contains_int_int)

-- NOT PRINTED: function 15 (ring_Ring_Next)

-- NOT PRINTED: function 17 (ring_Ring_Left)

-- NOT PRINTED: function 18 (ring_Ring_State)

-- NOT PRINTED: function 8 (scuttlebuttlaw13_examples)

/-! ### scuttlebuttlaw13_RingTurns: function 5 -/
def scuttlebuttlaw13_RingTurns.f (_a0 : Int) (l1 : List Int) : Option Bool := if (∀ x ∈ l1, 0 ≤ x ∧ x < 256) then some true else none
set_option maxHeartbeats 8000000 in
set_option maxRecDepth 100000 in
theorem scuttlebuttlaw13_RingTurns.calls (a0 : Int) (A1 : Option Addr) (c1 : Nat) (l1 : List Int) (r : Bool) (w : World) (hr1 : Kd.C (Kd.int .u8) w A1 l1.length l1) (hc1 : l1.length ≤ c1) (h : scuttlebuttlaw13_RingTurns.f a0 l1 = some r) :
    Calls Try.prog 5 #[.int .u64 a0, .slice A1 l1.length c1] w fun e w' => e = .returned (.bool r) ∧ Below w.heap.size w w' := by
  unfold scuttlebuttlaw13_RingTurns.f at h
  split at h
  case isFalse => cases h
  case isTrue hc =>
    obtain rfl := Option.some.inj h
    exact LX.turns_walk a0 A1 c1 l1 w hr1 hc1 hc

/-- THE ONE PURE STATEMENT of scuttlebuttlaw13_RingTurns: yours. -/
def scuttlebuttlaw13_RingTurns.Pure : Prop := ∀ (a0 : Int) (l1 : List Int), (Lit.int .u64 a0).wf = true → l1.length ≤ maxLen → l1.length * 1 ≤ 140737488351232 → (∀ x ∈ l1, (Lit.int .u8 x).wf = true) → scuttlebuttlaw13_RingTurns.f a0 l1 = some true
theorem scuttlebuttlaw13_RingTurns.walk (P : scuttlebuttlaw13_RingTurns.Pure) (a0 : Int) (a1 : Option Addr) (len1 cap1 : Nat) (z1 : List Int) (w : World) (w0 : (Lit.int .u64 a0).wf = true) (w1 : (a1 = none ∧ len1 = 0 ∧ cap1 = 0 ∧ z1 = []) ∨ ∃ x, a1 = some x ∧ len1 ≤ cap1 ∧ cap1 ≤ maxLen ∧ z1.length = cap1 ∧ (∀ i, i < z1.length → w.cell? (x.add i) = some (.int .u8 (z1.getD i 0))) ∧ ∀ n ∈ z1, (Lit.int .u8 n).wf = true) (y1 : len1 * 1 ≤ 140737488351232) :
    Calls Try.prog 5 #[.int .u64 a0, .slice a1 len1 cap1] w fun e w' => e = .returned (.bool true) ∧ Below w.heap.size w w' := by
  obtain ⟨l1, rfl, hr1, hm1, hw1, hc1⟩ := ReadsInt.ofRowC w1
  have h := P a0 l1 w0 hm1 y1 hw1
  refine (scuttlebuttlaw13_RingTurns.calls a0 _ _ l1 true w (Kd.C_of_reads (d := (0 : Int)) (h1 := fun _ => rfl) hr1) hc1 h).mono ?_
  rintro e w' ⟨rfl, hd⟩
  exact ⟨rfl, hd⟩

end Go.Proofs.Ytmoepfmgpfjppaa.PB
