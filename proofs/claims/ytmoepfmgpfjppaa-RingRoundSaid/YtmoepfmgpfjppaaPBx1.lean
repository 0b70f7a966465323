/- Written by xprint.py, a program of this session: Go functions that the laws reach, each as a plain Lean function, and the proof that the Go code comes to what it says. No condition but those that each theorem names. -/
import Derived.Test.YtmoepfmgpfjppaaPBx0
import Derived.WalkSpells
import Derived.WalkLawsBesides
import Derived.Laws.IdiomStrings
import Derived.Laws.BytesArg
import Derived.Test.YtmoepfmgpfjppaaXAux
namespace Go.Proofs.Ytmoepfmgpfjppaa.PB
open Go.RowKit Go.Proofs.YtmoepfmgpfjppaaW.PrintWords Go.Proofs.YtmoepfmgpfjppaaW.PrintLast Go.Proofs.YtmoepfmgpfjppaaW.PrintMore
attribute [local go_sem] max2_int min2_int max_two min_two max_three min_three max_four min_four   -- for this text's walks alone
set_option linter.unusedVariables false
set_option linter.unusedSimpArgs false

-- NOT PRINTED: function 19 (draw_New)

-- NOT PRINTED: function 9 (ring_New)

-- NOT PRINTED: function 26 (slices_Clone_int_int)

-- NOT PRINTED: function 30 (draw_Stream_Next)

-- NOT PRINTED: function 27 (draw_Stream_Below)

-- NOT PRINTED: function 22 (draw_Stream_Mix)

-- NOT PRINTED: function 20 (draw_Stream_Some)

-- NOT PRINTED: function 12 (ring_Ring_Some)

-- NOT PRINTED: function 28 (slices_Index_int_int)

-- NOT PRINTED: function 23 (slices_Contains_int_int)

-- NOT PRINTED: function 15 (ring_Ring_Next)

-- NOT PRINTED: function 17 (ring_Ring_Left)

-- NOT PRINTED: function 18 (ring_Ring_State)

-- NOT PRINTED: function 8 (scuttlebuttlaw13_examples)

/-! ### scuttlebuttlaw13_RingRound: function 4 -/
def scuttlebuttlaw13_RingRound.f (_a0 : Int) (a1 : Int) (a2 : Int) : Option Bool := if 0 ≤ a1 ∧ a1 < 65536 ∧ 0 ≤ a2 ∧ a2 < 256 then some true else none
set_option maxHeartbeats 8000000 in
set_option maxRecDepth 100000 in
theorem scuttlebuttlaw13_RingRound.calls (a0 : Int) (a1 : Int) (a2 : Int) (r : Bool) (w : World) (h : scuttlebuttlaw13_RingRound.f a0 a1 a2 = some r) :
    Calls Try.prog 4 #[.int .u64 a0, .int .u16 a1, .int .u8 a2] w fun e w' => e = .returned (.bool r) ∧ Below w.heap.size w w' := by
  unfold scuttlebuttlaw13_RingRound.f at h
  split at h
  case isFalse => cases h
  case isTrue hc =>
    obtain rfl := Option.some.inj h
    obtain ⟨h1, h2, h3, h4⟩ := hc
    obtain ⟨x, rfl⟩ := Int.eq_ofNat_of_zero_le h1
    obtain ⟨m, rfl⟩ := Int.eq_ofNat_of_zero_le h3
    exact LX.round_walk a0 x m (by omega) (by omega) w

/-- THE ONE PURE STATEMENT of scuttlebuttlaw13_RingRound: yours. -/
def scuttlebuttlaw13_RingRound.Pure : Prop := ∀ (a0 : Int) (a1 : Int) (a2 : Int), (Lit.int .u64 a0).wf = true → (Lit.int .u16 a1).wf = true → (Lit.int .u8 a2).wf = true → scuttlebuttlaw13_RingRound.f a0 a1 a2 = some true
theorem scuttlebuttlaw13_RingRound.walk (P : scuttlebuttlaw13_RingRound.Pure) (a0 : Int) (a1 : Int) (a2 : Int) (w : World) (w0 : (Lit.int .u64 a0).wf = true) (w1 : (Lit.int .u16 a1).wf = true) (w2 : (Lit.int .u8 a2).wf = true) :
    Calls Try.prog 4 #[.int .u64 a0, .int .u16 a1, .int .u8 a2] w fun e w' => e = .returned (.bool true) ∧ Below w.heap.size w w' := by
  have h := P a0 a1 a2 w0 w1 w2
  refine (scuttlebuttlaw13_RingRound.calls a0 a1 a2 true w h).mono ?_
  rintro e w' ⟨rfl, hd⟩
  exact ⟨rfl, hd⟩

end Go.Proofs.Ytmoepfmgpfjppaa.PB
