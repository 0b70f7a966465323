/- Written by xprint.py, a program of this session: Go functions that the laws reach, each as a plain Lean function, and the proof that the Go code comes to what it says. No condition but those that each theorem names. -/
import Derived.Test.YtlpiodcklacdpaaPBx0
import Derived.WalkSpells
import Derived.WalkLawsBesides
import Derived.Laws.IdiomStrings
import Derived.Laws.BytesArg
import Derived.Test.YtlpiodcklacdpaaXAux
namespace Go.Proofs.Ytlpiodcklacdpaa.PB
open Go.RowKit Go.Proofs.YtlpiodcklacdpaaW.PrintWords Go.Proofs.YtlpiodcklacdpaaW.PrintLast Go.Proofs.YtlpiodcklacdpaaW.PrintMore
attribute [local go_sem] max2_int min2_int max_two min_two max_three min_three max_four min_four   -- for this text's walks alone
set_option linter.unusedVariables false
set_option linter.unusedSimpArgs false

-- NOT PRINTED: function 10 (bag_New)

-- NOT PRINTED: function 28 (addr_Addr_None)

-- NOT PRINTED: function 11 (bag_Bag_Put)

-- NOT PRINTED: function 12 (bag_Bag_Ready)

-- NOT PRINTED: function 30 (bag_Bag_find)

-- NOT PRINTED: function 35 (bag_Item_35)

-- NOT PRINTED: function 29 (bag_Bag_away)

-- NOT PRINTED: function 13 (bag_Bag_Take)

-- NOT PRINTED: function 14 (bag_Bag_Len)

-- NOT PRINTED: function 15 (bag_Bag_Delay)

-- NOT PRINTED: function 31 (bag_Item_31)

-- NOT PRINTED: function 16 (bag_Bag_Items)

-- NOT PRINTED: function 22 (bag_Bag_Twice)

-- NOT PRINTED: function 9 (scuttlebuttlaw09_examples)

-- NOT PRINTED: function 20 (bag_Bag_Drop)

/-! ### scuttlebuttlaw09_BagRoom: function 8 -/
def scuttlebuttlaw09_BagRoom.f (a0 : Int) (a1 : Int) (a2 : Int) : Option Bool := if 0 ≤ a0 ∧ a0 < 256 ∧ 0 ≤ a1 ∧ a1 < 256 ∧ 0 ≤ a2 ∧ a2 < 65536 then some true else none
set_option maxHeartbeats 8000000 in
set_option maxRecDepth 100000 in
theorem scuttlebuttlaw09_BagRoom.calls (a0 : Int) (a1 : Int) (a2 : Int) (r : Bool) (w : World) (h : scuttlebuttlaw09_BagRoom.f a0 a1 a2 = some r) :
    Calls Try.prog 8 #[.int .u8 a0, .int .u8 a1, .int .u16 a2] w fun e w' => e = .returned (.bool r) ∧ Below w.heap.size w w' := by
  unfold scuttlebuttlaw09_BagRoom.f at h
  split at h
  case isFalse => cases h
  case isTrue hc =>
    obtain rfl := Option.some.inj h
    obtain ⟨h1, h2, h3, h4, h5, h6⟩ := hc
    obtain ⟨x, rfl⟩ := Int.eq_ofNat_of_zero_le h1
    obtain ⟨y, rfl⟩ := Int.eq_ofNat_of_zero_le h3
    obtain ⟨z, rfl⟩ := Int.eq_ofNat_of_zero_le h5
    exact BG.room_walk x y z w (by omega) (by omega) (by omega)

/-- THE ONE PURE STATEMENT of scuttlebuttlaw09_BagRoom: yours. -/
def scuttlebuttlaw09_BagRoom.Pure : Prop := ∀ (a0 : Int) (a1 : Int) (a2 : Int), (Lit.int .u8 a0).wf = true → (Lit.int .u8 a1).wf = true → (Lit.int .u16 a2).wf = true → scuttlebuttlaw09_BagRoom.f a0 a1 a2 = some true
theorem scuttlebuttlaw09_BagRoom.walk (P : scuttlebuttlaw09_BagRoom.Pure) (a0 : Int) (a1 : Int) (a2 : Int) (w : World) (w0 : (Lit.int .u8 a0).wf = true) (w1 : (Lit.int .u8 a1).wf = true) (w2 : (Lit.int .u16 a2).wf = true) :
    Calls Try.prog 8 #[.int .u8 a0, .int .u8 a1, .int .u16 a2] w fun e w' => e = .returned (.bool true) ∧ Below w.heap.size w w' := by
  have h := P a0 a1 a2 w0 w1 w2
  refine (scuttlebuttlaw09_BagRoom.calls a0 a1 a2 true w h).mono ?_
  rintro e w' ⟨rfl, hd⟩
  exact ⟨rfl, hd⟩

end Go.Proofs.Ytlpiodcklacdpaa.PB
