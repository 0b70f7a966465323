/- Written by xprint.py, a program of this session: Go functions that the laws reach, each as a plain Lean function, and the proof that the Go code comes to what it says. No condition but those that each theorem names. -/
import Derived.Test.YtlpiodcklacdpaaPBx0
import Derived.WalkSpells
import Derived.WalkLawsBesides
import Derived.Laws.IdiomStrings
import Derived.Laws.BytesArg
import Derived.Test.YtlpiodcklacdpaaXAux
namespace Go.Proofs.Ytlpiodcklacdpaa.PB
open Go.RowKit Go.Proofs.YtlpiodcklacdpaaW.PrintWords Go.Proofs.YtlpiodcklacdpaaW.PrintLast Go.Proofs.YtlpiodcklacdpaaW.PrintMore
attribute [local go_sem] max2_int min2_int max_two min_two max_three min_three max_four min_four   -- for this text's walks alone
set_option linter.unusedVariables false
set_option linter.unusedSimpArgs false

-- NOT PRINTED: function 10 (bag_New)

-- NOT PRINTED: function 28 (addr_Addr_None)

-- NOT PRINTED: function 11 (bag_Bag_Put)

-- NOT PRINTED: function 12 (bag_Bag_Ready)

-- NOT PRINTED: function 30 (bag_Bag_find)

-- NOT PRINTED: function 35 (bag_Item_35)

-- NOT PRINTED: function 29 (bag_Bag_away)

-- NOT PRINTED: function 13 (bag_Bag_Take)

-- NOT PRINTED: function 14 (bag_Bag_Len)

-- NOT PRINTED: function 15 (bag_Bag_Delay)

-- NOT PRINTED: function 31 (bag_Item_31)

-- NOT PRINTED: function 16 (bag_Bag_Items)

-- NOT PRINTED: function 22 (bag_Bag_Twice)

-- NOT PRINTED: function 9 (scuttlebuttlaw09_examples)

/-! ### scuttlebuttlaw09_BagLater: function 5 -/
def scuttlebuttlaw09_BagLater.f (a0 : Int) (a1 : Int) (a2 : Int) : Option Bool := if 0 ≤ a0 ∧ 0 ≤ a1 ∧ a2 ≤ 9223372036854775807 then some true else none
set_option maxHeartbeats 8000000 in
set_option maxRecDepth 100000 in
theorem scuttlebuttlaw09_BagLater.calls (a0 : Int) (a1 : Int) (a2 : Int) (r : Bool) (w : World) (h : scuttlebuttlaw09_BagLater.f a0 a1 a2 = some r) :
    Calls Try.prog 5 #[.int .u64 a0, .int .u64 a1, .int .i64 a2] w fun e w' => e = .returned (.bool r) ∧ Below w.heap.size w w' := by
  unfold scuttlebuttlaw09_BagLater.f at h
  split at h
  case isFalse => cases h
  case isTrue hc =>
    obtain rfl := Option.some.inj h
    obtain ⟨h1, h2, h3⟩ := hc
    exact BG.later_walk a0 a1 a2 w h1 h2 h3

/-- THE ONE PURE STATEMENT of scuttlebuttlaw09_BagLater: yours. -/
def scuttlebuttlaw09_BagLater.Pure : Prop := ∀ (a0 : Int) (a1 : Int) (a2 : Int), (Lit.int .u64 a0).wf = true → (Lit.int .u64 a1).wf = true → (Lit.int .i64 a2).wf = true → scuttlebuttlaw09_BagLater.f a0 a1 a2 = some true
theorem scuttlebuttlaw09_BagLater.walk (P : scuttlebuttlaw09_BagLater.Pure) (a0 : Int) (a1 : Int) (a2 : Int) (w : World) (w0 : (Lit.int .u64 a0).wf = true) (w1 : (Lit.int .u64 a1).wf = true) (w2 : (Lit.int .i64 a2).wf = true) :
    Calls Try.prog 5 #[.int .u64 a0, .int .u64 a1, .int .i64 a2] w fun e w' => e = .returned (.bool true) ∧ Below w.heap.size w w' := by
  have h := P a0 a1 a2 w0 w1 w2
  refine (scuttlebuttlaw09_BagLater.calls a0 a1 a2 true w h).mono ?_
  rintro e w' ⟨rfl, hd⟩
  exact ⟨rfl, hd⟩

end Go.Proofs.Ytlpiodcklacdpaa.PB
