/- Written by xprint.py, a program of this session: Go functions that the laws reach, each as a plain Lean function, and the proof that the Go code comes to what it says. No condition but those that each theorem names. -/
import Derived.Test.YthpmlnnjfmcglaaPBx0
import Derived.WalkSpells
import Derived.WalkLawsBesides
import Derived.Laws.IdiomStrings
import Derived.Laws.BytesArg
import Derived.Test.YthpmlnnjfmcglaaXAux
namespace Go.Proofs.Ythpmlnnjfmcglaa.PB
open Go.RowKit Go.Proofs.YthpmlnnjfmcglaaW.PrintWords Go.Proofs.YthpmlnnjfmcglaaW.PrintLast Go.Proofs.YthpmlnnjfmcglaaW.PrintMore
attribute [local go_sem] max2_int min2_int max_two min_two max_three min_three max_four min_four   -- for this text's walks alone
set_option linter.unusedVariables false
set_option linter.unusedSimpArgs false

-- NOT PRINTED: function 10 (view_New)

-- NOT PRINTED: function 12 (view_View_Of)

-- NOT PRINTED: function 13 (view_View_Seen)

-- NOT PRINTED: function 44 (addr_Addr_None)

-- NOT PRINTED: function 29 (record_Right)

-- NOT PRINTED: function 32 (cmp_Or_int)

-- NOT PRINTED: function 45 (cmp_isNaN_uint32)

-- NOT PRINTED: function 33 (cmp_Compare_uint32)

-- NOT PRINTED: function 46 (cmp_isNaN_int)

-- NOT PRINTED: function 34 (cmp_Compare_int)

-- NOT PRINTED: function 51 (cmp_isNaN_uint16)

-- NOT PRINTED: function 47 (cmp_Compare_uint16)

-- NOT PRINTED: function 35 (addr_Order)

-- NOT PRINTED: function 15 (record_Order)

-- NOT PRINTED: function 30 (record_Over)

-- NOT PRINTED: function 31 (view_View_tell)

-- NOT PRINTED: function 14 (view_View_Take)

-- NOT PRINTED: function 36 (view_Event)

-- NOT PRINTED: function 16 (view_View_Events)

-- NOT PRINTED: function 17 (view_View_Members)

-- NOT PRINTED: function 37 (record_Record_Live)

-- NOT PRINTED: function 19 (view_View_Live)

-- NOT PRINTED: function 9 (scuttlebuttlaw11_examples)

/-! ### scuttlebuttlaw11_ViewEvents: function 4 -/
def scuttlebuttlaw11_ViewEvents.f (a0 : Int) : Option Bool := if 0 ≤ a0 ∧ a0 < 65536 then some true else none
set_option maxHeartbeats 8000000 in
set_option maxRecDepth 100000 in
theorem scuttlebuttlaw11_ViewEvents.calls (a0 : Int) (r : Bool) (w : World) (h : scuttlebuttlaw11_ViewEvents.f a0 = some r) :
    Calls Try.prog 4 #[.int .u16 a0] w fun e w' => e = .returned (.bool r) ∧ Below w.heap.size w w' := by
  unfold scuttlebuttlaw11_ViewEvents.f at h
  split at h
  case isFalse => cases h
  case isTrue hc =>
    obtain rfl := Option.some.inj h
    obtain ⟨h1, h2⟩ := hc
    obtain ⟨x, rfl⟩ := Int.eq_ofNat_of_zero_le h1
    exact VW.events_walk x w (by omega)

/-- THE ONE PURE STATEMENT of scuttlebuttlaw11_ViewEvents: yours. -/
def scuttlebuttlaw11_ViewEvents.Pure : Prop := ∀ (a0 : Int), (Lit.int .u16 a0).wf = true → scuttlebuttlaw11_ViewEvents.f a0 = some true
theorem scuttlebuttlaw11_ViewEvents.walk (P : scuttlebuttlaw11_ViewEvents.Pure) (a0 : Int) (w : World) (w0 : (Lit.int .u16 a0).wf = true) :
    Calls Try.prog 4 #[.int .u16 a0] w fun e w' => e = .returned (.bool true) ∧ Below w.heap.size w w' := by
  have h := P a0 w0
  refine (scuttlebuttlaw11_ViewEvents.calls a0 true w h).mono ?_
  rintro e w' ⟨rfl, hd⟩
  exact ⟨rfl, hd⟩

end Go.Proofs.Ythpmlnnjfmcglaa.PB
