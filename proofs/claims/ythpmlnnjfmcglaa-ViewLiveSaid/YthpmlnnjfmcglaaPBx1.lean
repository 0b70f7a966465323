/- Written by xprint.py, a program of this session: Go functions that the laws reach, each as a plain Lean function, and the proof that the Go code comes to what it says. No condition but those that each theorem names. -/
import Derived.Test.YthpmlnnjfmcglaaPBx0
import Derived.WalkSpells
import Derived.WalkLawsBesides
import Derived.Laws.IdiomStrings
import Derived.Laws.BytesArg
import Derived.Test.YthpmlnnjfmcglaaXAux
namespace Go.Proofs.Ythpmlnnjfmcglaa.PB
open Go.RowKit Go.Proofs.YthpmlnnjfmcglaaW.PrintWords Go.Proofs.YthpmlnnjfmcglaaW.PrintLast Go.Proofs.YthpmlnnjfmcglaaW.PrintMore
attribute [local go_sem] max2_int min2_int max_two min_two max_three min_three max_four min_four   -- for this text's walks alone
set_option linter.unusedVariables false
set_option linter.unusedSimpArgs false

-- NOT PRINTED: function 10 (view_New)

-- NOT PRINTED: function 12 (view_View_Of)

-- NOT PRINTED: function 13 (view_View_Seen)

-- NOT PRINTED: function 44 (addr_Addr_None)

-- NOT PRINTED: function 29 (record_Right)

-- NOT PRINTED: function 32 (cmp_Or_int)

-- NOT PRINTED: function 45 (cmp_isNaN_uint32)

-- NOT PRINTED: function 33 (cmp_Compare_uint32)

-- NOT PRINTED: function 46 (cmp_isNaN_int)

-- NOT PRINTED: function 34 (cmp_Compare_int)

-- NOT PRINTED: function 51 (cmp_isNaN_uint16)

-- NOT PRINTED: function 47 (cmp_Compare_uint16)

-- NOT PRINTED: function 35 (addr_Order)

-- NOT PRINTED: function 15 (record_Order)

-- NOT PRINTED: function 30 (record_Over)

-- NOT PRINTED: function 31 (view_View_tell)

-- NOT PRINTED: function 14 (view_View_Take)

-- NOT PRINTED: function 36 (view_Event)

-- NOT PRINTED: function 16 (view_View_Events)

-- NOT PRINTED: function 17 (view_View_Members)

-- NOT PRINTED: function 37 (record_Record_Live)

-- NOT PRINTED: function 19 (view_View_Live)

-- NOT PRINTED: function 9 (scuttlebuttlaw11_examples)

-- NOT PRINTED: function 18 (scuttlebuttlaw11_live)

/-! ### scuttlebuttlaw11_ViewLive: function 5 -/
def scuttlebuttlaw11_ViewLive.f (l0 : List Int) : Option Bool := if (∀ x ∈ l0, 0 ≤ x ∧ x < 256) then some true else none
set_option maxHeartbeats 8000000 in
set_option maxRecDepth 100000 in
theorem scuttlebuttlaw11_ViewLive.calls (A0 : Option Addr) (c0 : Nat) (l0 : List Int) (r : Bool) (w : World) (hr0 : Kd.C (Kd.int .u8) w A0 l0.length l0) (hc0 : l0.length ≤ c0) (h : scuttlebuttlaw11_ViewLive.f l0 = some r) :
    Calls Try.prog 5 #[.slice A0 l0.length c0] w fun e w' => e = .returned (.bool r) ∧ Below w.heap.size w w' := by
  unfold scuttlebuttlaw11_ViewLive.f at h
  split at h
  case isFalse => cases h
  case isTrue hc =>
    obtain rfl := Option.some.inj h
    exact VW.live_walk A0 c0 l0 w hr0 hc0 hc

/-- THE ONE PURE STATEMENT of scuttlebuttlaw11_ViewLive: yours. -/
def scuttlebuttlaw11_ViewLive.Pure : Prop := ∀ (l0 : List Int), l0.length ≤ maxLen → l0.length * 1 ≤ 140737488351232 → (∀ x ∈ l0, (Lit.int .u8 x).wf = true) → scuttlebuttlaw11_ViewLive.f l0 = some true
theorem scuttlebuttlaw11_ViewLive.walk (P : scuttlebuttlaw11_ViewLive.Pure) (a0 : Option Addr) (len0 cap0 : Nat) (z0 : List Int) (w : World) (w0 : (a0 = none ∧ len0 = 0 ∧ cap0 = 0 ∧ z0 = []) ∨ ∃ x, a0 = some x ∧ len0 ≤ cap0 ∧ cap0 ≤ maxLen ∧ z0.length = cap0 ∧ (∀ i, i < z0.length → w.cell? (x.add i) = some (.int .u8 (z0.getD i 0))) ∧ ∀ n ∈ z0, (Lit.int .u8 n).wf = true) (y0 : len0 * 1 ≤ 140737488351232) :
    Calls Try.prog 5 #[.slice a0 len0 cap0] w fun e w' => e = .returned (.bool true) ∧ Below w.heap.size w w' := by
  obtain ⟨l0, rfl, hr0, hm0, hw0, hc0⟩ := ReadsInt.ofRowC w0
  have h := P l0 hm0 y0 hw0
  refine (scuttlebuttlaw11_ViewLive.calls _ _ l0 true w (Kd.C_of_reads (d := (0 : Int)) (h1 := fun _ => rfl) hr0) hc0 h).mono ?_
  rintro e w' ⟨rfl, hd⟩
  exact ⟨rfl, hd⟩

end Go.Proofs.Ythpmlnnjfmcglaa.PB
