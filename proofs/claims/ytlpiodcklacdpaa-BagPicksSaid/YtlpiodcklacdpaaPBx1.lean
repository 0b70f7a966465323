/- Written by xprint.py, a program of this session: Go functions that the laws reach, each as a plain Lean function, and the proof that the Go code comes to what it says. No condition but those that each theorem names. -/
import Derived.Test.YtlpiodcklacdpaaPBx0
import Derived.WalkSpells
import Derived.WalkLawsBesides
import Derived.Laws.IdiomStrings
import Derived.Laws.BytesArg
import Derived.Test.YtlpiodcklacdpaaXAux
namespace Go.Proofs.Ytlpiodcklacdpaa.PB
open Go.RowKit Go.Proofs.YtlpiodcklacdpaaW.PrintWords Go.Proofs.YtlpiodcklacdpaaW.PrintLast Go.Proofs.YtlpiodcklacdpaaW.PrintMore
attribute [local go_sem] max2_int min2_int max_two min_two max_three min_three max_four min_four   -- for this text's walks alone
set_option linter.unusedVariables false
set_option linter.unusedSimpArgs false

-- NOT PRINTED: function 10 (bag_New)

-- NOT PRINTED: function 28 (addr_Addr_None)

-- NOT PRINTED: function 11 (bag_Bag_Put)

-- NOT PRINTED: function 12 (bag_Bag_Ready)

-- NOT PRINTED: function 30 (bag_Bag_find)

-- NOT PRINTED: function 35 (bag_Item_35)

-- NOT PRINTED: function 29 (bag_Bag_away)

-- NOT PRINTED: function 13 (bag_Bag_Take)

-- NOT PRINTED: function 14 (bag_Bag_Len)

-- NOT PRINTED: function 15 (bag_Bag_Delay)

-- NOT PRINTED: function 31 (bag_Item_31)

-- NOT PRINTED: function 16 (bag_Bag_Items)

-- NOT PRINTED: function 22 (bag_Bag_Twice)

-- NOT PRINTED: function 9 (scuttlebuttlaw09_examples)

/-! ### scuttlebuttlaw09_BagPicks: function 4 -/
def scuttlebuttlaw09_BagPicks.f (l1 : List Int) (a1 : Int) (a2 : Int) : Option Bool := if (∀ x ∈ l1, 0 ≤ x ∧ x < 256) ∧ 0 ≤ a1 ∧ a1 < 256 ∧ a2 ≤ 9223372036854775807 then some true else none
set_option maxHeartbeats 8000000 in
set_option maxRecDepth 100000 in
theorem scuttlebuttlaw09_BagPicks.calls (A0 : Option Addr) (c0 : Nat) (l0 : List Int) (a1 : Int) (a2 : Int) (r : Bool) (w : World) (hr0 : Kd.C (Kd.int .u8) w A0 l0.length l0) (hc0 : l0.length ≤ c0) (h : scuttlebuttlaw09_BagPicks.f l0 a1 a2 = some r) :
    Calls Try.prog 4 #[.slice A0 l0.length c0, .int .u8 a1, .int .i64 a2] w fun e w' => e = .returned (.bool r) ∧ Below w.heap.size w w' := by
  unfold scuttlebuttlaw09_BagPicks.f at h
  split at h
  case isFalse => cases h
  case isTrue hc =>
    obtain rfl := Option.some.inj h
    obtain ⟨h1, h2, h3, h4⟩ := hc
    obtain ⟨x, rfl⟩ := Int.eq_ofNat_of_zero_le h2
    exact BG.picks_walk A0 c0 l0 x a2 w hr0 hc0 h1 (by omega) h4

/-- THE ONE PURE STATEMENT of scuttlebuttlaw09_BagPicks: yours. -/
def scuttlebuttlaw09_BagPicks.Pure : Prop := ∀ (l0 : List Int) (a1 : Int) (a2 : Int), l0.length ≤ maxLen → l0.length * 1 ≤ 140737488351232 → (∀ x ∈ l0, (Lit.int .u8 x).wf = true) → (Lit.int .u8 a1).wf = true → (Lit.int .i64 a2).wf = true → scuttlebuttlaw09_BagPicks.f l0 a1 a2 = some true
theorem scuttlebuttlaw09_BagPicks.walk (P : scuttlebuttlaw09_BagPicks.Pure) (a0 : Option Addr) (len0 cap0 : Nat) (z0 : List Int) (a1 : Int) (a2 : Int) (w : World) (w0 : (a0 = none ∧ len0 = 0 ∧ cap0 = 0 ∧ z0 = []) ∨ ∃ x, a0 = some x ∧ len0 ≤ cap0 ∧ cap0 ≤ maxLen ∧ z0.length = cap0 ∧ (∀ i, i < z0.length → w.cell? (x.add i) = some (.int .u8 (z0.getD i 0))) ∧ ∀ n ∈ z0, (Lit.int .u8 n).wf = true) (y0 : len0 * 1 ≤ 140737488351232) (w1 : (Lit.int .u8 a1).wf = true) (w2 : (Lit.int .i64 a2).wf = true) :
    Calls Try.prog 4 #[.slice a0 len0 cap0, .int .u8 a1, .int .i64 a2] w fun e w' => e = .returned (.bool true) ∧ Below w.heap.size w w' := by
  obtain ⟨l0, rfl, hr0, hm0, hw0, hc0⟩ := ReadsInt.ofRowC w0
  have h := P l0 a1 a2 hm0 y0 hw0 w1 w2
  refine (scuttlebuttlaw09_BagPicks.calls _ _ l0 a1 a2 true w (Kd.C_of_reads (d := (0 : Int)) (h1 := fun _ => rfl) hr0) hc0 h).mono ?_
  rintro e w' ⟨rfl, hd⟩
  exact ⟨rfl, hd⟩

end Go.Proofs.Ytlpiodcklacdpaa.PB
