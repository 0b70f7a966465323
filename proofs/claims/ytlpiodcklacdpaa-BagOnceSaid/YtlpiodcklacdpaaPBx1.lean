/- Written by xprint.py, a program of this session: Go functions that the laws reach, each as a plain Lean function, and the proof that the Go code comes to what it says. No condition but those that each theorem names. -/
import Derived.Test.YtlpiodcklacdpaaPBx0
import Derived.WalkSpells
import Derived.WalkLawsBesides
import Derived.Laws.IdiomStrings
import Derived.Laws.BytesArg
import Derived.Test.YtlpiodcklacdpaaXAux
namespace Go.Proofs.Ytlpiodcklacdpaa.PB
open Go.RowKit Go.Proofs.YtlpiodcklacdpaaW.PrintWords Go.Proofs.YtlpiodcklacdpaaW.PrintLast Go.Proofs.YtlpiodcklacdpaaW.PrintMore
attribute [local go_sem] max2_int min2_int max_two min_two max_three min_three max_four min_four   -- for this text's walks alone
set_option linter.unusedVariables false
set_option linter.unusedSimpArgs false

-- NOT PRINTED: function 10 (bag_New)

-- NOT PRINTED: function 28 (addr_Addr_None)

-- NOT PRINTED: function 11 (bag_Bag_Put)

-- NOT PRINTED: function 12 (bag_Bag_Ready)

-- NOT PRINTED: function 30 (bag_Bag_find)

-- NOT PRINTED: function 35 (bag_Item_35)

-- NOT PRINTED: function 29 (bag_Bag_away)

-- NOT PRINTED: function 13 (bag_Bag_Take)

-- NOT PRINTED: function 14 (bag_Bag_Len)

-- NOT PRINTED: function 15 (bag_Bag_Delay)

-- NOT PRINTED: function 31 (bag_Item_31)

-- NOT PRINTED: function 16 (bag_Bag_Items)

-- NOT PRINTED: function 22 (bag_Bag_Twice)

-- NOT PRINTED: function 9 (scuttlebuttlaw09_examples)

/-! ### scuttlebuttlaw09_BagOnce: function 3 -/
def scuttlebuttlaw09_BagOnce.f (l0 : List Int) (l1 : List Int) : Option Bool := if (∀ x ∈ l0, 0 ≤ x ∧ x < 256) ∧ (∀ x ∈ l1, 0 ≤ x ∧ x < 256) then some true else none
set_option maxHeartbeats 8000000 in
set_option maxRecDepth 100000 in
theorem scuttlebuttlaw09_BagOnce.calls (A0 : Option Addr) (c0 : Nat) (l0 : List Int) (A1 : Option Addr) (c1 : Nat) (l1 : List Int) (r : Bool) (w : World) (hr0 : Kd.C (Kd.int .u8) w A0 l0.length l0) (hc0 : l0.length ≤ c0) (hr1 : Kd.C (Kd.int .u8) w A1 l1.length l1) (hc1 : l1.length ≤ c1) (h : scuttlebuttlaw09_BagOnce.f l0 l1 = some r) :
    Calls Try.prog 3 #[.slice A0 l0.length c0, .slice A1 l1.length c1] w fun e w' => e = .returned (.bool r) ∧ Below w.heap.size w w' := by
  unfold scuttlebuttlaw09_BagOnce.f at h
  split at h
  case isFalse => cases h
  case isTrue hc =>
    obtain rfl := Option.some.inj h
    obtain ⟨h1, h2⟩ := hc
    exact BG.once_walk A0 A1 c0 c1 l0 l1 w hr0 hc0 hr1 hc1 h1 h2

/-- THE ONE PURE STATEMENT of scuttlebuttlaw09_BagOnce: yours. -/
def scuttlebuttlaw09_BagOnce.Pure : Prop := ∀ (l0 : List Int) (l1 : List Int), l0.length ≤ maxLen → l0.length * 1 ≤ 140737488351232 → (∀ x ∈ l0, (Lit.int .u8 x).wf = true) → l1.length ≤ maxLen → l1.length * 1 ≤ 140737488351232 → (∀ x ∈ l1, (Lit.int .u8 x).wf = true) → scuttlebuttlaw09_BagOnce.f l0 l1 = some true
theorem scuttlebuttlaw09_BagOnce.walk (P : scuttlebuttlaw09_BagOnce.Pure) (a0 : Option Addr) (len0 cap0 : Nat) (z0 : List Int) (a1 : Option Addr) (len1 cap1 : Nat) (z1 : List Int) (w : World) (w0 : (a0 = none ∧ len0 = 0 ∧ cap0 = 0 ∧ z0 = []) ∨ ∃ x, a0 = some x ∧ len0 ≤ cap0 ∧ cap0 ≤ maxLen ∧ z0.length = cap0 ∧ (∀ i, i < z0.length → w.cell? (x.add i) = some (.int .u8 (z0.getD i 0))) ∧ ∀ n ∈ z0, (Lit.int .u8 n).wf = true) (y0 : len0 * 1 ≤ 140737488351232) (w1 : (a1 = none ∧ len1 = 0 ∧ cap1 = 0 ∧ z1 = []) ∨ ∃ x, a1 = some x ∧ len1 ≤ cap1 ∧ cap1 ≤ maxLen ∧ z1.length = cap1 ∧ (∀ i, i < z1.length → w.cell? (x.add i) = some (.int .u8 (z1.getD i 0))) ∧ ∀ n ∈ z1, (Lit.int .u8 n).wf = true) (y1 : len1 * 1 ≤ 140737488351232) :
    Calls Try.prog 3 #[.slice a0 len0 cap0, .slice a1 len1 cap1] w fun e w' => e = .returned (.bool true) ∧ Below w.heap.size w w' := by
  obtain ⟨l0, rfl, hr0, hm0, hw0, hc0⟩ := ReadsInt.ofRowC w0
  obtain ⟨l1, rfl, hr1, hm1, hw1, hc1⟩ := ReadsInt.ofRowC w1
  have h := P l0 l1 hm0 y0 hw0 hm1 y1 hw1
  refine (scuttlebuttlaw09_BagOnce.calls _ _ l0 _ _ l1 true w (Kd.C_of_reads (d := (0 : Int)) (h1 := fun _ => rfl) hr0) hc0 (Kd.C_of_reads (d := (0 : Int)) (h1 := fun _ => rfl) hr1) hc1 h).mono ?_
  rintro e w' ⟨rfl, hd⟩
  exact ⟨rfl, hd⟩

end Go.Proofs.Ytlpiodcklacdpaa.PB
