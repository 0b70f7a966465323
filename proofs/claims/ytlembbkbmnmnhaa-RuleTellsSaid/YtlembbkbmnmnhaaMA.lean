/- The examples of chapter 7 hold; what binding and word a type gives. -/
import Derived.Test.YtlembbkbmnmnhaaPAx
namespace Go.Proofs.Ytlembbkbmnmnhaa.MA
open Go Go.RowKit Go.Proofs.Ytlembbkbmnmnhaa.PA Go.Proofs.YtlembbkbmnmnhaaW.PrintWords Go.Proofs.YtlembbkbmnmnhaaW.PrintLast Go.Proofs.YtlembbkbmnmnhaaW.PrintMore

theorem ex : scuttlebuttlaw07_examples.f 5 = some true := by decide +kernel
theorem ex20 : scuttlebuttlaw07_examples.f 20 = some true := by decide +kernel
theorem ex60 : scuttlebuttlaw07_examples.f 60 = some true := by decide +kernel
theorem key0 (x y : Int) : rule_Key.f 0 0 x y = some (0, 0) := rfl
theorem key1 (x y : Int) : rule_Key.f 1 0 x y = some (x, 0) := rfl
theorem key2 (x y : Int) : rule_Key.f 2 0 x y = some (x, y) := rfl
def rgt (a b : Int) : Bool := decide ((0 ≤ a ∧ a < 3) ∧ (0 ≤ b ∧ b < 3))
theorem right_eq (a b : Int) : rule_Right.f a b = some (rgt a b) := by
  unfold rule_Right.f rule_kind.f rgt
  by_cases h1 : a ≥ 0
  · rw [if_pos h1, Option.bind_some]
    by_cases h2 : a < 3
    · rw [if_pos (by simpa using h2)]
      by_cases h3 : b ≥ 0
      · rw [if_pos h3, Option.bind_some]
        by_cases h4 : b < 3
        · rw [decide_eq_true h4, decide_eq_true ⟨⟨h1, h2⟩, h3, h4⟩]
        · rw [decide_eq_false h4, decide_eq_false (fun h => h4 h.2.2)]
      · rw [if_neg h3, Option.bind_some, decide_eq_false (fun h => h3 h.2.1)]
    · rw [if_neg (by simpa using h2), decide_eq_false (fun h => h2 h.1.2)]
  · rw [if_neg h1, Option.bind_some, if_neg (by decide), decide_eq_false (fun h => h1 h.1.1)]
theorem through_l (k : Nat) (a b c d : Int) (h : rgt a b = false) : rule_Through.f (k + 1) a b c d = some false := by
  unfold rule_Through.f
  rw [right_eq, h, Option.bind_some, if_neg (by decide)]
  rfl
theorem through_r (k : Nat) (a b c d : Int) (h : rgt c d = false) : rule_Through.f (k + 1) a b c d = some false := by
  unfold rule_Through.f
  rw [right_eq, Option.bind_some]
  split
  · rw [right_eq, h, Option.bind_some]
    rfl
  · rfl
theorem answered_l (k : Nat) (a b c d : Int) (h : rgt a b = false) : rule_answered.f (k + 1) a b c d = some false := by
  unfold rule_answered.f
  rw [through_l k a b c d h, Option.bind_some, if_neg (by decide)]
theorem answered_r (k : Nat) (a b c d : Int) (h : rgt c d = false) : rule_answered.f (k + 1) a b c d = some false := by
  unfold rule_answered.f
  rw [through_r k a b c d h, Option.bind_some, if_neg (by decide)]
theorem punch_l (k : Nat) (a b c d : Int) (h : rgt a b = false) : rule_Punch.f (k + 1) a b c d = some false := by
  unfold rule_Punch.f
  rw [answered_l k a b c d h, Option.bind_some, if_neg (by decide), answered_r k c d a b h]
  rfl
theorem word_eq (a b : Int) : rule_Word.f a b = some (if rgt a b = true then kindWord a ++ ⟨#[47]⟩ ++ kindWord b else ⟨#[]⟩) := by
  unfold rule_Word.f rgt
  by_cases h : (0 ≤ a ∧ a < 3) ∧ (0 ≤ b ∧ b < 3)
  · rw [if_pos h, if_pos (decide_eq_true h)]
  · rw [if_neg h, if_neg (by simpa using h)]
theorem kinds3 {a b : Int} (h : rgt a b = true) : (a = 0 ∨ a = 1 ∨ a = 2) ∧ (b = 0 ∨ b = 1 ∨ b = 2) := by
  have h' := of_decide_eq_true h
  omega
theorem word_ne {a b : Int} (h : rgt a b = true) : ¬ ((kindWord a ++ ⟨#[47]⟩ ++ kindWord b).toList = ([] : List UInt8)) := by
  obtain ⟨h1, h2⟩ := kinds3 h
  rcases h1 with rfl | rfl | rfl <;> rcases h2 with rfl | rfl | rfl <;> decide +kernel
theorem word_inj {a b c d : Int} (h : rgt a b = true) (g : rgt c d = true) (e : (kindWord a ++ ⟨#[47]⟩ ++ kindWord b).toList = (kindWord c ++ ⟨#[47]⟩ ++ kindWord d).toList) : a = c ∧ b = d := by
  obtain ⟨h1, h2⟩ := kinds3 h
  obtain ⟨g1, g2⟩ := kinds3 g
  revert e
  rcases h1 with rfl | rfl | rfl <;> rcases h2 with rfl | rfl | rfl <;> rcases g1 with rfl | rfl | rfl <;> rcases g2 with rfl | rfl | rfl <;> decide +kernel

end Go.Proofs.Ytlembbkbmnmnhaa.MA
