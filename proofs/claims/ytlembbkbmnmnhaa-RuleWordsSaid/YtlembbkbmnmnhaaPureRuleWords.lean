/- RuleWords: for every two types, near to what may be or not, the law answers true: each type that is right has its own word, the others have none, and punch with nobody. No condition. -/
import Derived.Test.YtlembbkbmnmnhaaMA
namespace Go.Proofs.Ytlembbkbmnmnhaa.Pure
open Go Go.RowKit Go.Proofs.Ytlembbkbmnmnhaa.PA Go.Proofs.Ytlembbkbmnmnhaa.MA Go.Proofs.YtlembbkbmnmnhaaW.PrintWords Go.Proofs.YtlembbkbmnmnhaaW.PrintLast

theorem words_j (a b c d : Int) : scuttlebuttlaw07_RuleWords.j0 5 a b c d = some true := by
  show scuttlebuttlaw07_RuleWords.j0 (4 + 1) a b c d = some true
  simp only [scuttlebuttlaw07_RuleWords.j0]
  rw [word_eq a b, Option.bind_some, word_eq c d, Option.bind_some]
  by_cases h : rgt a b = true
  · have hR : rule_Right.f a b = some true := by rw [right_eq, h]
    rw [hR, Option.bind_some, if_pos h, if_neg (word_ne h), if_pos rfl, Option.bind_some, if_pos rfl, right_eq c d, Option.bind_some]
    by_cases g : rgt c d = true
    · rw [if_pos g, if_pos g]
      by_cases e : (kindWord a ++ ⟨#[47]⟩ ++ kindWord b).toList = (kindWord c ++ ⟨#[47]⟩ ++ kindWord d).toList
      · obtain ⟨rfl, rfl⟩ := word_inj h g e
        rw [if_pos rfl, if_pos (by simp), Option.bind_some, if_pos rfl]
      · rw [if_neg e, if_neg, Option.bind_some, if_pos rfl]
        intro q
        have q' : a = c ∧ b = d := by simpa using q
        exact e (by rw [q'.1, q'.2])
    · rw [if_neg g, Option.bind_some, if_pos rfl]
  · have h' : rgt a b = false := by simpa using h
    have hR : rule_Right.f a b = some false := by rw [right_eq, h']
    rw [hR, Option.bind_some, if_neg h, if_pos (by decide +kernel), if_neg (by decide), Option.bind_some, if_neg (by decide), Option.bind_some, if_neg (by decide), punch_l 3 a b c d h', Option.bind_some, if_neg (by decide), through_r 3 c d a b h']
    rfl

theorem RuleWords : scuttlebuttlaw07_RuleWords.Pure := by
  intro a b c d n _ _ _ _
  refine ⟨5, ?_⟩
  unfold scuttlebuttlaw07_RuleWords.f
  rw [ex, Option.bind_some, if_pos rfl, words_j, words_j]
  split <;> rfl

end Go.Proofs.Ytlembbkbmnmnhaa.Pure
