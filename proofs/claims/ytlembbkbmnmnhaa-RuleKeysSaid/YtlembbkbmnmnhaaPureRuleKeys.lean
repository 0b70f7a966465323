/- RuleKeys: for every two addresses the law answers true: by nothing all go by one key, by hosts those of one host do, by both none does with another one. No condition. -/
import Derived.Test.YtlembbkbmnmnhaaMA
namespace Go.Proofs.Ytlembbkbmnmnhaa.Pure
open Go Go.RowKit Go.Proofs.Ytlembbkbmnmnhaa.PA Go.Proofs.Ytlembbkbmnmnhaa.MA Go.Proofs.YtlembbkbmnmnhaaW.PrintWords Go.Proofs.YtlembbkbmnmnhaaW.PrintLast

theorem RuleKeys : scuttlebuttlaw07_RuleKeys.Pure := by
  intro a0 a1 b0 b1 _ _ _ _
  refine ⟨5, ?_⟩
  unfold scuttlebuttlaw07_RuleKeys.f
  rw [ex, Option.bind_some, if_pos rfl, key0, Option.bind_some, key0, Option.bind_some]
  dsimp only
  rw [if_pos (by decide), key1, Option.bind_some, key1, Option.bind_some]
  dsimp only
  rw [if_pos (by simp), key2, Option.bind_some, key2, Option.bind_some]
  simp

end Go.Proofs.Ytlembbkbmnmnhaa.Pure
