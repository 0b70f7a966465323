/- PackBad: whatever text and sizes are given the law answers true: a reader that is bad reads nothing any more, and is never done. No condition. -/
import Derived.Test.YtanjoflhpnephaaMA
namespace Go.Proofs.Ytanjoflhpnephaa.Pure
open Go Go.RowKit Go.Proofs.Ytanjoflhpnephaa.PA Go.Proofs.Ytanjoflhpnephaa.MA Go.Proofs.YtanjoflhpnephaaW.PrintWords Go.Proofs.YtanjoflhpnephaaW.PrintLast Go.Proofs.YtanjoflhpnephaaW.PrintMore

theorem PackBad : scuttlebuttlaw02_PackBad.Pure := by
  intro s n m _ _ _
  refine ⟨12, ?_⟩
  unfold scuttlebuttlaw02_PackBad.f pack_Read.f
  rw [examples_true 12 (by omega), Option.bind_some, if_pos rfl, Option.bind_some, no_number 12 s false 9 (by omega) (by omega), Option.bind_some]
  dsimp only
  rw [bad_number 12 _ n (by omega), Option.bind_some]
  dsimp only
  rw [bad_text 12 _ (by omega), Option.bind_some]
  dsimp only
  rw [bad_number 12 _ _ (by omega), Option.bind_some]
  dsimp only
  have he : (⟨#[]⟩ : ByteArray).toList = [] := by rw [toList_data]
  rw [if_pos rfl, if_pos he, if_pos rfl, if_pos rfl, if_pos he, if_pos rfl, if_pos rfl, if_pos rfl]
  rfl

end Go.Proofs.Ytanjoflhpnephaa.Pure
