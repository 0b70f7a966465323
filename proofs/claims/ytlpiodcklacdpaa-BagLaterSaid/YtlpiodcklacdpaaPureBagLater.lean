/- BagLater: for every time, delay and pick the law answers true: what is delayed does not come ahead of that; time that is too far stands at its end; a pick below 0 delays nothing. No condition. -/
import Derived.Test.YtlpiodcklacdpaaPBx1
namespace Go.Proofs.Ytlpiodcklacdpaa.Pure
open Go
theorem BagLater : Go.Proofs.Ytlpiodcklacdpaa.PB.scuttlebuttlaw09_BagLater.Pure := by
  intro a0 a1 a2 h0 h1 h2
  simp [Lit.wf, IntKind.min, IntKind.max, IntKind.signed, IntKind.bits] at h0 h1 h2
  unfold Go.Proofs.Ytlpiodcklacdpaa.PB.scuttlebuttlaw09_BagLater.f
  rw [if_pos ⟨by omega, by omega, by omega⟩]
end Go.Proofs.Ytlpiodcklacdpaa.Pure
