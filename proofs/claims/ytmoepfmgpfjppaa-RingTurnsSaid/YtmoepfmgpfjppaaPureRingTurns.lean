/- RingTurns: for every seed and list the law answers true: nobody of a list stays untold for more than 16 turns. No condition. -/
import Derived.Test.YtmoepfmgpfjppaaPBx1
namespace Go.Proofs.Ytmoepfmgpfjppaa.Pure
open Go
theorem RingTurns : Go.Proofs.Ytmoepfmgpfjppaa.PB.scuttlebuttlaw13_RingTurns.Pure := by
  intro a0 l _ _ _ hl
  have hx : ∀ x ∈ l, 0 ≤ x ∧ x < 256 := fun x hx => by
    have h := hl x hx
    simp [Lit.wf, IntKind.min, IntKind.max, IntKind.signed, IntKind.bits] at h
    omega
  unfold Go.Proofs.Ytmoepfmgpfjppaa.PB.scuttlebuttlaw13_RingTurns.f
  rw [if_pos hx]
end Go.Proofs.Ytmoepfmgpfjppaa.Pure
