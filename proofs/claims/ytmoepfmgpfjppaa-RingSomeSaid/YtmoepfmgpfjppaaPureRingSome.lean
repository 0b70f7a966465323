/- RingSome: for every seed, list and number the law answers true: some of a list are in it, each place once, and who is left stays; the same seed draws the same. No condition. -/
import Derived.Test.YtmoepfmgpfjppaaPBx1
namespace Go.Proofs.Ytmoepfmgpfjppaa.Pure
open Go
theorem RingSome : Go.Proofs.Ytmoepfmgpfjppaa.PB.scuttlebuttlaw13_RingSome.Pure := by
  intro a0 l a2 _ _ _ hl h2
  have hx : ∀ x ∈ l, 0 ≤ x ∧ x < 256 := fun x hx => by
    have h := hl x hx
    simp [Lit.wf, IntKind.min, IntKind.max, IntKind.signed, IntKind.bits] at h
    omega
  simp [Lit.wf, IntKind.min, IntKind.max, IntKind.signed, IntKind.bits] at h2
  unfold Go.Proofs.Ytmoepfmgpfjppaa.PB.scuttlebuttlaw13_RingSome.f
  rw [if_pos ⟨by omega, by omega, hx⟩]
end Go.Proofs.Ytmoepfmgpfjppaa.Pure
