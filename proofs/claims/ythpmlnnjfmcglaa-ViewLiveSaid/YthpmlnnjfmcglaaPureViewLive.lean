/- ViewLive: for every list of states the law answers true: live are just those that are alive, or suspect; who is dead, or left, is known still. No condition. -/
import Derived.Test.YthpmlnnjfmcglaaPBx1
namespace Go.Proofs.Ythpmlnnjfmcglaa.Pure
open Go
theorem ViewLive : Go.Proofs.Ythpmlnnjfmcglaa.PB.scuttlebuttlaw11_ViewLive.Pure := by
  intro l _ _ hl
  have hx : ∀ x ∈ l, 0 ≤ x ∧ x < 256 := fun x hx => by
    have h := hl x hx
    simp [Lit.wf, IntKind.min, IntKind.max, IntKind.signed, IntKind.bits] at h
    omega
  unfold Go.Proofs.Ythpmlnnjfmcglaa.PB.scuttlebuttlaw11_ViewLive.f
  rw [if_pos hx]
end Go.Proofs.Ythpmlnnjfmcglaa.Pure
