/- BagPicks: for every list of times, time and pick the law answers true: each of those that are ready may be picked, in their order; a pick below 0 is none. No condition. -/
import Derived.Test.YtlpiodcklacdpaaPBx1
namespace Go.Proofs.Ytlpiodcklacdpaa.Pure
open Go
theorem BagPicks : Go.Proofs.Ytlpiodcklacdpaa.PB.scuttlebuttlaw09_BagPicks.Pure := by
  intro l a1 a2 _ _ hl h1 h2
  have hx : ∀ x ∈ l, 0 ≤ x ∧ x < 256 := fun x hx => by
    have h := hl x hx
    simp [Lit.wf, IntKind.min, IntKind.max, IntKind.signed, IntKind.bits] at h
    omega
  simp [Lit.wf, IntKind.min, IntKind.max, IntKind.signed, IntKind.bits] at h1 h2
  unfold Go.Proofs.Ytlpiodcklacdpaa.PB.scuttlebuttlaw09_BagPicks.f
  rw [if_pos ⟨hx, by omega, by omega, by omega⟩]
end Go.Proofs.Ytlpiodcklacdpaa.Pure
