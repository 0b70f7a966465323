/- BagOnce: for every list of times and of picks the law answers true: whatever is picked, each that was put is taken once, and none ahead of its time. No condition. -/
import Derived.Test.YtlpiodcklacdpaaPBx1
namespace Go.Proofs.Ytlpiodcklacdpaa.Pure
open Go
theorem BagOnce : Go.Proofs.Ytlpiodcklacdpaa.PB.scuttlebuttlaw09_BagOnce.Pure := by
  intro l l2 _ _ hl _ _ hl2
  have hx : ∀ x ∈ l, 0 ≤ x ∧ x < 256 := fun x hx => by
    have h := hl x hx
    simp [Lit.wf, IntKind.min, IntKind.max, IntKind.signed, IntKind.bits] at h
    omega
  have hy : ∀ x ∈ l2, 0 ≤ x ∧ x < 256 := fun x hx => by
    have h := hl2 x hx
    simp [Lit.wf, IntKind.min, IntKind.max, IntKind.signed, IntKind.bits] at h
    omega
  unfold Go.Proofs.Ytlpiodcklacdpaa.PB.scuttlebuttlaw09_BagOnce.f
  rw [if_pos ⟨hx, hy⟩]
end Go.Proofs.Ytlpiodcklacdpaa.Pure
