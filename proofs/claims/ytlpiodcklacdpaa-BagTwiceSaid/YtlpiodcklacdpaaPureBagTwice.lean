/- BagTwice: for every time and delay the law answers true: what is made twice comes twice, what is lost never; what is delayed comes no earlier than then. No condition. -/
import Derived.Test.YtlpiodcklacdpaaPBx1
namespace Go.Proofs.Ytlpiodcklacdpaa.Pure
open Go
theorem BagTwice : Go.Proofs.Ytlpiodcklacdpaa.PB.scuttlebuttlaw09_BagTwice.Pure := by
  intro a0 a1 a2 h0 h1
  simp [Lit.wf, IntKind.min, IntKind.max, IntKind.signed, IntKind.bits] at h0 h1
  unfold Go.Proofs.Ytlpiodcklacdpaa.PB.scuttlebuttlaw09_BagTwice.f
  rw [if_pos ⟨by omega, by omega, by omega, by omega⟩]
end Go.Proofs.Ytlpiodcklacdpaa.Pure
