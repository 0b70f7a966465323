/- BagRoom: for every room, number and length the law answers true: there is room for just so many; what is none is refused, and nothing is under way of it; what was refused leaves all as it was. No condition. -/
import Derived.Test.YtlpiodcklacdpaaPBx1
namespace Go.Proofs.Ytlpiodcklacdpaa.Pure
open Go
theorem BagRoom : Go.Proofs.Ytlpiodcklacdpaa.PB.scuttlebuttlaw09_BagRoom.Pure := by
  intro a0 a1 a2 h0 h1 h2
  simp [Lit.wf, IntKind.min, IntKind.max, IntKind.signed, IntKind.bits] at h0 h1 h2
  unfold Go.Proofs.Ytlpiodcklacdpaa.PB.scuttlebuttlaw09_BagRoom.f
  rw [if_pos ⟨by omega, by omega, by omega, by omega, by omega, by omega⟩]
end Go.Proofs.Ytlpiodcklacdpaa.Pure
