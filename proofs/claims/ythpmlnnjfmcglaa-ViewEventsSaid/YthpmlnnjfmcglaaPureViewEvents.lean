/- ViewEvents: however many turns there are the law answers true: only the last events are kept, in order; they are all counted. No condition. -/
import Derived.Test.YthpmlnnjfmcglaaPBx1
namespace Go.Proofs.Ythpmlnnjfmcglaa.Pure
open Go
theorem ViewEvents : Go.Proofs.Ythpmlnnjfmcglaa.PB.scuttlebuttlaw11_ViewEvents.Pure := by
  intro a0 h0
  simp [Lit.wf, IntKind.min, IntKind.max, IntKind.signed, IntKind.bits] at h0
  unfold Go.Proofs.Ythpmlnnjfmcglaa.PB.scuttlebuttlaw11_ViewEvents.f
  rw [if_pos ⟨by omega, by omega⟩]
end Go.Proofs.Ythpmlnnjfmcglaa.Pure
