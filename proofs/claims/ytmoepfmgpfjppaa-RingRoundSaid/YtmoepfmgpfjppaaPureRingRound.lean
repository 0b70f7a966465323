/- RingRound: for every seed, set of numbers and number of rounds the law answers true: of a list that stays each is told once in each round, in whatever order; who is not in it is never told. No condition. -/
import Derived.Test.YtmoepfmgpfjppaaPBx1
namespace Go.Proofs.Ytmoepfmgpfjppaa.Pure
open Go
theorem RingRound : Go.Proofs.Ytmoepfmgpfjppaa.PB.scuttlebuttlaw13_RingRound.Pure := by
  intro a0 a1 a2 _ h1 h2
  simp [Lit.wf, IntKind.min, IntKind.max, IntKind.signed, IntKind.bits] at h1 h2
  unfold Go.Proofs.Ytmoepfmgpfjppaa.PB.scuttlebuttlaw13_RingRound.f
  rw [if_pos (by omega)]
end Go.Proofs.Ytmoepfmgpfjppaa.Pure
