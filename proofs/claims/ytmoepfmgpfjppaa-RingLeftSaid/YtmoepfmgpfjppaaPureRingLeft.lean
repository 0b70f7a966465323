/- RingLeft: for every seed and every two lists the law answers true: those that are left are of the list that was mixed, each place once, but those that were told; who is next is told though nobody of the list is left. No condition. -/
import Derived.Test.YtmoepfmgpfjppaaPBx1
namespace Go.Proofs.Ytmoepfmgpfjppaa.Pure
theorem RingLeft : Go.Proofs.Ytmoepfmgpfjppaa.PB.scuttlebuttlaw13_RingLeft.Pure := by
  unfold Go.Proofs.Ytmoepfmgpfjppaa.PB.scuttlebuttlaw13_RingLeft.Pure
  intros
  rfl
end Go.Proofs.Ytmoepfmgpfjppaa.Pure
