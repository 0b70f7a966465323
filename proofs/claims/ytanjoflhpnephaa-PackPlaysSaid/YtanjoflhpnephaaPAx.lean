/- Written by xprint.py, a program of this session: Go functions that the laws reach, each as a plain Lean function, and the proof that the Go code comes to what it says. No condition but those that each theorem names. -/
import Derived.Test.YtanjoflhpnephaaPAx0
import Derived.Test.YtanjoflhpnephaaPAx1
import Derived.Test.YtanjoflhpnephaaPAx2
import Derived.Test.YtanjoflhpnephaaPAx3
import Derived.Test.YtanjoflhpnephaaPAx4
import Derived.Test.YtanjoflhpnephaaPAx5
import Derived.Test.YtanjoflhpnephaaPAx6
namespace Go.Proofs.Ytanjoflhpnephaa.PA
open Go.RowKit Go.Proofs.YtanjoflhpnephaaW.PrintWords Go.Proofs.YtanjoflhpnephaaW.PrintLast Go.Proofs.YtanjoflhpnephaaW.PrintMore
attribute [local go_sem] max2_int min2_int max_two min_two max_three min_three max_four min_four   -- for this text's walks alone
set_option linter.unusedVariables false
set_option linter.unusedSimpArgs false

end Go.Proofs.Ytanjoflhpnephaa.PA
