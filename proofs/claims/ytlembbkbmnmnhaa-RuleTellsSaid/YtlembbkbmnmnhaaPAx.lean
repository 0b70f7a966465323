/- Written by xprint.py, a program of this session: Go functions that the laws reach, each as a plain Lean function, and the proof that the Go code comes to what it says. No condition but those that each theorem names. -/
import Derived.Test.YtlembbkbmnmnhaaPAx0
import Derived.Test.YtlembbkbmnmnhaaPAx1
import Derived.Test.YtlembbkbmnmnhaaPAx2
import Derived.Test.YtlembbkbmnmnhaaPAx3
import Derived.Test.YtlembbkbmnmnhaaPAx4
import Derived.Test.YtlembbkbmnmnhaaPAx5
import Derived.Test.YtlembbkbmnmnhaaPAx6
import Derived.Test.YtlembbkbmnmnhaaPAx7
import Derived.Test.YtlembbkbmnmnhaaPAx8
namespace Go.Proofs.Ytlembbkbmnmnhaa.PA
open Go.RowKit Go.Proofs.YtlembbkbmnmnhaaW.PrintWords Go.Proofs.YtlembbkbmnmnhaaW.PrintLast Go.Proofs.YtlembbkbmnmnhaaW.PrintMore
attribute [local go_sem] max2_int min2_int max_two min_two max_three min_three max_four min_four   -- for this text's walks alone
set_option linter.unusedVariables false
set_option linter.unusedSimpArgs false

end Go.Proofs.Ytlembbkbmnmnhaa.PA
