/- Written by xprint.py, a program of this session: Go functions that the laws reach, each as a plain Lean function, and the proof that the Go code comes to what it says. No condition but those that each theorem names. -/
import Derived.Test.YtalibiaplhmfhaaPAx0
import Derived.Test.YtalibiaplhmfhaaPAx1
import Derived.Test.YtalibiaplhmfhaaPAx2
import Derived.Test.YtalibiaplhmfhaaPAx3
import Derived.Test.YtalibiaplhmfhaaPAx4
import Derived.Test.YtalibiaplhmfhaaPAx5
import Derived.Test.YtalibiaplhmfhaaPAx6
import Derived.Test.YtalibiaplhmfhaaPAx7
import Derived.Test.YtalibiaplhmfhaaPAx8
import Derived.Test.YtalibiaplhmfhaaPAx9
import Derived.Test.YtalibiaplhmfhaaPAx10
import Derived.Test.YtalibiaplhmfhaaPAx11
import Derived.Test.YtalibiaplhmfhaaPAx12
import Derived.Test.YtalibiaplhmfhaaPAx13
import Derived.Test.YtalibiaplhmfhaaPAx14
import Derived.Test.YtalibiaplhmfhaaPAx15
import Derived.Test.YtalibiaplhmfhaaPAx16
import Derived.Test.YtalibiaplhmfhaaPAx17
import Derived.Test.YtalibiaplhmfhaaPAx18
import Derived.Test.YtalibiaplhmfhaaPAx19
import Derived.Test.YtalibiaplhmfhaaPAx20
namespace Go.Proofs.Ytalibiaplhmfhaa.PA
open Go.RowKit Go.Proofs.YtalibiaplhmfhaaW.PrintWords Go.Proofs.YtalibiaplhmfhaaW.PrintLast Go.Proofs.YtalibiaplhmfhaaW.PrintMore
attribute [local go_sem] max2_int min2_int max_two min_two max_three min_three max_four min_four   -- for this text's walks alone
set_option linter.unusedVariables false
set_option linter.unusedSimpArgs false

end Go.Proofs.Ytalibiaplhmfhaa.PA
