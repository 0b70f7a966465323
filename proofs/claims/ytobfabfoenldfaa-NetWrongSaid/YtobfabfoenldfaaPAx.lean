/- Written by xprint.py, a program of this session: Go functions that the laws reach, each as a plain Lean function, and the proof that the Go code comes to what it says. No condition but those that each theorem names. -/
import Derived.Test.YtobfabfoenldfaaPAx0
import Derived.Test.YtobfabfoenldfaaPAx1
import Derived.Test.YtobfabfoenldfaaPAx2
import Derived.Test.YtobfabfoenldfaaPAx3
namespace Go.Proofs.Ytobfabfoenldfaa.PA
open Go.RowKit Go.Proofs.YtobfabfoenldfaaW.PrintWords Go.Proofs.YtobfabfoenldfaaW.PrintLast Go.Proofs.YtobfabfoenldfaaW.PrintMore
attribute [local go_sem] max2_int min2_int max_two min_two max_three min_three max_four min_four   -- for this text's walks alone
set_option linter.unusedVariables false
set_option linter.unusedSimpArgs false

end Go.Proofs.Ytobfabfoenldfaa.PA
