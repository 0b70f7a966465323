/- Written by xprint.py, a program of this session: Go functions that the laws reach, each as a plain Lean function, and the proof that the Go code comes to what it says. No condition but those that each theorem names. -/
import Derived.Test.YtjlpfmiipicnoaaDoorPAx0
import Derived.Test.YtjlpfmiipicnoaaDoorPAx1
import Derived.Test.YtjlpfmiipicnoaaDoorPAx2
import Derived.Test.YtjlpfmiipicnoaaDoorPAx3
import Derived.Test.YtjlpfmiipicnoaaDoorPAx4
import Derived.Test.YtjlpfmiipicnoaaDoorPAx5
import Derived.Test.YtjlpfmiipicnoaaDoorPAx6
import Derived.Test.YtjlpfmiipicnoaaDoorPAx7
import Derived.Test.YtjlpfmiipicnoaaDoorPAx8
import Derived.Test.YtjlpfmiipicnoaaDoorPAx9
import Derived.Test.YtjlpfmiipicnoaaDoorPAx10
import Derived.Test.YtjlpfmiipicnoaaDoorPAx11
import Derived.Test.YtjlpfmiipicnoaaDoorPAx12
import Derived.Test.YtjlpfmiipicnoaaDoorPAx13
namespace Go.Proofs.YtjlpfmiipicnoaaDoor.PA
open Go.RowKit Go.Proofs.YtjlpfmiipicnoaaDoorW.PrintWords Go.Proofs.YtjlpfmiipicnoaaDoorW.PrintLast Go.Proofs.YtjlpfmiipicnoaaDoorW.PrintMore
attribute [local go_sem] max2_int min2_int max_two min_two max_three min_three max_four min_four   -- for this text's walks alone
set_option linter.unusedVariables false
set_option linter.unusedSimpArgs false

end Go.Proofs.YtjlpfmiipicnoaaDoor.PA
