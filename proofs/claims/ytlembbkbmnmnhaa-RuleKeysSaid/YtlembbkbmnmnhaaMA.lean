/- The examples of chapter 7 hold; what binding and word a type gives. -/
import Derived.Test.YtlembbkbmnmnhaaPAx
namespace Go.Proofs.Ytlembbkbmnmnhaa.MA
open Go Go.RowKit Go.Proofs.Ytlembbkbmnmnhaa.PA Go.Proofs.YtlembbkbmnmnhaaW.PrintWords Go.Proofs.YtlembbkbmnmnhaaW.PrintLast Go.Proofs.YtlembbkbmnmnhaaW.PrintMore

theorem ex : scuttlebuttlaw07_examples.f 5 = some true := by decide +kernel
theorem key0 (x y : Int) : rule_Key.f 0 0 x y = some (0, 0) := rfl
theorem key1 (x y : Int) : rule_Key.f 1 0 x y = some (x, 0) := rfl
theorem key2 (x y : Int) : rule_Key.f 2 0 x y = some (x, y) := rfl

end Go.Proofs.Ytlembbkbmnmnhaa.MA
