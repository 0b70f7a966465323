/- Written by xprint.py, a program of this session: Go functions that the laws reach, each as a plain Lean function, and the proof that the Go code comes to what it says. No condition but those that each theorem names. -/
import Derived.Test.YtmoepfmgpfjppaaProg
import Derived.Below
import Derived.Deep.Draws
import Derived.Deep.AppendLies
import Derived.Maps.AppendAt
import Derived.OwnWalk
import Derived.Laws.BytesArg
import Derived.Laws.MakeOwn
import Derived.Laws.OwnMore
import Derived.Deep.OwnRows
import Derived.Tactics
import Derived.Lib.ConvBytes
import Derived.Laws.Slices
import Derived.WalkKit
import Derived.KernelRfl
import Derived.RowKit3
import Derived.Deep.LoopGhost
import Derived.Deep.QuietTactic
import Derived.BigQuiet
import Derived.WideLaws
import Derived.Deep.DeepCutAuto
import Derived.Deep.CutBlock
import Derived.Deep.RegionHeld3
import Derived.Laws.Rows
import Derived.Lib.AppendStr
import Derived.ArgAppend
import Derived.Laws.IdiomCopy
import Derived.OrdersHeld
import Derived.Laws.BitsLemmas
import Derived.RowKit
import Derived.Test.YtmoepfmgpfjppaaWWords
import Derived.Test.YtmoepfmgpfjppaaWLast
import Derived.Test.YtmoepfmgpfjppaaWTab
import Derived.Test.YtmoepfmgpfjppaaWFour
import Derived.Test.YtmoepfmgpfjppaaWQPut
import Derived.Test.YtmoepfmgpfjppaaWApart
import Derived.Test.YtmoepfmgpfjppaaWArr
import Derived.Test.YtmoepfmgpfjppaaWZeros
import Derived.Test.YtmoepfmgpfjppaaWFoot
import Derived.Test.YtmoepfmgpfjppaaWKept
import Derived.Test.YtmoepfmgpfjppaaWShare
import Derived.Test.YtmoepfmgpfjppaaWN
import Derived.Test.YtmoepfmgpfjppaaWFootNe
import Derived.Test.YtmoepfmgpfjppaaWAt
import Derived.Test.YtmoepfmgpfjppaaWEqStruct
import Derived.Test.YtmoepfmgpfjppaaWRepsOne
import Derived.Test.YtmoepfmgpfjppaaWInv
import Derived.Test.YtmoepfmgpfjppaaWInvWords
import Derived.Test.YtmoepfmgpfjppaaWGuard
import Derived.Test.YtmoepfmgpfjppaaWNEv
import Derived.Test.YtmoepfmgpfjppaaWMore
namespace Go.Proofs.Ytmoepfmgpfjppaa.PA
open Go.RowKit Go.Proofs.YtmoepfmgpfjppaaW.PrintWords Go.Proofs.YtmoepfmgpfjppaaW.PrintLast Go.Proofs.YtmoepfmgpfjppaaW.PrintMore
attribute [local go_sem] max2_int min2_int max_two min_two max_three min_three max_four min_four   -- for this text's walks alone
set_option linter.unusedVariables false
set_option linter.unusedSimpArgs false



def errW : Option Int → Value
  | none => .nilIface
  | some c => .iface 0 (.int .i64 c)
theorem errW_none : errW none = .nilIface := rfl
theorem errW_some (c : Int) : errW (some c) = .iface 0 (.int .i64 c) := rfl

theorem info3 : (Try.prog.info? 3).map (fun i => (i.zero, i.size, i.bytes)) = some (some (.int .i64 0), 1, 8) := by kernel_rfl
-- the values' own types

end Go.Proofs.Ytmoepfmgpfjppaa.PA
