/- Written by xprint.py, a program of this session: Go functions that the laws reach, each as a plain Lean function, and the proof that the Go code comes to what it says. No condition but those that each theorem names. -/
import Derived.Test.YtanjoflhpnephaaProg
import Derived.Below
import Derived.Deep.Draws
import Derived.Deep.AppendLies
import Derived.Maps.AppendAt
import Derived.OwnWalk
import Derived.Laws.BytesArg
import Derived.Laws.MakeOwn
import Derived.Laws.OwnMore
import Derived.Deep.OwnRows
import Derived.Tactics
import Derived.Lib.ConvBytes
import Derived.Laws.Slices
import Derived.WalkKit
import Derived.KernelRfl
import Derived.RowKit3
import Derived.Deep.LoopGhost
import Derived.Deep.QuietTactic
import Derived.BigQuiet
import Derived.WideLaws
import Derived.Deep.DeepCutAuto
import Derived.Deep.CutBlock
import Derived.Deep.RegionHeld3
import Derived.Laws.Rows
import Derived.Lib.AppendStr
import Derived.ArgAppend
import Derived.Laws.IdiomCopy
import Derived.OrdersHeld
import Derived.Laws.BitsLemmas
import Derived.RowKit
import Derived.Test.YtanjoflhpnephaaWWords
import Derived.Test.YtanjoflhpnephaaWLast
import Derived.Test.YtanjoflhpnephaaWTab
import Derived.Test.YtanjoflhpnephaaWFour
import Derived.Test.YtanjoflhpnephaaWQPut
import Derived.Test.YtanjoflhpnephaaWApart
import Derived.Test.YtanjoflhpnephaaWArr
import Derived.Test.YtanjoflhpnephaaWZeros
import Derived.Test.YtanjoflhpnephaaWFoot
import Derived.Test.YtanjoflhpnephaaWKept
import Derived.Test.YtanjoflhpnephaaWShare
import Derived.Test.YtanjoflhpnephaaWN
import Derived.Test.YtanjoflhpnephaaWFootNe
import Derived.Test.YtanjoflhpnephaaWAt
import Derived.Test.YtanjoflhpnephaaWEqStruct
import Derived.Test.YtanjoflhpnephaaWRepsOne
import Derived.Test.YtanjoflhpnephaaWInv
import Derived.Test.YtanjoflhpnephaaWInvWords
import Derived.Test.YtanjoflhpnephaaWGuard
import Derived.Test.YtanjoflhpnephaaWNEv
import Derived.Test.YtanjoflhpnephaaWMore
namespace Go.Proofs.Ytanjoflhpnephaa.PA
open Go.RowKit Go.Proofs.YtanjoflhpnephaaW.PrintWords Go.Proofs.YtanjoflhpnephaaW.PrintLast Go.Proofs.YtanjoflhpnephaaW.PrintMore
attribute [local go_sem] max2_int min2_int max_two min_two max_three min_three max_four min_four   -- for this text's walks alone
set_option linter.unusedVariables false
set_option linter.unusedSimpArgs false



def errW : Option Int → Value
  | none => .nilIface
  | some c => .iface 0 (.int .i64 c)
theorem errW_none : errW none = .nilIface := rfl
theorem errW_some (c : Int) : errW (some c) = .iface 0 (.int .i64 c) := rfl

theorem info5 : (Try.prog.info? 5).map (fun i => (i.zero, i.size, i.bytes)) = some (some (.int .u8 0), 1, 1) := by kernel_rfl
-- the values' own types

end Go.Proofs.Ytanjoflhpnephaa.PA
