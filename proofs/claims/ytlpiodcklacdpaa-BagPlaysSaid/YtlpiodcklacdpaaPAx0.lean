/- Written by xprint.py, a program of this session: Go functions that the laws reach, each as a plain Lean function, and the proof that the Go code comes to what it says. No condition but those that each theorem names. -/
import Derived.Test.YtlpiodcklacdpaaProg
import Derived.Below
import Derived.Deep.Draws
import Derived.Deep.AppendLies
import Derived.Maps.AppendAt
import Derived.OwnWalk
import Derived.Laws.BytesArg
import Derived.Laws.MakeOwn
import Derived.Laws.OwnMore
import Derived.Deep.OwnRows
import Derived.Tactics
import Derived.Lib.ConvBytes
import Derived.Laws.Slices
import Derived.WalkKit
import Derived.KernelRfl
import Derived.RowKit3
import Derived.Deep.LoopGhost
import Derived.Deep.QuietTactic
import Derived.BigQuiet
import Derived.WideLaws
import Derived.Deep.DeepCutAuto
import Derived.Deep.CutBlock
import Derived.Deep.RegionHeld3
import Derived.Laws.Rows
import Derived.Lib.AppendStr
import Derived.ArgAppend
import Derived.Laws.IdiomCopy
import Derived.OrdersHeld
import Derived.Laws.BitsLemmas
import Derived.RowKit
import Derived.Test.YtlpiodcklacdpaaWWords
import Derived.Test.YtlpiodcklacdpaaWLast
import Derived.Test.YtlpiodcklacdpaaWTab
import Derived.Test.YtlpiodcklacdpaaWFour
import Derived.Test.YtlpiodcklacdpaaWQPut
import Derived.Test.YtlpiodcklacdpaaWApart
import Derived.Test.YtlpiodcklacdpaaWArr
import Derived.Test.YtlpiodcklacdpaaWZeros
import Derived.Test.YtlpiodcklacdpaaWFoot
import Derived.Test.YtlpiodcklacdpaaWKept
import Derived.Test.YtlpiodcklacdpaaWShare
import Derived.Test.YtlpiodcklacdpaaWN
import Derived.Test.YtlpiodcklacdpaaWFootNe
import Derived.Test.YtlpiodcklacdpaaWAt
import Derived.Test.YtlpiodcklacdpaaWEqStruct
import Derived.Test.YtlpiodcklacdpaaWRepsOne
import Derived.Test.YtlpiodcklacdpaaWInv
import Derived.Test.YtlpiodcklacdpaaWInvWords
import Derived.Test.YtlpiodcklacdpaaWGuard
import Derived.Test.YtlpiodcklacdpaaWNEv
import Derived.Test.YtlpiodcklacdpaaWMore
namespace Go.Proofs.Ytlpiodcklacdpaa.PA
open Go.RowKit Go.Proofs.YtlpiodcklacdpaaW.PrintWords Go.Proofs.YtlpiodcklacdpaaW.PrintLast Go.Proofs.YtlpiodcklacdpaaW.PrintMore
attribute [local go_sem] max2_int min2_int max_two min_two max_three min_three max_four min_four   -- for this text's walks alone
set_option linter.unusedVariables false
set_option linter.unusedSimpArgs false



def errW : Option Int → Value
  | none => .nilIface
  | some c => .iface 0 (.int .i64 c)
theorem errW_none : errW none = .nilIface := rfl
theorem errW_some (c : Int) : errW (some c) = .iface 0 (.int .i64 c) := rfl

-- the values' own types

end Go.Proofs.Ytlpiodcklacdpaa.PA
