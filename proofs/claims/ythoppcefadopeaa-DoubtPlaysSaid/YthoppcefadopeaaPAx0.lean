/- Written by xprint.py, a program of this session: Go functions that the laws reach, each as a plain Lean function, and the proof that the Go code comes to what it says. No condition but those that each theorem names. -/
import Derived.Test.YthoppcefadopeaaProg
import Derived.Below
import Derived.Deep.Draws
import Derived.Deep.AppendLies
import Derived.Maps.AppendAt
import Derived.OwnWalk
import Derived.Laws.BytesArg
import Derived.Laws.MakeOwn
import Derived.Laws.OwnMore
import Derived.Deep.OwnRows
import Derived.Tactics
import Derived.Lib.ConvBytes
import Derived.Laws.Slices
import Derived.WalkKit
import Derived.KernelRfl
import Derived.RowKit3
import Derived.Deep.LoopGhost
import Derived.Deep.QuietTactic
import Derived.BigQuiet
import Derived.WideLaws
import Derived.Deep.DeepCutAuto
import Derived.Deep.CutBlock
import Derived.Deep.RegionHeld3
import Derived.Laws.Rows
import Derived.Lib.AppendStr
import Derived.ArgAppend
import Derived.Laws.IdiomCopy
import Derived.OrdersHeld
import Derived.Laws.BitsLemmas
import Derived.RowKit
import Derived.Test.YthoppcefadopeaaWWords
import Derived.Test.YthoppcefadopeaaWLast
import Derived.Test.YthoppcefadopeaaWTab
import Derived.Test.YthoppcefadopeaaWFour
import Derived.Test.YthoppcefadopeaaWQPut
import Derived.Test.YthoppcefadopeaaWApart
import Derived.Test.YthoppcefadopeaaWArr
import Derived.Test.YthoppcefadopeaaWZeros
import Derived.Test.YthoppcefadopeaaWFoot
import Derived.Test.YthoppcefadopeaaWKept
import Derived.Test.YthoppcefadopeaaWShare
import Derived.Test.YthoppcefadopeaaWN
import Derived.Test.YthoppcefadopeaaWFootNe
import Derived.Test.YthoppcefadopeaaWAt
import Derived.Test.YthoppcefadopeaaWEqStruct
import Derived.Test.YthoppcefadopeaaWRepsOne
import Derived.Test.YthoppcefadopeaaWInv
import Derived.Test.YthoppcefadopeaaWInvWords
import Derived.Test.YthoppcefadopeaaWGuard
import Derived.Test.YthoppcefadopeaaWNEv
import Derived.Test.YthoppcefadopeaaWMore
namespace Go.Proofs.Ythoppcefadopeaa.PA
open Go.RowKit Go.Proofs.YthoppcefadopeaaW.PrintWords Go.Proofs.YthoppcefadopeaaW.PrintLast Go.Proofs.YthoppcefadopeaaW.PrintMore
attribute [local go_sem] max2_int min2_int max_two min_two max_three min_three max_four min_four   -- for this text's walks alone
set_option linter.unusedVariables false
set_option linter.unusedSimpArgs false



def errW : Option Int → Value
  | none => .nilIface
  | some c => .iface 0 (.int .i64 c)
theorem errW_none : errW none = .nilIface := rfl
theorem errW_some (c : Int) : errW (some c) = .iface 0 (.int .i64 c) := rfl

-- the values' own types

end Go.Proofs.Ythoppcefadopeaa.PA
