/- Written by xprint.py, a program of this session: Go functions that the laws reach, each as a plain Lean function, and the proof that the Go code comes to what it says. No condition but those that each theorem names. -/
import Derived.Test.YthpmlnnjfmcglaaProg
import Derived.Below
import Derived.Deep.Draws
import Derived.Deep.AppendLies
import Derived.Maps.AppendAt
import Derived.OwnWalk
import Derived.Laws.BytesArg
import Derived.Laws.MakeOwn
import Derived.Laws.OwnMore
import Derived.Deep.OwnRows
import Derived.Tactics
import Derived.Lib.ConvBytes
import Derived.Laws.Slices
import Derived.WalkKit
import Derived.KernelRfl
import Derived.RowKit3
import Derived.Deep.LoopGhost
import Derived.Deep.QuietTactic
import Derived.BigQuiet
import Derived.WideLaws
import Derived.Deep.DeepCutAuto
import Derived.Deep.CutBlock
import Derived.Deep.RegionHeld3
import Derived.Laws.Rows
import Derived.Lib.AppendStr
import Derived.ArgAppend
import Derived.Laws.IdiomCopy
import Derived.OrdersHeld
import Derived.Laws.BitsLemmas
import Derived.RowKit
import Derived.Test.YthpmlnnjfmcglaaWWords
import Derived.Test.YthpmlnnjfmcglaaWLast
import Derived.Test.YthpmlnnjfmcglaaWTab
import Derived.Test.YthpmlnnjfmcglaaWFour
import Derived.Test.YthpmlnnjfmcglaaWQPut
import Derived.Test.YthpmlnnjfmcglaaWApart
import Derived.Test.YthpmlnnjfmcglaaWArr
import Derived.Test.YthpmlnnjfmcglaaWZeros
import Derived.Test.YthpmlnnjfmcglaaWFoot
import Derived.Test.YthpmlnnjfmcglaaWKept
import Derived.Test.YthpmlnnjfmcglaaWShare
import Derived.Test.YthpmlnnjfmcglaaWN
import Derived.Test.YthpmlnnjfmcglaaWFootNe
import Derived.Test.YthpmlnnjfmcglaaWAt
import Derived.Test.YthpmlnnjfmcglaaWEqStruct
import Derived.Test.YthpmlnnjfmcglaaWRepsOne
import Derived.Test.YthpmlnnjfmcglaaWInv
import Derived.Test.YthpmlnnjfmcglaaWInvWords
import Derived.Test.YthpmlnnjfmcglaaWGuard
import Derived.Test.YthpmlnnjfmcglaaWNEv
import Derived.Test.YthpmlnnjfmcglaaWMore
namespace Go.Proofs.Ythpmlnnjfmcglaa.PA
open Go.RowKit Go.Proofs.YthpmlnnjfmcglaaW.PrintWords Go.Proofs.YthpmlnnjfmcglaaW.PrintLast Go.Proofs.YthpmlnnjfmcglaaW.PrintMore
attribute [local go_sem] max2_int min2_int max_two min_two max_three min_three max_four min_four   -- for this text's walks alone
set_option linter.unusedVariables false
set_option linter.unusedSimpArgs false



def errW : Option Int → Value
  | none => .nilIface
  | some c => .iface 0 (.int .i64 c)
theorem errW_none : errW none = .nilIface := rfl
theorem errW_some (c : Int) : errW (some c) = .iface 0 (.int .i64 c) := rfl

theorem info3 : (Try.prog.info? 3).map (fun i => (i.zero, i.size, i.bytes)) = some (some (.int .i64 0), 1, 8) := by kernel_rfl
-- the values' own types

end Go.Proofs.Ythpmlnnjfmcglaa.PA
