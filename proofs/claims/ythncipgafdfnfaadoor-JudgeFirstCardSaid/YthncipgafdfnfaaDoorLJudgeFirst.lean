/- JudgeFirst, walked. Conditions: those that the theorem names. -/
import Derived.Test.YthncipgafdfnfaaDoorJFA
import Derived.Test.YthncipgafdfnfaaDoorJFB
import Derived.Test.YthncipgafdfnfaaDoorJFC
import Derived.Test.YthncipgafdfnfaaDoorJFD
namespace Go.Proofs.YthncipgafdfnfaaDoor.JW
set_option linter.unusedVariables false
set_option linter.unusedSimpArgs false
open Go Go.RowKit Go.Proofs.YthncipgafdfnfaaDoorS Go.Proofs.YthncipgafdfnfaaDoorS.Asn Go.Proofs.YthncipgafdfnfaaDoor.PA Go.Proofs.YthncipgafdfnfaaDoorW.PrintWords Go.Proofs.YthncipgafdfnfaaDoorW.PrintLast Go.Proofs.YthncipgafdfnfaaDoorW.PrintMore

theorem judgeFirst_walk (x y : Th) (up : Bool) (w : World) (hx : thOk x) (hy : thOk y) : Calls Tryd.prog 7 #[.agg #[.int .i64 x.r.id, .int .i64 x.r.st, .int .u32 x.r.inc, .int .u32 x.r.ip, .int .u16 x.r.po, .bool x.own], .agg #[.int .i64 y.r.id, .int .i64 y.r.st, .int .u32 y.r.inc, .int .u32 y.r.ip, .int .u16 y.r.po, .bool y.own], .bool up] w fun e w' => e = .returned (.bool true) ∧ Below w.heap.size w w' := by
  cases up with
  | true =>
    cases h : liveB ⟨2, (thE ⟨x.r, true⟩).st, (thE ⟨x.r, true⟩).inc, (thE ⟨x.r, true⟩).ip, (thE ⟨x.r, true⟩).po⟩ with
    | true => exact judgeFirst_A x y true rfl w hx hy h
    | false => exact judgeFirst_B x y true rfl w hx hy h
  | false =>
    cases h : liveB ⟨2, (thE ⟨x.r, true⟩).st, (thE ⟨x.r, true⟩).inc, (thE ⟨x.r, true⟩).ip, (thE ⟨x.r, true⟩).po⟩ with
    | true => exact judgeFirst_C x y false rfl w hx hy h
    | false => exact judgeFirst_D x y false rfl w hx hy h
#print axioms judgeFirst_walk
end Go.Proofs.YthncipgafdfnfaaDoor.JW
