/- Written by xprint.py, a program of this session: Go functions that the laws reach, each as a plain Lean function, and the proof that the Go code comes to what it says. No condition but those that each theorem names. -/
import Derived.Test.YtalibiaplhmfhaaPAx0
import Derived.WalkSpells
import Derived.WalkLawsBesides
import Derived.Laws.IdiomStrings
import Derived.Laws.BytesArg
import Derived.Test.YtalibiaplhmfhaaXAux
namespace Go.Proofs.Ytalibiaplhmfhaa.PA
open Go.RowKit Go.Proofs.YtalibiaplhmfhaaW.PrintWords Go.Proofs.YtalibiaplhmfhaaW.PrintLast Go.Proofs.YtalibiaplhmfhaaW.PrintMore
attribute [local go_sem] max2_int min2_int max_two min_two max_three min_three max_four min_four   -- for this text's walks alone
set_option linter.unusedVariables false
set_option linter.unusedSimpArgs false

theorem eqA32 (d : Nat) (w : World) (x0 y0 : Int) (x1 y1 : Int) :
  (Op.equalIn (d + 2) 32 (.agg #[.int .u32 x0, .int .u16 x1]) (.agg #[.int .u32 y0, .int .u16 y1])).run Try.prog w = .ok (x0 == y0 && (x1 == y1)) w := by
 refine eqA_of Try.underlying32 (by kernel_rfl) ?_
 refine eqf_cons (by rfl) (by go_simp; rfl) (by go_simp; rfl) (by go_simp) ?_
 exact eqf_last (by rfl) (by go_simp; rfl) (by go_simp; rfl) (by go_simp)
theorem eqA34 (d : Nat) (w : World) (x0 y0 : Int) (x1 y1 : Int) (x2 y2 : Int) (x3 y3 : Int) (x4 y4 : Int) :
  (Op.equalIn (d + 3) 34 (.agg #[.int .i64 x0, .int .i64 x1, .int .u32 x2, .int .u32 x3, .int .u16 x4]) (.agg #[.int .i64 y0, .int .i64 y1, .int .u32 y2, .int .u32 y3, .int .u16 y4])).run Try.prog w = .ok (x0 == y0 && (x1 == y1 && (x2 == y2 && ((x3 == y3 && (x4 == y4)))))) w := by
 refine eqA_of Try.underlying34 (by kernel_rfl) ?_
 refine eqf_cons (by rfl) (by go_simp; rfl) (by go_simp; rfl) (by go_simp) ?_
 refine eqf_cons (by rfl) (by go_simp; rfl) (by go_simp; rfl) (by go_simp) ?_
 refine eqf_cons (by rfl) (by go_simp; rfl) (by go_simp; rfl) (by go_simp) ?_
 exact eqf_last (by rfl) (by go_simp) (by go_simp) (eqA32 (d + 0) w _ _ _ _)
end Go.Proofs.Ytalibiaplhmfhaa.PA
