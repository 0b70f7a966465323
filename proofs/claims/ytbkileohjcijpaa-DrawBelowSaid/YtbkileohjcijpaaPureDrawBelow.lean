/- DrawBelow: for every seed and number the law answers true: a draw below a number is in its bounds and the stream goes on by one step. No condition. -/
import Derived.Test.YtbkileohjcijpaaMA
namespace Go.Proofs.Ytbkileohjcijpaa.Pure
open Go Go.RowKit Go.Proofs.Ytbkileohjcijpaa.PA Go.Proofs.Ytbkileohjcijpaa.MA Go.Proofs.YtbkileohjcijpaaW.PrintWords Go.Proofs.YtbkileohjcijpaaW.PrintLast Go.Proofs.YtbkileohjcijpaaW.PrintMore

theorem DrawBelow : scuttlebuttlaw01_DrawBelow.Pure := by
  intro a b ha hb
  have ra := wf_u64 ha
  have rb := wf_u32 hb
  refine ⟨6, ?_⟩
  have hr := nxt_rng a
  have h1 := Int.emod_lt_of_pos (nxt a).1 (show 0 < b + 1 by omega)
  have h2 := Int.emod_nonneg (nxt a).1 (show b + 1 ≠ 0 by omega)
  have e0 : wrap64 b = b := wrap64_id (by omega) (by omega)
  have e1 : wrap64 (1 + wrap64 b) = b + 1 := by rw [e0, wrap64_id (by omega) (by omega)]; omega
  have e2 : wrap64 (-(b + 1)) = -(b + 1) := wrap64_id (by omega) (by omega)
  have e3 : IntKind.u64.wrap (b + 1) = b + 1 := by rw [wrap_u64]; omega
  have b1 : bel a (b + 1) = ((nxt a).1 % (b + 1), (nxt a).2) := by unfold bel; rw [if_neg (by omega)]
  have b2 : bel a 1 = ((nxt a).1 % 1, (nxt a).2) := by unfold bel; rw [if_neg (by omega)]
  have b3 : bel a (-(b + 1)) = (0, a) := by unfold bel; rw [if_pos (by omega)]
  unfold scuttlebuttlaw01_DrawBelow.f draw_New.f
  rw [examples_true 6 (by omega), Option.bind_some, if_pos rfl, e1, e2, e3, Option.bind_some, below_eq _ _ (by omega), b1]
  rw [Option.bind_some, Option.bind_some, next_some]
  generalize nxt a = N at *
  have e4 : IntKind.u64.wrap (N.1 % (b + 1)) = N.1 % (b + 1) := by rw [wrap_u64]; omega
  rw [Option.bind_some, Option.bind_some, below_eq _ _ (by omega), b2, Option.bind_some, Option.bind_some, below_eq _ _ (by omega), b3, Option.bind_some]
  rw [if_pos (by omega), if_pos (by omega), if_pos rfl, if_neg (by omega), if_pos (by rw [e4, Int.tmod_eq_emod_of_nonneg hr.1]), if_pos (by omega), if_pos rfl]
  simp

end Go.Proofs.Ytbkileohjcijpaa.Pure
