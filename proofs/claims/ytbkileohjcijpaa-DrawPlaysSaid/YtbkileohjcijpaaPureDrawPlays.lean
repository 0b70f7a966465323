/- DrawPlays: for every seed, number, list and number of picks the law answers true: the program's draws are the document's, and the list stays. No condition. -/
import Derived.Test.YtbkileohjcijpaaMA
namespace Go.Proofs.Ytbkileohjcijpaa.Pure
open Go Go.RowKit Go.Proofs.Ytbkileohjcijpaa.PA Go.Proofs.Ytbkileohjcijpaa.MA Go.Proofs.YtbkileohjcijpaaW.PrintWords Go.Proofs.YtbkileohjcijpaaW.PrintLast Go.Proofs.YtbkileohjcijpaaW.PrintMore

theorem plays_tail (a n : Int) (l : List Int) (m : Int) (hn : n < 9223372036854775808) : scuttlebuttlaw01_DrawPlays.j0 100 a n l m = some true := by
  have hc : mn (l.length : Int) 40 = ((min l.length 40 : Nat) : Int) := by unfold mn; split <;> omega
  have hl : (l.take (min l.length 40)).length ≤ 40 := by rw [List.length_take]; omega
  show scuttlebuttlaw01_DrawPlays.j0 (99 + 1) a n l m = some true
  simp only [scuttlebuttlaw01_DrawPlays.j0]
  rw [hc, Int.toNat_natCast, if_pos (by omega), if_pos (by omega), if_pos (by simp only [List.length_nil]; omega)]
  generalize l.take (min l.length 40) = x at hl ⊢
  unfold draw_New.f
  rw [Option.bind_some, next_some, next_ref]
  generalize nxt a = N
  rw [Option.bind_some, Option.bind_some, below_ref, below_eq _ _ hn]
  generalize bel N.2 n = B
  rw [Option.bind_some, Option.bind_some, mix_ref _ _ _ (by omega) (by omega), mix_some _ _ _ (by omega) (by omega)]
  have hm := mix_length B.2 x
  generalize mix B.2 x = M at hm ⊢
  rw [Option.bind_some, Option.bind_some, some_ref _ _ _ _ (by omega) (by omega), some_eq _ _ _ _ (by omega) (by omega)]
  have hs : (som M.2 x m).1.length ≤ 40 := by
    unfold som
    rw [List.length_take, mix_length]
    omega
  generalize som M.2 x m = S at hs ⊢
  rw [Option.bind_some, Option.bind_some, List.nil_append, same_self _ _ (by omega) (by omega), same_self _ _ (by omega) (by omega), same_self _ _ (by omega) (by omega)]
  repeat rw [Option.bind_some]
  repeat rw [if_pos rfl]

theorem DrawPlays : scuttlebuttlaw01_DrawPlays.Pure := by
  intro a n l m near ha hn _ _ _ hm
  have rn := wf_i64 hn
  refine ⟨101, ?_⟩
  unfold scuttlebuttlaw01_DrawPlays.f
  rw [examples_true 101 (by omega), Option.bind_some, if_pos rfl]
  have j : ∀ n m, n < 9223372036854775808 → scuttlebuttlaw01_DrawPlays.j0 101 a n l m = some true := fun n m h => at_rounds (fun k => scuttlebuttlaw01_DrawPlays.mono_l k _ _ _ _) (show 100 ≤ 101 by omega) (plays_tail a n l m h)
  split
  · refine j _ _ ?_
    have := Int.tmod_lt_of_pos n (show (0 : Int) < 50 by decide)
    omega
  · exact j _ _ (by omega)

end Go.Proofs.Ytbkileohjcijpaa.Pure
