/- DrawMixed: for every seed, list and number of picks the law answers true: mixed, a list has just what it had; the same stream mixes it the same; some of it are what stands first. No condition. -/
import Derived.Test.YtbkileohjcijpaaMD
namespace Go.Proofs.Ytbkileohjcijpaa.Pure
open Go Go.RowKit Go.Proofs.Ytbkileohjcijpaa.PA Go.Proofs.Ytbkileohjcijpaa.MD Go.Proofs.YtbkileohjcijpaaW.PrintWords Go.Proofs.YtbkileohjcijpaaW.PrintLast Go.Proofs.YtbkileohjcijpaaW.PrintMore

theorem low_rng (l : List Int) (h : ∀ x ∈ l, 0 ≤ x ∧ x < 256) : ∀ x ∈ low l, 0 ≤ x ∧ x ≤ 7 := by
  intro x hx
  unfold low at hx
  obtain ⟨y, hy, rfl⟩ := List.mem_map.1 hx
  have hr := h y hy
  rw [Int.tmod_eq_emod_of_nonneg hr.1, wrap64_id (by omega) (by omega)]
  omega
theorem cut_len (K : Int) (n : Nat) (hK : 0 ≤ K) : ((cutAt K n : Nat) : Int) = mn K (n : Int) ∧ cutAt K n ≤ n := by
  unfold cutAt mx mn
  split <;> split <;> omega

theorem DrawMixed : scuttlebuttlaw01_DrawMixed.Pure := by
  intro a l n _ _ _ hw hn
  have rn := wf_u8 hn
  have hl : ∀ x ∈ l, 0 ≤ x ∧ x < 256 := fun x hx => wf_u8 (hw x hx)
  refine ⟨40, ?_⟩
  unfold scuttlebuttlaw01_DrawMixed.f
  rw [examples_true 40 (by omega), Option.bind_some, if_pos rfl]
  have hrng := low_rng (l.take 30) (fun x hx => hl x (List.mem_of_mem_take hx))
  have hlen : (low (l.take 30)).length ≤ 30 := by unfold low; rw [List.length_map, List.length_take]; omega
  generalize low (l.take 30) = L at hrng hlen
  have hK : 0 ≤ wrap64 (Int.tmod n 40) := by
    rw [Int.tmod_eq_emod_of_nonneg rn.1, wrap64_id (by omega) (by omega)]
    omega
  generalize wrap64 (Int.tmod n 40) = K at hK
  rw [mix_some 40 a L (by omega) (by omega), Option.bind_some, some_eq 40 a L K (by omega) (by omega), Option.bind_some]
  have hm := mix_length a L
  have hp := mix_perm a L
  obtain ⟨h1, h2⟩ := cut_len K L.length hK
  have hc : (som a L K).1.length = cutAt K L.length := by
    unfold som
    rw [List.length_take]
    omega
  have ht : (mix a L).1.take (som a L K).1.length = (som a L K).1 := by
    rw [hc]
    rfl
  rw [ht, same_self 40 (mix a L).1 (by omega) (by omega), Option.bind_some, same_self 40 (som a L K).1 (by omega) (by omega), Option.bind_some]
  rw [if_pos ⟨rfl, rfl, rfl, by rw [hc]; exact h1, hm, by omega, fun x hx => hrng x (hp.mem_iff.1 hx), fun v _ => hp.count_eq _, hl⟩]

end Go.Proofs.Ytbkileohjcijpaa.Pure
