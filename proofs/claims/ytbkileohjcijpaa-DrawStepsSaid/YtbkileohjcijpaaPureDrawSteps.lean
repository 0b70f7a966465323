/- DrawSteps: for every two seeds and number of draws the law answers true: each stream goes on by the same step, and two of other seeds stay apart. No condition. -/
import Derived.Test.YtbkileohjcijpaaMA
namespace Go.Proofs.Ytbkileohjcijpaa.Pure
open Go Go.RowKit Go.Proofs.Ytbkileohjcijpaa.PA Go.Proofs.Ytbkileohjcijpaa.MA Go.Proofs.YtbkileohjcijpaaW.PrintWords Go.Proofs.YtbkileohjcijpaaW.PrintLast Go.Proofs.YtbkileohjcijpaaW.PrintMore

set_option linter.unusedVariables false in
theorem nxt_snd_inj {s t : Int} (hs0 : 0 ≤ s) (hs : s < 18446744073709551616) (ht0 : 0 ≤ t) (ht : t < 18446744073709551616) (h : (nxt s).2 = (nxt t).2) : s = t := by
  rw [nxt_snd, nxt_snd] at h
  exact step_inj hs0 hs ht0 ht h
theorem nxt_step (s : Int) (hs0 : 0 ≤ s) (hs : s < 18446744073709551616) : IntKind.u64.wrap ((nxt s).2 - s) = 11400714819323198485 := by
  rw [wrap_u64, nxt_snd]
  omega
theorem nxt_snd_rng (s : Int) : 0 ≤ (nxt s).2 ∧ (nxt s).2 < 18446744073709551616 := by rw [nxt_snd]; omega

theorem apart {a b x y : Int} (h : x = y ↔ a = b) : ((a == b) != (x == y)) = false := by
  by_cases e : a = b
  · have := h.2 e
    subst e this
    simp
  · have e' : ¬ x = y := fun z => e (h.1 z)
    have h1 : (a == b) = false := by simpa using e
    have h2 : (x == y) = false := by simpa using e'
    rw [h1, h2]
    rfl

theorem steps_loop (a b n : Int) : ∀ (d k : Nat) (i s t : Int), wrap64 (Int.tmod n 51) - i ≤ d → 0 ≤ i → i ≤ 60 → wrap64 (Int.tmod n 51) ≤ 60 → d < k → 0 ≤ s → s < 18446744073709551616 → 0 ≤ t → t < 18446744073709551616 → (s = t ↔ a = b) →
    scuttlebuttlaw01_DrawSteps.l0 k a b n i s t = some true := by
  intro d
  induction d with
  | zero =>
    intro k i s t hd hi hi6 hn hk _ _ _ _ _
    obtain ⟨k, rfl⟩ : ∃ m, k = m + 1 := ⟨k - 1, by omega⟩
    simp only [scuttlebuttlaw01_DrawSteps.l0]
    rw [if_neg (by omega)]
  | succ d ih =>
    intro k i s t hd hi hi6 hn hk hs0 hs ht0 ht hst
    obtain ⟨k, rfl⟩ : ∃ m, k = m + 1 := ⟨k - 1, by omega⟩
    have e2 : (nxt s).2 = (nxt t).2 ↔ a = b := ⟨fun h => hst.1 (nxt_snd_inj hs0 hs ht0 ht h), fun h => by rw [hst.2 h]⟩
    have e1 : (nxt s).1 = (nxt t).1 ↔ a = b := ⟨fun h => hst.1 (nxt_inj hs0 hs ht0 ht h), fun h => by rw [hst.2 h]⟩
    have w1 := nxt_step s hs0 hs
    have w2 := nxt_step t ht0 ht
    have r1 := nxt_snd_rng s
    have r2 := nxt_snd_rng t
    simp only [scuttlebuttlaw01_DrawSteps.l0]
    by_cases hlt : i < wrap64 (Int.tmod n 51)
    · rw [if_pos hlt, next_some, next_some]
      generalize nxt s = S at *
      generalize nxt t = T at *
      rw [Option.bind_some, Option.bind_some, if_pos (by rw [w1, w2]), if_neg (by rw [apart e2]; simp), if_neg (by rw [apart e1]; simp), wrap64_id (by omega) (by omega)]
      exact ih k (i + 1) S.2 T.2 (by omega) (by omega) (by omega) hn (by omega) r1.1 r1.2 r2.1 r2.2 e2
    · rw [if_neg hlt]

theorem DrawSteps : scuttlebuttlaw01_DrawSteps.Pure := by
  intro a b n ha hb hn
  have ra := wf_u64 ha
  have rb := wf_u64 hb
  have rn := wf_u8 hn
  have e : wrap64 (Int.tmod n 51) = n % 51 := by rw [Int.tmod_eq_emod_of_nonneg rn.1, wrap64_id (by omega) (by omega)]
  refine ⟨100, ?_⟩
  unfold scuttlebuttlaw01_DrawSteps.f draw_New.f
  rw [examples_true 100 (by omega), Option.bind_some, if_pos rfl, Option.bind_some, Option.bind_some]
  exact steps_loop a b n 60 100 0 a b (by omega) (by omega) (by omega) (by omega) (by omega) ra.1 ra.2 rb.1 rb.2 Iff.rfl

end Go.Proofs.Ytbkileohjcijpaa.Pure
