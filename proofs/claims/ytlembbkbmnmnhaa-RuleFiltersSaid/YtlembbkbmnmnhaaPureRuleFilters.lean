/- RuleFilters: for every list of addresses that were met and another one the law answers true: whoever passes a strict filter passes a less strict one, who was met passes all, of a filter that is none nobody passes. No condition. -/
import Derived.Test.YtlembbkbmnmnhaaMB
namespace Go.Proofs.Ytlembbkbmnmnhaa.Pure
open Go Go.RowKit Go.Proofs.Ytlembbkbmnmnhaa.PA Go.Proofs.Ytlembbkbmnmnhaa.MA Go.Proofs.Ytlembbkbmnmnhaa.MB Go.Proofs.YtlembbkbmnmnhaaW.PrintWords Go.Proofs.YtlembbkbmnmnhaaW.PrintLast

theorem filters_1 (k : Nat) (l : List S28) (own : Bool) (a b : Int) (hl : l.length < 9223372036854775808) (hk : l.length < k) (h : own = true → l ≠ [] → l.any (hit a b) = true) :
    scuttlebuttlaw07_RuleFilters.j1 (k + 1) l own a b = some true := by
  simp only [scuttlebuttlaw07_RuleFilters.j1]
  rw [p0, Option.bind_some, p1, Option.bind_some, p2 k l a b hl hk, Option.bind_some, if_pos rfl, p3]
  have hs := strict l a b
  simp only [Option.bind_some]
  cases l with
  | nil => cases own <;> rfl
  | cons x l =>
    have h := fun e => h e (by simp)
    have h0 : ¬ (((x :: l).length : Int) = 0) := by simp only [List.length_cons]; omega
    have h1 : ((x :: l).length : Int) > 0 := by simp only [List.length_cons]; omega
    generalize (x :: l).any (hit a b) = B at h hs
    generalize (x :: l).any (ipIs a) = A at hs
    rw [if_pos h1]
    cases B with
    | true =>
      rw [hs rfl]
      cases own <;> simp
    | false =>
      cases own with
      | true => exact absurd (h rfl) (by simp)
      | false => simp

theorem RuleFilters : scuttlebuttlaw07_RuleFilters.Pure := by
  intro l a b n own _ _ _ _ _ hn
  refine ⟨20, ?_⟩
  unfold scuttlebuttlaw07_RuleFilters.f
  rw [ex20, Option.bind_some, if_pos rfl]
  have hm : 0 ≤ mn (l.length : Int) 12 ∧ mn (l.length : Int) 12 ≤ (l.length : Int) ∧ mn (l.length : Int) 12 ≤ 12 := by
    unfold mn
    split <;> omega
  rw [if_pos hm.1, if_pos hm.2.1, Option.bind_some]
  have hy : (l.take (mn (l.length : Int) 12).toNat).length ≤ 12 := by
    rw [List.length_take]
    omega
  generalize l.take (mn (l.length : Int) 12).toNat = y at hy
  have hn' : 0 ≤ n ∧ n < 256 := by
    simp [Lit.wf, IntKind.min, IntKind.max, IntKind.signed, IntKind.bits] at hn
    omega
  have j0f : scuttlebuttlaw07_RuleFilters.j0 20 y n own false a b = scuttlebuttlaw07_RuleFilters.j1 19 y own a b := by
    show scuttlebuttlaw07_RuleFilters.j0 (19 + 1) y n own false a b = _
    simp only [scuttlebuttlaw07_RuleFilters.j0]
    rfl
  cases own with
  | false =>
    rw [if_neg (by decide), j0f]
    exact filters_1 18 y false a b (by omega) (by omega) (fun e => by cases e)
  | true =>
    rw [if_pos rfl]
    by_cases h : (y.length : Int) > 0
    · rw [decide_eq_true h]
      show scuttlebuttlaw07_RuleFilters.j0 (19 + 1) y n true true a b = _
      simp only [scuttlebuttlaw07_RuleFilters.j0]
      rw [if_pos trivial, if_neg (by omega)]
      have hw : wrap64 n = n := by unfold wrap64; omega
      rw [hw, Int.tmod_eq_emod_of_nonneg hn'.1]
      have h0 : 0 ≤ n % (y.length : Int) := Int.emod_nonneg _ (by omega)
      have h1 : n % (y.length : Int) < (y.length : Int) := Int.emod_lt_of_pos _ h
      rw [if_pos h0, if_pos h1]
      obtain ⟨i, hi⟩ : ∃ i : Nat, n % (y.length : Int) = (i : Int) := ⟨(n % (y.length : Int)).toNat, by omega⟩
      rw [hi]
      have hlt : i < y.length := by omega
      rw [rd_at y i hlt]
      refine filters_1 18 y true _ _ (by omega) (by omega) (fun _ _ => ?_)
      exact List.any_eq_true.2 ⟨y[i], List.getElem_mem hlt, by simp [hit]⟩
    · rw [decide_eq_false h, j0f]
      refine filters_1 18 y true a b (by omega) (by omega) (fun _ hne => ?_)
      exact absurd (List.eq_nil_of_length_eq_zero (by omega)) hne

end Go.Proofs.Ytlembbkbmnmnhaa.Pure
