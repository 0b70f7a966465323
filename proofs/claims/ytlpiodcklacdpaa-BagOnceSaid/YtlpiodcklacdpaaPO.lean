/- What the bag answers where each item is taken once: plain. Conditions: those that each theorem names. -/
import Derived.Test.YtlpiodcklacdpaaPK
namespace Go.Proofs.Ytlpiodcklacdpaa.BG
set_option linter.unusedVariables false
set_option linter.unusedSimpArgs false
open Go Go.RowKit Go.Proofs.YtlpiodcklacdpaaS Go.Proofs.YtlpiodcklacdpaaS.Asn Go.Proofs.Ytlpiodcklacdpaa.PA Go.Proofs.YtlpiodcklacdpaaW.PrintWords Go.Proofs.YtlpiodcklacdpaaW.PrintLast Go.Proofs.YtlpiodcklacdpaaW.PrintMore
/-- The items whose numbers are J. -/
def gi (l : List Int) (J : List Nat) : List It := J.map (fun j => im (bs j) (tm 16 l j))
/-- Which are taken: those that are not in J. -/
def tk (n : Nat) (J : List Nat) : List Bool := (List.range n).map (fun j => decide (j ∉ J))
theorem gi_len (l : List Int) (J : List Nat) : (gi l J).length = J.length := by simp [gi]
theorem tk_len (n : Nat) (J : List Nat) : (tk n J).length = n := by simp [tk]
theorem gi_its (l : List Int) (n : Nat) : its 16 l n = gi l (List.range n) := rfl
theorem tk_start (n : Nat) : List.replicate n false = tk n (List.range n) := by
  apply List.ext_getElem
  · simp [tk]
  · intro i h1 h2
    simp [tk] at h2 ⊢
    exact h2
theorem tm_lt (l : List Int) (j : Nat) : tm 16 l j < 16 := Nat.mod_lt _ (by decide)
theorem map_erase {α β : Type} (f : α → β) (l : List α) (i : Nat) : (l.map f).eraseIdx i = (l.eraseIdx i).map f := by
  rw [List.eraseIdx_eq_take_drop_succ, List.eraseIdx_eq_take_drop_succ, List.map_append, List.map_take, List.map_drop]
theorem rdy_gi {l : List Int} {J : List Nat} {t : Int} (h : rdy (gi l J) t = 0) : ∀ j ∈ J, t < (tm 16 l j : Int) := by
  intro j hj
  refine Int.not_le.1 fun hle => ?_
  unfold rdy at h
  have hm : im (bs j) (tm 16 l j) ∈ (gi l J).filter (fun x => decide (x.t ≤ t)) := List.mem_filter.2 ⟨List.mem_map.2 ⟨j, hj, rfl⟩, decide_eq_true hle⟩
  rw [List.length_eq_zero_iff.1 h] at hm
  cases hm
theorem take_gi {l : List Int} {J : List Nat} {t p : Int} (hp : 0 ≤ p) (h : 0 < rdy (gi l J) t) : ∃ i j, J[i]? = some j ∧ (tm 16 l j : Int) ≤ t ∧ awayE (gi l J) t p = (im (bs j) (tm 16 l j), 0, gi l (J.eraseIdx i)) := by
  obtain ⟨i, x, hx, hxt, -, ha, -⟩ := take_one hp h
  unfold gi at hx
  rw [List.getElem?_map] at hx
  obtain ⟨j, hj, rfl⟩ := Option.map_eq_some_iff.1 hx
  refine ⟨i, j, hj, hxt, ?_⟩
  rw [ha]
  unfold gi
  rw [map_erase]
theorem erase_mem {J : List Nat} {i j m : Nat} (hn : J.Nodup) (hj : J[i]? = some j) : m ∈ J.eraseIdx i ↔ m ∈ J ∧ m ≠ j := by
  obtain ⟨hi, rfl⟩ := List.getElem?_eq_some_iff.1 hj
  have hs : J = J.take i ++ J[i] :: J.drop (i + 1) := by rw [← List.drop_eq_getElem_cons hi, List.take_append_drop]
  generalize J[i] = y at hs ⊢
  rw [List.eraseIdx_eq_take_drop_succ]
  generalize J.take i = A at hs ⊢
  generalize J.drop (i + 1) = B at hs ⊢
  subst hs
  rw [List.nodup_append] at hn
  obtain ⟨h1, h2, h3⟩ := hn
  rw [List.nodup_cons] at h2
  simp only [List.mem_append, List.mem_cons]
  constructor
  · rintro (h | h)
    · exact ⟨.inl h, fun e => h3 m h y List.mem_cons_self e⟩
    · exact ⟨.inr (.inr h), fun e => h2.1 (e ▸ h)⟩
  · rintro ⟨h | h | h, hne⟩
    · exact .inl h
    · exact absurd h hne
    · exact .inr h
theorem erase_nodup {J : List Nat} (i : Nat) (hn : J.Nodup) : (J.eraseIdx i).Nodup := List.Nodup.sublist (List.eraseIdx_sublist _ _) hn
theorem tk_set {n : Nat} {J : List Nat} {i j : Nat} (hn : J.Nodup) (hj : J[i]? = some j) : (tk n J).set j true = tk n (J.eraseIdx i) := by
  apply List.ext_getElem
  · simp [tk]
  · intro m h1 h2
    have hm : m < n := by simpa [tk] using h2
    rw [List.getElem_set]
    simp only [tk, List.getElem_map, List.getElem_range]
    by_cases he : j = m
    · subst he
      rw [if_pos rfl]
      exact (decide_eq_true (show ¬ j ∈ J.eraseIdx i from fun h => ((erase_mem hn hj).1 h).2 rfl)).symm
    · rw [if_neg he]
      refine decide_eq_decide.2 ⟨fun h h' => h ((erase_mem hn hj).1 h').1, fun h h' => h ((erase_mem hn hj).2 ⟨h', fun e => he e.symm⟩)⟩
theorem tk_get {n : Nat} {J : List Nat} {i j : Nat} (hj : J[i]? = some j) (hlt : j < n) : (tk n J)[j]? = some false := by
  unfold tk
  rw [List.getElem?_map, List.getElem?_range hlt]
  exact congrArg some (decide_eq_false (fun h => h (List.mem_of_getElem? hj)))
end Go.Proofs.Ytlpiodcklacdpaa.BG
