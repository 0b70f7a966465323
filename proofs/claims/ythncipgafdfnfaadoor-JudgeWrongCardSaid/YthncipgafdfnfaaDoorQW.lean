/- JudgeWrong: the plain law. Conditions: those that each theorem names. -/
import Derived.Test.YthncipgafdfnfaaDoorJT
namespace Go.Proofs.YthncipgafdfnfaaDoor.JW
set_option linter.unusedVariables false
set_option linter.unusedSimpArgs false
open Go Go.RowKit
def baseR (b : Nat → Bool) (i : Nat) : Rec := ⟨(i : Int) + 1, if b i = true then 1 else 2, 0, 0, 0⟩
def baseL (b : Nat → Bool) (n : Nat) : List Rec := (List.range n).map (baseR b)
theorem baseL_succ (b : Nat → Bool) (n : Nat) : baseL b (n + 1) = baseL b n ++ [baseR b n] := by
  unfold baseL
  rw [List.range_succ, List.map_append]
  rfl
theorem baseL_len (b : Nat → Bool) (n : Nat) : (baseL b n).length = n := by unfold baseL; simp
theorem baseL_at (b : Nat → Bool) (n i : Nat) (h : i < n) : (baseL b n)[i]? = some (baseR b i) := by
  unfold baseL
  rw [List.getElem?_map, List.getElem?_range h]
  rfl
theorem first_nth (l : List Rec) (hid : ∀ (i : Nat) r, l[i]? = some r → r.id = (i : Int) + 1) (i : Nat) (r : Rec) (h : l[i]? = some r) : firstE l ((i : Int) + 1) = (r, true) := by
  unfold firstE
  rw [idx_found (isId ((i : Int) + 1)) l i r h (decide_eq_true (hid i r h)) (by
    rw [List.any_eq_false]
    intro x hx
    obtain ⟨j, hj, rfl⟩ := List.mem_take_iff_getElem.1 hx
    have hjl : j < l.length := by omega
    have := hid j l[j] (List.getElem?_eq_getElem hjl)
    unfold isId
    rw [decide_eq_true_eq]
    omega)]
  rw [if_neg (by omega), Int.toNat_natCast, List.getD_eq_getElem?_getD, h]
  rfl
theorem live_nth (l : List Rec) (hid : ∀ (i : Nat) r, l[i]? = some r → r.id = (i : Int) + 1) (i : Nat) (r : Rec) (h : l[i]? = some r) : liveE l ((i : Int) + 1) = liveB r := by
  unfold liveE
  rw [first_nth l hid i r h]
  exact Bool.true_and _
theorem base_id (b : Nat → Bool) (n : Nat) : ∀ (i : Nat) r, (baseL b n)[i]? = some r → r.id = (i : Int) + 1 := by
  intro i r h
  have hi : i < n := by have := (List.getElem?_eq_some_iff.1 h).1; rw [baseL_len] at this; exact this
  rw [baseL_at b n i hi] at h
  obtain rfl : baseR b i = r := by simpa using h
  rfl
theorem base_live (b : Nat → Bool) (n i : Nat) (h : i < n) : liveE (baseL b n) ((i : Int) + 1) = b i := by
  rw [live_nth _ (base_id b n) i _ (baseL_at b n i h)]
  unfold liveB baseR
  cases b i <;> rfl
/-- The record that is seen otherwise. -/
def otherR (b : Nat → Bool) (k : Nat) : Rec := ⟨(k : Int) + 1, if b k = true then 3 else 0, 0, 0, 0⟩
theorem other_live (b : Nat → Bool) (n k i : Nat) (h : i < n) (hk : k < n) : liveE ((baseL b n).set k (otherR b k)) ((i : Int) + 1) = if i = k then !b k else b i := by
  have hid : ∀ (i : Nat) r, ((baseL b n).set k (otherR b k))[i]? = some r → r.id = (i : Int) + 1 := by
    intro i r h
    by_cases hik : k = i
    · subst hik
      rw [List.getElem?_set_self (by rw [baseL_len]; exact hk)] at h
      obtain rfl : otherR b k = r := by simpa using h
      rfl
    · rw [List.getElem?_set_ne hik] at h
      exact base_id b n i r h
  by_cases hik : i = k
  · subst hik
    rw [if_pos rfl, live_nth _ hid i (otherR b i) (List.getElem?_set_self (by rw [baseL_len]; exact hk))]
    unfold liveB otherR
    cases b i <;> rfl
  · rw [if_neg hik, live_nth _ hid i (baseR b i) (by rw [List.getElem?_set_ne (Ne.symm hik)]; exact baseL_at b n i h)]
    unfold liveB baseR
    cases b i <;> rfl
def upL (b : Nat → Bool) (n : Nat) : List Bool := (List.range n).map b
theorem upL_len (b : Nat → Bool) (n : Nat) : (upL b n).length = n := by unfold upL; simp
theorem upL_get (b : Nat → Bool) (n i : Nat) (h : i < n) : (upL b n).getD i false = b i := by
  unfold upL
  rw [List.getD_eq_getElem?_getD, List.getElem?_map, List.getElem?_range h]
  rfl
/-- Nobody is wrong. -/
theorem wrong_none (views : List (List Rec)) (b : Nat → Bool) (m : Nat) (hq : ∀ v id, v < m → id < m → liveE (views.getD v []) ((id : Int) + 1) = b id) : wrongE views (upL b m) = [] := by
  have h1 : ∀ v, v < m → ∀ n, n ≤ m → wrong1 views (upL b m) v n = [] := by
    intro v hv n
    induction n with
    | zero => intro _; rfl
    | succ n ih =>
      intro hn
      rw [wrong1_succ, ih (by omega), upL_get b m v hv, upL_get b m n (by omega), hq v n hv (by omega)]
      simp
  have h2 : ∀ n, n ≤ m → wrong2 views (upL b m) n = [] := by
    intro n
    induction n with
    | zero => intro _; rfl
    | succ n ih =>
      intro hn
      rw [wrong2_succ, ih (by omega), h1 n (by omega) _ (by rw [upL_len]; exact Nat.le_refl _)]
      rfl
  unfold wrongE
  exact h2 _ (by rw [upL_len]; exact Nat.le_refl _)
/-- One sees one wrong. -/
theorem wrong_one (views : List (List Rec)) (b : Nat → Bool) (m v0 k : Nat) (hv0 : v0 < m) (hk : k < m) (hq : ∀ v id, v < m → id < m → liveE (views.getD v []) ((id : Int) + 1) = if v = v0 ∧ id = k then !b id else b id) :
    wrongE views (upL b m) = if (b v0 && decide (v0 ≠ k)) = true then [((v0 : Int) + 1, (k : Int) + 1)] else [] := by
  have h0 : ∀ v, v < m → v ≠ v0 → ∀ n, n ≤ m → wrong1 views (upL b m) v n = [] := by
    intro v hv hne n
    induction n with
    | zero => intro _; rfl
    | succ n ih =>
      intro hn
      rw [wrong1_succ, ih (by omega), upL_get b m v hv, upL_get b m n (by omega), hq v n hv (by omega), if_neg (show ¬(v = v0 ∧ n = k) from fun h => hne h.1)]
      simp
  have h1 : ∀ n, n ≤ m → wrong1 views (upL b m) v0 n = if (b v0 && decide (v0 ≠ k)) = true ∧ k < n then [((v0 : Int) + 1, (k : Int) + 1)] else [] := by
    intro n
    induction n with
    | zero => intro _; rw [if_neg (by omega)]; rfl
    | succ n ih =>
      intro hn
      rw [wrong1_succ, ih (by omega), upL_get b m v0 hv0, upL_get b m n (by omega), hq v0 n hv0 (by omega)]
      by_cases hnk : n = k
      · subst hnk
        rw [if_neg (show ¬((b v0 && decide (v0 ≠ n)) = true ∧ n < n) from fun h => absurd h.2 (Nat.lt_irrefl n)), if_pos (show v0 = v0 ∧ n = n from ⟨rfl, rfl⟩), List.nil_append]
        have e : (b v0 && (decide (v0 ≠ n) && b n != !b n)) = (b v0 && decide (v0 ≠ n)) := by cases b n <;> simp
        rw [e]
        by_cases hc : (b v0 && decide (v0 ≠ n)) = true
        · rw [if_pos hc, if_pos ⟨hc, by omega⟩]
        · rw [if_neg hc, if_neg (fun h => hc h.1)]
      · rw [if_neg (show ¬(v0 = v0 ∧ n = k) from fun h => hnk h.2)]
        rw [if_neg (show ¬((b v0 && (decide (v0 ≠ n) && b n != b n)) = true) by simp), List.append_nil]
        by_cases hc : (b v0 && decide (v0 ≠ k)) = true ∧ k < n
        · rw [if_pos hc, if_pos ⟨hc.1, by omega⟩]
        · rw [if_neg hc, if_neg (fun h => hc ⟨h.1, by omega⟩)]
  have h2 : ∀ n, n ≤ m → wrong2 views (upL b m) n = if (b v0 && decide (v0 ≠ k)) = true ∧ v0 < n then [((v0 : Int) + 1, (k : Int) + 1)] else [] := by
    intro n
    induction n with
    | zero => intro _; rw [if_neg (by omega)]; rfl
    | succ n ih =>
      intro hn
      rw [wrong2_succ, ih (by omega)]
      by_cases hnv : n = v0
      · subst hnv
        rw [if_neg (show ¬((b n && decide (n ≠ k)) = true ∧ n < n) from fun h => absurd h.2 (Nat.lt_irrefl n)), List.nil_append, h1 _ (by rw [upL_len]; exact Nat.le_refl _), upL_len]
        by_cases hc : (b n && decide (n ≠ k)) = true
        · rw [if_pos ⟨hc, hk⟩, if_pos ⟨hc, by omega⟩]
        · rw [if_neg (fun h => hc h.1), if_neg (fun h => hc h.1)]
      · rw [h0 n (by omega) hnv _ (by rw [upL_len]; exact Nat.le_refl _), List.append_nil]
        by_cases hc : (b v0 && decide (v0 ≠ k)) = true ∧ v0 < n
        · rw [if_pos hc, if_pos ⟨hc.1, by omega⟩]
        · rw [if_neg hc, if_neg (fun h => hc ⟨h.1, by omega⟩)]
  unfold wrongE
  rw [h2 _ (by rw [upL_len]; exact Nat.le_refl _), upL_len]
  by_cases hc : (b v0 && decide (v0 ≠ k)) = true
  · rw [if_pos ⟨hc, hv0⟩, if_pos hc]
  · rw [if_neg (fun h => hc h.1), if_neg hc]
end Go.Proofs.YthncipgafdfnfaaDoor.JW
