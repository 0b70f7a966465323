/- What a bag does, as plain functions over a list of datagrams, and what follows from that. No condition but those that each theorem names. -/
import Derived.Test.YtlpiodcklacdpaaSep
namespace Go.Proofs.Ytlpiodcklacdpaa.BG
set_option linter.unusedVariables false
set_option linter.unusedSimpArgs false
/-- A datagram: from, to, bytes, its time. -/
structure It where
  fi : Int
  fp : Int
  ti : Int
  tp : Int
  by_ : ByteArray
  t : Int
def rdy (l : List It) (u : Int) : Nat := (l.filter (fun x => decide (x.t ≤ u))).length
def pos (u : Int) : List It → Nat → Nat
  | [], _ => 0
  | x :: l, k => if x.t ≤ u then (match k with | 0 => 0 | k + 1 => pos u l k + 1) else pos u l k + 1
theorem rdy_nil (u : Int) : rdy [] u = 0 := rfl
theorem rdy_cons (x : It) (l : List It) (u : Int) : rdy (x :: l) u = (if x.t ≤ u then 1 else 0) + rdy l u := by
  unfold rdy
  by_cases h : x.t ≤ u
  · rw [List.filter_cons_of_pos (by simpa using h), if_pos h, List.length_cons]; omega
  · rw [List.filter_cons_of_neg (by simpa using h), if_neg h]; omega
theorem rdy_append (l l' : List It) (u : Int) : rdy (l ++ l') u = rdy l u + rdy l' u := by
  unfold rdy; rw [List.filter_append, List.length_append]
theorem rdy_le (l : List It) (u : Int) : rdy l u ≤ l.length := List.length_filter_le _ _
theorem pos_lt : ∀ {l : List It} {u : Int} {k : Nat}, k < rdy l u → pos u l k < l.length ∧ ∀ x, l[pos u l k]? = some x → x.t ≤ u
  | [], u, k, h => by simp [rdy] at h
  | x :: l, u, k, h => by
    rw [rdy_cons] at h
    by_cases hx : x.t ≤ u
    · rw [if_pos hx] at h
      cases k with
      | zero => 
        have : pos u (x :: l) 0 = 0 := by simp [pos, hx]
        rw [this]
        exact ⟨by simp, fun y hy => by simp at hy; subst hy; exact hx⟩
      | succ k =>
        have : pos u (x :: l) (k + 1) = pos u l k + 1 := by simp [pos, hx]
        rw [this]
        obtain ⟨h1, h2⟩ := pos_lt (l := l) (u := u) (k := k) (by omega)
        exact ⟨by simpa using h1, fun y hy => h2 y (by simpa using hy)⟩
    · rw [if_neg hx] at h
      have : pos u (x :: l) k = pos u l k + 1 := by cases k <;> simp [pos, hx]
      rw [this]
      obtain ⟨h1, h2⟩ := pos_lt (l := l) (u := u) (k := k) (by omega)
      exact ⟨by simpa using h1, fun y hy => h2 y (by simpa using hy)⟩
theorem pos_get : ∀ {l : List It} {u : Int} {k : Nat}, k < rdy l u → l[pos u l k]? = (l.filter (fun x => decide (x.t ≤ u)))[k]?
  | [], u, k, h => by simp [rdy] at h
  | x :: l, u, k, h => by
    rw [rdy_cons] at h
    by_cases hx : x.t ≤ u
    · rw [if_pos hx] at h
      rw [List.filter_cons_of_pos (by simpa using hx)]
      cases k with
      | zero => 
        have : pos u (x :: l) 0 = 0 := by simp [pos, hx]
        rw [this]
        simp
      | succ k =>
        have : pos u (x :: l) (k + 1) = pos u l k + 1 := by simp [pos, hx]
        rw [this]
        have := pos_get (l := l) (u := u) (k := k) (by omega)
        simpa using this
    · rw [if_neg hx] at h
      rw [List.filter_cons_of_neg (by simpa using hx)]
      have : pos u (x :: l) k = pos u l k + 1 := by cases k <;> simp [pos, hx]
      rw [this]
      have := pos_get (l := l) (u := u) (k := k) (by omega)
      simpa using this
theorem rdy_erase {l : List It} {u : Int} {i : Nat} {x : It} (h : l[i]? = some x) (hx : x.t ≤ u) : rdy (l.eraseIdx i) u + 1 = rdy l u := by
  obtain ⟨hi, rfl⟩ := List.getElem?_eq_some_iff.1 h
  rw [List.eraseIdx_eq_take_drop_succ]
  conv => rhs; rw [← List.take_append_drop i l, List.drop_eq_getElem_cons hi]
  rw [rdy_append, rdy_append, rdy_cons, if_pos hx]
  omega
/-- The step of find's loop. -/
theorem pos_drop {l : List It} {u : Int} {i k : Nat} {x : It} (hx : l[i]? = some x) :
    (x.t ≤ u → k = 0 → pos u (l.drop i) k = 0) ∧ (x.t ≤ u → 0 < k → pos u (l.drop i) k = pos u (l.drop (i + 1)) (k - 1) + 1 ∧ (k < rdy (l.drop i) u → k - 1 < rdy (l.drop (i + 1)) u)) ∧
    (¬ x.t ≤ u → pos u (l.drop i) k = pos u (l.drop (i + 1)) k + 1 ∧ (k < rdy (l.drop i) u → k < rdy (l.drop (i + 1)) u)) := by
  obtain ⟨hi, rfl⟩ := List.getElem?_eq_some_iff.1 hx
  rw [List.drop_eq_getElem_cons hi]
  refine ⟨fun h1 h2 => by subst h2; simp [pos, h1], fun h1 h2 => ?_, fun h1 => ?_⟩
  · obtain ⟨k, rfl⟩ : ∃ m, k = m + 1 := ⟨k - 1, by omega⟩
    refine ⟨by simp [pos, h1], fun h => ?_⟩
    rw [rdy_cons, if_pos h1] at h
    simpa using (by omega : k < rdy (l.drop (i + 1)) u)
  · refine ⟨by cases k <;> simp [pos, h1], fun h => ?_⟩
    rw [rdy_cons, if_neg h1] at h
    omega
theorem rdy_lt {l : List It} {u : Int} {i k : Nat} (h : k < rdy (l.drop i) u) : i < l.length := by
  have := rdy_le (l.drop i) u
  rw [List.length_drop] at this
  omega
end Go.Proofs.Ytlpiodcklacdpaa.BG
