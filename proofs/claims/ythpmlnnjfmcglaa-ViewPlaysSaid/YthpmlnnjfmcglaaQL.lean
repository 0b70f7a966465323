/- What always holds of a view that takes records; ViewLive in plain. No condition but those that each theorem names. -/
import Derived.Test.YthpmlnnjfmcglaaVF
namespace Go.Proofs.Ythpmlnnjfmcglaa.VW
set_option linter.unusedVariables false
set_option linter.unusedSimpArgs false
open Go Go.RowKit
theorem tell_len (s : VS) (e : Ev) (h : s.E.length ≤ 128) : (tell s e).E.length ≤ 128 := by
  unfold tell
  dsimp only
  rw [List.length_drop, List.length_append, List.length_singleton]
  omega
/-- What a view holds behind a record that it takes, or not. -/
theorem take_K (s : VS) (r : Rec) : (takeE s r).2.2.K = if (takeE s r).1 = true then upd s.K r.id.toNat r else s.K := by
  unfold takeE
  split
  · rw [if_neg (show ¬ (false = true) by decide)]
  · split
    · rw [if_neg (show ¬ (false = true) by decide)]
    · split
      · rw [if_pos rfl]
      · rw [if_pos rfl]; rfl
theorem take_len (s : VS) (r : Rec) (h : s.E.length ≤ 128) : (takeE s r).2.2.E.length ≤ 128 := by
  unfold takeE
  split
  · exact h
  · split
    · exact h
    · split
      · exact h
      · exact tell_len _ _ h
theorem take_seen (s : VS) (r : Rec) : (takeE s r).2.2.seen ≤ s.seen + 1 := by
  unfold takeE
  split
  · exact Nat.le_succ _
  · split
    · exact Nat.le_succ _
    · split
      · exact Nat.le_succ _
      · exact Nat.le_refl _
/-! ## ViewLive -/
def rl (l : List Int) (j : Nat) : Rec := ⟨(j : Int) + 1, l.getD j 0 % 4, 0, 3, 3⟩
def KL (l : List Int) (i : Nat) (j : Nat) : Rec := if 1 ≤ j ∧ j ≤ i then rl l (j - 1) else Rec.zero
def Lv (l : List Int) (i : Nat) (s : VS) : Prop := s.K = KL l i ∧ s.E.length ≤ 128 ∧ s.seen ≤ i
def wl (l : List Int) (i : Nat) : List Int := ((List.range i).filter (fun j => decide (l.getD j 0 % 4 < 2))).map (fun j : Nat => (j : Int) + 1)
theorem wl_succ (l : List Int) (i : Nat) : wl l (i + 1) = wl l i ++ if l.getD i 0 % 4 < 2 then [(i : Int) + 1] else [] := by
  unfold wl
  rw [List.range_succ, List.filter_append, List.map_append]
  congr 1
  by_cases h : l.getD i 0 % 4 < 2
  · rw [if_pos h]; simp only [List.filter_cons, decide_eq_true h, if_true, List.filter_nil, List.map_cons, List.map_nil]
  · rw [if_neg h, List.filter_cons, decide_eq_false h]; rfl
theorem wl_len (l : List Int) (i : Nat) : (wl l i).length ≤ i := by
  unfold wl
  rw [List.length_map]
  refine Nat.le_trans (List.length_filter_le _ _) ?_
  simp
theorem Lv_zero (l : List Int) : Lv l 0 VS.new := by
  refine ⟨?_, by decide, by decide⟩
  funext j
  unfold KL VS.new
  dsimp only
  rw [if_neg (by omega)]
theorem of_KL (l : List Int) (i : Nat) (s : VS) (h : Lv l i s) (hi : i ≤ 32) (k : Nat) (hk : k < 32) : ofE s ((k : Int) + 1) = if k < i then (rl l k, true) else (Rec.zero, false) := by
  have h1 : ((k : Int) + 1).toNat = k + 1 := by omega
  have hK : s.K (k + 1) = if k < i then rl l k else Rec.zero := by
    rw [h.1]
    unfold KL
    by_cases hlt : k < i
    · rw [if_pos (by omega), if_pos hlt]; rfl
    · rw [if_neg (by omega), if_neg hlt]
  unfold ofE
  rw [h1]
  generalize s.K (k + 1) = y at hK
  subst hK
  by_cases hlt : k < i
  · rw [if_pos hlt, if_pos hlt, if_neg]
    rintro (h | h | h)
    · omega
    · omega
    · have : ((k : Int) + 1) = 0 := h
      omega
  · rw [if_neg hlt, if_neg hlt, if_pos (.inr (.inr rfl))]
theorem Lv_step (l : List Int) (i : Nat) (s : VS) (h : Lv l i s) (hi : i < 32) : Lv l (i + 1) (takeE s (rl l i)).2.2 := by
  have hr : right (rl l i) = true := by
    unfold right rl
    exact decide_eq_true (by dsimp only; omega)
  have ho := of_KL l i s h (by omega) i hi
  rw [if_neg (by omega)] at ho
  have ht : (takeE s (rl l i)).1 = true := by
    unfold takeE
    rw [if_neg (by rw [hr]; decide), show (rl l i).id = (i : Int) + 1 from rfl, ho, if_neg (by rintro ⟨h, _⟩; cases h)]
    split <;> rfl
  refine ⟨?_, take_len _ _ h.2.1, Nat.le_trans (take_seen _ _) (Nat.succ_le_succ h.2.2)⟩
  rw [take_K, if_pos ht, h.1, show (rl l i).id.toNat = i + 1 by show ((i : Int) + 1).toNat = _; omega]
  funext j
  unfold upd KL
  by_cases hj : j = i + 1
  · subst hj
    rw [if_pos rfl, if_pos (by omega)]
    rfl
  · rw [if_neg hj]
    by_cases h1 : 1 ≤ j ∧ j ≤ i
    · rw [if_pos h1, if_pos (by omega)]
    · rw [if_neg h1, if_neg (by omega)]
theorem liveB_rl (l : List Int) (k : Nat) : liveB (rl l k) = decide (l.getD k 0 % 4 < 2) := by
  unfold liveB rl
  dsimp only
  have h : 0 ≤ l.getD k 0 % 4 := Int.emod_nonneg _ (by decide)
  by_cases h0 : l.getD k 0 % 4 = 0
  · rw [h0]; rfl
  · by_cases h1 : l.getD k 0 % 4 = 1
    · rw [h1]; rfl
    · rw [decide_eq_false (by omega), beq_eq_false_iff_ne.2 h0, beq_eq_false_iff_ne.2 h1]; rfl
theorem live_KL (l : List Int) (n : Nat) (s : VS) (h : Lv l n s) (hn : n ≤ 32) (k : Nat) (hk : k ≤ 32) : live1 s k = wl l (min k n) := by
  induction k with
  | zero => rw [Nat.zero_min]; rfl
  | succ k ih =>
    rw [live1_succ, ih (by omega), of_KL l n s h hn k (by omega)]
    by_cases hlt : k < n
    · rw [if_pos hlt, Nat.min_eq_left (by omega), Nat.min_eq_left (by omega), wl_succ, Bool.true_and, liveB_rl]
      congr 1
      by_cases h2 : l.getD k 0 % 4 < 2
      · rw [if_pos h2, decide_eq_true h2, if_pos rfl]
      · rw [if_neg h2, decide_eq_false h2, if_neg (by decide)]
    · rw [if_neg hlt, Nat.min_eq_right (by omega), Nat.min_eq_right (by omega), Bool.false_and, if_neg (by decide), List.append_nil]
theorem liveE_KL (l : List Int) (n : Nat) (s : VS) (h : Lv l n s) (hn : n ≤ 32) : liveE s = wl l n := by
  have := live_KL l n s h hn 32 (by decide)
  rw [Nat.min_eq_right hn] at this
  exact this
theorem mem_KL (l : List Int) (n : Nat) (s : VS) (h : Lv l n s) (hn : n ≤ 32) (k : Nat) (hk : k ≤ 32) : (mem1 s (k + 1)).length = min k n := by
  induction k with
  | zero =>
    have hK : s.K 0 = Rec.zero := by rw [h.1]; unfold KL; rw [if_neg (by omega)]
    rw [Nat.zero_min, mem1_succ, hK, if_neg (by decide)]
    rfl
  | succ k ih =>
    rw [mem1_succ, List.length_append, ih (by omega)]
    by_cases hlt : k < n
    · have hK : s.K (k + 1) = rl l k := by rw [h.1]; unfold KL; rw [if_pos (by omega)]; rfl
      rw [hK, if_pos (by show 0 < ((k : Int) + 1); omega), List.length_singleton]
      omega
    · have hK : s.K (k + 1) = Rec.zero := by rw [h.1]; unfold KL; rw [if_neg (by omega)]
      rw [hK, if_neg (by decide), List.length_nil]
      omega
theorem members_KL (l : List Int) (n : Nat) (s : VS) (h : Lv l n s) (hn : n ≤ 32) : (members s).length = n := by
  have := mem_KL l n s h hn 32 (by decide)
  rw [Nat.min_eq_right hn] at this
  exact this
theorem of_out (s : VS) : ofE s 0 = (Rec.zero, false) ∧ ofE s 33 = (Rec.zero, false) := by
  unfold ofE
  rw [if_pos (.inl (by decide)), if_pos (.inr (.inl (by decide)))]
  exact ⟨rfl, rfl⟩
end Go.Proofs.Ythpmlnnjfmcglaa.VW
