/- DoubtDue and DoubtMany in plain. No condition but those that each theorem names. -/
import Derived.Test.YthoppcefadopeaaDQ
namespace Go.Proofs.Ythoppcefadopeaa.DW
set_option linter.unusedVariables false
set_option linter.unusedSimpArgs false
open Go Go.RowKit
/-! ## DoubtDue -/
def dx (T h : Nat) (wl : List Int) : It := ⟨5, 3, (T : Int), (h : Int), wl⟩
/-- When it falls due, of n who confirmed. -/
def uD (T h n : Nat) : Nat := T + (h + n) / (n + 1)
theorem dx_until (T h : Nat) (wl : List Int) : untilI (dx T h wl) = (uD T h wl.length : Nat) := rfl
theorem dd_until (T h : Nat) (wl : List Int) : untilE (upd new 5 (dx T h wl)) 5 = (((uD T h wl.length : Nat) : Int), true) :=
  until_upd new 5 (dx T h wl) (by decide) (by decide) (by show (5 : Int) ≠ 0; decide)
theorem dd_begin (T h : Nat) (hT : T < 65536) (h1 : 1 ≤ h) (h2 : h ≤ 65536) : beginE new 5 3 (T : Int) (h : Int) = (0, upd new 5 (dx T h [])) := by
  refine begin_may new 5 3 _ _ ?_ (there_new 5)
  unfold mayBegin
  rw [node_in (by decide) (by decide), decide_eq_true (show (T : Int) ≤ 4611686018427387904 by omega), decide_eq_true (show (h : Int) ≠ 0 by omega), decide_eq_true (show (h : Int) ≤ 1000000 by omega)]
  rfl
/-- One who confirms: counts, or not. -/
inductive CD (T h : Nat) (wl : List Int) (q : Int) : Prop
  | no (f : Int) (hf : f ≠ 0) (E : confirmE (upd new 5 (dx T h wl)) 5 3 q = (f, upd new 5 (dx T h wl)))
  | yes (E : confirmE (upd new 5 (dx T h wl)) 5 3 q = (0, upd new 5 (dx T h (ins wl q))))
theorem dd_confirm (T h : Nat) (wl : List Int) (q : Int) : CD T h wl q := by
  by_cases hw : node q = false ∨ q = 5
  · exact .no 1 (by decide) (confirm_wrong _ _ _ _ hw)
  · have hn : node q = true := by cases hh : node q with | true => rfl | false => exact absurd (.inl hh) hw
    have hne : q ≠ 5 := fun h => hw (.inr h)
    cases hc : wl.contains q with
    | true => exact .no 6 (by decide) (confirm_old new 5 3 q (dx T h wl) (by decide) (by decide) (by show (5 : Int) ≠ 0; decide) rfl hn hne hc)
    | false => exact .yes (confirm_new new 5 3 q (dx T h wl) (by decide) (by decide) (by show (5 : Int) ≠ 0; decide) rfl hn hne hc)
theorem uD_down (T h n : Nat) (h1 : 1 ≤ h) : uD T h (n + 1) ≤ uD T h n := by
  unfold uD
  have h2 : (h + (n + 1)) / (n + 1 + 1) ≤ (h + n) / (n + 1) := by
    have h3 : h + n < ((h + n) / (n + 1) + 1) * (n + 1) := by
      have := Nat.div_add_mod (h + n) (n + 1)
      have := Nat.mod_lt (h + n) (show 0 < n + 1 by omega)
      rw [Nat.add_mul, Nat.one_mul, Nat.mul_comm]
      omega
    refine Nat.le_of_lt_succ ((Nat.div_lt_iff_lt_mul (by omega)).2 ?_)
    show h + (n + 1) < ((h + n) / (n + 1) + 1) * (n + 1 + 1)
    generalize (h + n) / (n + 1) = q at h3 ⊢
    rw [Nat.mul_add (q + 1) (n + 1) 1, Nat.mul_one]
    omega
  omega
theorem uD_over (T h n : Nat) (h1 : 1 ≤ h) : T < uD T h n := by
  unfold uD
  have : 0 < (h + n) / (n + 1) := Nat.div_pos (by omega) (by omega)
  omega
theorem uD_lt (T h n : Nat) (hT : T < 65536) (h2 : h ≤ 65536) (hn : n ≤ 64) : uD T h n ≤ 200000 := by
  unfold uD
  have : (h + n) / (n + 1) ≤ h + n := Nat.div_le_self _ _
  omega
/-! ## DoubtMany -/
def at5 (l : List Int) (j : Nat) : Int := l.getD j 0 % 16
def mi (l : List Int) (j : Nat) : It := ⟨(j : Int), 1, at5 l (j - 1), 5, []⟩
/-- Behind n that began, those that fall due at t, or later. -/
def MT (l : List Int) (n : Nat) (t : Int) (j : Nat) : It := if 1 ≤ j ∧ j ≤ n ∧ t ≤ at5 l (j - 1) + 5 then mi l j else It.zero
theorem at5_in (l : List Int) (j : Nat) : 0 ≤ at5 l j ∧ at5 l j < 16 := by unfold at5; omega
theorem MT_zero (l : List Int) : MT l 0 0 = new := by funext j; unfold MT; rw [if_neg (by omega)]; rfl
theorem MT_there (l : List Int) (n : Nat) (t : Int) (j : Nat) (h : n < j) : there (MT l n t) (j : Int) = false := by
  unfold there MT
  rw [Int.toNat_natCast, if_neg (by omega), decide_eq_false (show ¬ It.zero.id ≠ 0 from fun h => h rfl), Bool.and_false]
theorem MT_upd (l : List Int) (n : Nat) : upd (MT l n 0) (n + 1) ⟨((n + 1 : Nat) : Int), 1, at5 l n, 5, []⟩ = MT l (n + 1) 0 := by
  funext j
  unfold upd MT
  by_cases hj : j = n + 1
  · subst hj
    have := at5_in l n
    rw [if_pos rfl, if_pos ⟨by omega, Nat.le_refl _, by rw [Nat.add_sub_cancel]; omega⟩]
    rfl
  · rw [if_neg hj]
    by_cases hc : 1 ≤ j ∧ j ≤ n ∧ (0 : Int) ≤ at5 l (j - 1) + 5
    · rw [if_pos hc, if_pos ⟨hc.1, by omega, hc.2.2⟩]
    · rw [if_neg hc, if_neg (fun h => hc ⟨h.1, by omega, h.2.2⟩)]
theorem MT_begin (l : List Int) (n : Nat) (hn : n < 30) : beginE (MT l n 0) ((n + 1 : Nat) : Int) 1 (at5 l n) 5 = (0, MT l (n + 1) 0) := by
  have h0 := at5_in l n
  have := begin_may (MT l n 0) ((n + 1 : Nat) : Int) 1 (at5 l n) 5 (by
    unfold mayBegin
    rw [node_in (by omega) (by omega), decide_eq_true (show at5 l n ≤ 4611686018427387904 by omega)]
    rfl) (MT_there l n 0 (n + 1) (Nat.lt_succ_self n))
  rw [this, Int.toNat_natCast, MT_upd]
theorem Good_MT (l : List Int) (n : Nat) (t : Int) : Good (MT l n t) := by
  intro j hj
  unfold MT
  split
  · have := at5_in l (j - 1)
    exact ⟨⟨this.1, by show at5 l (j - 1) ≤ _; omega⟩, ⟨by show (0 : Int) ≤ 5; decide, by show (5 : Int) ≤ 1000000; decide⟩, List.Pairwise.nil, by show (0 : Nat) ≤ 64; decide, fun y h => by cases h⟩
  · exact good_zero
/-- Those of the first k that fall due at t. -/
def DL (l : List Int) (t : Int) (k : Nat) : List It := ((List.range k).filter (fun j => decide (at5 l j + 5 = t))).map (fun j => mi l (j + 1))
theorem DL_succ (l : List Int) (t : Int) (k : Nat) : DL l t (k + 1) = DL l t k ++ if at5 l k + 5 = t then [mi l (k + 1)] else [] := by
  unfold DL
  rw [List.range_succ, List.filter_append, List.map_append]
  congr 1
  by_cases h : at5 l k + 5 = t
  · rw [if_pos h, List.filter_cons, decide_eq_true h]; rfl
  · rw [if_neg h, List.filter_cons, decide_eq_false h]; rfl
theorem mi_until (l : List Int) (j : Nat) : untilI (mi l j) = at5 l (j - 1) + 5 := by
  unfold untilI mi
  show at5 l (j - 1) + (5 + ((0 : Nat) : Int)) / (((0 : Nat) : Int) + 1) = _
  rfl
theorem MT_some (l : List Int) (n : Nat) (t : Int) (k : Nat) : some1 (isDue t) (MT l n t) k = DL l t (min k n) := by
  induction k with
  | zero => rw [Nat.zero_min]; rfl
  | succ k ih =>
    rw [some1_succ, ih]
    by_cases hk : k < n
    · rw [Nat.min_eq_left (by omega), Nat.min_eq_left (by omega), DL_succ]
      congr 1
      have hM : MT l n t (k + 1) = if t ≤ at5 l k + 5 then mi l (k + 1) else It.zero := by
        unfold MT
        rw [Nat.add_sub_cancel]
        by_cases h : t ≤ at5 l k + 5
        · rw [if_pos ⟨by omega, by omega, h⟩, if_pos h]
        · rw [if_neg (fun hh => h hh.2.2), if_neg h]
      rw [hM]
      by_cases h : t ≤ at5 l k + 5
      · rw [if_pos h]
        have hu := mi_until l (k + 1)
        rw [Nat.add_sub_cancel] at hu
        have hid : (mi l (k + 1)).id ≠ 0 := by show ((k + 1 : Nat) : Int) ≠ 0; omega
        unfold isDue
        rw [hu, decide_eq_true hid, Bool.true_and]
        by_cases h2 : at5 l k + 5 = t
        · rw [if_pos h2, if_pos (decide_eq_true (by omega))]
        · rw [if_neg h2, if_neg (by rw [decide_eq_false (by omega)]; decide)]
      · rw [if_neg h, if_neg (show ¬ at5 l k + 5 = t by omega)]
        rw [if_neg]
        rw [decide_eq_false (show ¬ It.zero.id ≠ 0 from fun h => h rfl), Bool.false_and]
        decide
    · have hM : MT l n t (k + 1) = It.zero := by unfold MT; rw [if_neg (by omega)]
      rw [Nat.min_eq_right (by omega), Nat.min_eq_right (by omega), hM, if_neg, List.append_nil]
      rw [decide_eq_false (show ¬ It.zero.id ≠ 0 from fun h => h rfl), Bool.false_and]
      decide
theorem MT_rest (l : List Int) (n : Nat) (t : Int) (hn : n ≤ 30) : rest1 (isDue t) (MT l n t) 32 = MT l n (t + 1) := by
  funext j
  unfold rest1
  by_cases hj : 1 ≤ j ∧ j ≤ n ∧ t ≤ at5 l (j - 1) + 5
  · have hM : MT l n t j = mi l j := by unfold MT; rw [if_pos hj]
    have hid : (mi l j).id ≠ 0 := by show (j : Int) ≠ 0; omega
    rw [hM]
    unfold isDue
    rw [mi_until, decide_eq_true hid, Bool.true_and]
    unfold MT
    by_cases h2 : at5 l (j - 1) + 5 ≤ t
    · rw [if_pos ⟨hj.1, by omega, decide_eq_true h2⟩, if_neg (by omega)]
    · rw [if_neg (fun h => by have := h.2.2; simp at this; omega), if_pos ⟨hj.1, hj.2.1, by omega⟩]
  · have hM : MT l n t j = It.zero := by unfold MT; rw [if_neg hj]
    have hM2 : MT l n (t + 1) j = It.zero := by unfold MT; rw [if_neg (by omega)]
    rw [hM, hM2]
    split <;> rfl
theorem MT_due (l : List Int) (n : Nat) (t : Int) (hn : n ≤ 30) : dueE (MT l n t) t = (DL l t n, MT l n (t + 1)) := by
  unfold dueE
  rw [MT_some, MT_rest l n t hn, Nat.min_eq_right (by omega)]
/-- How many fell due ahead of t. -/
def cnt (l : List Int) (n : Nat) (t : Int) : Nat := ((List.range n).filter (fun j => decide (at5 l j + 5 < t))).length
theorem cnt_step (l : List Int) (t : Int) (n : Nat) : cnt l n (t + 1) = cnt l n t + (DL l t n).length := by
  unfold cnt DL
  rw [List.length_map]
  induction n with
  | zero => rfl
  | succ n ih =>
    rw [List.range_succ, List.filter_append, List.filter_append, List.filter_append, List.length_append, List.length_append, List.length_append, ih]
    simp only [List.filter_cons, List.filter_nil]
    by_cases h1 : at5 l n + 5 < t
    · rw [if_pos (decide_eq_true (show at5 l n + 5 < t + 1 by omega)), if_pos (decide_eq_true h1), if_neg (by rw [decide_eq_false (by omega)]; decide)]
      simp only [List.length_cons, List.length_nil]
      omega
    · by_cases h2 : at5 l n + 5 = t
      · rw [if_pos (decide_eq_true (show at5 l n + 5 < t + 1 by omega)), if_neg (by rw [decide_eq_false h1]; decide), if_pos (decide_eq_true h2)]
        simp only [List.length_cons, List.length_nil]
        omega
      · rw [if_neg (by rw [decide_eq_false (show ¬ at5 l n + 5 < t + 1 by omega)]; decide), if_neg (by rw [decide_eq_false h1]; decide), if_neg (by rw [decide_eq_false h2]; decide)]
        simp only [List.length_nil]
        omega
theorem cnt_zero (l : List Int) (n : Nat) : cnt l n 0 = 0 := by
  unfold cnt
  rw [List.filter_eq_nil_iff.2 (fun j _ => by have := at5_in l j; simp; omega)]
  rfl
theorem cnt_all (l : List Int) (n : Nat) : cnt l n 30 = n := by
  unfold cnt
  rw [List.filter_eq_self.2 (fun j _ => by have := at5_in l j; simp; omega), List.length_range]
theorem cnt_le (l : List Int) (n : Nat) (t : Int) : cnt l n t ≤ n := by
  unfold cnt
  refine Nat.le_trans (List.length_filter_le _ _) ?_
  simp
theorem MT_items (l : List Int) (n : Nat) : itemsE (MT l n 30) = [] := by
  have hz : MT l n 30 = new := by
    funext j
    unfold MT
    have := at5_in l (j - 1)
    rw [if_neg (by omega)]
    rfl
  rw [hz]
  rfl
/-- Each of them, and two that stand side by side. -/
theorem DL_at (l : List Int) (t : Int) (n i : Nat) (x : It) (h : (DL l t n)[i]? = some x) : ∃ j, j < n ∧ x.id = ((j + 1 : Nat) : Int) ∧ at5 l j + 5 = t := by
  have := List.mem_of_getElem? h
  unfold DL at this
  obtain ⟨j, hj, rfl⟩ := List.mem_map.1 this
  obtain ⟨h1, h2⟩ := List.mem_filter.1 hj
  exact ⟨j, List.mem_range.1 h1, rfl, of_decide_eq_true h2⟩
theorem DL_rise (l : List Int) (t : Int) (n i : Nat) (x y : It) (hx : (DL l t n)[i]? = some x) (hy : (DL l t n)[i + 1]? = some y) : x.id < y.id := by
  have hp : (DL l t n).Pairwise (fun a b => a.id < b.id) := by
    unfold DL
    rw [List.pairwise_map]
    refine List.Pairwise.imp (R := fun a b : Nat => a < b) (fun {a b} h => ?_) (List.Pairwise.sublist List.filter_sublist List.pairwise_lt_range)
    show ((a + 1 : Nat) : Int) < ((b + 1 : Nat) : Int)
    omega
  obtain ⟨h1, rfl⟩ := List.getElem?_eq_some_iff.1 hx
  obtain ⟨h2, rfl⟩ := List.getElem?_eq_some_iff.1 hy
  exact List.pairwise_iff_getElem.1 hp i (i + 1) h1 h2 (Nat.lt_succ_self i)
end Go.Proofs.Ythoppcefadopeaa.DW
