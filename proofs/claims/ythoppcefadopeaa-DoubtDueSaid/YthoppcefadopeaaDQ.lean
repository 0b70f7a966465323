/- The doubts of one node, in plain. No condition but those that each theorem names. -/
import Derived.Test.YthoppcefadopeaaDP
namespace Go.Proofs.Ythoppcefadopeaa.DW
set_option linter.unusedVariables false
set_option linter.unusedSimpArgs false
open Go Go.RowKit
theorem upd_upd {α : Type} (I : Nat → α) (i : Nat) (x y : α) : upd (upd I i x) i y = upd I i y := by
  funext j
  unfold upd
  split <;> rfl
theorem node_in {id : Int} (h1 : 1 ≤ id) (h2 : id ≤ 32) : node id = true := decide_eq_true ⟨h1, h2⟩
theorem node_out {id : Int} (h : id < 1 ∨ 32 < id) : node id = false := decide_eq_false (by omega)
theorem there_upd (I : Nat → It) (id : Int) (x : It) (h1 : 1 ≤ id) (h2 : id ≤ 32) : there (upd I id.toNat x) id = decide (x.id ≠ 0) := by
  unfold there
  rw [node_in h1 h2, upd_same, Bool.true_and]
theorem there_new (id : Int) : there new id = false := by
  unfold there new
  rw [decide_eq_false (show ¬ It.zero.id ≠ 0 from fun h => h rfl), Bool.and_false]
theorem until_upd (I : Nat → It) (id : Int) (x : It) (h1 : 1 ≤ id) (h2 : id ≤ 32) (hx : x.id ≠ 0) : untilE (upd I id.toNat x) id = (untilI x, true) := by
  unfold untilE
  rw [there_upd I id x h1 h2, decide_eq_true hx, if_pos rfl, upd_same]
theorem begin_may (I : Nat → It) (id inc now hold : Int) (hm : mayBegin id now hold = true) (ht : there I id = false) : beginE I id inc now hold = (0, upd I id.toNat ⟨id, inc, now, hold, []⟩) := by
  unfold beginE
  rw [if_neg (by rw [hm]; decide), if_neg (by rw [ht]; rintro ⟨h, -⟩; cases h)]
theorem begin_over (I : Nat → It) (id inc now hold : Int) (x : It) (h1 : 1 ≤ id) (h2 : id ≤ 32) (hx : x.id ≠ 0) (hm : mayBegin id now hold = true) (ho : x.inc < inc) :
    beginE (upd I id.toNat x) id inc now hold = (0, upd I id.toNat ⟨id, inc, now, hold, []⟩) := by
  unfold beginE
  rw [if_neg (by rw [hm]; decide), upd_same, if_neg (by rintro ⟨-, h⟩; omega), upd_upd]
theorem begin_old (I : Nat → It) (id inc now hold : Int) (x : It) (h1 : 1 ≤ id) (h2 : id ≤ 32) (hx : x.id ≠ 0) (hm : mayBegin id now hold = true) (ho : inc ≤ x.inc) :
    beginE (upd I id.toNat x) id inc now hold = (6, upd I id.toNat x) := by
  unfold beginE
  rw [if_neg (by rw [hm]; decide), upd_same, there_upd I id x h1 h2, if_pos ⟨decide_eq_true hx, ho⟩]
theorem confirm_new (I : Nat → It) (id inc who : Int) (x : It) (h1 : 1 ≤ id) (h2 : id ≤ 32) (hx : x.id ≠ 0) (hi : x.inc = inc) (hw : node who = true) (hne : who ≠ id) (hc : x.who.contains who = false) :
    confirmE (upd I id.toNat x) id inc who = (0, upd I id.toNat { x with who := ins x.who who }) := by
  unfold confirmE
  rw [if_neg (by rintro (h | h); exact absurd (hw.symm.trans h) (by decide); exact hne h), upd_same, there_upd I id x h1 h2, if_neg (by rintro (h | h); exact (of_decide_eq_false h) hx; exact h hi), if_neg (by rw [hc]; decide), upd_upd]
theorem confirm_old (I : Nat → It) (id inc who : Int) (x : It) (h1 : 1 ≤ id) (h2 : id ≤ 32) (hx : x.id ≠ 0) (hi : x.inc = inc) (hw : node who = true) (hne : who ≠ id) (hc : x.who.contains who = true) :
    confirmE (upd I id.toNat x) id inc who = (6, upd I id.toNat x) := by
  unfold confirmE
  rw [if_neg (by rintro (h | h); exact absurd (hw.symm.trans h) (by decide); exact hne h), upd_same, there_upd I id x h1 h2, if_neg (by rintro (h | h); exact (of_decide_eq_false h) hx; exact h hi), if_pos hc]
theorem confirm_wrong (I : Nat → It) (id inc who : Int) (h : node who = false ∨ who = id) : confirmE I id inc who = (1, I) := by
  unfold confirmE
  rw [if_pos h]
theorem confirm_none (I : Nat → It) (id inc who : Int) (hw : node who = true) (hne : who ≠ id) (ht : there I id = false) : confirmE I id inc who = (5, I) := by
  unfold confirmE
  rw [if_neg (by rintro (h | h); exact absurd (hw.symm.trans h) (by decide); exact hne h), if_pos (.inl ht)]
/-! ## DoubtLonger -/
def lx (H : Nat) (l : List Int) : It := ⟨9, 0, 100, (H : Int), l⟩
theorem may9 (H : Nat) (h1 : 1 ≤ H) (h2 : H ≤ 65536) : mayBegin 9 100 (H : Int) = true := by
  unfold mayBegin
  rw [node_in (by decide) (by decide), decide_eq_true (show (100 : Int) ≤ 4611686018427387904 by decide), decide_eq_true (show (H : Int) ≠ 0 by omega), decide_eq_true (show (H : Int) ≤ 1000000 by omega)]
  rfl
theorem lo1 (H : Nat) (h1 : 1 ≤ H) (h2 : H ≤ 65536) : beginE new 9 0 100 (H : Int) = (0, upd new 9 (lx H [])) := begin_may new 9 0 100 _ (may9 H h1 h2) (there_new 9)
theorem lo2 (H : Nat) : confirmE (upd new 9 (lx H [])) 9 0 1 = (0, upd new 9 (lx H [1])) := confirm_new new 9 0 1 (lx H []) (by decide) (by decide) (by show (9 : Int) ≠ 0; decide) rfl (by decide) (by decide) rfl
theorem lo3 (H : Nat) : confirmE (upd new 9 (lx H [1])) 9 0 2 = (0, upd new 9 (lx H [1, 2])) := confirm_new new 9 0 2 (lx H [1]) (by decide) (by decide) (by show (9 : Int) ≠ 0; decide) rfl (by decide) (by decide) (by show [(1 : Int)].contains 2 = false; decide)
theorem lu (H : Nat) (l : List Int) : untilE (upd new 9 (lx H l)) 9 = (100 + (((H + l.length) / (l.length + 1) : Nat) : Int), true) := by
  have := until_upd new 9 (lx H l) (by decide) (by decide) (by show (9 : Int) ≠ 0; decide)
  rw [show ((9 : Int)).toNat = 9 from rfl] at this
  rw [this]
  rfl
/-! ## DoubtWrong -/
/-- What begins, who confirms, twice, whether it falls due. -/
def WR (ec fc gc : Int) (b : Bool) (id who now hold : Int) : Prop := ∃ S1 S2 S3 u, beginE new id 1 now hold = (ec, S1) ∧ confirmE S1 id 1 who = (fc, S2) ∧ confirmE S2 id 1 who = (gc, S3) ∧ untilE S3 id = (u, b) ∧ Good S1 ∧ Good S2 ∧ Good S3
theorem may_in {id now hold : Int} (h : mayBegin id now hold = true) : 1 ≤ id ∧ id ≤ 32 := by
  unfold mayBegin node at h
  simp at h
  exact h.1
theorem wr_may (id now hold : Int) (hm : mayBegin id now hold = true) (hn : 0 ≤ now) (hh : 0 ≤ hold) : beginE new id 1 now hold = (0, upd new id.toNat ⟨id, 1, now, hold, []⟩) ∧ Good (upd new id.toNat ⟨id, 1, now, hold, []⟩) := by
  have h1 := begin_may new id 1 now hold hm (there_new id)
  have h2 := Good_begin Good_new id 1 now hold hn hh
  rw [h1] at h2
  exact ⟨h1, h2⟩
theorem wr_may_bad (id who now hold : Int) (hm : mayBegin id now hold = true) (hn : 0 ≤ now) (hh : 0 ≤ hold) (hw : node who = false ∨ who = id) : WR 0 1 1 true id who now hold := by
  obtain ⟨h1, h2⟩ := wr_may id now hold hm hn hh
  obtain ⟨g1, g2⟩ := may_in hm
  exact ⟨_, _, _, _, h1, confirm_wrong _ _ _ _ hw, confirm_wrong _ _ _ _ hw, until_upd new id _ g1 g2 (by show id ≠ 0; omega), h2, h2, h2⟩
theorem wr_may_ok (id who now hold : Int) (hm : mayBegin id now hold = true) (hn : 0 ≤ now) (hh : 0 ≤ hold) (hw : node who = true) (hne : who ≠ id) : WR 0 0 6 true id who now hold := by
  obtain ⟨h1, h2⟩ := wr_may id now hold hm hn hh
  obtain ⟨g1, g2⟩ := may_in hm
  have h3 := confirm_new new id 1 who ⟨id, 1, now, hold, []⟩ g1 g2 (by show id ≠ 0; omega) rfl hw hne rfl
  have h4 := Good_confirm h2 id 1 who
  rw [h3] at h4
  exact ⟨_, _, _, _, h1, h3, confirm_old new id 1 who _ g1 g2 (by show id ≠ 0; omega) rfl hw hne (by show (ins [] who).contains who = true; simp [ins, pos]), until_upd new id _ g1 g2 (by show id ≠ 0; omega), h2, h4, h4⟩
theorem until_new (id : Int) : untilE new id = (0, false) := by
  unfold untilE
  rw [there_new, if_neg (by decide)]
theorem begin_not (id now hold : Int) (hm : mayBegin id now hold = false) : beginE new id 1 now hold = (1, new) := by
  unfold beginE
  rw [if_pos hm]
theorem wr_not_bad (id who now hold : Int) (hm : mayBegin id now hold = false) (hw : node who = false ∨ who = id) : WR 1 1 1 false id who now hold :=
  ⟨_, _, _, _, begin_not id now hold hm, confirm_wrong _ _ _ _ hw, confirm_wrong _ _ _ _ hw, until_new id, Good_new, Good_new, Good_new⟩
theorem wr_not_ok (id who now hold : Int) (hm : mayBegin id now hold = false) (hw : node who = true) (hne : who ≠ id) : WR 1 5 5 false id who now hold :=
  ⟨_, _, _, _, begin_not id now hold hm, confirm_none new id 1 who hw hne (there_new id), confirm_none new id 1 who hw hne (there_new id), until_new id, Good_new, Good_new, Good_new⟩
/-! ## DoubtClear -/
theorem clear_over (I : Nat → It) (id inc : Int) (x : It) (h1 : 1 ≤ id) (h2 : id ≤ 32) (hx : x.id ≠ 0) (h : x.inc < inc) : clearE (upd I id.toNat x) id inc = (true, upd I id.toNat It.zero) := by
  unfold clearE
  rw [there_upd I id x h1 h2, upd_same, if_neg (by rintro (h | h); exact (of_decide_eq_false h) hx; omega), upd_upd]
theorem clear_not (I : Nat → It) (id inc : Int) (x : It) (h : inc ≤ x.inc) : clearE (upd I id.toNat x) id inc = (false, upd I id.toNat x) := by
  unfold clearE
  rw [upd_same, if_pos (.inr h)]
def cx (inc since : Int) (l : List Int) : It := ⟨2, inc, since, 10, l⟩
theorem cl_items (inc since : Int) (l : List Int) : itemsE (upd new 2 (cx inc since l)) = [cx inc since l] := rfl
theorem some1_one (is : It → Bool) (i : Nat) (x : It) (h1 : 1 ≤ i) (k : Nat) : some1 is (upd new i x) k = if i ≤ k ∧ (decide (x.id ≠ 0) && is x) = true then [x] else [] := by
  induction k with
  | zero => rw [if_neg (by omega)]; rfl
  | succ k ih =>
    rw [some1_succ, ih]
    by_cases hk : i = k + 1
    · subst hk
      rw [if_neg (by omega), upd_same, List.nil_append]
      by_cases hc : (decide (x.id ≠ 0) && is x) = true
      · rw [if_pos hc, if_pos ⟨Nat.le_refl _, hc⟩]
      · rw [if_neg hc, if_neg (fun h => hc h.2)]
    · rw [upd_ne _ _ _ _ (fun h => hk h.symm)]
      have hz : (decide ((new (k + 1)).id ≠ 0) && is (new (k + 1))) = false := by
        rw [decide_eq_false (show ¬ (new (k + 1)).id ≠ 0 from fun h => h rfl), Bool.false_and]
      rw [show (if (decide ((new (k + 1)).id ≠ 0) && is (new (k + 1))) = true then [new (k + 1)] else []) = [] from if_neg (by rw [hz]; decide), List.append_nil]
      by_cases hc : i ≤ k ∧ (decide (x.id ≠ 0) && is x) = true
      · rw [if_pos hc, if_pos ⟨by omega, hc.2⟩]
      · rw [if_neg hc, if_neg (fun h => hc ⟨by omega, h.2⟩)]
theorem rest1_one (is : It → Bool) (i : Nat) (x : It) (h1 : 1 ≤ i) (h2 : i ≤ 32) : rest1 is (upd new i x) 32 = if (decide (x.id ≠ 0) && is x) = true then upd new i It.zero else upd new i x := by
  funext j
  unfold rest1
  by_cases hj : j = i
  · subst hj
    rw [upd_same]
    by_cases hc : (decide (x.id ≠ 0) && is x) = true
    · rw [if_pos ⟨h1, h2, hc⟩, if_pos hc, upd_same]
    · rw [if_neg (fun h => hc h.2.2), if_neg hc, upd_same]
  · rw [upd_ne _ _ _ _ hj]
    have hz : (if (decide (x.id ≠ 0) && is x) = true then upd new i It.zero else upd new i x) j = new j := by split <;> exact upd_ne _ _ _ _ hj
    rw [hz]
    split <;> rfl
theorem due_yes (i : Nat) (x : It) (now : Int) (h1 : 1 ≤ i) (h2 : i ≤ 32) (hx : x.id ≠ 0) (h : untilI x ≤ now) : dueE (upd new i x) now = ([x], upd new i It.zero) := by
  unfold dueE
  have hc : (decide (x.id ≠ 0) && isDue now x) = true := by unfold isDue; rw [decide_eq_true hx, decide_eq_true h]; rfl
  rw [some1_one _ _ _ h1, rest1_one _ _ _ h1 h2, if_pos ⟨h2, hc⟩, if_pos hc]
theorem due_not (i : Nat) (x : It) (now : Int) (h1 : 1 ≤ i) (h2 : i ≤ 32) (h : x.id = 0 ∨ now < untilI x) : dueE (upd new i x) now = ([], upd new i x) := by
  unfold dueE
  have hc : (decide (x.id ≠ 0) && isDue now x) = false := by
    unfold isDue
    rcases h with h | h
    · rw [decide_eq_false (fun hh => hh h), Bool.false_and]
    · rw [decide_eq_false (show ¬ untilI x ≤ now by omega), Bool.and_false]
  rw [some1_one _ _ _ h1, rest1_one _ _ _ h1 h2, if_neg (by rw [hc]; rintro ⟨-, h⟩; cases h), if_neg (by rw [hc]; decide)]
theorem cl_due1 (inc : Int) : dueE (upd new 2 (cx inc 0 [7])) 1000 = ([cx inc 0 [7]], upd new 2 It.zero) := due_yes 2 _ 1000 (by decide) (by decide) (by show (2 : Int) ≠ 0; decide) (by show (0 : Int) + (10 + 1) / (1 + 1) ≤ 1000; decide)
theorem cl_due2 (inc : Int) : dueE (upd new 2 (cx inc 1 [])) 1000 = ([cx inc 1 []], upd new 2 It.zero) := due_yes 2 _ 1000 (by decide) (by decide) (by show (2 : Int) ≠ 0; decide) (by show (1 : Int) + (10 + 0) / (0 + 1) ≤ 1000; decide)
theorem cl_due0 : dueE (upd new 2 It.zero) 1000 = ([], upd new 2 It.zero) := due_not 2 _ 1000 (by decide) (by decide) (.inl rfl)
theorem may2 (now : Int) (h : now ≤ 1) : mayBegin 2 now 10 = true := by
  unfold mayBegin
  rw [decide_eq_true (show now ≤ 4611686018427387904 by omega)]
  rfl
end Go.Proofs.Ythoppcefadopeaa.DW
