/- The doubts of one node, in plain. No condition but those that each theorem names. -/
import Derived.Test.YthoppcefadopeaaDP
namespace Go.Proofs.Ythoppcefadopeaa.DW
set_option linter.unusedVariables false
set_option linter.unusedSimpArgs false
open Go Go.RowKit
theorem upd_upd {α : Type} (I : Nat → α) (i : Nat) (x y : α) : upd (upd I i x) i y = upd I i y := by
  funext j
  unfold upd
  split <;> rfl
theorem node_in {id : Int} (h1 : 1 ≤ id) (h2 : id ≤ 32) : node id = true := decide_eq_true ⟨h1, h2⟩
theorem node_out {id : Int} (h : id < 1 ∨ 32 < id) : node id = false := decide_eq_false (by omega)
theorem there_upd (I : Nat → It) (id : Int) (x : It) (h1 : 1 ≤ id) (h2 : id ≤ 32) : there (upd I id.toNat x) id = decide (x.id ≠ 0) := by
  unfold there
  rw [node_in h1 h2, upd_same, Bool.true_and]
theorem there_new (id : Int) : there new id = false := by
  unfold there new
  rw [decide_eq_false (show ¬ It.zero.id ≠ 0 from fun h => h rfl), Bool.and_false]
theorem until_upd (I : Nat → It) (id : Int) (x : It) (h1 : 1 ≤ id) (h2 : id ≤ 32) (hx : x.id ≠ 0) : untilE (upd I id.toNat x) id = (untilI x, true) := by
  unfold untilE
  rw [there_upd I id x h1 h2, decide_eq_true hx, if_pos rfl, upd_same]
theorem begin_may (I : Nat → It) (id inc now hold : Int) (hm : mayBegin id now hold = true) (ht : there I id = false) : beginE I id inc now hold = (0, upd I id.toNat ⟨id, inc, now, hold, []⟩) := by
  unfold beginE
  rw [if_neg (by rw [hm]; decide), if_neg (by rw [ht]; rintro ⟨h, -⟩; cases h)]
theorem begin_over (I : Nat → It) (id inc now hold : Int) (x : It) (h1 : 1 ≤ id) (h2 : id ≤ 32) (hx : x.id ≠ 0) (hm : mayBegin id now hold = true) (ho : x.inc < inc) :
    beginE (upd I id.toNat x) id inc now hold = (0, upd I id.toNat ⟨id, inc, now, hold, []⟩) := by
  unfold beginE
  rw [if_neg (by rw [hm]; decide), upd_same, if_neg (by rintro ⟨-, h⟩; omega), upd_upd]
theorem begin_old (I : Nat → It) (id inc now hold : Int) (x : It) (h1 : 1 ≤ id) (h2 : id ≤ 32) (hx : x.id ≠ 0) (hm : mayBegin id now hold = true) (ho : inc ≤ x.inc) :
    beginE (upd I id.toNat x) id inc now hold = (6, upd I id.toNat x) := by
  unfold beginE
  rw [if_neg (by rw [hm]; decide), upd_same, there_upd I id x h1 h2, if_pos ⟨decide_eq_true hx, ho⟩]
theorem confirm_new (I : Nat → It) (id inc who : Int) (x : It) (h1 : 1 ≤ id) (h2 : id ≤ 32) (hx : x.id ≠ 0) (hi : x.inc = inc) (hw : node who = true) (hne : who ≠ id) (hc : x.who.contains who = false) :
    confirmE (upd I id.toNat x) id inc who = (0, upd I id.toNat { x with who := ins x.who who }) := by
  unfold confirmE
  rw [if_neg (by rintro (h | h); exact absurd (hw.symm.trans h) (by decide); exact hne h), upd_same, there_upd I id x h1 h2, if_neg (by rintro (h | h); exact (of_decide_eq_false h) hx; exact h hi), if_neg (by rw [hc]; decide), upd_upd]
theorem confirm_old (I : Nat → It) (id inc who : Int) (x : It) (h1 : 1 ≤ id) (h2 : id ≤ 32) (hx : x.id ≠ 0) (hi : x.inc = inc) (hw : node who = true) (hne : who ≠ id) (hc : x.who.contains who = true) :
    confirmE (upd I id.toNat x) id inc who = (6, upd I id.toNat x) := by
  unfold confirmE
  rw [if_neg (by rintro (h | h); exact absurd (hw.symm.trans h) (by decide); exact hne h), upd_same, there_upd I id x h1 h2, if_neg (by rintro (h | h); exact (of_decide_eq_false h) hx; exact h hi), if_pos hc]
theorem confirm_wrong (I : Nat → It) (id inc who : Int) (h : node who = false ∨ who = id) : confirmE I id inc who = (1, I) := by
  unfold confirmE
  rw [if_pos h]
theorem confirm_none (I : Nat → It) (id inc who : Int) (hw : node who = true) (hne : who ≠ id) (ht : there I id = false) : confirmE I id inc who = (5, I) := by
  unfold confirmE
  rw [if_neg (by rintro (h | h); exact absurd (hw.symm.trans h) (by decide); exact hne h), if_pos (.inl ht)]
/-! ## DoubtLonger -/
def lx (H : Nat) (l : List Int) : It := ⟨9, 0, 100, (H : Int), l⟩
theorem may9 (H : Nat) (h1 : 1 ≤ H) (h2 : H ≤ 65536) : mayBegin 9 100 (H : Int) = true := by
  unfold mayBegin
  rw [node_in (by decide) (by decide), decide_eq_true (show (100 : Int) ≤ 4611686018427387904 by decide), decide_eq_true (show (H : Int) ≠ 0 by omega), decide_eq_true (show (H : Int) ≤ 1000000 by omega)]
  rfl
theorem lo1 (H : Nat) (h1 : 1 ≤ H) (h2 : H ≤ 65536) : beginE new 9 0 100 (H : Int) = (0, upd new 9 (lx H [])) := begin_may new 9 0 100 _ (may9 H h1 h2) (there_new 9)
theorem lo2 (H : Nat) : confirmE (upd new 9 (lx H [])) 9 0 1 = (0, upd new 9 (lx H [1])) := confirm_new new 9 0 1 (lx H []) (by decide) (by decide) (by show (9 : Int) ≠ 0; decide) rfl (by decide) (by decide) rfl
theorem lo3 (H : Nat) : confirmE (upd new 9 (lx H [1])) 9 0 2 = (0, upd new 9 (lx H [1, 2])) := confirm_new new 9 0 2 (lx H [1]) (by decide) (by decide) (by show (9 : Int) ≠ 0; decide) rfl (by decide) (by decide) (by show [(1 : Int)].contains 2 = false; decide)
theorem lu (H : Nat) (l : List Int) : untilE (upd new 9 (lx H l)) 9 = (100 + (((H + l.length) / (l.length + 1) : Nat) : Int), true) := by
  have := until_upd new 9 (lx H l) (by decide) (by decide) (by show (9 : Int) ≠ 0; decide)
  rw [show ((9 : Int)).toNat = 9 from rfl] at this
  rw [this]
  rfl
end Go.Proofs.Ythoppcefadopeaa.DW
