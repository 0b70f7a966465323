/- What the doubts do, as plain functions, and what follows. No condition but those that each theorem names. -/
import Derived.Test.YthoppcefadopeaaSepA
namespace Go.Proofs.Ythoppcefadopeaa.DW
set_option linter.unusedVariables false
set_option linter.unusedSimpArgs false
open Go Go.RowKit
/-- Who is suspected. -/
structure It where
  id : Int
  inc : Int
  since : Int
  hold : Int
  who : List Int
def It.zero : It := ⟨0, 0, 0, 0, []⟩
def node (id : Int) : Bool := decide (1 ≤ id ∧ id ≤ 32)
def there (I : Nat → It) (id : Int) : Bool := node id && decide ((I id.toNat).id ≠ 0)
def upd {α : Type} (I : Nat → α) (i : Nat) (x : α) : Nat → α := fun j => if j = i then x else I j
theorem upd_same {α : Type} (I : Nat → α) (i : Nat) (x : α) : upd I i x i = x := if_pos rfl
theorem upd_ne {α : Type} (I : Nat → α) (i j : Nat) (x : α) (h : j ≠ i) : upd I i x j = I j := if_neg h
def mayBegin (id now hold : Int) : Bool := node id && (decide (now ≤ 4611686018427387904) && (decide (hold ≠ 0) && decide (hold ≤ 1000000)))
def beginE (I : Nat → It) (id inc now hold : Int) : Int × (Nat → It) :=
  if mayBegin id now hold = false then (1, I)
  else if there I id = true ∧ inc ≤ (I id.toNat).inc then (6, I)
  else (0, upd I id.toNat ⟨id, inc, now, hold, []⟩)
/-- How many are less. -/
def pos (l : List Int) (x : Int) : Nat := l.countP (· < x)
def ins (l : List Int) (x : Int) : List Int := l.take (pos l x) ++ [x] ++ l.drop (pos l x)
def confirmE (I : Nat → It) (id inc who : Int) : Int × (Nat → It) :=
  if node who = false ∨ who = id then (1, I)
  else if there I id = false ∨ (I id.toNat).inc ≠ inc then (5, I)
  else if (I id.toNat).who.contains who = true then (6, I)
  else (0, upd I id.toNat { I id.toNat with who := ins (I id.toNat).who who })
def untilI (x : It) : Int := x.since + (x.hold + x.who.length) / (x.who.length + 1)
def untilE (I : Nat → It) (id : Int) : Int × Bool := if there I id = true then (untilI (I id.toNat), true) else (0, false)
def clearE (I : Nat → It) (id inc : Int) : Bool × (Nat → It) :=
  if there I id = false ∨ inc ≤ (I id.toNat).inc then (false, I) else (true, upd I id.toNat It.zero)
/-- Of the first i those of which something is so. -/
def some1 (is : It → Bool) (I : Nat → It) (i : Nat) : List It := ((List.range i).map (fun j => I (j + 1))).filter (fun x => decide (x.id ≠ 0) && is x)
theorem some1_succ (is : It → Bool) (I : Nat → It) (i : Nat) : some1 is I (i + 1) = some1 is I i ++ if (decide ((I (i + 1)).id ≠ 0) && is (I (i + 1))) = true then [I (i + 1)] else [] := by
  unfold some1
  rw [List.range_succ, List.map_append, List.filter_append]
  congr 1
  by_cases h : (decide ((I (i + 1)).id ≠ 0) && is (I (i + 1))) = true
  · rw [if_pos h]; simp only [List.map_cons, List.map_nil, List.filter_cons, h, if_true, List.filter_nil]
  · rw [if_neg h, List.map_cons, List.map_nil, List.filter_cons, if_neg h]; rfl
theorem some1_len (is : It → Bool) (I : Nat → It) (i : Nat) : (some1 is I i).length ≤ i := by
  unfold some1
  refine Nat.le_trans (List.length_filter_le _ _) ?_
  simp
/-- .. and what is left of them. -/
def rest1 (is : It → Bool) (I : Nat → It) (i : Nat) : Nat → It := fun j => if 1 ≤ j ∧ j ≤ i ∧ (decide ((I j).id ≠ 0) && is (I j)) = true then It.zero else I j
theorem rest1_zero (is : It → Bool) (I : Nat → It) : rest1 is I 0 = I := by funext j; unfold rest1; rw [if_neg (by omega)]
theorem rest1_at (is : It → Bool) (I : Nat → It) (i : Nat) : rest1 is I i (i + 1) = I (i + 1) := by unfold rest1; rw [if_neg (by omega)]
theorem rest1_yes (is : It → Bool) (I : Nat → It) (i : Nat) (h : (decide ((I (i + 1)).id ≠ 0) && is (I (i + 1))) = true) : rest1 is I (i + 1) = upd (rest1 is I i) (i + 1) It.zero := by
  funext j
  unfold rest1 upd
  by_cases hj : j = i + 1
  · subst hj
    rw [if_pos ⟨by omega, Nat.le_refl _, h⟩, if_pos rfl]
  · rw [if_neg hj]
    dsimp only
    by_cases hc : 1 ≤ j ∧ j ≤ i ∧ (decide ((I j).id ≠ 0) && is (I j)) = true
    · rw [if_pos hc, if_pos ⟨hc.1, by omega, hc.2.2⟩]
    · rw [if_neg hc, if_neg (fun h => hc ⟨h.1, by omega, h.2.2⟩)]
theorem rest1_no (is : It → Bool) (I : Nat → It) (i : Nat) (h : (decide ((I (i + 1)).id ≠ 0) && is (I (i + 1))) = false) : rest1 is I (i + 1) = rest1 is I i := by
  funext j
  unfold rest1
  by_cases hj : j = i + 1
  · subst hj
    rw [if_neg (fun hc => by rw [h] at hc; exact Bool.noConfusion hc.2.2), if_neg (by omega)]
  · by_cases hc : 1 ≤ j ∧ j ≤ i ∧ (decide ((I j).id ≠ 0) && is (I j)) = true
    · rw [if_pos hc, if_pos ⟨hc.1, by omega, hc.2.2⟩]
    · rw [if_neg hc, if_neg (fun h => hc ⟨h.1, by omega, h.2.2⟩)]
def isDue (now : Int) (x : It) : Bool := decide (untilI x ≤ now)
def dueE (I : Nat → It) (now : Int) : List It × (Nat → It) := (some1 (isDue now) I 32, rest1 (isDue now) I 32)
def itemsE (I : Nat → It) : List It := some1 (fun _ => true) I 32
/-- What always holds of who is suspected. -/
structure GoodIt (x : It) : Prop where
  since : 0 ≤ x.since ∧ x.since ≤ 4611686018427387904
  hold : 0 ≤ x.hold ∧ x.hold ≤ 1000000
  sorted : x.who.Pairwise (· < ·)
  few : x.who.length ≤ 64
  nodes : ∀ y ∈ x.who, 1 ≤ y ∧ y ≤ 32
def Good (I : Nat → It) : Prop := ∀ i, i < 33 → GoodIt (I i)
theorem good_zero : GoodIt It.zero := ⟨by decide, by decide, List.Pairwise.nil, by decide, fun y h => by cases h⟩
theorem Good_upd {I : Nat → It} (h : Good I) (i : Nat) (x : It) (hx : GoodIt x) : Good (upd I i x) := by
  intro j hj
  unfold upd
  split
  · exact hx
  · exact h j hj
/-! ## sorted lists of nodes -/
theorem sorted_few : ∀ (l : List Int) (a : Int), l.Pairwise (· < ·) → (∀ y ∈ l, a ≤ y ∧ y ≤ 32) → (l.length : Int) ≤ max (33 - a) 0
  | [], a, _, _ => by simp; omega
  | x :: l, a, h, hm => by
    obtain ⟨h1, h2⟩ := List.pairwise_cons.1 h
    have hx := hm x (List.mem_cons_self ..)
    have := sorted_few l (x + 1) h2 (fun y hy => ⟨by have := h1 y hy; omega, (hm y (List.mem_cons_of_mem _ hy)).2⟩)
    rw [List.length_cons]
    omega
theorem pos_le (l : List Int) (x : Int) : pos l x ≤ l.length := List.countP_le_length
/-- Of a sorted list those ahead of the place are less, those behind it are not. -/
theorem pos_split : ∀ (l : List Int) (x : Int), l.Pairwise (· < ·) → (∀ y ∈ l.take (pos l x), y < x) ∧ (∀ y ∈ l.drop (pos l x), x ≤ y)
  | [], x, _ => by simp [pos]
  | a :: l, x, h => by
    obtain ⟨h1, h2⟩ := List.pairwise_cons.1 h
    obtain ⟨i1, i2⟩ := pos_split l x h2
    by_cases ha : a < x
    · have hp : pos (a :: l) x = pos l x + 1 := by unfold pos; rw [List.countP_cons_of_pos (by simpa using ha)]
      rw [hp, List.take_succ_cons, List.drop_succ_cons]
      refine ⟨fun y hy => ?_, i2⟩
      rcases List.mem_cons.1 hy with rfl | hy
      · exact ha
      · exact i1 y hy
    · have hl : ∀ y ∈ l, ¬ y < x := fun y hy => by have := h1 y hy; omega
      have hp : pos (a :: l) x = 0 := by
        unfold pos
        rw [List.countP_cons_of_neg (by simpa using ha)]
        exact List.countP_eq_zero.2 (fun y hy => by simpa using hl y hy)
      rw [hp]
      refine ⟨fun y hy => by simp at hy, fun y hy => ?_⟩
      rw [List.drop_zero] at hy
      rcases List.mem_cons.1 hy with rfl | hy
      · omega
      · have := hl y hy; omega
theorem ins_good (l : List Int) (x : Int) (h : l.Pairwise (· < ·)) (hm : ∀ y ∈ l, 1 ≤ y ∧ y ≤ 32) (hx : 1 ≤ x ∧ x ≤ 32) (hc : l.contains x = false) :
    (ins l x).Pairwise (· < ·) ∧ (∀ y ∈ ins l x, 1 ≤ y ∧ y ≤ 32) := by
  have hnx : x ∉ l := by simpa using hc
  obtain ⟨i1, i2⟩ := pos_split l x h
  have hd : ∀ y ∈ l.drop (pos l x), x < y := fun y hy => by
    have := i2 y hy
    have : y ≠ x := fun h => hnx (h ▸ List.mem_of_mem_drop hy)
    omega
  unfold ins
  refine ⟨?_, fun y hy => ?_⟩
  · rw [List.append_assoc]
    refine List.pairwise_append.2 ⟨h.sublist (List.take_sublist _ _), List.pairwise_append.2 ⟨List.pairwise_singleton _ _, h.sublist (List.drop_sublist _ _), fun a ha b hb => ?_⟩, fun a ha b hb => ?_⟩
    · rw [List.mem_singleton.1 ha]; exact hd b hb
    · rcases List.mem_append.1 hb with hb | hb
      · rw [List.mem_singleton.1 hb]; exact i1 a ha
      · have := hd b hb; have := i1 a ha; omega
  · rcases List.mem_append.1 hy with hy | hy
    · rcases List.mem_append.1 hy with hy | hy
      · exact hm y (List.mem_of_mem_take hy)
      · rw [List.mem_singleton.1 hy]; exact hx
    · exact hm y (List.mem_of_mem_drop hy)
theorem ins_length (l : List Int) (x : Int) : (ins l x).length = l.length + 1 := by
  have := pos_le l x
  unfold ins
  simp only [List.length_append, List.length_take, List.length_drop, List.length_singleton]
  omega
theorem Good_begin {I : Nat → It} (h : Good I) (id inc now hold : Int) (h1 : 0 ≤ now) (h2 : 0 ≤ hold) : Good (beginE I id inc now hold).2 := by
  unfold beginE
  split
  · exact h
  · rename_i hm
    split
    · exact h
    · refine Good_upd h _ _ ⟨⟨h1, ?_⟩, ⟨h2, ?_⟩, List.Pairwise.nil, by show (0 : Nat) ≤ 64; decide, fun y hy => by cases hy⟩
      · have : mayBegin id now hold = true := by simpa using hm
        unfold mayBegin at this
        simp at this
        exact this.2.1
      · have : mayBegin id now hold = true := by simpa using hm
        unfold mayBegin at this
        simp at this
        exact this.2.2.2
theorem there_lt {I : Nat → It} {id : Int} (h : there I id = true) : 1 ≤ id ∧ id ≤ 32 ∧ (I id.toNat).id ≠ 0 := by
  unfold there node at h
  simp at h
  exact ⟨h.1.1, h.1.2, h.2⟩
theorem Good_confirm {I : Nat → It} (h : Good I) (id inc who : Int) : Good (confirmE I id inc who).2 := by
  unfold confirmE
  split
  · exact h
  · rename_i h1
    split
    · exact h
    · rename_i h2
      split
      · exact h
      · rename_i h3
        have ht : there I id = true := by cases hh : there I id with | true => rfl | false => exact absurd (.inl hh) h2
        obtain ⟨g1, g2, -⟩ := there_lt ht
        have hg := h id.toNat (by omega)
        have hw : 1 ≤ who ∧ who ≤ 32 := by
          have : node who = true := by cases hh : node who with | true => rfl | false => exact absurd (.inl hh) h1
          simpa [node] using this
        obtain ⟨k1, k2⟩ := ins_good _ who hg.sorted hg.nodes hw (by simpa using h3)
        refine Good_upd h _ _ ⟨hg.since, hg.hold, k1, ?_, k2⟩
        have := sorted_few _ 1 k1 k2
        show (ins (I id.toNat).who who).length ≤ 64
        omega
theorem Good_clear {I : Nat → It} (h : Good I) (id inc : Int) : Good (clearE I id inc).2 := by
  unfold clearE
  split
  · exact h
  · exact Good_upd h _ _ good_zero
theorem Good_rest {I : Nat → It} (h : Good I) (is : It → Bool) (i : Nat) : Good (rest1 is I i) := by
  intro j hj
  unfold rest1
  split
  · exact good_zero
  · exact h j hj
def new : Nat → It := fun _ => It.zero
theorem Good_new : Good new := fun i _ => good_zero
theorem until_lt {x : It} (h : GoodIt x) : 0 ≤ untilI x ∧ untilI x ≤ 4611686018428387904 := by
  unfold untilI
  have h1 : (x.hold + (x.who.length : Int)) / ((x.who.length : Int) + 1) ≤ 1000000 := by
    have := h.hold
    apply Int.ediv_le_of_le_mul (by omega)
    have : (1000000 : Int) * ((x.who.length : Int) + 1) = 1000000 * (x.who.length : Int) + 1000000 := by rw [Int.mul_add]; rfl
    omega
  have h2 : 0 ≤ (x.hold + (x.who.length : Int)) / ((x.who.length : Int) + 1) := Int.ediv_nonneg (by have := h.hold; omega) (by omega)
  have := h.since
  omega
end Go.Proofs.Ythoppcefadopeaa.DW
