/- The reference's doubts, as plain functions, and how they stand to the doubts. No condition but those that each theorem names. -/
import Derived.Test.YthoppcefadopeaaDP
import Derived.Test.YthoppcefadopeaaDX
import Derived.Deep.RegionHeld3
namespace Go.Proofs.Ythoppcefadopeaa.DW
set_option linter.unusedVariables false
set_option linter.unusedSimpArgs false
open Go Go.RowKit
def rfind (L : List It) (id : Int) : Nat := L.findIdx (fun r => decide (id ≤ r.id))
def rold (L : List It) (id : Int) : Option It := (L[rfind L id]?).filter (fun r => decide (r.id = id))
def rput (L : List It) (k : Nat) (x : It) : List It := L.take k ++ [x] ++ L.drop k
def rBegin (L : List It) (id inc now hold : Int) : Int × List It :=
  if mayBegin id now hold = false then (1, L)
  else match rold L id with
    | none => (0, rput L (rfind L id) ⟨id, inc, now, hold, []⟩)
    | some x => if inc ≤ x.inc then (6, L) else (0, rput (L.eraseIdx (rfind L id)) (rfind L id) ⟨id, inc, now, hold, []⟩)
def rConfirm (L : List It) (id inc who : Int) : Int × List It :=
  if node who = false ∨ who = id then (1, L)
  else match rold L id with
    | none => (5, L)
    | some x => if x.inc ≠ inc then (5, L) else if x.who.contains who = true then (6, L) else (0, L.set (rfind L id) { x with who := ins x.who who })
def rClear (L : List It) (id inc : Int) : Bool × List It :=
  match rold L id with
    | none => (false, L)
    | some x => if inc ≤ x.inc then (false, L) else (true, L.eraseIdx (rfind L id))
def rUntil (L : List It) (id : Int) : Int × Bool :=
  match rold L id with
    | none => (0, false)
    | some x => (untilI x, true)
def rDue (L : List It) (now : Int) : List It × List It := (L.filter (isDue now), L.filter (fun x => !isDue now x))
/-- Who is suspected stands at its number. -/
def Know (I : Nat → It) : Prop := ∀ i, i < 33 → I i = It.zero ∨ ((I i).id = (i : Int) ∧ 0 < i)
def kn (x : It) : Bool := decide (x.id ≠ 0)
def mem (I : Nat → It) : List It := ((List.range 33).map I).filter kn
def lowM (I : Nat → It) (n : Nat) : List It := ((List.range n).map I).filter kn
def highM (I : Nat → It) (n : Nat) : List It := (((List.range 33).drop (n + 1)).map I).filter kn
theorem mem_split (I : Nat → It) (n : Nat) (hn : n < 33) : mem I = lowM I n ++ (if kn (I n) = true then [I n] else []) ++ highM I n := by
  have h : List.range 33 = List.range n ++ n :: (List.range 33).drop (n + 1) := by
    have h1 := (List.take_append_drop n (List.range 33)).symm
    rw [List.drop_eq_getElem_cons (by simpa using hn), List.getElem_range, List.take_range, Nat.min_eq_left (by omega)] at h1
    exact h1
  unfold mem lowM highM
  rw [h, List.map_append, List.filter_append, List.map_cons, List.filter_cons, List.append_assoc]
  congr 1
  by_cases hk : kn (I n) = true
  · rw [if_pos hk, if_pos hk, ← h]; rfl
  · rw [if_neg hk, if_neg hk, ← h]; rfl
theorem low_lt {I : Nat → It} (h : Know I) (n : Nat) (hn : n < 33) : ∀ r ∈ lowM I n, r.id < (n : Int) := by
  intro r hr
  unfold lowM at hr
  obtain ⟨hm, hk⟩ := List.mem_filter.1 hr
  obtain ⟨i, hi, rfl⟩ := List.mem_map.1 hm
  have hi := List.mem_range.1 hi
  rcases h i (by omega) with h0 | ⟨h1, -⟩
  · rw [h0] at hk
    exact absurd hk (by decide)
  · rw [h1]; omega
theorem high_gt {I : Nat → It} (h : Know I) (n : Nat) : ∀ r ∈ highM I n, (n : Int) < r.id := by
  intro r hr
  unfold highM at hr
  obtain ⟨hm, hk⟩ := List.mem_filter.1 hr
  obtain ⟨i, hi, rfl⟩ := List.mem_map.1 hm
  obtain ⟨j, hj, he⟩ := List.mem_drop_iff_getElem.1 hi
  rw [List.getElem_range] at he
  have hj' : n + 1 + j < 33 := by simpa [Nat.add_comm] using hj
  have hi33 : i < 33 := by omega
  rcases h i hi33 with h0 | ⟨h1, -⟩
  · rw [h0] at hk
    exact absurd hk (by decide)
  · rw [h1]; omega
theorem low_congr {K K' : Nat → It} (n : Nat) (h : ∀ i, i ≠ n → K i = K' i) : lowM K n = lowM K' n := by
  unfold lowM
  rw [List.map_congr_left (fun i hi => h i (by have := List.mem_range.1 hi; omega))]
theorem high_congr {K K' : Nat → It} (n : Nat) (h : ∀ i, i ≠ n → K i = K' i) : highM K n = highM K' n := by
  unfold highM
  rw [List.map_congr_left (fun i hi => h i (by
    obtain ⟨j, hj, he⟩ := List.mem_drop_iff_getElem.1 hi
    rw [List.getElem_range] at he
    omega))]
theorem find_low (A B : List It) (id : Int) (hA : ∀ r ∈ A, r.id < id) : rfind (A ++ B) id = A.length + rfind B id := by
  unfold rfind
  rw [List.findIdx_append]
  have h : ¬ A.findIdx (fun r => decide (id ≤ r.id)) < A.length := by
    rw [List.findIdx_lt_length]
    rintro ⟨r, hr, hp⟩
    have := hA r hr
    have := of_decide_eq_true hp
    omega
  rw [if_neg h, Nat.add_comm]
theorem find_here (B : List It) (id : Int) (hB : ∀ r ∈ B, id ≤ r.id) : rfind B id = 0 := by
  unfold rfind
  cases B with
  | nil => rfl
  | cons y B => rw [List.findIdx_cons, decide_eq_true (hB y List.mem_cons_self)]; rfl
/-- Where a number stands. -/
theorem find_at {I : Nat → It} (h : Know I) (n : Nat) (hn : n < 33) (h0 : 0 < n) :
    rfind (mem I) (n : Int) = (lowM I n).length ∧ rold (mem I) (n : Int) = if kn (I n) = true then some (I n) else none := by
  have hid : kn (I n) = true → (I n).id = (n : Int) := by
    intro hk
    rcases h n hn with h1 | ⟨h1, -⟩
    · rw [h1] at hk; exact absurd hk (by decide)
    · exact h1
  have hf : rfind (mem I) (n : Int) = (lowM I n).length := by
    rw [mem_split I n hn, List.append_assoc, find_low _ _ _ (low_lt h n hn), find_here, Nat.add_zero]
    intro r hr
    rcases List.mem_append.1 hr with hr | hr
    · by_cases hk : kn (I n) = true
      · rw [if_pos hk] at hr
        obtain rfl := List.mem_singleton.1 hr
        rw [hid hk]; exact Int.le_refl _
      · rw [if_neg hk] at hr; cases hr
    · exact Int.le_of_lt (high_gt h n r hr)
  refine ⟨hf, ?_⟩
  unfold rold
  rw [hf, mem_split I n hn, List.append_assoc, List.getElem?_append_right (Nat.le_refl _), Nat.sub_self]
  by_cases hk : kn (I n) = true
  · rw [if_pos hk, if_pos hk]
    simp [hid hk]
  · rw [if_neg hk, if_neg hk, List.nil_append]
    cases hh : highM I n with
    | nil => rfl
    | cons y B =>
      have := high_gt h n y (by rw [hh]; exact List.mem_cons_self)
      simp
      omega
theorem mem_upd (I : Nat → It) (n : Nat) (hn : n < 33) (x : It) : mem (upd I n x) = lowM I n ++ (if kn x = true then [x] else []) ++ highM I n := by
  rw [mem_split (upd I n x) n hn, low_congr n (K := upd I n x) (K' := I) (fun i hi => upd_ne I n i x hi), high_congr n (K := upd I n x) (K' := I) (fun i hi => upd_ne I n i x hi), upd_same]
theorem set_mid (A B : List It) (y r : It) : (A ++ [y] ++ B).set A.length r = A ++ [r] ++ B := by
  rw [List.append_assoc, List.set_append_right _ _ (Nat.le_refl _), Nat.sub_self, List.append_assoc]
  rfl
theorem erase_mid (A B : List It) (y : It) : (A ++ [y] ++ B).eraseIdx A.length = A ++ B := by
  rw [List.append_assoc, List.eraseIdx_append_of_length_le (Nat.le_refl _), Nat.sub_self]
  rfl
theorem put_mid (A B : List It) (x : It) : rput (A ++ B) A.length x = A ++ [x] ++ B := by
  unfold rput
  rw [List.take_left, List.drop_left]
theorem mem_ids {I : Nat → It} (h : Know I) : ∀ r ∈ mem I, 1 ≤ r.id ∧ r.id ≤ 32 := by
  intro r hr
  unfold mem at hr
  obtain ⟨hm, hk⟩ := List.mem_filter.1 hr
  obtain ⟨i, hi, rfl⟩ := List.mem_map.1 hm
  have hi := List.mem_range.1 hi
  rcases h i hi with h0 | ⟨h1, h2⟩
  · rw [h0] at hk
    exact absurd hk (by decide)
  · omega
theorem Know_upd {I : Nat → It} (h : Know I) (n : Nat) (x : It) (hx : x = It.zero ∨ (x.id = (n : Int) ∧ 0 < n)) : Know (upd I n x) := by
  intro i hi
  unfold upd
  by_cases h1 : i = n
  · subst h1; rw [if_pos rfl]; exact hx
  · rw [if_neg h1]; exact h i hi
/-- How doubts stand to the reference's. -/
structure Rel (I : Nat → It) (L : List It) : Prop where
  know : Know I
  good : Good I
  mem : mem I = L
theorem Rel_new : Rel new [] := ⟨fun i _ => .inl rfl, Good_new, by kernel_rfl⟩
theorem rold_out {I : Nat → It} (h : Know I) (id : Int) (hn : node id = false) : rold (mem I) id = none := by
  unfold rold
  cases hg : (mem I)[rfind (mem I) id]? with
  | none => rfl
  | some r =>
    have hr := mem_ids h r (List.mem_of_getElem? hg)
    have h0 : ¬ (1 ≤ id ∧ id ≤ 32) := of_decide_eq_false hn
    have hne : ¬ r.id = id := fun e => h0 (e ▸ hr)
    simp [hne]
theorem node_in {id : Int} (h : node id = true) : ∃ n : Nat, id = (n : Int) ∧ n < 33 ∧ 0 < n := by
  have : 1 ≤ id ∧ id ≤ 32 := by unfold node at h; simpa using h
  exact ⟨id.toNat, by omega, by omega, by omega⟩
theorem there_kn (I : Nat → It) (n : Nat) (hn : n < 33) (h0 : 0 < n) : there I (n : Int) = kn (I n) := by
  unfold there kn
  rw [show node (n : Int) = true by unfold node; exact decide_eq_true ⟨by omega, by omega⟩, Int.toNat_natCast, Bool.true_and]
theorem there_out (I : Nat → It) (id : Int) (h : node id = false) : there I id = false := by unfold there; rw [h, Bool.false_and]
theorem rel_until {I : Nat → It} {L : List It} (h : Rel I L) (id : Int) : rUntil L id = untilE I id := by
  obtain ⟨hk, -, rfl⟩ := h
  unfold rUntil untilE
  cases hn : node id with
  | false => rw [rold_out hk id hn, there_out I id hn]; rfl
  | true =>
    obtain ⟨n, rfl, h1, h2⟩ := node_in hn
    rw [(find_at hk n h1 h2).2, there_kn I n h1 h2, Int.toNat_natCast]
    cases kn (I n) with
    | true => rfl
    | false => rfl
theorem rel_clear {I : Nat → It} {L : List It} (h : Rel I L) (id inc : Int) : (rClear L id inc).1 = (clearE I id inc).1 ∧ Rel (clearE I id inc).2 (rClear L id inc).2 := by
  obtain ⟨hk, hg, rfl⟩ := h
  have hgc := Good_clear hg id inc
  unfold rClear
  unfold clearE at hgc ⊢
  cases hn : node id with
  | false =>
    rw [there_out I id hn] at hgc ⊢
    rw [rold_out hk id hn, if_pos (.inl rfl)]
    exact ⟨rfl, hk, hg, rfl⟩
  | true =>
    obtain ⟨n, rfl, h1, h2⟩ := node_in hn
    have hf := find_at hk n h1 h2
    rw [there_kn I n h1 h2, Int.toNat_natCast] at hgc ⊢
    have hro := hf.2
    rw [hf.1]
    cases hkn : kn (I n) with
    | false =>
      rw [hkn, if_neg (by decide)] at hro
      rw [hro]
      dsimp only
      rw [if_pos (.inl rfl)]; exact ⟨rfl, hk, hg, rfl⟩
    | true =>
      rw [hkn] at hgc
      rw [hkn, if_pos rfl] at hro
      rw [hro]
      dsimp only
      by_cases hi : inc ≤ (I n).inc
      · rw [if_pos hi, if_pos (.inr hi)]; exact ⟨rfl, hk, hg, rfl⟩
      · rw [if_neg (by rintro (a | a); cases a; exact hi a)] at hgc
        rw [if_neg hi, if_neg (by rintro (a | a); cases a; exact hi a)]
        refine ⟨rfl, Know_upd hk n _ (.inl rfl), hgc, ?_⟩
        dsimp only
        rw [mem_upd I n h1, mem_split I n h1, if_neg (show ¬ kn It.zero = true by decide), if_pos hkn, List.append_nil, erase_mid]
theorem rel_begin {I : Nat → It} {L : List It} (h : Rel I L) (id inc now hold : Int) (h1_ : 0 ≤ now) (h2_ : 0 ≤ hold) : (rBegin L id inc now hold).1 = (beginE I id inc now hold).1 ∧ Rel (beginE I id inc now hold).2 (rBegin L id inc now hold).2 := by
  obtain ⟨hk, hg, rfl⟩ := h
  have hgc := Good_begin hg id inc now hold h1_ h2_
  unfold rBegin
  unfold beginE at hgc ⊢
  cases hm : mayBegin id now hold with
  | false => rw [if_pos rfl, if_pos rfl]; exact ⟨rfl, hk, hg, rfl⟩
  | true =>
    have hn : node id = true := by unfold mayBegin at hm; cases hh : node id with | true => rfl | false => rw [hh] at hm; cases hm
    rw [hm, if_neg (by decide)] at hgc
    rw [if_neg (by decide), if_neg (by decide)]
    obtain ⟨n, rfl, h1, h2⟩ := node_in hn
    have hf := find_at hk n h1 h2
    rw [there_kn I n h1 h2, Int.toNat_natCast] at hgc ⊢
    have hro := hf.2
    rw [hf.1]
    have hknn : kn ⟨(n : Int), inc, now, hold, []⟩ = true := decide_eq_true (by dsimp only; omega)
    cases hkn : kn (I n) with
    | false =>
      rw [hkn] at hgc
      rw [hkn, if_neg (by decide)] at hro
      rw [hro]
      dsimp only
      rw [if_neg (by rintro ⟨a, -⟩; cases a)] at hgc ⊢
      refine ⟨rfl, Know_upd hk n _ (.inr ⟨rfl, h2⟩), hgc, ?_⟩
      dsimp only
      rw [mem_upd I n h1, mem_split I n h1, if_pos hknn, if_neg (by rw [hkn]; decide), List.append_nil, put_mid]
    | true =>
      rw [hkn] at hgc
      rw [hkn, if_pos rfl] at hro
      rw [hro]
      dsimp only
      by_cases hi : inc ≤ (I n).inc
      · rw [if_pos hi, if_pos ⟨rfl, hi⟩]; exact ⟨rfl, hk, hg, rfl⟩
      · rw [if_neg (by rintro ⟨-, a⟩; exact hi a)] at hgc
        rw [if_neg hi, if_neg (by rintro ⟨-, a⟩; exact hi a)]
        refine ⟨rfl, Know_upd hk n _ (.inr ⟨rfl, h2⟩), hgc, ?_⟩
        dsimp only
        rw [mem_upd I n h1, mem_split I n h1, if_pos hknn, if_pos hkn, erase_mid, put_mid]
theorem rel_confirm {I : Nat → It} {L : List It} (h : Rel I L) (id inc who : Int) : (rConfirm L id inc who).1 = (confirmE I id inc who).1 ∧ Rel (confirmE I id inc who).2 (rConfirm L id inc who).2 := by
  obtain ⟨hk, hg, rfl⟩ := h
  have hgc := Good_confirm hg id inc who
  unfold rConfirm
  unfold confirmE at hgc ⊢
  by_cases hw : node who = false ∨ who = id
  · rw [if_pos hw, if_pos hw]; exact ⟨rfl, hk, hg, rfl⟩
  · rw [if_neg hw] at hgc
    rw [if_neg hw, if_neg hw]
    cases hn : node id with
    | false =>
      rw [there_out I id hn] at hgc ⊢
      rw [rold_out hk id hn, if_pos (.inl rfl)]
      exact ⟨rfl, hk, hg, rfl⟩
    | true =>
      obtain ⟨n, rfl, h1, h2⟩ := node_in hn
      have hf := find_at hk n h1 h2
      rw [there_kn I n h1 h2, Int.toNat_natCast] at hgc ⊢
      have hro := hf.2
      rw [hf.1]
      cases hkn : kn (I n) with
      | false =>
        rw [hkn, if_neg (by decide)] at hro
        rw [hro]
        dsimp only
        rw [if_pos (.inl rfl)]; exact ⟨rfl, hk, hg, rfl⟩
      | true =>
        rw [hkn] at hgc
        rw [hkn, if_pos rfl] at hro
        rw [hro]
        dsimp only
        by_cases hi : (I n).inc ≠ inc
        · rw [if_pos hi, if_pos (.inr hi)]; exact ⟨rfl, hk, hg, rfl⟩
        · have hor : ¬ (true = false ∨ (I n).inc ≠ inc) := by rintro (a | a); cases a; exact hi a
          rw [if_neg hor] at hgc
          rw [if_neg hi, if_neg hor]
          by_cases hc : (I n).who.contains who = true
          · rw [if_pos hc, if_pos hc]; exact ⟨rfl, hk, hg, rfl⟩
          · rw [if_neg hc] at hgc
            rw [if_neg hc, if_neg hc]
            have hid : (I n).id = (n : Int) := by
              rcases hk n h1 with h0 | ⟨h0, -⟩
              · rw [h0] at hkn; exact absurd hkn (by decide)
              · exact h0
            refine ⟨rfl, Know_upd hk n _ (.inr ⟨hid, h2⟩), hgc, ?_⟩
            dsimp only
            rw [mem_upd I n h1, mem_split I n h1, if_pos (show kn { I n with who := ins (I n).who who } = true from hkn), if_pos hkn, set_mid]
theorem mem_tail {I : Nat → It} (h : Know I) : mem I = ((List.range 32).map (fun j => I (j + 1))).filter kn := by
  have h0 : kn (I 0) = false := by
    rcases h 0 (by decide) with h | ⟨-, h⟩
    · rw [h]; decide
    · exact absurd h (by decide)
  unfold mem
  rw [List.range_succ_eq_map, List.map_cons, List.filter_cons, if_neg (by rw [h0]; decide), List.map_map]
  rfl
theorem some_mem {I : Nat → It} (h : Know I) (is : It → Bool) : some1 is I 32 = (mem I).filter is := by
  rw [mem_tail h, List.filter_filter]
  unfold some1
  refine List.filter_congr (fun x _ => ?_)
  unfold kn
  rw [Bool.and_comm]
theorem items_mem {I : Nat → It} (h : Know I) : itemsE I = mem I := by
  unfold itemsE
  rw [some_mem h]
  simp
theorem filter_of (f g : Nat → It) (q : It → Bool) : ∀ xs : List Nat, (∀ j ∈ xs, if q (g j) = true then f j = g j ∧ kn (g j) = true else kn (f j) = false) → (xs.map f).filter kn = (xs.map g).filter q
  | [], _ => rfl
  | j :: xs, h => by
    have ih := filter_of f g q xs (fun k hk => h k (List.mem_cons_of_mem _ hk))
    have hj := h j List.mem_cons_self
    rw [List.map_cons, List.map_cons, List.filter_cons, List.filter_cons, ih]
    by_cases hq : q (g j) = true
    · rw [if_pos hq] at hj
      rw [hj.1, if_pos hj.2, if_pos hq]
    · rw [if_neg hq] at hj
      rw [if_neg (by rw [hj]; decide), if_neg hq]
theorem rel_due {I : Nat → It} {L : List It} (h : Rel I L) (now : Int) : (rDue L now).1 = (dueE I now).1 ∧ Rel (dueE I now).2 (rDue L now).2 := by
  obtain ⟨hk, hg, rfl⟩ := h
  have hkr : Know (rest1 (isDue now) I 32) := by
    intro i hi
    unfold rest1
    split
    · exact .inl rfl
    · exact hk i hi
  unfold rDue dueE
  refine ⟨(some_mem hk _).symm, hkr, Good_rest hg _ _, ?_⟩
  dsimp only
  rw [mem_tail hkr, mem_tail hk, List.filter_filter]
  refine filter_of _ _ _ _ (fun j hj => ?_)
  have hj := List.mem_range.1 hj
  have hv : rest1 (isDue now) I 32 (j + 1) = if (kn (I (j + 1)) && isDue now (I (j + 1))) = true then It.zero else I (j + 1) := by
    unfold rest1
    by_cases hc : (kn (I (j + 1)) && isDue now (I (j + 1))) = true
    · rw [if_pos hc, if_pos ⟨by omega, by omega, hc⟩]
    · rw [if_neg hc, if_neg (fun h => hc h.2.2)]
  show if (!isDue now (I (j + 1)) && kn (I (j + 1))) = true then rest1 (isDue now) I 32 (j + 1) = I (j + 1) ∧ kn (I (j + 1)) = true else kn (rest1 (isDue now) I 32 (j + 1)) = false
  rw [hv]
  cases hd : isDue now (I (j + 1)) with
  | false =>
    cases hz : kn (I (j + 1)) with
    | false => simpa using hz
    | true => simp
  | true =>
    cases hz : kn (I (j + 1)) with
    | false => simpa using hz
    | true => simp; decide
theorem rel_items {I : Nat → It} {L : List It} (h : Rel I L) : itemsE I = L := by rw [items_mem h.know, h.mem]
theorem Rel_len {I : Nat → It} {L : List It} (h : Rel I L) : L.length ≤ 33 := by
  rw [← h.mem]
  unfold mem
  refine Nat.le_trans (List.length_filter_le _ _) ?_
  simp
theorem Rel_good {I : Nat → It} {L : List It} (h : Rel I L) : ∀ x ∈ L, GoodIt x := by
  intro x hx
  rw [← h.mem] at hx
  unfold mem at hx
  obtain ⟨hm, -⟩ := List.mem_filter.1 hx
  obtain ⟨i, hi, rfl⟩ := List.mem_map.1 hm
  exact h.good i (List.mem_range.1 hi)
end Go.Proofs.Ythoppcefadopeaa.DW
/- The reference's doubts in memory; an item of a row set. Conditions: those that each theorem names. -/
namespace Go.Proofs.Ythoppcefadopeaa.DW
set_option linter.unusedVariables false
set_option linter.unusedSimpArgs false
open Go Go.RowKit Go.Proofs.YthoppcefadopeaaS Go.Proofs.YthoppcefadopeaaS.Asn Go.Proofs.Ythoppcefadopeaa.PA Go.Proofs.YthoppcefadopeaaW.PrintWords Go.Proofs.YthoppcefadopeaaW.PrintLast Go.Proofs.YthoppcefadopeaaW.PrintMore
theorem info70 : (Try.prog.info? 70).map (fun i => (i.zero, i.size, i.bytes)) = some (some z53, 5, 56) := by kernel_rfl
def refD (p : Nat) (L : List It) : Asn := ex fun v : Value => ex fun R : List RIt => fact (MatL R L) ⋆ pt p #[v] 29 ⋆ row ritK 70 v R ⋆ pool (Kd.int .i64) (poolOf R L)
section
variable {w0 w : World} {ok0 : Nat → Prop} {F : Asn} {p : Nat} {L : List It}
theorem ref_open (h : Sep w0 ok0 (refD p L ⋆ F) w) : ∃ A c R, MatL R L ∧ L.length ≤ c ∧ Sep w0 ok0 (pt p #[.slice A L.length c] 29 ⋆ row ritK 70 (.slice A L.length c) R ⋆ pool (Kd.int .i64) (poolOf R L) ⋆ F) w := by
  obtain ⟨v, h⟩ := sep_ex_star h
  obtain ⟨R, h⟩ := sep_ex_star h
  obtain ⟨hm, h⟩ := sep_fact (sep_flat h)
  have h1 := sep_l2 (sep_flat (sep_l1 (sep_flat h)))
  obtain ⟨A, c, rfl, hc, -⟩ := sep_row (sep_l1 h1)
  rw [hm.1] at hc h1
  exact ⟨A, c, R, hm, hc, h1⟩
theorem ref_mk {v : Value} {R : List RIt} (hm : MatL R L) (h : Sep w0 ok0 (pt p #[v] 29 ⋆ row ritK 70 v R ⋆ pool (Kd.int .i64) (poolOf R L) ⋆ F) w) : Sep w0 ok0 (refD p L ⋆ F) w :=
  sep_head (sep_fold (sep_l1 (sep_fold (sep_l2 (sep_l2 h))))) (fun ok hh => ⟨v, R, fun _ => False, ok, hm, hh, fun _ h _ => h, fun _ h => h.elim, fun _ h => h⟩)
end
section
variable {R S : List RIt} {L M : List It} {r : RIt} {x : It}
theorem MatL_take (h : MatL R L) (k : Nat) : MatL (R.take k) (L.take k) := by
  refine ⟨by rw [List.length_take, List.length_take, h.1], fun j q y hq hy => ?_⟩
  rw [List.getElem?_take] at hq hy
  split at hq
  · rename_i hj
    rw [if_pos hj] at hy
    exact h.2 j q y hq hy
  · cases hq
theorem MatL_drop (h : MatL R L) (k : Nat) : MatL (R.drop k) (L.drop k) := by
  refine ⟨by rw [List.length_drop, List.length_drop, h.1], fun j q y hq hy => ?_⟩
  rw [List.getElem?_drop] at hq hy
  exact h.2 _ q y hq hy
theorem MatL_one (h : Mat r x) : MatL [r] [x] := by
  have := MatL_snoc MatL_nil h
  exact this
theorem MatL_app (h : MatL R L) (h2 : MatL S M) : MatL (R ++ S) (L ++ M) := by
  refine ⟨by rw [List.length_append, List.length_append, h.1, h2.1], fun j q y hq hy => ?_⟩
  rcases Nat.lt_or_ge j R.length with hj | hj
  · rw [List.getElem?_append_left hj] at hq
    rw [List.getElem?_append_left (by rw [← h.1]; exact hj)] at hy
    exact h.2 j q y hq hy
  · rw [List.getElem?_append_right hj] at hq
    rw [List.getElem?_append_right (by rw [← h.1]; exact hj), ← h.1] at hy
    exact h2.2 _ q y hq hy
theorem MatL_set (h : MatL R L) (hm : Mat r x) (k : Nat) : MatL (R.set k r) (L.set k x) := by
  refine ⟨by rw [List.length_set, List.length_set, h.1], fun j q y hq hy => ?_⟩
  rw [List.getElem?_set] at hq hy
  by_cases hk : k = j
  · rw [if_pos hk] at hq hy
    split at hq
    · cases hq
      split at hy
      · cases hy; exact hm
      · cases hy
    · cases hq
  · rw [if_neg hk] at hq hy
    exact h.2 j q y hq hy
theorem MatL_get (h : MatL R L) {k : Nat} (hx : L[k]? = some x) : ∃ r, R[k]? = some r ∧ Mat r x := by
  have hk : k < R.length := by rw [h.1]; exact (List.getElem?_eq_some_iff.1 hx).1
  exact ⟨R[k], List.getElem?_eq_getElem hk, h.2 k _ x (List.getElem?_eq_getElem hk) hx⟩
theorem poolOf_app (h : MatL R L) : poolOf (R ++ S) (L ++ M) = poolOf R L ++ poolOf S M := by
  unfold poolOf
  rw [List.zip_append h.1, List.map_append]
theorem poolOf_at {k : Nat} (hr : R[k]? = some r) (hx : L[k]? = some x) : (r.A, x.who) ∈ poolOf R L := by
  unfold poolOf
  refine List.mem_map.2 ⟨(r, x), ?_, rfl⟩
  refine List.mem_of_getElem? (i := k) ?_
  rw [List.getElem?_zip_eq_some]
  exact ⟨hr, hx⟩
theorem poolOf_mem {y : Option Addr × List Int} (h : y ∈ poolOf R L) : ∃ (k : Nat) (r : RIt) (x : It), R[k]? = some r ∧ L[k]? = some x ∧ y = (r.A, x.who) := by
  unfold poolOf at h
  obtain ⟨⟨r, x⟩, hz, rfl⟩ := List.mem_map.1 h
  obtain ⟨k, hk⟩ := List.getElem?_of_mem hz
  rw [List.getElem?_zip_eq_some] at hk
  exact ⟨k, r, x, hk.1, hk.2, rfl⟩
theorem poolOf_take (k : Nat) : ∀ y ∈ poolOf (R.take k) (L.take k), y ∈ poolOf R L := by
  intro y hy
  obtain ⟨j, q, z, hq, hz, rfl⟩ := poolOf_mem hy
  rw [List.getElem?_take] at hq hz
  split at hq
  · rename_i hj
    rw [if_pos hj] at hz
    exact poolOf_at hq hz
  · cases hq
theorem poolOf_drop (k : Nat) : ∀ y ∈ poolOf (R.drop k) (L.drop k), y ∈ poolOf R L := by
  intro y hy
  obtain ⟨j, q, z, hq, hz, rfl⟩ := poolOf_mem hy
  rw [List.getElem?_drop] at hq hz
  exact poolOf_at hq hz
theorem poolOf_set (k : Nat) : ∀ y ∈ poolOf (R.set k r) (L.set k x), y ∈ [(r.A, x.who)] ++ poolOf R L := by
  intro y hy
  obtain ⟨j, q, z, hq, hz, rfl⟩ := poolOf_mem hy
  rw [List.getElem?_set] at hq hz
  by_cases hk : k = j
  · rw [if_pos hk] at hq hz
    split at hq
    · cases hq
      split at hz
      · cases hz; exact List.mem_cons_self
      · cases hz
    · cases hq
  · rw [if_neg hk] at hq hz
    exact List.mem_append_right _ (poolOf_at hq hz)
end
theorem ritK_Mopen {w : World} {base : Nat} {ok : Nat → Prop} {x : RIt} {cs : List Value} (h : ritK.M w base ok x cs) : cs = x.cells := by
  obtain ⟨_, _, rfl, rfl, ⟨_, _, rfl, rfl, ⟨_, _, rfl, rfl, ⟨_, _, rfl, rfl, rfl⟩⟩⟩⟩ := h
  rfl
section
variable {e : Nat} {w : World} {ok : Nat → Prop} {g n c : Nat} {xs : List RIt} {cur : Array Value}
theorem rits_pt (h : (row ritK e (.slice (some ⟨g, 0, none⟩) n c) xs).H w ok) :
    ∃ cur : Array Value, (pt g cur e).H w ok ∧ n = xs.length ∧ n ≤ c ∧ c ≤ maxLen ∧ cur.size = c * 5 ∧ ∀ (j : Nat) (p : RIt), xs[j]? = some p → (cur.toList.drop (j * 5)).take 5 = p.cells := by
  obtain ⟨hok, inner, ⟨hlen, hform⟩, hr1, hr2⟩ := h
  rcases hform with ⟨he, _⟩ | ⟨g', cap, cur, he, hb, hg, hnc, hcm, hcs, htk⟩
  · cases he
  · cases he
    refine ⟨cur, ⟨hok g rfl, hg⟩, rfl, hnc, hcm, hcs, fun j p hp => ?_⟩
    have hj : j < xs.length := (List.getElem?_eq_some_iff.1 hp).1
    have h1 := ritK_Mopen (hr2 j p hp)
    rw [← h1, ← htk, show ritK.sz = 5 from rfl, List.drop_take, List.take_take, show min 5 (xs.length * 5 - j * 5) = 5 by omega]
theorem pt_rits (h : (pt g cur e).H w ok) (hc : cur.size = c * 5) (hcm : c ≤ maxLen) (hn : xs.length ≤ c) (hx : ∀ (j : Nat) (p : RIt), xs[j]? = some p → (cur.toList.drop (j * 5)).take 5 = p.cells) :
    (row ritK e (.slice (some ⟨g, 0, none⟩) xs.length c) xs).H w ok := by
  refine ⟨fun k hk => ?_, cur.toList.take (xs.length * 5), ⟨?_, .inr ⟨g, c, cur, rfl, Nat.zero_le _, h.2, hn, hcm, hc, rfl⟩⟩, ?_, fun j p hp => ?_⟩
  · have : g = k := by simpa [Value.ownBlock] using hk
    rw [← this]; exact h.1
  · rw [List.length_take, show cur.toList.length = c * 5 from hc, show ritK.sz = 5 from rfl]; omega
  · rw [List.length_take, show cur.toList.length = c * 5 from hc, show ritK.sz = 5 from rfl]; omega
  · have hj : j < xs.length := (List.getElem?_eq_some_iff.1 hp).1
    show ritK.M _ _ _ _ ((List.drop (j * 5) _).take 5)
    rw [List.drop_take, List.take_take, show min 5 (xs.length * 5 - j * 5) = 5 by omega, hx j p hp]
    exact ritK_M _ _ _ _
end
section
variable {e : Nat} {w0 w : World} {ok0 : Nat → Prop} {F : Asn} {g n c : Nat} {xs : List RIt}
theorem sep_rits_pt (h : Sep w0 ok0 (row ritK e (.slice (some ⟨g, 0, none⟩) n c) xs ⋆ F) w) :
    ∃ cur : Array Value, Sep w0 ok0 (pt g cur e ⋆ F) w ∧ n = xs.length ∧ n ≤ c ∧ c ≤ maxLen ∧ cur.size = c * 5 ∧ ∀ (j : Nat) (p : RIt), xs[j]? = some p → (cur.toList.drop (j * 5)).take 5 = p.cells := by
  obtain ⟨o_, ok1, ⟨p1, p2, hr, hF, r⟩, hk⟩ := h
  obtain ⟨cur, hpt, q⟩ := rits_pt hr
  exact ⟨cur, ⟨o_, ok1, ⟨p1, p2, hpt, hF, r⟩, hk⟩, q⟩
/-- The last cell of an item set. -/
theorem sep_rit_set (h : Sep w0 ok0 (row ritK e (.slice (some ⟨g, 0, none⟩) n c) xs ⋆ F) w) (k : Nat) (x x' : RIt) (v : Value) (hx : xs[k]? = some x) (hc : x'.cells = x.cells.set 4 v) :
    Sep w0 ok0 (row ritK e (.slice (some ⟨g, 0, none⟩) n c) (xs.set k x') ⋆ F) (w.setCell ⟨g, k * 5 + 4, none⟩ v) := by
  obtain ⟨cur, hp, rfl, hnc, hcm, hsz, hcells⟩ := sep_rits_pt h
  have hs := sep_set hp (k * 5 + 4) v
  refine sep_head hs (fun ok hpt => ?_)
  have hl : (xs.set k x').length = xs.length := List.length_set
  rw [← hl]
  refine pt_rits hpt (by rw [Array.size_setIfInBounds]; exact hsz) hcm (by rw [hl]; exact hnc) (fun i p hip => ?_)
  rw [Array.toList_setIfInBounds]
  by_cases hik : i = k
  · subst hik
    rw [List.getElem?_set_self (by exact (List.getElem?_eq_some_iff.1 hx).1)] at hip
    obtain rfl : x' = p := by simpa using hip
    rw [List.drop_set, if_neg (by omega), List.take_set, show i * 5 + 4 - i * 5 = 4 by omega, hcells i x hx, hc]
  · rw [List.getElem?_set_ne (Ne.symm hik)] at hip
    have hh := hcells i p hip
    rcases Nat.lt_or_ge i k with hlt | hge
    · rw [List.drop_set, if_neg (by omega), List.take_set, List.set_eq_of_length_le (by rw [List.length_take]; omega)]
      exact hh
    · rw [List.drop_set, if_pos (by omega)]
      exact hh
theorem rit_addr {A : Option Addr} (h : Sep w0 ok0 (row ritK e (.slice A n c) xs ⋆ F) w) (hp : 0 < xs.length) : ∃ g, A = some ⟨g, 0, none⟩ := row_addr h hp
theorem rit_now (h : Sep w0 ok0 (row ritK e (.slice (some ⟨g, 0, none⟩) n c) xs ⋆ F) w) (k : Nat) (y : RIt) (hy : xs[k]? = some y) :
    (w.cell? ⟨g, k * 5, none⟩ = some (.int .i64 y.id) ∧ w.cell? ⟨g, k * 5 + 1, none⟩ = some (.int .u32 y.inc) ∧ w.cell? ⟨g, k * 5 + 2, none⟩ = some (.int .u64 y.since) ∧ w.cell? ⟨g, k * 5 + 3, none⟩ = some (.int .u64 y.hold) ∧ w.cell? ⟨g, k * 5 + 4, none⟩ = some (.slice y.A y.n y.c)) ∧
    ∀ j, w.frozen? ⟨g, j, none⟩ = false := by
  obtain ⟨ad, hA, k0, k1, k2, k3, k4⟩ := rit_at (sep_row' h).2.2 k y hy
  cases hA
  rw [add_at] at k0 k1 k2 k3 k4
  obtain ⟨cur, hp, -⟩ := sep_rits_pt h
  exact ⟨⟨k0, k1, k2, k3, k4⟩, fun j => sep_frozen hp j⟩
end
theorem rv1 {w0 w : World} {ok0 : Nat → Prop} {F : Asn} {p : Nat} {t : TypeId} {a : Value} (h : Sep w0 ok0 (pt p #[a] t ⋆ F) w) : w.cell? ⟨p, 0, none⟩ = some a ∧ w.frozen? ⟨p, 0, none⟩ = false := ⟨sep_cell h 0, sep_frozen h 0⟩
theorem ritc (A : Option Addr) (l : List RIt) {w : World} (h : ritK.C w A l.length l) (k : Nat) (hk : k ≤ l.length) : ritK.C w A k (l.take k) := by
  have := Kd.C_take h hk
  rw [List.length_take, Nat.min_eq_left hk] at this
  exact this
section
variable {P : Program} {ops : Array Oper} {o : Oper} {a : Act} {Q : Exit → Act → World → Prop} {α : Type} {w0 W : World} {ok0 : Nat → Prop} {F : Asn} {Kc : Act → World → Prop}
/-- append of a slice in a region that draws its order. -/
theorem step_append_rows (d : Kd α) (hw : Region.wanted o (yielded ops a.tmps) = true) (s x : Operand) (t e : TypeId) (z : Value) (bytes : Nat)
    (ho : o.op = .call { callee := .builtin .append, args := #[s, x], argTypes := #[t, t] })
    (ht : P.underlying t = some (.slice e)) (hinfo : (P.info? e).map (fun i => (i.zero, i.size, i.bytes)) = some (some z, d.sz, bytes)) (hz : z.cells.size = d.sz) (hs0 : 0 < d.sz) (hb0 : 0 < bytes)
    (v : Value) (xs ys : List α) (A : Option Addr) (m c : Nat) (hs : a.eval s = v) (hx : a.eval x = .slice A m c)
    (HS : Sep w0 ok0 (row d e v xs ⋆ F) W) (HR : d.C W A m ys) (hKM : ∀ x cs, d.K W x cs → d.M W 0 (fun _ => False) x cs) (hl : (xs.length + m) * bytes ≤ 140737488355328)
    (h : ∀ v1 w1, Sep w0 ok0 (row d e v1 (xs ++ ys) ⋆ F) w1 → Kc (a.put o.dst v1) w1) : if Region.wanted o (yielded ops a.tmps) = true then Oper.wp P o a W Kc Q else Kc (a.put o.dst undef) W := by
  obtain ⟨ok, hr, hh⟩ := sep_grown HS
  exact Kd.R_append_rows_step d (Rr := d.K W) (w0 := W) 0 hw s x t e z bytes ho ht hinfo hz hs0 hb0 v xs ys A m c (fun k => ok k ∨ W.heap.size ≤ k) (fun _ => False) hs hx (Kd.R_mono hr (fun k hk => .inl hk)) HR hKM (fun _ h => h.elim) (fun k hk => .inr hk) (Below.refl _ _) (Nat.zero_le _) hl (fun v1 w1 hr1 hb hg _ => h v1 w1 (hh v1 w1 _ hr1 hb hg))
end
end Go.Proofs.Ythoppcefadopeaa.DW
/- The reference's doubts, walked: find, cut, Begin. Conditions: those that each theorem names. -/
namespace Go.Proofs.Ythoppcefadopeaa.DW
set_option linter.unusedVariables false
set_option linter.unusedSimpArgs false
open Go Go.RowKit Go.Proofs.YthoppcefadopeaaS Go.Proofs.YthoppcefadopeaaS.Asn Go.Proofs.Ythoppcefadopeaa.PA Go.Proofs.YthoppcefadopeaaW.PrintWords Go.Proofs.YthoppcefadopeaaW.PrintLast Go.Proofs.YthoppcefadopeaaW.PrintMore
theorem cell_now {w wr : World} {a : Addr} {v : Value} (h : w.cell? a = some v) (hb : Below w.heap.size w wr) : wr.cell? a = some v := (hb.cell (World.block_lt_of_cell? w _ h)).trans h
def ge (id : Int) (r : It) : Bool := decide (id ≤ r.id)
theorem rfind_hit (L : List It) (id : Int) (i : Nat) (y : It) (hy : L[i]? = some y) (hg : ge id y = true) (hn : (L.take i).any (ge id) = false) : rfind L id = i ∧ (rold L id).isSome = (y.id == id) := by
  obtain ⟨hi, rfl⟩ := List.getElem?_eq_some_iff.1 hy
  have h : rfind L id = i := by
    unfold rfind
    refine (List.findIdx_eq hi).2 ⟨hg, fun j hj => ?_⟩
    rw [List.any_eq_false] at hn
    have := hn L[j] (by rw [List.mem_take_iff_getElem]; exact ⟨j, by omega, rfl⟩)
    simpa [ge] using this
  refine ⟨h, ?_⟩
  unfold rold
  rw [h, hy]
  by_cases he : L[i].id = id
  · simp [he]
  · simp [he]
theorem rfind_miss (L : List It) (id : Int) (hn : L.any (ge id) = false) : rfind L id = L.length ∧ (rold L id).isSome = false := by
  have h : rfind L id = L.length := by
    unfold rfind
    rw [List.findIdx_eq_length]
    intro x hx
    rw [List.any_eq_false] at hn
    simpa [ge] using hn x hx
  refine ⟨h, ?_⟩
  unfold rold
  rw [h, List.getElem?_eq_none (Nat.le_refl _)]
  rfl
theorem rold_at {L : List It} {id : Int} {r : It} (h : rold L id = some r) : L[rfind L id]? = some r ∧ r.id = id := by
  unfold rold at h
  cases hg : L[rfind L id]? with
  | none => rw [hg] at h; cases h
  | some y =>
    rw [hg] at h
    by_cases hy : y.id = id
    · rw [show (some y : Option It).filter (fun r => decide (r.id = id)) = some y by simp [hy]] at h
      cases h
      exact ⟨rfl, hy⟩
    · rw [show (some y : Option It).filter (fun r => decide (r.id = id)) = none by simp [hy]] at h
      cases h
theorem find_le (L : List It) (id : Int) : rfind L id ≤ L.length := List.findIdx_le_length
set_option maxHeartbeats 1000000 in
theorem rfind_walk (p : Nat) (A : Option Addr) (c : Nat) (R : List RIt) (L : List It) (id : Int) (w : World) (hm : MatL R L) (hp : w.cell? ⟨p, 0, none⟩ = some (.slice A L.length c)) (hC : ritK.C w A R.length R) (hl : L.length ≤ 1000) :
    Calls Try.prog 27 #[.pointer (some ⟨p, 0, none⟩), .int .i64 id] w fun e w' => e = .returned (.tuple #[.int .i64 (rfind L id : Int), .bool (rold L id).isSome]) ∧ Below w.heap.size w w' := by
  have HP := Aside0.mk hp
  have HC := Aside0.mk hC
  have HL := Aside0.mk hl
  have HM := Aside0.mk hm
  clear hp hC hl hm
  go_enter Try.func27, Try.ntmps27
  go_upto_region 2 with (fail)
  go_loopg [6] L.length (fun gg v6 wr => ∃ i : Nat, i ≤ L.length ∧ L.length - i ≤ gg ∧ v6 = .int .i64 (i : Int) ∧ Aside0 (Below w.heap.size w wr) ∧ Aside0 ((L.take i).any (ge id) = false))
  case atStart => exact ⟨0, Nat.zero_le _, by omega, rfl, ⟨Below.refl _ w⟩, ⟨by simp⟩⟩
  case round =>
    obtain ⟨i, hi, hgi, rfl, BW, HA⟩ := hrel
    have kp := cell_now HP.out BW.out
    by_cases hlt : i < L.length
    · have c1b : decide ((i : Int) < (L.length : Int)) = true := decide_eq_true (Int.ofNat_lt.2 hlt); have c1n : decide (i < L.length) = true := decide_eq_true hlt; have c1q : (i < L.length) = True := eq_true hlt; have p0_ := eq_true (Int.natCast_nonneg i)
      have HI := Aside0.mk (And.intro hlt hgi)
      obtain ⟨y, hy⟩ : ∃ y, L[i]? = some y := ⟨_, List.getElem?_eq_getElem hlt⟩
      obtain ⟨q, hq, hqy⟩ := MatL_get HM.out hy
      obtain ⟨ad, rfl, k0, -, -, -, -⟩ := rit_at (Kd.C_below HC.out BW.out) i q hq
      rw [hqy.1] at k0
      have HY := Aside0.mk hy
      clear hi hgi hlt hy hq hqy
      by_cases hg : id ≤ y.id
      · have d1 : decide (id ≤ y.id) = true := decide_eq_true hg
        have d2 : decide (y.id ≥ id) = true := decide_eq_true hg
        have d3 := eq_true hg
        have HG : Aside0 (ge id y = true) := ⟨d1⟩
        clear hg
        go_upto_region 5 with (fail)
        go_region
        all_goals
          go_wp2
          go_ret2
          obtain ⟨e1, e2⟩ := rfind_hit L id i y HY.out HG.out HA.out
          rw [e1, e2]
          exact ⟨rfl, below_drew BW.out⟩
      · have d1 : decide (id ≤ y.id) = false := decide_eq_false hg
        have d2 : decide (y.id ≥ id) = false := decide_eq_false hg
        have d3 := eq_false hg
        have HG : Aside0 (ge id y = false) := ⟨d1⟩
        clear hg
        go_wp2
        go_roundg (L.length - (i + 1))
        case measure => have := HI.out; omega
        case rel =>
          refine ⟨i + 1, HI.out.1, Nat.le_refl _, congrArg (Value.int .i64) (by have := HI.out; have := HL.out; unfold wrap64; omega), BW, ⟨?_⟩⟩
          rw [List.take_add_one, HY.out, List.any_append, HA.out]
          simp [HG.out]
    · obtain rfl : i = L.length := by omega
      have c2b : decide ((L.length : Int) < (L.length : Int)) = false := decide_eq_false (by omega)
      go_wp2
      go_ret2
      have h := HA.out
      rw [List.take_length] at h
      obtain ⟨e1, e2⟩ := rfind_miss L id h
      rw [e1, e2]
      exact ⟨rfl, BW.out⟩
theorem cut_plain (A : Option Addr) (n c k : Nat) (hk : k ≤ n) (hc : n ≤ c) : (∀ W : World, (Instr.slice 27 (.slice A n c) none (some (.int .i64 (k : Int))) none).run Try.prog W = .ok (.slice A k c) W) ∧ ∀ W : World, (Instr.slice 27 (.slice A n c) (some (.int .i64 (k : Int))) none none).run Try.prog W = .ok (.slice (if c = k then A else A.map (·.add (k * 5))) (n - k) (c - k)) W := by
  obtain ⟨i0, hi0, hz_⟩ := Option.map_eq_some_iff.1 info70
  have hsz0 : i0.size = 5 := by injection hz_ with _ h1; injection h1
  refine ⟨cut_to (P := Try.prog) 27 70 .i64 Try.underlying27 hi0 A n c (k : Int) (by omega) (by omega) hc, ?_⟩
  have := cut_from (P := Try.prog) 27 70 .i64 Try.underlying27 hi0 5 hsz0 A n c (k : Int) (by omega) (by omega)
  rw [Int.toNat_natCast] at this
  exact this
set_option maxHeartbeats 1000000 in
theorem rcut_walk (p : Nat) (L : List It) (k : Nat) (w : World) (ok : Nat → Prop) (hk : k < L.length) (hl : L.length ≤ 1000) (h : (refD p L ⋆ emp).H w ok) :
    Calls Try.prog 28 #[.pointer (some ⟨p, 0, none⟩), .int .i64 (k : Int)] w fun e w' => e = .returned (.tuple #[]) ∧ Sep w ok (refD p (L.eraseIdx k) ⋆ emp) w' := by
  obtain ⟨A, c, R, hm, hc, hs⟩ := ref_open (sep_begin h)
  have HS := Aside0.mk hs
  have HM := Aside0.mk hm
  have HC := Aside0.mk (And.intro hc (And.intro hk hl))
  have hcutA := (cut_plain A L.length c k (by omega) hc).1
  have hcutB := (cut_plain A L.length c (k + 1) (by omega) hc).2
  rw [show ((k + 1 : Nat) : Int) = (k : Int) + 1 by omega] at hcutB
  obtain ⟨A2, hA2⟩ : ∃ A2, (if c = k + 1 then A else A.map (·.add ((k + 1) * 5))) = A2 := ⟨_, rfl⟩
  rw [hA2] at hcutB
  have HA2 := Aside0.mk hA2
  have hw1 : wrap64 ((k : Int) + 1) = (k : Int) + 1 := by unfold wrap64; omega
  have hw2 : IntKind.i64.wrap ((k : Int) + 1) = (k : Int) + 1 := by rw [IntKind.wrap_i64]; omega
  obtain ⟨R2, hr2⟩ : ∃ R2, R.take k ++ R.drop (k + 1) = R2 := ⟨_, rfl⟩
  have HR2 := Aside0.mk hr2
  have HM2 : Aside0 (MatL R2 (L.eraseIdx k) ∧ ∀ y ∈ poolOf R2 (L.eraseIdx k), y ∈ poolOf R L) := ⟨by
    rw [← hr2, List.eraseIdx_eq_take_drop_succ]
    refine ⟨MatL_app (MatL_take hm k) (MatL_drop hm (k + 1)), fun y hy => ?_⟩
    rw [poolOf_app (MatL_take hm k)] at hy
    rcases List.mem_append.1 hy with hy | hy
    · exact poolOf_take k y hy
    · exact poolOf_drop (k + 1) y hy⟩
  clear h hs hm hc hk hl hA2 hr2
  go_enter Try.func28, Try.ntmps28
  (try clear b1 b2); obtain ⟨b1, b2⟩ := rv1 HS.out
  have n_ := sep_row_nil (d := ritK) (e := 70) HS.out
  have n0_ := Aside0.mk n_; clear HS n_; have HS := n0_; clear n0_
  go_upto_region 2 with ((with_reducible refine gate_builtin (b := .append) (xs := #[.tmp 5, .tmp 11]) rfl ?_); at_builtin; refine wp_append_rows ritK rfl (.tmp 5) (.tmp 11) 27 70 z53 56 rfl Try.underlying27 info70 rfl (by decide) (by decide) _ ([]) (R.take k) (A) (k) (c) (by rfl) (by rfl) HS.out (ritc _ R (sep_row' (sep_l2 HS.out)).2.2 k (by have := HC.out; have := HM.out.1; omega)) (fun x cs hk => by rw [ritK_open hk]; exact ritK_M _ _ _ _) (by have := HC.out; simp only [List.length_nil]; omega) ?_; intro v1 w1 n_; rw [List.nil_append] at n_; have n0_ := Aside0.mk n_; clear HS n_; have HS := n0_; clear n0_; (try clear b1 b2); obtain ⟨b1, b2⟩ := rv1 (sep_l1 HS.out))
  go_wp2_with ((with_reducible refine gate_builtin (b := .append) (xs := #[.tmp 14, .tmp 21]) rfl ?_); at_builtin; refine wp_append_rows ritK rfl (.tmp 14) (.tmp 21) 27 70 z53 56 rfl Try.underlying27 info70 rfl (by decide) (by decide) _ (R.take k) (R.drop (k + 1)) (A2) (L.length - (k + 1)) (c - (k + 1)) (by rfl) (by rfl) HS.out ((by have h := Kd.C_drop (m := k + 1) (sep_row' (sep_l2 HS.out)).2.2 (by have := HC.out; have := HM.out.1; omega) (by rw [HM.out.1]; exact HC.out.1); rw [List.length_drop, HM.out.1] at h; rw [← HA2.out]; exact h)) (fun x cs hk => by rw [ritK_open hk]; exact ritK_M _ _ _ _) (by have := HC.out; rw [List.length_take]; omega) ?_; intro v1 w1 n_; rw [HR2.out] at n_; obtain ⟨A3, c3, rfl, -, -⟩ := sep_row n_; have n0_ := Aside0.mk n_; clear HS n_; have HS := n0_; clear n0_; (try clear b1 b2); obtain ⟨b1, b2⟩ := rv1 (sep_l1 HS.out))
  go_end0
  have n_ := sep_set (sep_l1 HS.out) 0 (.slice A3 R2.length c3)
  exact ⟨rfl, ref_mk HM2.out.1 (sep_l2 (sep_l2 (sep_pool_sub (sep_l2 (sep_drop (sep_l2 n_))) HM2.out.2)))⟩
end Go.Proofs.Ythoppcefadopeaa.DW
/- The reference's doubts, walked: Begin. Conditions: those that each theorem names. -/
namespace Go.Proofs.Ythoppcefadopeaa.DW
set_option linter.unusedVariables false
set_option linter.unusedSimpArgs false
open Go Go.RowKit Go.Proofs.YthoppcefadopeaaS Go.Proofs.YthoppcefadopeaaS.Asn Go.Proofs.Ythoppcefadopeaa.PA Go.Proofs.YthoppcefadopeaaW.PrintWords Go.Proofs.YthoppcefadopeaaW.PrintLast Go.Proofs.YthoppcefadopeaaW.PrintMore
def nw (id inc now hold : Int) : RIt := ⟨id, inc, now, hold, none, 0, 0⟩
theorem put_mat {R : List RIt} {L : List It} (h : MatL R L) (k : Nat) (id inc now hold : Int) : MatL (R.take k ++ [nw id inc now hold] ++ R.drop k) (rput L k ⟨id, inc, now, hold, []⟩) ∧
    ∀ y ∈ poolOf (R.take k ++ [nw id inc now hold] ++ R.drop k) (rput L k ⟨id, inc, now, hold, []⟩), y ∈ [((none : Option Addr), ([] : List Int))] ++ poolOf R L := by
  have h1 : MatL [nw id inc now hold] [(⟨id, inc, now, hold, []⟩ : It)] := MatL_one ⟨rfl, rfl, rfl, rfl, rfl, Nat.le_refl _⟩
  have h2 := MatL_app (MatL_take h k) h1
  refine ⟨MatL_app h2 (MatL_drop h k), fun y hy => ?_⟩
  unfold rput at hy
  rw [poolOf_app h2, poolOf_app (MatL_take h k)] at hy
  rcases List.mem_append.1 hy with hy | hy
  · rcases List.mem_append.1 hy with hy | hy
    · exact List.mem_append_right _ (poolOf_take k y hy)
    · exact List.mem_append_left _ hy
  · exact List.mem_append_right _ (poolOf_drop k y hy)
set_option maxHeartbeats 4000000 in
set_option maxRecDepth 100000 in
theorem rBegin_walk (p : Nat) (L : List It) (id inc now hold : Int) (w : World) (ok : Nat → Prop) (hl : L.length ≤ 900) (h : (refD p L ⋆ emp).H w ok) :
    Calls Try.prog 19 #[.pointer (some ⟨p, 0, none⟩), .int .i64 id, .int .u32 inc, .int .u64 now, .int .u64 hold] w fun e w' => e = .returned (.int .i64 (rBegin L id inc now hold).1) ∧ Sep w ok (refD p (rBegin L id inc now hold).2 ⋆ emp) w' := by
  have HS := Aside0.mk (sep_begin h)
  have HL := Aside0.mk hl
  clear h hl
  go_enter Try.func19, Try.ntmps19
  by_cases a1 : id < 1
  · have f1 : decide (id < 1) = true := decide_eq_true a1
    go_wp2
    go_ret
    have hr : rBegin L id inc now hold = (1, L) := by unfold rBegin; rw [if_pos (mayB_no id now hold (.inl (decide_eq_false (by omega))))]
    rw [hr]
    exact ⟨rfl, HS.out⟩
  have f1 : decide (id < 1) = false := decide_eq_false a1
  have g1 := eq_false a1
  by_cases a2 : 32 < id
  · have f2 : decide (32 < id) = true := decide_eq_true a2
    go_wp2
    go_ret
    have hr : rBegin L id inc now hold = (1, L) := by unfold rBegin; rw [if_pos (mayB_no id now hold (.inl (decide_eq_false (by omega))))]
    rw [hr]
    exact ⟨rfl, HS.out⟩
  have f2 : decide (32 < id) = false := decide_eq_false a2
  have g2 := eq_false a2
  by_cases a3 : 4611686018427387904 < now
  · have f3 : decide (4611686018427387904 < now) = true := decide_eq_true a3
    go_wp2
    go_ret
    have hr : rBegin L id inc now hold = (1, L) := by unfold rBegin; rw [if_pos (mayB_no id now hold (.inr (.inl a3)))]
    rw [hr]
    exact ⟨rfl, HS.out⟩
  have f3 : decide (4611686018427387904 < now) = false := decide_eq_false a3
  have g3 := eq_false a3
  by_cases a4 : hold = 0
  · subst a4
    go_wp2
    go_ret
    have hr : rBegin L id inc now 0 = (1, L) := by unfold rBegin; rw [if_pos (mayB_no id now 0 (.inr (.inr (.inl rfl))))]
    rw [hr]
    exact ⟨rfl, HS.out⟩
  have f4 : (hold == 0) = false := by simpa using a4
  have g4 := eq_false a4
  by_cases a5 : 1000000 < hold
  · have f5 : decide (1000000 < hold) = true := decide_eq_true a5
    go_wp2
    go_ret
    have hr : rBegin L id inc now hold = (1, L) := by unfold rBegin; rw [if_pos (mayB_no id now hold (.inr (.inr (.inr a5))))]
    rw [hr]
    exact ⟨rfl, HS.out⟩
  have f5 : decide (1000000 < hold) = false := decide_eq_false a5
  have g5 := eq_false a5
  have hm := mayB id now hold (decide_eq_true ⟨by omega, by omega⟩) (by omega) a4 (by omega)
  have HMAY := Aside0.mk hm
  obtain ⟨k, hk⟩ : ∃ k, rfind L id = k := ⟨_, rfl⟩
  have hkl := find_le L id
  rw [hk] at hkl
  have HK := Aside0.mk (And.intro hk hkl)
  clear a1 a2 a3 a4 a5 hm hk hkl
  cases ho : rold L id with
  | none =>
    have hr : rBegin L id inc now hold = (0, rput L k ⟨id, inc, now, hold, []⟩) := by unfold rBegin; rw [if_neg (by rw [HMAY.out]; decide), ho, HK.out.1]
    have HR := Aside0.mk hr
    have HO := Aside0.mk ho
    have HKL : Aside0 (k ≤ L.length ∧ L.length ≤ 900) := ⟨HK.out.2, HL.out⟩
    clear hr ho
    go_upto_region 8 with (go_at_call 27; obtain ⟨A_, c_, R_, hm_, hc_, q_⟩ := ref_open HS.out; have hx_ := rfind_walk p A_ c_ R_ L id _ hm_ (rv1 q_).1 (sep_row' (sep_l1 q_)).2.2 (by have := HL.out; omega); rw [HO.out, HK.out.1] at hx_; dsimp only [Option.isSome] at hx_; (with_reducible refine Calls.mono hx_ ?_); rintro e w1 ⟨rfl, hb_⟩; have n_ := sep_below HS.out hb_; clear hx_ hb_ hm_ hc_ q_; have n0_ := Aside0.mk n_; clear HS n_; have HS := n0_; clear n0_)
    clear f1 f2 f3 f4 f5 g1 g2 g3 g4 g5
    obtain ⟨LL, hLL⟩ : ∃ LL, LL = L := ⟨_, rfl⟩
    subst hLL
    obtain ⟨A, c, R, hm, hc, n_⟩ := ref_open HS.out
    have HM := Aside0.mk hm
    have HCC := Aside0.mk hc
    have hcut := cut_plain A LL.length c k HKL.out.1 hc
    obtain ⟨hcutA, hcutB⟩ := hcut
    obtain ⟨A4, hA4⟩ : ∃ A4, (if c = k then A else A.map (·.add (k * 5))) = A4 := ⟨_, rfl⟩
    rw [hA4] at hcutB
    have HA4 := Aside0.mk hA4
    obtain ⟨hp1, hp2⟩ := put_mat hm k id inc now hold
    obtain ⟨R2, hr2⟩ : ∃ R2, R.take k ++ [nw id inc now hold] ++ R.drop k = R2 := ⟨_, rfl⟩
    rw [hr2] at hp1 hp2
    have HR2 := Aside0.mk hr2
    have HP2 := Aside0.mk (And.intro hp1 hp2)
    clear hm hc hA4 hp1 hp2 hr2
    replace n_ := sep_row_nil (d := ritK) (e := 70) n_
    have n0_ := Aside0.mk n_; clear HS n_; have HS := n0_; clear n0_
    go_upto_region 9 with (fail)
    (try clear b1 b2); obtain ⟨b1, b2⟩ := rv1 (sep_l1 HS.out)
    go_upto_region 10 with ((with_reducible refine gate_builtin (b := .append) (xs := #[.tmp 52, .tmp 58]) rfl ?_); at_builtin; refine wp_append_rows ritK rfl (.tmp 52) (.tmp 58) 27 70 z53 56 rfl Try.underlying27 info70 rfl (by decide) (by decide) _ ([]) (R.take k) (A) (k) (c) (by rfl) (by rfl) HS.out (ritc _ R (sep_row' (sep_l2 HS.out)).2.2 k (by have := HKL.out; have := HM.out.1; omega)) (fun x cs hk => by rw [ritK_open hk]; exact ritK_M _ _ _ _) (by have := HKL.out; simp only [List.length_nil]; omega) ?_; intro v1 w1 n_; rw [List.nil_append] at n_; have n0_ := Aside0.mk n_; clear HS n_; have HS := n0_; clear n0_; (try clear b1 b2); obtain ⟨b1, b2⟩ := rv1 (sep_l1 HS.out))
    go_upto_region 11 with ((with_reducible refine gate_builtin (b := .append) (xs := #[.tmp 60, .tmp 66]) rfl ?_); at_builtin; refine wp_append ritK rfl (.tmp 60) (.tmp 66) 27 70 z53 56 rfl Try.underlying27 info70 rfl (by decide) (by decide) _ (R.take k) (nw id inc now hold) (nw id inc now hold).cells (by rfl) (by rfl) (ritK_M _ _ _ _) HS.out (by have := HKL.out; rw [List.length_take]; omega) ?_; intro v2 w3 n_; have n0_ := Aside0.mk n_; clear HS n_; have HS := n0_; clear n0_; (try clear b1 b2); obtain ⟨b1, b2⟩ := rv1 (sep_l1 HS.out))
    go_upto_region 12 with ((with_reducible refine gate_builtin (b := .append) (xs := #[.tmp 69, .tmp 75]) rfl ?_); at_builtin; refine wp_append_rows ritK rfl (.tmp 69) (.tmp 75) 27 70 z53 56 rfl Try.underlying27 info70 rfl (by decide) (by decide) _ (R.take k ++ [nw id inc now hold]) (R.drop k) (A4) (LL.length - k) (c - k) (by rfl) (by rfl) HS.out ((by have h := Kd.C_drop (m := k) (sep_row' (sep_l2 HS.out)).2.2 (by have := HKL.out; have := HM.out.1; omega) (by rw [HM.out.1]; exact HCC.out); rw [List.length_drop, HM.out.1] at h; rw [← HA4.out]; exact h)) (fun x cs hk => by rw [ritK_open hk]; exact ritK_M _ _ _ _) (by have := HKL.out; rw [List.length_append, List.length_take, List.length_singleton]; omega) ?_; intro v1 w1 n_; rw [HR2.out] at n_; obtain ⟨A3, c3, rfl, -, -⟩ := sep_row n_; have n0_ := Aside0.mk n_; clear HS n_; have HS := n0_; clear n0_; (try clear b1 b2); obtain ⟨b1, b2⟩ := rv1 (sep_l1 HS.out))
    have n_ := sep_l2 (sep_drop (sep_l2 (sep_set (sep_l1 HS.out) 0 (.slice A3 R2.length c3))))
    have n0_ := Aside0.mk n_; clear HS n_; have HS := n0_; clear n0_
    have n_ := ref_mk HP2.out.1 (sep_l2 (sep_l2 (sep_pool_sub (sep_pool_app (sep_row_pool (sep_row_nil (d := Kd.int .i64) (e := 3) HS.out))) HP2.out.2)))
    have n0_ := Aside0.mk n_; clear HS n_; have HS := n0_; clear n0_
    go_wp2
    go_ret
    rw [HR.out]
    exact ⟨rfl, HS.out⟩
  | some x =>
    obtain ⟨hx, -⟩ := rold_at ho
    rw [HK.out.1] at hx
    have hkl : k < L.length := (List.getElem?_eq_some_iff.1 hx).1
    have HX := Aside0.mk (And.intro hx hkl)
    have HO := Aside0.mk ho
    have c1b : decide ((k : Int) < (L.length : Int)) = true := decide_eq_true (Int.ofNat_lt.2 hkl); have c1n : decide (k < L.length) = true := decide_eq_true hkl; have c1q : (k < L.length) = True := eq_true hkl; have p0_ := eq_true (Int.natCast_nonneg k)
    clear hx hkl ho
    by_cases hi : inc ≤ x.inc
    · have hr : rBegin L id inc now hold = (6, L) := by unfold rBegin; rw [if_neg (by rw [HMAY.out]; decide), HO.out]; exact if_pos hi
      have HR := Aside0.mk hr
      have d1 : decide (inc ≤ x.inc) = true := decide_eq_true hi
      have d3 := eq_true hi
      clear hi hr
      go_upto_region 5 with (go_at_call 27; obtain ⟨A_, c_, R_, hm_, hc_, q_⟩ := ref_open HS.out; have hx_ := rfind_walk p A_ c_ R_ L id _ hm_ (rv1 q_).1 (sep_row' (sep_l1 q_)).2.2 (by have := HL.out; omega); rw [HO.out, HK.out.1] at hx_; dsimp only [Option.isSome] at hx_; (with_reducible refine Calls.mono hx_ ?_); rintro e w1 ⟨rfl, hb_⟩; have n_ := sep_below HS.out hb_; clear hx_ hb_ hm_ hc_ q_; have n0_ := Aside0.mk n_; clear HS n_; have HS := n0_; clear n0_)
      obtain ⟨A, c, R, hm, hc, n_⟩ := ref_open HS.out
      have HM := Aside0.mk hm
      obtain ⟨q, hq, hqx⟩ := MatL_get hm HX.out.1
      obtain ⟨g, hA⟩ := rit_addr (sep_l1 n_) (by rw [hm.1]; have := HX.out.2; omega)
      subst hA
      have n0_ := Aside0.mk n_; clear HS n_; have HS := n0_; clear n0_
      obtain ⟨⟨k0, k1, k2, k3, k4⟩, -⟩ := rit_now (sep_l1 HS.out) k q hq
      rw [hqx.2.1] at k1
      (try clear b1 b2); obtain ⟨b1, b2⟩ := rv1 HS.out
      clear hm hc hq hqx
      go_wp2
      go_ret
      rw [HR.out]
      exact ⟨rfl, ref_mk HM.out HS.out⟩
    · have hr : rBegin L id inc now hold = (0, rput (L.eraseIdx k) k ⟨id, inc, now, hold, []⟩) := by unfold rBegin; rw [if_neg (by rw [HMAY.out]; decide), HO.out, HK.out.1]; exact if_neg hi
      have HR := Aside0.mk hr
      have d1 : decide (inc ≤ x.inc) = false := decide_eq_false hi
      have d3 := eq_false hi
      have hlen : (L.eraseIdx k).length = L.length - 1 := List.length_eraseIdx_of_lt HX.out.2
      have HKL : Aside0 (k ≤ (L.eraseIdx k).length ∧ (L.eraseIdx k).length ≤ 900) := ⟨by have := HX.out.2; omega, by have := HL.out; omega⟩
      clear hi hr hlen
      go_upto_region 5 with (go_at_call 27; obtain ⟨A_, c_, R_, hm_, hc_, q_⟩ := ref_open HS.out; have hx_ := rfind_walk p A_ c_ R_ L id _ hm_ (rv1 q_).1 (sep_row' (sep_l1 q_)).2.2 (by have := HL.out; omega); rw [HO.out, HK.out.1] at hx_; dsimp only [Option.isSome] at hx_; (with_reducible refine Calls.mono hx_ ?_); rintro e w1 ⟨rfl, hb_⟩; have n_ := sep_below HS.out hb_; clear hx_ hb_ hm_ hc_ q_; have n0_ := Aside0.mk n_; clear HS n_; have HS := n0_; clear n0_)
      obtain ⟨A, c, R, hm, hc, n_⟩ := ref_open HS.out
      have HM := Aside0.mk hm
      obtain ⟨q, hq, hqx⟩ := MatL_get hm HX.out.1
      obtain ⟨g, hA⟩ := rit_addr (sep_l1 n_) (by rw [hm.1]; have := HX.out.2; omega)
      subst hA
      have n0_ := Aside0.mk n_; clear HS n_; have HS := n0_; clear n0_
      obtain ⟨⟨k0, k1, k2, k3, k4⟩, -⟩ := rit_now (sep_l1 HS.out) k q hq
      rw [hqx.2.1] at k1
      (try clear b1 b2); obtain ⟨b1, b2⟩ := rv1 HS.out
      clear hm hc hq hqx
      go_upto_region 7 with (fail)
      have n_ := ref_mk HM.out HS.out
      have n0_ := Aside0.mk n_; clear HS n_; have HS := n0_; clear n0_
      clear k0 k1 k2 k3 k4 b1 b2 HM
      go_upto_region 8 with (go_at_call 28; obtain ⟨ok_, hp_, hk_⟩ := sep_use1 HS.out; have hx_ := rcut_walk p L k _ ok_ HX.out.2 (by have := HL.out; omega) hp_; (with_reducible refine Calls.mono hx_ ?_); rintro e w1 ⟨rfl, hq_⟩; have n_ := back1 hk_ hq_; clear hx_ hp_ hk_ hq_; have n0_ := Aside0.mk n_; clear HS n_; have HS := n0_; clear n0_)
      clear f1 f2 f3 f4 f5 g1 g2 g3 g4 g5 d1 d3
      obtain ⟨LL, hLL⟩ : ∃ LL, L.eraseIdx k = LL := ⟨_, rfl⟩
      rw [hLL] at HS HKL HR
      clear hLL
      obtain ⟨A, c, R, hm, hc, n_⟩ := ref_open HS.out
      have HM := Aside0.mk hm
      have HCC := Aside0.mk hc
      have hcut := cut_plain A LL.length c k HKL.out.1 hc
      obtain ⟨hcutA, hcutB⟩ := hcut
      obtain ⟨A4, hA4⟩ : ∃ A4, (if c = k then A else A.map (·.add (k * 5))) = A4 := ⟨_, rfl⟩
      rw [hA4] at hcutB
      have HA4 := Aside0.mk hA4
      obtain ⟨hp1, hp2⟩ := put_mat hm k id inc now hold
      obtain ⟨R2, hr2⟩ : ∃ R2, R.take k ++ [nw id inc now hold] ++ R.drop k = R2 := ⟨_, rfl⟩
      rw [hr2] at hp1 hp2
      have HR2 := Aside0.mk hr2
      have HP2 := Aside0.mk (And.intro hp1 hp2)
      clear hm hc hA4 hp1 hp2 hr2
      replace n_ := sep_row_nil (d := ritK) (e := 70) n_
      have n0_ := Aside0.mk n_; clear HS n_; have HS := n0_; clear n0_
      go_upto_region 9 with (fail)
      (try clear b1 b2); obtain ⟨b1, b2⟩ := rv1 (sep_l1 HS.out)
      go_upto_region 10 with ((with_reducible refine gate_builtin (b := .append) (xs := #[.tmp 52, .tmp 58]) rfl ?_); at_builtin; refine wp_append_rows ritK rfl (.tmp 52) (.tmp 58) 27 70 z53 56 rfl Try.underlying27 info70 rfl (by decide) (by decide) _ ([]) (R.take k) (A) (k) (c) (by rfl) (by rfl) HS.out (ritc _ R (sep_row' (sep_l2 HS.out)).2.2 k (by have := HKL.out; have := HM.out.1; omega)) (fun x cs hk => by rw [ritK_open hk]; exact ritK_M _ _ _ _) (by have := HKL.out; simp only [List.length_nil]; omega) ?_; intro v1 w1 n_; rw [List.nil_append] at n_; have n0_ := Aside0.mk n_; clear HS n_; have HS := n0_; clear n0_; (try clear b1 b2); obtain ⟨b1, b2⟩ := rv1 (sep_l1 HS.out))
      go_upto_region 11 with ((with_reducible refine gate_builtin (b := .append) (xs := #[.tmp 60, .tmp 66]) rfl ?_); at_builtin; refine wp_append ritK rfl (.tmp 60) (.tmp 66) 27 70 z53 56 rfl Try.underlying27 info70 rfl (by decide) (by decide) _ (R.take k) (nw id inc now hold) (nw id inc now hold).cells (by rfl) (by rfl) (ritK_M _ _ _ _) HS.out (by have := HKL.out; rw [List.length_take]; omega) ?_; intro v2 w3 n_; have n0_ := Aside0.mk n_; clear HS n_; have HS := n0_; clear n0_; (try clear b1 b2); obtain ⟨b1, b2⟩ := rv1 (sep_l1 HS.out))
      go_upto_region 12 with ((with_reducible refine gate_builtin (b := .append) (xs := #[.tmp 69, .tmp 75]) rfl ?_); at_builtin; refine wp_append_rows ritK rfl (.tmp 69) (.tmp 75) 27 70 z53 56 rfl Try.underlying27 info70 rfl (by decide) (by decide) _ (R.take k ++ [nw id inc now hold]) (R.drop k) (A4) (LL.length - k) (c - k) (by rfl) (by rfl) HS.out ((by have h := Kd.C_drop (m := k) (sep_row' (sep_l2 HS.out)).2.2 (by have := HKL.out; have := HM.out.1; omega) (by rw [HM.out.1]; exact HCC.out); rw [List.length_drop, HM.out.1] at h; rw [← HA4.out]; exact h)) (fun x cs hk => by rw [ritK_open hk]; exact ritK_M _ _ _ _) (by have := HKL.out; rw [List.length_append, List.length_take, List.length_singleton]; omega) ?_; intro v1 w1 n_; rw [HR2.out] at n_; obtain ⟨A3, c3, rfl, -, -⟩ := sep_row n_; have n0_ := Aside0.mk n_; clear HS n_; have HS := n0_; clear n0_; (try clear b1 b2); obtain ⟨b1, b2⟩ := rv1 (sep_l1 HS.out))
      have n_ := sep_l2 (sep_drop (sep_l2 (sep_set (sep_l1 HS.out) 0 (.slice A3 R2.length c3))))
      have n0_ := Aside0.mk n_; clear HS n_; have HS := n0_; clear n0_
      have n_ := ref_mk HP2.out.1 (sep_l2 (sep_l2 (sep_pool_sub (sep_pool_app (sep_row_pool (sep_row_nil (d := Kd.int .i64) (e := 3) HS.out))) HP2.out.2)))
      have n0_ := Aside0.mk n_; clear HS n_; have HS := n0_; clear n0_
      go_wp2
      go_ret
      rw [HR.out]
      exact ⟨rfl, HS.out⟩
end Go.Proofs.Ythoppcefadopeaa.DW
/- The reference's doubts, walked: Confirm. Conditions: those that each theorem names. -/
namespace Go.Proofs.Ythoppcefadopeaa.DW
set_option linter.unusedVariables false
set_option linter.unusedSimpArgs false
open Go Go.RowKit Go.Proofs.YthoppcefadopeaaS Go.Proofs.YthoppcefadopeaaS.Asn Go.Proofs.Ythoppcefadopeaa.PA Go.Proofs.YthoppcefadopeaaW.PrintWords Go.Proofs.YthoppcefadopeaaW.PrintLast Go.Proofs.YthoppcefadopeaaW.PrintMore

theorem h_take {P : Program} {md : Region.Mode} {l : List Oper} {Q : Exit → Act → World → Prop} {S : World → Prop} (i : Nat) {oi : Oper} {v : Value} {fuel : Nat} {listed : Array Bool} {a : Act} {w : World} (hS : S w) (hi : l[i]? = some oi)
    (hs : Region.noSelect l.toArray = true) (hf : Region.free md l.toArray listed i = true) (hr : (Region.ready md l.toArray listed).contains i = true) (hQ : ∀ c a w, Q (.panic c) (a.put oi.dst v) w → Q (.panic c) a w)
    (hw : Region.wanted oi (yielded l.toArray a.tmps) = true) (hy : ∀ w, S w → (execOp a.eval oi).run P w = .ok (.value v) w)
    (h : wpAnyH P md l.toArray Q S fuel (listed.setIfInBounds i true) (a.put oi.dst v) w) : wpAnyH P md l.toArray Q S (fuel + 1) listed a w :=
  wpAnyH_take (by rw [List.getElem?_toArray]; exact hi) hs hf hr hQ (Or.inl ⟨hw, hy⟩) hS h
theorem h_one {P : Program} {md : Region.Mode} {l : List Oper} {Q : Exit → Act → World → Prop} {S : World → Prop} (i : Nat) {oi : Oper} {fuel : Nat} {listed : Array Bool} {a : Act} {w : World}
    (hr : Region.ready md l.toArray listed = [i]) (hi : l[i]? = some oi) (hw : Region.wanted oi (yielded l.toArray a.tmps) = true)
    (h : ∀ K : Act → World → Prop, Shut (∀ a w, S w → (S w → wpAnyH P md l.toArray Q S fuel (listed.setIfInBounds i true) a w) → K a w) → Oper.wp P oi a w K Q) : wpAnyH P md l.toArray Q S (fuel + 1) listed a w :=
  wpAnyH_ready hr (by simp) (AllReadyH.cons (by rw [List.getElem?_toArray]; exact hi) (fun K hK => by rw [if_pos hw]; exact h K hK) AllReadyH.nil)
theorem h_two {P : Program} {md : Region.Mode} {l : List Oper} {Q : Exit → Act → World → Prop} {S : World → Prop} (i j : Nat) {oi oj : Oper} {fuel : Nat} {listed : Array Bool} {a : Act} {w : World}
    (hr : Region.ready md l.toArray listed = [i, j]) (hi : l[i]? = some oi) (hj : l[j]? = some oj) (hw : Region.wanted oi (yielded l.toArray a.tmps) = true) (hw2 : Region.wanted oj (yielded l.toArray a.tmps) = true)
    (h : ∀ K : Act → World → Prop, Shut (∀ a w, S w → (S w → wpAnyH P md l.toArray Q S fuel (listed.setIfInBounds i true) a w) → K a w) → Oper.wp P oi a w K Q)
    (h2 : ∀ K : Act → World → Prop, Shut (∀ a w, S w → (S w → wpAnyH P md l.toArray Q S fuel (listed.setIfInBounds j true) a w) → K a w) → Oper.wp P oj a w K Q) : wpAnyH P md l.toArray Q S (fuel + 1) listed a w :=
  wpAnyH_ready hr (by simp) (AllReadyH.cons (by rw [List.getElem?_toArray]; exact hi) (fun K hK => by rw [if_pos hw]; exact h K hK) (AllReadyH.cons (by rw [List.getElem?_toArray]; exact hj) (fun K hK => by rw [if_pos hw2]; exact h2 K hK) AllReadyH.nil))
theorem h_raw {P : Program} {md : Region.Mode} {l : List Oper} {Q : Exit → Act → World → Prop} {S : World → Prop} (i : Nat) {oi : Oper} {fuel : Nat} {listed : Array Bool} {a : Act} {w : World}
    (hr : Region.ready md l.toArray listed = [i]) (hi : l[i]? = some oi)
    (h : ∀ K : Act → World → Prop, Shut (∀ a w, S w → (S w → wpAnyH P md l.toArray Q S fuel (listed.setIfInBounds i true) a w) → K a w) → if Region.wanted oi (yielded l.toArray a.tmps) = true then Oper.wp P oi a w K Q else K (a.put oi.dst undef) w) : wpAnyH P md l.toArray Q S (fuel + 1) listed a w :=
  wpAnyH_ready hr (by simp) (AllReadyH.cons (by rw [List.getElem?_toArray]; exact hi) (fun K hK => h K hK) AllReadyH.nil)
theorem keepD {w0 w' : World} {ok0 : Nat → Prop} {F F' : Asn} {p g n c k : Nat} {v : Value} {R : List RIt} {L : List It} (h : Sep w0 ok0 (pt p #[v] 29 ⋆ F) w') (h2 : Sep w0 ok0 (row ritK 70 (.slice (some ⟨g, 0, none⟩) n c) R ⋆ F') w') (hk : k < L.length) (hm : R.length = L.length) : w'.cell? ⟨p, 0, none⟩ = some v ∧ w'.frozen? ⟨g, k * 5 + 4, none⟩ = false :=
  ⟨(rv1 h).1, (rit_now h2 k _ (List.getElem?_eq_getElem (show k < R.length by omega))).2 _⟩
theorem keepE {w0 w' : World} {ok0 : Nat → Prop} {A F : Asn} {p g n c k : Nat} {v : Value} {R : List RIt} {y : RIt} {L : List It} (h : Sep w0 ok0 (row ritK 70 (.slice (some ⟨g, 0, none⟩) n c) (R.set k y) ⋆ A ⋆ pt p #[v] 29 ⋆ F) w') (hk : k < L.length) (hm : R.length = L.length) : w'.cell? ⟨p, 0, none⟩ = some v ∧ w'.frozen? ⟨g, k * 5 + 4, none⟩ = false :=
  keepD (k := k) (sep_l2 h) h hk (by rw [List.length_set]; exact hm)
theorem int_at {w : World} {A : Option Addr} {l : List Int} (h : (Kd.int .i64).C w A l.length l) (i : Nat) (y : Int) (hy : l[i]? = some y) : ∃ ad, A = some ad ∧ w.cell? (ad.add i) = some (.int .i64 y) := by
  obtain ⟨h0, h1, h2⟩ := h
  have hi : i < l.length := (List.getElem?_eq_some_iff.1 hy).1
  obtain ⟨ad, rfl, hc⟩ := h2 (by omega)
  obtain ⟨cs, hl, hk, hcell⟩ := hc i y hy
  obtain rfl : cs = [.int .i64 y] := hk
  have := hcell 0 _ rfl
  rw [show i * (Kd.int .i64).sz + 0 = i from Nat.mul_one i] at this
  exact ⟨ad, rfl, this⟩
theorem pos_is {l : List Int} {x : Int} {j : Nat} (hs : l.Pairwise (· < ·)) (h1 : ∀ y ∈ l.take j, y < x) (h2 : l.length ≤ j ∨ ∃ y, l[j]? = some y ∧ x ≤ y) (hj : j ≤ l.length) : pos l x = j := by
  unfold pos
  have e : l.countP (· < x) = (l.take j).countP (· < x) + (l.drop j).countP (· < x) := by rw [← List.countP_append, List.take_append_drop]
  have e1 : (l.take j).countP (· < x) = j := by
    rw [List.countP_eq_length.2 (fun y hy => by simpa using h1 y hy), List.length_take]
    omega
  have e2 : (l.drop j).countP (· < x) = 0 := by
    refine List.countP_eq_zero.2 (fun y hy => ?_)
    rcases h2 with h2 | ⟨z, hz, hxz⟩
    · rw [List.drop_eq_nil_of_le h2] at hy; cases hy
    · obtain ⟨hjl, rfl⟩ := List.getElem?_eq_some_iff.1 hz
      rw [List.drop_eq_getElem_cons hjl] at hy
      have hd := List.Pairwise.drop (i := j) hs
      rw [List.drop_eq_getElem_cons hjl] at hd
      rcases List.mem_cons.1 hy with rfl | hy
      · simpa using hxz
      · have := (List.pairwise_cons.1 hd).1 y hy
        simp
        omega
  omega
theorem has_not {l : List Int} {x : Int} (hs : l.Pairwise (· < ·)) (h : l[pos l x]? ≠ some x) : l.contains x = false := by
  obtain ⟨i1, i2⟩ := pos_split l x hs
  cases hc : l.contains x with
  | false => rfl
  | true =>
    exfalso
    have hm : x ∈ l := by simpa using hc
    rw [← List.take_append_drop (pos l x) l] at hm
    rcases List.mem_append.1 hm with hm | hm
    · have := i1 x hm; omega
    · have hd := List.Pairwise.drop (i := pos l x) hs
      have hlt : pos l x < l.length := by
        rcases Nat.lt_or_ge (pos l x) l.length with h | h
        · exact h
        · rw [List.drop_eq_nil_of_le h] at hm; cases hm
      rw [List.drop_eq_getElem_cons hlt] at hd hm i2
      have h3 := i2 _ List.mem_cons_self
      rcases List.mem_cons.1 hm with hm | hm
      · exact h (by rw [List.getElem?_eq_getElem hlt, ← hm])
      · have := (List.pairwise_cons.1 hd).1 x hm; omega
theorem cut51 (A : Option Addr) (n c k : Nat) (hk : k ≤ n) (hc : n ≤ c) : (∀ W : World, (Instr.slice 51 (.slice A n c) none (some (.int .i64 (k : Int))) none).run Try.prog W = .ok (.slice A k c) W) ∧ ∀ W : World, (Instr.slice 51 (.slice A n c) (some (.int .i64 (k : Int))) none none).run Try.prog W = .ok (.slice (if c = k then A else A.map (·.add (k * 1))) (n - k) (c - k)) W := by
  obtain ⟨i0, hi0, hz_⟩ := Option.map_eq_some_iff.1 info3
  have hsz0 : i0.size = 1 := by injection hz_ with _ h1; injection h1
  refine ⟨cut_to (P := Try.prog) 51 3 .i64 Try.underlying51 hi0 A n c (k : Int) (by omega) (by omega) hc, ?_⟩
  have := cut_from (P := Try.prog) 51 3 .i64 Try.underlying51 hi0 1 hsz0 A n c (k : Int) (by omega) (by omega)
  rw [Int.toNat_natCast] at this
  exact this
set_option maxHeartbeats 4000000 in
set_option maxRecDepth 100000 in
theorem rConfirm_walk (p : Nat) (L : List It) (id inc who : Int) (w : World) (ok : Nat → Prop) (hl : L.length ≤ 900) (hg : ∀ x ∈ L, GoodIt x) (h : (refD p L ⋆ emp).H w ok) :
    Calls Try.prog 12 #[.pointer (some ⟨p, 0, none⟩), .int .i64 id, .int .u32 inc, .int .i64 who] w fun e w' => e = .returned (.int .i64 (rConfirm L id inc who).1) ∧ Sep w ok (refD p (rConfirm L id inc who).2 ⋆ emp) w' := by
  have HS := Aside0.mk (sep_begin h)
  have HL := Aside0.mk hl
  have HGD := Aside0.mk hg
  clear h hl hg
  go_enter Try.func12, Try.ntmps12
  by_cases a1 : who < 1
  · have f1 : decide (who < 1) = true := decide_eq_true a1
    go_wp2
    go_ret
    have hr : rConfirm L id inc who = (1, L) := by unfold rConfirm; rw [if_pos (.inl (decide_eq_false (by omega)))]
    rw [hr]
    exact ⟨rfl, HS.out⟩
  have f1 : decide (who < 1) = false := decide_eq_false a1
  have g1 := eq_false a1
  by_cases a2 : 32 < who
  · have f2 : decide (32 < who) = true := decide_eq_true a2
    go_wp2
    go_ret
    have hr : rConfirm L id inc who = (1, L) := by unfold rConfirm; rw [if_pos (.inl (decide_eq_false (by omega)))]
    rw [hr]
    exact ⟨rfl, HS.out⟩
  have f2 : decide (32 < who) = false := decide_eq_false a2
  have g2 := eq_false a2
  by_cases a3 : who = id
  · have f3 : (who == id) = true := by simpa using a3
    have f4 := eq_true a3
    have HA3 := Aside0.mk a3
    clear a3
    go_wp2
    go_ret
    have hr : rConfirm L id inc who = (1, L) := by unfold rConfirm; rw [if_pos (.inr HA3.out)]
    rw [hr]
    exact ⟨rfl, HS.out⟩
  have f3 : (who == id) = false := by simpa using a3
  have g3 := eq_false a3
  have HN : Aside0 (¬ (node who = false ∨ who = id)) := ⟨by
    rintro (h | h)
    · exact absurd (show 1 ≤ who ∧ who ≤ 32 by omega) (of_decide_eq_false h)
    · exact a3 h⟩
  have HW : Aside0 (1 ≤ who ∧ who ≤ 32) := ⟨by omega⟩
  obtain ⟨k, hk⟩ : ∃ k, rfind L id = k := ⟨_, rfl⟩
  have hkl := find_le L id
  rw [hk] at hkl
  have HK := Aside0.mk (And.intro hk hkl)
  clear a1 a2 a3 hk hkl
  cases ho : rold L id with
  | none =>
    have hr : rConfirm L id inc who = (5, L) := by unfold rConfirm; rw [if_neg HN.out, ho]
    have HR := Aside0.mk hr
    have HO := Aside0.mk ho
    clear hr ho
    go_wp2_with (go_at_call 27; obtain ⟨A_, c_, R_, hm_, hc_, q_⟩ := ref_open HS.out; have hx_ := rfind_walk p A_ c_ R_ L id _ hm_ (rv1 q_).1 (sep_row' (sep_l1 q_)).2.2 (by have := HL.out; omega); rw [HO.out, HK.out.1] at hx_; dsimp only [Option.isSome] at hx_; (with_reducible refine Calls.mono hx_ ?_); rintro e w1 ⟨rfl, hb_⟩; have n_ := sep_below HS.out hb_; clear hx_ hb_ hm_ hc_ q_; have n0_ := Aside0.mk n_; clear HS n_; have HS := n0_; clear n0_)
    go_ret
    rw [HR.out]
    exact ⟨rfl, HS.out⟩
  | some x =>
    obtain ⟨hx, -⟩ := rold_at ho
    rw [HK.out.1] at hx
    have hkl : k < L.length := (List.getElem?_eq_some_iff.1 hx).1
    have HX := Aside0.mk (And.intro hx hkl)
    have HO := Aside0.mk ho
    have HGX := Aside0.mk (HGD.out x (List.mem_of_getElem? hx))
    have c1b : decide ((k : Int) < (L.length : Int)) = true := decide_eq_true (Int.ofNat_lt.2 hkl); have c1n : decide (k < L.length) = true := decide_eq_true hkl; have c1q : (k < L.length) = True := eq_true hkl; have p0_ := eq_true (Int.natCast_nonneg k)
    clear hx hkl ho
    by_cases hi : x.inc = inc
    · have d1 : (x.inc != inc) = false := by simpa using hi
      have d2 : (x.inc == inc) = true := by simpa using hi
      have d3 := eq_true hi
      have hr : rConfirm L id inc who = if x.who.contains who = true then (6, L) else (0, L.set k { x with who := ins x.who who }) := by unfold rConfirm; rw [if_neg HN.out, HO.out, HK.out.1]; exact if_neg (fun h => h hi)
      have HR := Aside0.mk hr
      clear hi hr
      go_upto_region 4 with (go_at_call 27; obtain ⟨A_, c_, R_, hm_, hc_, q_⟩ := ref_open HS.out; have hx_ := rfind_walk p A_ c_ R_ L id _ hm_ (rv1 q_).1 (sep_row' (sep_l1 q_)).2.2 (by have := HL.out; omega); rw [HO.out, HK.out.1] at hx_; dsimp only [Option.isSome] at hx_; (with_reducible refine Calls.mono hx_ ?_); rintro e w1 ⟨rfl, hb_⟩; have n_ := sep_below HS.out hb_; clear hx_ hb_ hm_ hc_ q_; have n0_ := Aside0.mk n_; clear HS n_; have HS := n0_; clear n0_)
      obtain ⟨A, c, R, hm, hc, n_⟩ := ref_open HS.out
      have HM := Aside0.mk hm
      obtain ⟨q, hq, hqx⟩ := MatL_get hm HX.out.1
      have HQ := Aside0.mk (And.intro hq hqx)
      obtain ⟨g, hA⟩ := rit_addr (sep_l1 n_) (by rw [hm.1]; have := HX.out.2; omega)
      subst hA
      have n0_ := Aside0.mk n_; clear HS n_; have HS := n0_; clear n0_
      obtain ⟨⟨k0, k1, k2, k3, k4⟩, -⟩ := rit_now (sep_l1 HS.out) k q hq
      rw [hqx.2.1] at k1
      rw [hqx.2.2.2.2.1] at k4
      (try clear b1 b2); obtain ⟨b1, b2⟩ := rv1 HS.out
      clear hm hc hq hqx
      go_upto_region 8 with (fail)
      clear d1 d2 d3 f1 f2 f3 g1 g2 g3 b1 b2 k0 k1 k2 k3 k4
      obtain ⟨xs, hxs⟩ : ∃ xs, x.who = xs := ⟨_, rfl⟩
      have HXS := Aside0.mk hxs
      have hqc := HQ.out.2.2.2.2.2.2
      have hsort := HGX.out.sorted
      have hfew := HGX.out.few
      rw [hxs] at hqc hsort hfew
      have hpm := poolOf_at HQ.out.1 HX.out.1
      rw [hxs] at hpm
      have HPM := Aside0.mk hpm
      have HQC := Aside0.mk (And.intro hqc (And.intro hsort hfew))
      have hr := HR.out
      rw [hxs] at hr ⊢
      clear HR
      have HR := Aside0.mk hr
      obtain ⟨Aq, hAq⟩ : ∃ a, q.A = a := ⟨_, rfl⟩
      have HAQ := Aside0.mk hAq
      rw [hAq] at hpm ⊢
      clear HPM
      have HPM := Aside0.mk hpm
      clear hr hxs hqc hsort hfew hpm hAq
      go_loopg [12] xs.length (fun gg v12 wr => ∃ j : Nat, j ≤ xs.length ∧ xs.length - j ≤ gg ∧ v12 = .int .i64 (j : Int) ∧ Aside0 (∀ y ∈ xs.take j, y < who) ∧ Aside0 (Sep w ok (pt p #[.slice (some ⟨g, 0, none⟩) L.length c] 29 ⋆ row ritK 70 (.slice (some ⟨g, 0, none⟩) L.length c) R ⋆ pool (Kd.int .i64) (poolOf R L) ⋆ emp) wr))
      case atStart => exact ⟨0, Nat.zero_le _, by omega, rfl, ⟨fun y hy => by simp at hy⟩, HS⟩
      case round =>
        clear HS
        obtain ⟨j, hj, hgj, rfl, HB, HS⟩ := hrel
        by_cases hlt : j < xs.length
        · have c1b : decide ((j : Int) < (xs.length : Int)) = true := decide_eq_true (Int.ofNat_lt.2 hlt); have c1n : decide (j < xs.length) = true := decide_eq_true hlt; have c1q : (j < xs.length) = True := eq_true hlt; have p0_ := eq_true (Int.natCast_nonneg j)
          obtain ⟨y, hy⟩ : ∃ y, xs[j]? = some y := ⟨_, List.getElem?_eq_getElem hlt⟩
          obtain ⟨ad, rfl, ky⟩ := int_at (sep_pool_at (sep_l2 HS.out) HPM.out) j y hy
          have HI := Aside0.mk (And.intro hlt hgj)
          have HY := Aside0.mk hy
          clear hj hgj hlt hy
          by_cases hyw : y < who
          · have e1 : decide (y < who) = true := decide_eq_true hyw
            have e2 := eq_true hyw
            have HYW := Aside0.mk hyw
            clear hyw
            go_wp2
            go_roundg (xs.length - (j + 1))
            case measure => have := HI.out; omega
            case rel =>
              refine ⟨j + 1, HI.out.1, Nat.le_refl _, congrArg (Value.int .i64) (by have := HI.out; have := HQC.out; unfold wrap64; omega), ⟨fun z hz => ?_⟩, HS⟩
              rw [List.take_add_one, HY.out] at hz
              rcases List.mem_append.1 hz with hz | hz
              · exact HB.out z hz
              · rw [List.mem_singleton.1 hz]; exact HYW.out
          · have e1 : decide (y < who) = false := decide_eq_false hyw
            have e2 := eq_false hyw
            have HPOS := Aside0.mk (pos_is HQC.out.2.1 HB.out (.inr ⟨y, HY.out, by omega⟩) (Nat.le_of_lt HI.out.1))
            by_cases hyq : y = who
            · have e3 : (y == who) = true := by simpa using hyq
              have e4 := eq_true hyq
              have hc : xs.contains who = true := by rw [← hyq]; simpa using List.mem_of_getElem? HY.out
              have hr := HR.out
              rw [if_pos hc] at hr
              clear HR
              have HR := Aside0.mk hr
              clear hyw hyq hc hr
              go_wp2
              go_ret
              rw [HR.out]
              exact ⟨rfl, ref_mk HM.out HS.out⟩
            · have e3 : (y == who) = false := by simpa using hyq
              have e4 := eq_false hyq
              have hc : xs.contains who = false := has_not HQC.out.2.1 (by rw [HPOS.out, HY.out]; simpa using hyq)
              have hr := HR.out
              rw [if_neg (by rw [hc]; decide)] at hr
              clear HR
              have HR := Aside0.mk hr
              clear hyw hyq hc hr
              go_upto_region 12 with (fail)
              clear ky e1 e2 e3 e4
              have hqc := HQC.out.1
              obtain ⟨hcutA, hcutB⟩ := cut51 (some ad) xs.length q.c j ((Nat.le_of_lt HI.out.1)) hqc
              obtain ⟨A4, hA4⟩ : ∃ A4, (if q.c = j then (some ad) else ((some ad)).map (·.add (j * 1))) = A4 := ⟨_, rfl⟩
              rw [hA4] at hcutB
              have HA4 := Aside0.mk hA4
              have hins : xs.take j ++ [who] ++ xs.drop j = ins xs who := by unfold ins; rw [HPOS.out]
              have HINS := Aside0.mk hins
              have HJ := Aside0.mk (show j ≤ xs.length from (Nat.le_of_lt HI.out.1))
              clear hqc hA4 hins
              have n_ := sep_row_nil (d := Kd.int .i64) (e := 3) HS.out
              have n0_ := Aside0.mk n_; clear HS n_; have HS := n0_; clear n0_
              go_upto_region 14 with ((with_reducible refine gate_builtin (b := .append) (xs := #[.tmp 79, .tmp 82]) rfl ?_); at_builtin; refine wp_append_rows (Kd.int .i64) rfl (.tmp 79) (.tmp 82) 51 3 (.int .i64 0) 8 rfl Try.underlying51 info3 rfl (by decide) (by decide) _ [] (xs.take j) ((some ad)) j q.c (by rfl) (by rfl) HS.out (by have h := Kd.C_take (sep_pool_at (sep_l3 HS.out) HPM.out) HJ.out; rw [List.length_take, Nat.min_eq_left HJ.out] at h; exact h) (fun x cs hk => hk) (by have := HQC.out; have := HJ.out; simp only [List.length_nil]; omega) ?_; intro v1 w2 n_; rw [List.nil_append] at n_; have n0_ := Aside0.mk n_; clear HS n_; have HS := n0_; clear n0_)
              go_upto_region 15 with ((with_reducible refine gate_builtin (b := .append) (xs := #[.tmp 84, .tmp 86]) rfl ?_); at_builtin; refine wp_append (Kd.int .i64) rfl (.tmp 84) (.tmp 86) 51 3 (.int .i64 0) 8 rfl Try.underlying51 info3 rfl (by decide) (by decide) _ (xs.take j) who [.int .i64 who] (by rfl) (by rfl) rfl HS.out (by have := HQC.out; rw [List.length_take]; omega) ?_; intro v2 w3 n_; have n0_ := Aside0.mk n_; clear HS n_; have HS := n0_; clear n0_)
              have n_ := sep_drew HS.out
              have n0_ := Aside0.mk n_; clear HS n_; have HS := n0_; clear n0_
              obtain ⟨kp1, kp2⟩ := keepD (k := k) (sep_l1 HS.out) (sep_l2 HS.out) HX.out.2 HM.out.1
              obtain ⟨⟨-, -, -, -, t1⟩, -⟩ := rit_now (sep_l2 HS.out) k q HQ.out.1
              refine wp_region_held_drew (S := (fun w' => w'.cell? ⟨p, 0, none⟩ = some (.slice (some ⟨g, 0, none⟩) L.length c) ∧ w'.frozen? ⟨g, k * 5 + 4, none⟩ = false)) (by kernel_rfl) ⟨kp1, kp2⟩ (fun hHeld => ?_)
              (refine h_take 0 (by assumption) rfl (by decide +kernel) (by decide +kernel) (by decide +kernel) (fun _ _ _ h => h) (by rfl) (by intro w hSw; (try dsimp only at hSw); go_simp; all_goals (with_reducible rfl)) ?_; simp only [Act.put, List.setIfInBounds_toArray, List.set_cons_zero, List.set_cons_succ])
              (refine h_take 1 (by assumption) rfl (by decide +kernel) (by decide +kernel) (by decide +kernel) (fun _ _ _ h => h) (by rfl) (by intro w hSw; (try dsimp only at hSw); go_simp; all_goals (with_reducible rfl)) ?_; simp only [Act.put, List.setIfInBounds_toArray, List.set_cons_zero, List.set_cons_succ])
              (refine h_take 2 (by assumption) rfl (by decide +kernel) (by decide +kernel) (by decide +kernel) (fun _ _ _ h => h) (by rfl) (by intro w hSw; (try dsimp only at hSw); go_simp; all_goals (with_reducible rfl)) ?_; simp only [Act.put, List.setIfInBounds_toArray, List.set_cons_zero, List.set_cons_succ])
              (refine h_take 3 (by assumption) rfl (by decide +kernel) (by decide +kernel) (by decide +kernel) (fun _ _ _ h => h) (by rfl) (by intro w hSw; (try dsimp only at hSw); go_simp; all_goals (with_reducible rfl)) ?_; simp only [Act.put, List.setIfInBounds_toArray, List.set_cons_zero, List.set_cons_succ])
              (refine h_take 4 (by assumption) rfl (by decide +kernel) (by decide +kernel) (by decide +kernel) (fun _ _ _ h => h) (by rfl) (by intro w hSw; (try dsimp only at hSw); go_simp; all_goals (with_reducible rfl)) ?_; simp only [Act.put, List.setIfInBounds_toArray, List.set_cons_zero, List.set_cons_succ])
              (refine h_take 5 (by assumption) rfl (by decide +kernel) (by decide +kernel) (by decide +kernel) (fun _ _ _ h => h) (by rfl) (by intro w hSw; (try dsimp only at hSw); go_simp; all_goals (with_reducible rfl)) ?_; simp only [Act.put, List.setIfInBounds_toArray, List.set_cons_zero, List.set_cons_succ])
              (refine h_take 6 (by assumption) rfl (by decide +kernel) (by decide +kernel) (by decide +kernel) (fun _ _ _ h => h) (by rfl) (by intro w hSw; (try dsimp only at hSw); go_simp; all_goals (with_reducible rfl)) ?_; simp only [Act.put, List.setIfInBounds_toArray, List.set_cons_zero, List.set_cons_succ])
              (refine h_take 7 (by assumption) rfl (by decide +kernel) (by decide +kernel) (by decide +kernel) (fun _ _ _ h => h) (by rfl) (by intro w hSw; (try dsimp only at hSw); go_simp; all_goals (with_reducible rfl)) ?_; simp only [Act.put, List.setIfInBounds_toArray, List.set_cons_zero, List.set_cons_succ])
              (refine h_take 8 (by assumption) rfl (by decide +kernel) (by decide +kernel) (by decide +kernel) (fun _ _ _ h => h) (by rfl) (by intro w hSw; (try dsimp only at hSw); go_simp; all_goals (with_reducible rfl)) ?_; simp only [Act.put, List.setIfInBounds_toArray, List.set_cons_zero, List.set_cons_succ])
              refine h_raw 9 (by kernel_rfl) rfl (fun K hK => ?_)
              refine step_append_rows (w0 := w) (ok0 := ok) (Kd.int .i64) (by rfl) (.tmp 93) (.tmp 96) 51 3 (.int .i64 0) 8 rfl Try.underlying51 info3 rfl (by decide) (by decide) _ (xs.take j ++ [who]) (xs.drop j) A4 (xs.length - j) (q.c - j) (by rfl) (by rfl) HS.out (by have h := Kd.C_drop (m := j) (sep_pool_at (sep_l3 HS.out) HPM.out) HJ.out HQC.out.1; rw [List.length_drop] at h; rw [← HA4.out]; exact h) (fun x cs hk => hk) (by have := HQC.out; have := HJ.out; rw [List.length_append, List.length_take, List.length_singleton]; omega) (fun v3 w5 hs => ?_)
              rw [HINS.out] at hs
              clear HS kp1 kp2 t1
              obtain ⟨A5, c5, rfl, hc5, -⟩ := sep_row hs
              have HC5 := Aside0.mk hc5
              have HS := Aside0.mk hs
              clear hs hc5
              obtain ⟨kp1, kp2⟩ := keepD (k := k) (sep_l1 HS.out) (sep_l2 HS.out) HX.out.2 HM.out.1
              obtain ⟨⟨-, -, -, -, t1⟩, -⟩ := rit_now (sep_l2 HS.out) k q HQ.out.1
              clear hHeld
              ((first | refine hK.out _ _ (⟨kp1, kp2⟩) (fun hHeld => ?_) | (go_wp2_with fail; refine hK.out _ _ (⟨kp1, kp2⟩) (fun hHeld => ?_))); clear hK K; (try simp only [Act.put, List.setIfInBounds_toArray, List.set_cons_zero, List.set_cons_succ]))
              (refine h_take 10 (by assumption) rfl (by decide +kernel) (by decide +kernel) (by decide +kernel) (fun _ _ _ h => h) (by rfl) (by intro w hSw; (try dsimp only at hSw); go_simp; all_goals (with_reducible rfl)) ?_; simp only [Act.put, List.setIfInBounds_toArray, List.set_cons_zero, List.set_cons_succ])
              (refine h_take 11 (by assumption) rfl (by decide +kernel) (by decide +kernel) (by decide +kernel) (fun _ _ _ h => h) (by rfl) (by intro w hSw; (try dsimp only at hSw); go_simp; all_goals (with_reducible rfl)) ?_; simp only [Act.put, List.setIfInBounds_toArray, List.set_cons_zero, List.set_cons_succ])
              (refine h_one 12 (by kernel_rfl) rfl (by rfl) (fun K hK => ?_); go_simp; skip; clear hHeld; ((first | refine hK.out _ _ ((keepE (sep_rit_set (sep_l2 HS.out) k q ⟨q.id, q.inc, q.since, q.hold, A5, (ins xs who).length, c5⟩ (.slice A5 (ins xs who).length c5) HQ.out.1 rfl) HX.out.2 HM.out.1)) (fun hHeld => ?_) | (go_wp2_with fail; refine hK.out _ _ ((keepE (sep_rit_set (sep_l2 HS.out) k q ⟨q.id, q.inc, q.since, q.hold, A5, (ins xs who).length, c5⟩ (.slice A5 (ins xs who).length c5) HQ.out.1 rfl) HX.out.2 HM.out.1)) (fun hHeld => ?_))); clear hK K; (try simp only [Act.put, List.setIfInBounds_toArray, List.set_cons_zero, List.set_cons_succ])))
              refine wpAnyH_done (by kernel_rfl) ?_ _
              have n_ := sep_rit_set (sep_l2 HS.out) k q ⟨q.id, q.inc, q.since, q.hold, A5, (ins xs who).length, c5⟩ (.slice A5 (ins xs who).length c5) HQ.out.1 rfl
              have hm2 : MatL (R.set k ⟨q.id, q.inc, q.since, q.hold, A5, (ins xs who).length, c5⟩) (L.set k { x with who := ins xs who }) := MatL_set (r := ⟨q.id, q.inc, q.since, q.hold, A5, (ins xs who).length, c5⟩) (x := { x with who := ins xs who }) HM.out ⟨HQ.out.2.1, HQ.out.2.2.1, HQ.out.2.2.2.1, HQ.out.2.2.2.2.1, rfl, HC5.out⟩ k
              replace n_ := sep_l2 (sep_l1 (sep_pool_sub (M := poolOf (R.set k ⟨q.id, q.inc, q.since, q.hold, A5, (ins xs who).length, c5⟩) (L.set k { x with who := ins xs who })) (sep_pool_app (sep_row_pool (sep_l1 (sep_l3 (sep_l1 n_))))) (poolOf_set k)))
              clear hHeld
              have n0_ := Aside0.mk n_; clear HS n_; have HS := n0_; clear n0_
              go_wp2
              go_ret
              rw [HR.out]
              exact ⟨rfl, ref_mk hm2 HS.out⟩
        · have hje : j = xs.length := by omega
          have c2b : decide ((j : Int) < (xs.length : Int)) = false := decide_eq_false (by omega)
          have c2n : decide (j < xs.length) = false := decide_eq_false (by omega)
          have c2q : (j < xs.length) = False := eq_false (by omega)
          have c2r : ((j : Int) < (xs.length : Int)) = False := eq_false (by omega)
          have HJ2 := Aside0.mk hje
          have p1_ := eq_true (Int.natCast_nonneg j)
          have HPOS := Aside0.mk (pos_is HQC.out.2.1 HB.out (.inl (Nat.le_of_eq hje.symm)) (Nat.le_of_eq hje))
          have hc : xs.contains who = false := has_not HQC.out.2.1 (by rw [HPOS.out, hje, List.getElem?_eq_none (Nat.le_refl _)]; simp)
          have hr := HR.out
          rw [if_neg (by rw [hc]; decide)] at hr
          clear HR
          have HR := Aside0.mk hr
          clear hlt hc hr hj hgj hje
          go_upto_region 12 with (fail)
          clear c2b c2n c2q c2r
          have hqc := HQC.out.1
          obtain ⟨hcutA, hcutB⟩ := cut51 Aq xs.length q.c j ((Nat.le_of_eq HJ2.out)) hqc
          obtain ⟨A4, hA4⟩ : ∃ A4, (if q.c = j then Aq else (Aq).map (·.add (j * 1))) = A4 := ⟨_, rfl⟩
          rw [hA4] at hcutB
          have HA4 := Aside0.mk hA4
          have hins : xs.take j ++ [who] ++ xs.drop j = ins xs who := by unfold ins; rw [HPOS.out]
          have HINS := Aside0.mk hins
          have HJ := Aside0.mk (show j ≤ xs.length from (Nat.le_of_eq HJ2.out))
          clear hqc hA4 hins
          have n_ := sep_row_nil (d := Kd.int .i64) (e := 3) HS.out
          have n0_ := Aside0.mk n_; clear HS n_; have HS := n0_; clear n0_
          go_upto_region 14 with ((with_reducible refine gate_builtin (b := .append) (xs := #[.tmp 79, .tmp 82]) rfl ?_); at_builtin; refine wp_append_rows (Kd.int .i64) rfl (.tmp 79) (.tmp 82) 51 3 (.int .i64 0) 8 rfl Try.underlying51 info3 rfl (by decide) (by decide) _ [] (xs.take j) (Aq) j q.c (by rfl) (by rfl) HS.out (by have h := Kd.C_take (sep_pool_at (sep_l3 HS.out) HPM.out) HJ.out; rw [List.length_take, Nat.min_eq_left HJ.out] at h; exact h) (fun x cs hk => hk) (by have := HQC.out; have := HJ.out; simp only [List.length_nil]; omega) ?_; intro v1 w2 n_; rw [List.nil_append] at n_; have n0_ := Aside0.mk n_; clear HS n_; have HS := n0_; clear n0_)
          go_upto_region 15 with ((with_reducible refine gate_builtin (b := .append) (xs := #[.tmp 84, .tmp 86]) rfl ?_); at_builtin; refine wp_append (Kd.int .i64) rfl (.tmp 84) (.tmp 86) 51 3 (.int .i64 0) 8 rfl Try.underlying51 info3 rfl (by decide) (by decide) _ (xs.take j) who [.int .i64 who] (by rfl) (by rfl) rfl HS.out (by have := HQC.out; rw [List.length_take]; omega) ?_; intro v2 w3 n_; have n0_ := Aside0.mk n_; clear HS n_; have HS := n0_; clear n0_)
          have n_ := sep_drew HS.out
          have n0_ := Aside0.mk n_; clear HS n_; have HS := n0_; clear n0_
          obtain ⟨kp1, kp2⟩ := keepD (k := k) (sep_l1 HS.out) (sep_l2 HS.out) HX.out.2 HM.out.1
          obtain ⟨⟨-, -, -, -, t1⟩, -⟩ := rit_now (sep_l2 HS.out) k q HQ.out.1
          refine wp_region_held_drew (S := (fun w' => w'.cell? ⟨p, 0, none⟩ = some (.slice (some ⟨g, 0, none⟩) L.length c) ∧ w'.frozen? ⟨g, k * 5 + 4, none⟩ = false)) (by kernel_rfl) ⟨kp1, kp2⟩ (fun hHeld => ?_)
          (refine h_take 0 (by assumption) rfl (by decide +kernel) (by decide +kernel) (by decide +kernel) (fun _ _ _ h => h) (by rfl) (by intro w hSw; (try dsimp only at hSw); go_simp; all_goals (with_reducible rfl)) ?_; simp only [Act.put, List.setIfInBounds_toArray, List.set_cons_zero, List.set_cons_succ])
          (refine h_take 1 (by assumption) rfl (by decide +kernel) (by decide +kernel) (by decide +kernel) (fun _ _ _ h => h) (by rfl) (by intro w hSw; (try dsimp only at hSw); go_simp; all_goals (with_reducible rfl)) ?_; simp only [Act.put, List.setIfInBounds_toArray, List.set_cons_zero, List.set_cons_succ])
          (refine h_take 2 (by assumption) rfl (by decide +kernel) (by decide +kernel) (by decide +kernel) (fun _ _ _ h => h) (by rfl) (by intro w hSw; (try dsimp only at hSw); go_simp; all_goals (with_reducible rfl)) ?_; simp only [Act.put, List.setIfInBounds_toArray, List.set_cons_zero, List.set_cons_succ])
          (refine h_take 3 (by assumption) rfl (by decide +kernel) (by decide +kernel) (by decide +kernel) (fun _ _ _ h => h) (by rfl) (by intro w hSw; (try dsimp only at hSw); go_simp; all_goals (with_reducible rfl)) ?_; simp only [Act.put, List.setIfInBounds_toArray, List.set_cons_zero, List.set_cons_succ])
          (refine h_take 4 (by assumption) rfl (by decide +kernel) (by decide +kernel) (by decide +kernel) (fun _ _ _ h => h) (by rfl) (by intro w hSw; (try dsimp only at hSw); go_simp; all_goals (with_reducible rfl)) ?_; simp only [Act.put, List.setIfInBounds_toArray, List.set_cons_zero, List.set_cons_succ])
          (refine h_take 5 (by assumption) rfl (by decide +kernel) (by decide +kernel) (by decide +kernel) (fun _ _ _ h => h) (by rfl) (by intro w hSw; (try dsimp only at hSw); go_simp; all_goals (with_reducible rfl)) ?_; simp only [Act.put, List.setIfInBounds_toArray, List.set_cons_zero, List.set_cons_succ])
          (refine h_take 6 (by assumption) rfl (by decide +kernel) (by decide +kernel) (by decide +kernel) (fun _ _ _ h => h) (by rfl) (by intro w hSw; (try dsimp only at hSw); go_simp; all_goals (with_reducible rfl)) ?_; simp only [Act.put, List.setIfInBounds_toArray, List.set_cons_zero, List.set_cons_succ])
          (refine h_take 7 (by assumption) rfl (by decide +kernel) (by decide +kernel) (by decide +kernel) (fun _ _ _ h => h) (by rfl) (by intro w hSw; (try dsimp only at hSw); go_simp; all_goals (with_reducible rfl)) ?_; simp only [Act.put, List.setIfInBounds_toArray, List.set_cons_zero, List.set_cons_succ])
          (refine h_take 8 (by assumption) rfl (by decide +kernel) (by decide +kernel) (by decide +kernel) (fun _ _ _ h => h) (by rfl) (by intro w hSw; (try dsimp only at hSw); go_simp; all_goals (with_reducible rfl)) ?_; simp only [Act.put, List.setIfInBounds_toArray, List.set_cons_zero, List.set_cons_succ])
          refine h_raw 9 (by kernel_rfl) rfl (fun K hK => ?_)
          refine step_append_rows (w0 := w) (ok0 := ok) (Kd.int .i64) (by rfl) (.tmp 93) (.tmp 96) 51 3 (.int .i64 0) 8 rfl Try.underlying51 info3 rfl (by decide) (by decide) _ (xs.take j ++ [who]) (xs.drop j) A4 (xs.length - j) (q.c - j) (by rfl) (by rfl) HS.out (by have h := Kd.C_drop (m := j) (sep_pool_at (sep_l3 HS.out) HPM.out) HJ.out HQC.out.1; rw [List.length_drop] at h; rw [← HA4.out]; exact h) (fun x cs hk => hk) (by have := HQC.out; have := HJ.out; rw [List.length_append, List.length_take, List.length_singleton]; omega) (fun v3 w5 hs => ?_)
          rw [HINS.out] at hs
          clear HS kp1 kp2 t1
          obtain ⟨A5, c5, rfl, hc5, -⟩ := sep_row hs
          have HC5 := Aside0.mk hc5
          have HS := Aside0.mk hs
          clear hs hc5
          obtain ⟨kp1, kp2⟩ := keepD (k := k) (sep_l1 HS.out) (sep_l2 HS.out) HX.out.2 HM.out.1
          obtain ⟨⟨-, -, -, -, t1⟩, -⟩ := rit_now (sep_l2 HS.out) k q HQ.out.1
          clear hHeld
          ((first | refine hK.out _ _ (⟨kp1, kp2⟩) (fun hHeld => ?_) | (go_wp2_with fail; refine hK.out _ _ (⟨kp1, kp2⟩) (fun hHeld => ?_))); clear hK K; (try simp only [Act.put, List.setIfInBounds_toArray, List.set_cons_zero, List.set_cons_succ]))
          (refine h_take 10 (by assumption) rfl (by decide +kernel) (by decide +kernel) (by decide +kernel) (fun _ _ _ h => h) (by rfl) (by intro w hSw; (try dsimp only at hSw); go_simp; all_goals (with_reducible rfl)) ?_; simp only [Act.put, List.setIfInBounds_toArray, List.set_cons_zero, List.set_cons_succ])
          (refine h_take 11 (by assumption) rfl (by decide +kernel) (by decide +kernel) (by decide +kernel) (fun _ _ _ h => h) (by rfl) (by intro w hSw; (try dsimp only at hSw); go_simp; all_goals (with_reducible rfl)) ?_; simp only [Act.put, List.setIfInBounds_toArray, List.set_cons_zero, List.set_cons_succ])
          (refine h_one 12 (by kernel_rfl) rfl (by rfl) (fun K hK => ?_); go_simp; skip; clear hHeld; ((first | refine hK.out _ _ ((keepE (sep_rit_set (sep_l2 HS.out) k q ⟨q.id, q.inc, q.since, q.hold, A5, (ins xs who).length, c5⟩ (.slice A5 (ins xs who).length c5) HQ.out.1 rfl) HX.out.2 HM.out.1)) (fun hHeld => ?_) | (go_wp2_with fail; refine hK.out _ _ ((keepE (sep_rit_set (sep_l2 HS.out) k q ⟨q.id, q.inc, q.since, q.hold, A5, (ins xs who).length, c5⟩ (.slice A5 (ins xs who).length c5) HQ.out.1 rfl) HX.out.2 HM.out.1)) (fun hHeld => ?_))); clear hK K; (try simp only [Act.put, List.setIfInBounds_toArray, List.set_cons_zero, List.set_cons_succ])))
          refine wpAnyH_done (by kernel_rfl) ?_ _
          have n_ := sep_rit_set (sep_l2 HS.out) k q ⟨q.id, q.inc, q.since, q.hold, A5, (ins xs who).length, c5⟩ (.slice A5 (ins xs who).length c5) HQ.out.1 rfl
          have hm2 : MatL (R.set k ⟨q.id, q.inc, q.since, q.hold, A5, (ins xs who).length, c5⟩) (L.set k { x with who := ins xs who }) := MatL_set (r := ⟨q.id, q.inc, q.since, q.hold, A5, (ins xs who).length, c5⟩) (x := { x with who := ins xs who }) HM.out ⟨HQ.out.2.1, HQ.out.2.2.1, HQ.out.2.2.2.1, HQ.out.2.2.2.2.1, rfl, HC5.out⟩ k
          replace n_ := sep_l2 (sep_l1 (sep_pool_sub (M := poolOf (R.set k ⟨q.id, q.inc, q.since, q.hold, A5, (ins xs who).length, c5⟩) (L.set k { x with who := ins xs who })) (sep_pool_app (sep_row_pool (sep_l1 (sep_l3 (sep_l1 n_))))) (poolOf_set k)))
          clear hHeld
          have n0_ := Aside0.mk n_; clear HS n_; have HS := n0_; clear n0_
          go_wp2
          go_ret
          rw [HR.out]
          exact ⟨rfl, ref_mk hm2 HS.out⟩
    · have d1 : (x.inc != inc) = true := by simpa using hi
      have d2 : (x.inc == inc) = false := by simpa using hi
      have d3 := eq_false hi
      have hr : rConfirm L id inc who = (5, L) := by unfold rConfirm; rw [if_neg HN.out, HO.out]; exact if_pos hi
      have HR := Aside0.mk hr
      clear hi hr
      go_upto_region 4 with (go_at_call 27; obtain ⟨A_, c_, R_, hm_, hc_, q_⟩ := ref_open HS.out; have hx_ := rfind_walk p A_ c_ R_ L id _ hm_ (rv1 q_).1 (sep_row' (sep_l1 q_)).2.2 (by have := HL.out; omega); rw [HO.out, HK.out.1] at hx_; dsimp only [Option.isSome] at hx_; (with_reducible refine Calls.mono hx_ ?_); rintro e w1 ⟨rfl, hb_⟩; have n_ := sep_below HS.out hb_; clear hx_ hb_ hm_ hc_ q_; have n0_ := Aside0.mk n_; clear HS n_; have HS := n0_; clear n0_)
      obtain ⟨A, c, R, hm, hc, n_⟩ := ref_open HS.out
      have HM := Aside0.mk hm
      obtain ⟨q, hq, hqx⟩ := MatL_get hm HX.out.1
      have HQ := Aside0.mk (And.intro hq hqx)
      obtain ⟨g, hA⟩ := rit_addr (sep_l1 n_) (by rw [hm.1]; have := HX.out.2; omega)
      subst hA
      have n0_ := Aside0.mk n_; clear HS n_; have HS := n0_; clear n0_
      obtain ⟨⟨k0, k1, k2, k3, k4⟩, -⟩ := rit_now (sep_l1 HS.out) k q hq
      rw [hqx.2.1] at k1
      rw [hqx.2.2.2.2.1] at k4
      (try clear b1 b2); obtain ⟨b1, b2⟩ := rv1 HS.out
      clear hm hc hq hqx
      go_wp2
      go_ret
      rw [HR.out]
      exact ⟨rfl, ref_mk HM.out HS.out⟩
end Go.Proofs.Ythoppcefadopeaa.DW
/- The reference's doubts, walked: Until, Clear, Due. Conditions: those that each theorem names. -/
namespace Go.Proofs.Ythoppcefadopeaa.DW
set_option linter.unusedVariables false
set_option linter.unusedSimpArgs false
open Go Go.RowKit Go.Proofs.YthoppcefadopeaaS Go.Proofs.YthoppcefadopeaaS.Asn Go.Proofs.Ythoppcefadopeaa.PA Go.Proofs.YthoppcefadopeaaW.PrintWords Go.Proofs.YthoppcefadopeaaW.PrintLast Go.Proofs.YthoppcefadopeaaW.PrintMore
theorem runtil_f (x : It) (h : GoodIt x) : scuttlebuttref15_Item_until.f x.id x.inc x.since x.hold x.who = some (untilI x) := by
  have hf := h.few
  have hh := h.hold
  have hu := until_lt h
  unfold untilI at hu ⊢
  unfold scuttlebuttref15_Item_until.f
  have e1 : IntKind.u64.wrap (wrap64 ((x.who.length : Int) + 1)) = (x.who.length : Int) + 1 := by rw [IntKind.wrap_u64]; unfold wrap64; omega
  have e2 : IntKind.u64.wrap (x.hold + ((x.who.length : Int) + 1)) = x.hold + ((x.who.length : Int) + 1) := by rw [IntKind.wrap_u64]; omega
  have e3 : IntKind.u64.wrap (x.hold + ((x.who.length : Int) + 1) - 1) = x.hold + (x.who.length : Int) := by rw [IntKind.wrap_u64]; omega
  have e5 : Int.tdiv (x.hold + (x.who.length : Int)) ((x.who.length : Int) + 1) = (x.hold + (x.who.length : Int)) / ((x.who.length : Int) + 1) := Int.tdiv_eq_ediv_of_nonneg (by omega)
  have h2 : 0 ≤ (x.hold + (x.who.length : Int)) / ((x.who.length : Int) + 1) := Int.ediv_nonneg (by omega) (by omega)
  rw [e1, if_neg (by omega), e2, e3, e5]
  have hs := h.since
  generalize (x.hold + (x.who.length : Int)) / ((x.who.length : Int) + 1) = q at *
  have e6 : IntKind.u64.wrap q = q := by rw [IntKind.wrap_u64]; omega
  have e7 : IntKind.u64.wrap (x.since + q) = x.since + q := by rw [IntKind.wrap_u64]; omega
  rw [e6, e7]
set_option maxHeartbeats 2000000 in
theorem rUntil_walk (p : Nat) (L : List It) (id : Int) (w : World) (ok : Nat → Prop) (hl : L.length ≤ 900) (hg : ∀ x ∈ L, GoodIt x) (h : (refD p L ⋆ emp).H w ok) :
    Calls Try.prog 21 #[.pointer (some ⟨p, 0, none⟩), .int .i64 id] w fun e w' => e = .returned (.tuple #[.int .u64 (rUntil L id).1, .bool (rUntil L id).2]) ∧ Sep w ok (refD p L ⋆ emp) w' := by
  have HS := Aside0.mk (sep_begin h)
  have HL := Aside0.mk hl
  obtain ⟨k, hk⟩ : ∃ k, rfind L id = k := ⟨_, rfl⟩
  have hkl := find_le L id
  rw [hk] at hkl
  have HK := Aside0.mk (And.intro hk hkl)
  clear h hl hk hkl
  have HGD := Aside0.mk hg
  clear hg
  go_enter Try.func21, Try.ntmps21
  cases ho : rold L id with
  | none =>
    have hr : rUntil L id = (0, false) := by unfold rUntil; rw [ho]
    have HR := Aside0.mk hr
    have HO := Aside0.mk ho
    clear hr ho
    go_wp2_with (go_at_call 27; obtain ⟨A_, c_, R_, hm_, hc_, q_⟩ := ref_open HS.out; have hx_ := rfind_walk p A_ c_ R_ L id _ hm_ (rv1 q_).1 (sep_row' (sep_l1 q_)).2.2 (by have := HL.out; omega); rw [HO.out, HK.out.1] at hx_; dsimp only [Option.isSome] at hx_; (with_reducible refine Calls.mono hx_ ?_); rintro e w1 ⟨rfl, hb_⟩; have n_ := sep_below HS.out hb_; clear hx_ hb_ hm_ hc_ q_; have n0_ := Aside0.mk n_; clear HS n_; have HS := n0_; clear n0_)
    go_ret2
    rw [HR.out]
    exact ⟨rfl, HS.out⟩
  | some x =>
    obtain ⟨hx, -⟩ := rold_at ho
    rw [HK.out.1] at hx
    have hkl : k < L.length := (List.getElem?_eq_some_iff.1 hx).1
    have HX := Aside0.mk (And.intro hx hkl)
    have HO := Aside0.mk ho
    have c1b : decide ((k : Int) < (L.length : Int)) = true := decide_eq_true (Int.ofNat_lt.2 hkl); have c1n : decide (k < L.length) = true := decide_eq_true hkl; have c1q : (k < L.length) = True := eq_true hkl; have p0_ := eq_true (Int.natCast_nonneg k)
    clear hkl
    have hr : rUntil L id = (untilI x, true) := by unfold rUntil; rw [ho]
    have HR := Aside0.mk hr
    have HF := Aside0.mk (runtil_f x (HGD.out x (List.mem_of_getElem? hx)))
    clear hr ho hx
    go_upto_region 4 with (go_at_call 27; obtain ⟨A_, c_, R_, hm_, hc_, q_⟩ := ref_open HS.out; have hx_ := rfind_walk p A_ c_ R_ L id _ hm_ (rv1 q_).1 (sep_row' (sep_l1 q_)).2.2 (by have := HL.out; omega); rw [HO.out, HK.out.1] at hx_; dsimp only [Option.isSome] at hx_; (with_reducible refine Calls.mono hx_ ?_); rintro e w1 ⟨rfl, hb_⟩; have n_ := sep_below HS.out hb_; clear hx_ hb_ hm_ hc_ q_; have n0_ := Aside0.mk n_; clear HS n_; have HS := n0_; clear n0_)
    obtain ⟨A, c, R, hm, hc, n_⟩ := ref_open HS.out
    have HM := Aside0.mk hm
    obtain ⟨q, hq, hqx⟩ := MatL_get hm HX.out.1
    have HQ := Aside0.mk (And.intro hq hqx)
    have HPM := Aside0.mk (poolOf_at hq HX.out.1)
    obtain ⟨g, hA⟩ := rit_addr (sep_l1 n_) (by rw [hm.1]; have := HX.out.2; omega)
    subst hA
    have n0_ := Aside0.mk n_; clear HS n_; have HS := n0_; clear n0_
    obtain ⟨⟨k0, k1, k2, k3, k4⟩, -⟩ := rit_now (sep_l1 HS.out) k q hq
    rw [hqx.1] at k0
    rw [hqx.2.1] at k1
    rw [hqx.2.2.1] at k2
    rw [hqx.2.2.2.1] at k3
    rw [hqx.2.2.2.2.1] at k4
    (try clear b1 b2); obtain ⟨b1, b2⟩ := rv1 HS.out
    clear hm hc hq hqx
    go_wp2_with (go_at_call 32; go_loud (have hx_ := scuttlebuttref15_Item_until.calls x.id x.inc x.since x.hold q.A q.c x.who (untilI x) _ (sep_pool_at (sep_l2 HS.out) HPM.out) HQ.out.2.2.2.2.2.2 HF.out; (with_reducible refine Calls.mono hx_ ?_); rintro e w2 ⟨rfl, hb_⟩; have n_ := sep_below HS.out hb_; clear hb_ hx_; have n0_ := Aside0.mk n_; clear HS n_; have HS := n0_; clear n0_))
    go_ret2
    rw [HR.out]
    exact ⟨rfl, ref_mk HM.out HS.out⟩
set_option maxHeartbeats 2000000 in
theorem rClear_walk (p : Nat) (L : List It) (id inc : Int) (w : World) (ok : Nat → Prop) (hl : L.length ≤ 900) (h : (refD p L ⋆ emp).H w ok) :
    Calls Try.prog 14 #[.pointer (some ⟨p, 0, none⟩), .int .i64 id, .int .u32 inc] w fun e w' => e = .returned (.bool (rClear L id inc).1) ∧ Sep w ok (refD p (rClear L id inc).2 ⋆ emp) w' := by
  have HS := Aside0.mk (sep_begin h)
  have HL := Aside0.mk hl
  obtain ⟨k, hk⟩ : ∃ k, rfind L id = k := ⟨_, rfl⟩
  have hkl := find_le L id
  rw [hk] at hkl
  have HK := Aside0.mk (And.intro hk hkl)
  clear h hl hk hkl
  go_enter Try.func14, Try.ntmps14
  cases ho : rold L id with
  | none =>
    have hr : rClear L id inc = (false, L) := by unfold rClear; rw [ho]
    have HR := Aside0.mk hr
    have HO := Aside0.mk ho
    clear hr ho
    go_wp2_with (go_at_call 27; obtain ⟨A_, c_, R_, hm_, hc_, q_⟩ := ref_open HS.out; have hx_ := rfind_walk p A_ c_ R_ L id _ hm_ (rv1 q_).1 (sep_row' (sep_l1 q_)).2.2 (by have := HL.out; omega); rw [HO.out, HK.out.1] at hx_; dsimp only [Option.isSome] at hx_; (with_reducible refine Calls.mono hx_ ?_); rintro e w1 ⟨rfl, hb_⟩; have n_ := sep_below HS.out hb_; clear hx_ hb_ hm_ hc_ q_; have n0_ := Aside0.mk n_; clear HS n_; have HS := n0_; clear n0_)
    go_ret
    rw [HR.out]
    exact ⟨rfl, HS.out⟩
  | some x =>
    obtain ⟨hx, -⟩ := rold_at ho
    rw [HK.out.1] at hx
    have hkl : k < L.length := (List.getElem?_eq_some_iff.1 hx).1
    have HX := Aside0.mk (And.intro hx hkl)
    have HO := Aside0.mk ho
    have c1b : decide ((k : Int) < (L.length : Int)) = true := decide_eq_true (Int.ofNat_lt.2 hkl); have c1n : decide (k < L.length) = true := decide_eq_true hkl; have c1q : (k < L.length) = True := eq_true hkl; have p0_ := eq_true (Int.natCast_nonneg k)
    clear hkl
    by_cases hi : inc ≤ x.inc
    · have hr : rClear L id inc = (false, L) := by unfold rClear; rw [ho]; exact if_pos hi
      have HR := Aside0.mk hr
      have d1 : decide (inc ≤ x.inc) = true := decide_eq_true hi
      have d3 := eq_true hi
      clear hr ho hx hi
      go_upto_region 2 with (go_at_call 27; obtain ⟨A_, c_, R_, hm_, hc_, q_⟩ := ref_open HS.out; have hx_ := rfind_walk p A_ c_ R_ L id _ hm_ (rv1 q_).1 (sep_row' (sep_l1 q_)).2.2 (by have := HL.out; omega); rw [HO.out, HK.out.1] at hx_; dsimp only [Option.isSome] at hx_; (with_reducible refine Calls.mono hx_ ?_); rintro e w1 ⟨rfl, hb_⟩; have n_ := sep_below HS.out hb_; clear hx_ hb_ hm_ hc_ q_; have n0_ := Aside0.mk n_; clear HS n_; have HS := n0_; clear n0_)
      obtain ⟨A, c, R, hm, hc, n_⟩ := ref_open HS.out
      have HM := Aside0.mk hm
      obtain ⟨q, hq, hqx⟩ := MatL_get hm HX.out.1
      have HQ := Aside0.mk (And.intro hq hqx)
      have HPM := Aside0.mk (poolOf_at hq HX.out.1)
      obtain ⟨g, hA⟩ := rit_addr (sep_l1 n_) (by rw [hm.1]; have := HX.out.2; omega)
      subst hA
      have n0_ := Aside0.mk n_; clear HS n_; have HS := n0_; clear n0_
      obtain ⟨⟨k0, k1, k2, k3, k4⟩, -⟩ := rit_now (sep_l1 HS.out) k q hq
      rw [hqx.1] at k0
      rw [hqx.2.1] at k1
      rw [hqx.2.2.1] at k2
      rw [hqx.2.2.2.1] at k3
      rw [hqx.2.2.2.2.1] at k4
      (try clear b1 b2); obtain ⟨b1, b2⟩ := rv1 HS.out
      clear hm hc hq hqx
      go_wp2
      go_ret
      rw [HR.out]
      exact ⟨rfl, ref_mk HM.out HS.out⟩
    · have hr : rClear L id inc = (true, L.eraseIdx k) := by unfold rClear; rw [ho, HK.out.1]; exact if_neg hi
      have HR := Aside0.mk hr
      have d1 : decide (inc ≤ x.inc) = false := decide_eq_false hi
      have d3 := eq_false hi
      clear hr ho hx hi
      go_upto_region 2 with (go_at_call 27; obtain ⟨A_, c_, R_, hm_, hc_, q_⟩ := ref_open HS.out; have hx_ := rfind_walk p A_ c_ R_ L id _ hm_ (rv1 q_).1 (sep_row' (sep_l1 q_)).2.2 (by have := HL.out; omega); rw [HO.out, HK.out.1] at hx_; dsimp only [Option.isSome] at hx_; (with_reducible refine Calls.mono hx_ ?_); rintro e w1 ⟨rfl, hb_⟩; have n_ := sep_below HS.out hb_; clear hx_ hb_ hm_ hc_ q_; have n0_ := Aside0.mk n_; clear HS n_; have HS := n0_; clear n0_)
      obtain ⟨A, c, R, hm, hc, n_⟩ := ref_open HS.out
      have HM := Aside0.mk hm
      obtain ⟨q, hq, hqx⟩ := MatL_get hm HX.out.1
      have HQ := Aside0.mk (And.intro hq hqx)
      have HPM := Aside0.mk (poolOf_at hq HX.out.1)
      obtain ⟨g, hA⟩ := rit_addr (sep_l1 n_) (by rw [hm.1]; have := HX.out.2; omega)
      subst hA
      have n0_ := Aside0.mk n_; clear HS n_; have HS := n0_; clear n0_
      obtain ⟨⟨k0, k1, k2, k3, k4⟩, -⟩ := rit_now (sep_l1 HS.out) k q hq
      rw [hqx.1] at k0
      rw [hqx.2.1] at k1
      rw [hqx.2.2.1] at k2
      rw [hqx.2.2.2.1] at k3
      rw [hqx.2.2.2.2.1] at k4
      (try clear b1 b2); obtain ⟨b1, b2⟩ := rv1 HS.out
      clear hm hc hq hqx
      go_upto_region 4 with (fail)
      have n_ := ref_mk HM.out HS.out
      have n0_ := Aside0.mk n_; clear HS n_; have HS := n0_; clear n0_
      clear k0 k1 k2 k3 k4 b1 b2 HM
      go_wp2_with (go_at_call 28; obtain ⟨ok_, hp_, hk_⟩ := sep_use1 HS.out; have hx_ := rcut_walk p L k _ ok_ HX.out.2 (by have := HL.out; omega) hp_; (with_reducible refine Calls.mono hx_ ?_); rintro e w1 ⟨rfl, hq_⟩; have n_ := back1 hk_ hq_; clear hx_ hp_ hk_ hq_; have n0_ := Aside0.mk n_; clear HS n_; have HS := n0_; clear n0_)
      go_ret
      rw [HR.out]
      exact ⟨rfl, HS.out⟩
end Go.Proofs.Ythoppcefadopeaa.DW
/- The reference's doubts, walked: Due; the law's same. Conditions: those that each theorem names. -/
namespace Go.Proofs.Ythoppcefadopeaa.DW
set_option linter.unusedVariables false
set_option linter.unusedSimpArgs false
open Go Go.RowKit Go.Proofs.YthoppcefadopeaaS Go.Proofs.YthoppcefadopeaaS.Asn Go.Proofs.Ythoppcefadopeaa.PA Go.Proofs.YthoppcefadopeaaW.PrintWords Go.Proofs.YthoppcefadopeaaW.PrintLast Go.Proofs.YthoppcefadopeaaW.PrintMore
def dueL (L : List It) (now : Int) (i : Nat) : List It := (L.take i).filter (isDue now)
def notL (L : List It) (now : Int) (i : Nat) : List It := (L.take i).filter (fun x => !isDue now x)
theorem due_yes1 (L : List It) (now : Int) (i : Nat) (x : It) (hx : L[i]? = some x) (h : isDue now x = true) : dueL L now (i + 1) = dueL L now i ++ [x] ∧ notL L now (i + 1) = notL L now i := by
  unfold dueL notL
  rw [List.take_add_one, hx, Option.toList_some, List.filter_append, List.filter_append]
  simp [h]
theorem due_not1 (L : List It) (now : Int) (i : Nat) (x : It) (hx : L[i]? = some x) (h : isDue now x = false) : dueL L now (i + 1) = dueL L now i ∧ notL L now (i + 1) = notL L now i ++ [x] := by
  unfold dueL notL
  rw [List.take_add_one, hx, Option.toList_some, List.filter_append, List.filter_append]
  simp [h]
structure DueR (R : List RIt) (L : List It) (now : Int) (i : Nat) (R1 R2 : List RIt) : Prop where
  m1 : MatL R1 (dueL L now i)
  m2 : MatL R2 (notL L now i)
  s1 : ∀ y ∈ poolOf R1 (dueL L now i), y ∈ poolOf R L
  s2 : ∀ y ∈ poolOf R2 (notL L now i), y ∈ poolOf R L
theorem DueR_zero (R : List RIt) (L : List It) (now : Int) : DueR R L now 0 [] [] := ⟨by unfold dueL; rw [List.take_zero]; exact MatL_nil, by unfold notL; rw [List.take_zero]; exact MatL_nil, fun y hy => by unfold dueL poolOf at hy; simp at hy, fun y hy => by unfold notL poolOf at hy; simp at hy⟩
theorem DueR_yes {R : List RIt} {L : List It} {now : Int} {i : Nat} {R1 R2 : List RIt} (h : DueR R L now i R1 R2) {q : RIt} {x : It} (hq : R[i]? = some q) (hx : L[i]? = some x) (hm : Mat q x) (hd : isDue now x = true) : DueR R L now (i + 1) (R1 ++ [q]) R2 := by
  obtain ⟨e1, e2⟩ := due_yes1 L now i x hx hd
  refine ⟨by rw [e1]; exact MatL_snoc h.m1 hm, by rw [e2]; exact h.m2, fun y hy => ?_, by rw [e2]; exact h.s2⟩
  rw [e1, poolOf_snoc q x h.m1] at hy
  rcases List.mem_append.1 hy with hy | hy
  · exact h.s1 y hy
  · rw [List.mem_singleton.1 hy]; exact poolOf_at hq hx
theorem DueR_not {R : List RIt} {L : List It} {now : Int} {i : Nat} {R1 R2 : List RIt} (h : DueR R L now i R1 R2) {q : RIt} {x : It} (hq : R[i]? = some q) (hx : L[i]? = some x) (hm : Mat q x) (hd : isDue now x = false) : DueR R L now (i + 1) R1 (R2 ++ [q]) := by
  obtain ⟨e1, e2⟩ := due_not1 L now i x hx hd
  refine ⟨by rw [e1]; exact h.m1, by rw [e2]; exact MatL_snoc h.m2 hm, by rw [e1]; exact h.s1, fun y hy => ?_⟩
  rw [e2, poolOf_snoc q x h.m2] at hy
  rcases List.mem_append.1 hy with hy | hy
  · exact h.s2 y hy
  · rw [List.mem_singleton.1 hy]; exact poolOf_at hq hx
theorem MatL_len {R : List RIt} {L : List It} (h : MatL R L) (n : Nat) (hl : L.length ≤ n) : R.length ≤ n := by rw [h.1]; exact hl
theorem dueL_len (L : List It) (now : Int) (i : Nat) : (dueL L now i).length ≤ L.length ∧ (notL L now i).length ≤ L.length := by
  unfold dueL notL
  refine ⟨Nat.le_trans (List.length_filter_le _ _) ?_, Nat.le_trans (List.length_filter_le _ _) ?_⟩ <;> (rw [List.length_take]; omega)
set_option maxHeartbeats 4000000 in
set_option maxRecDepth 100000 in
theorem rDue_walk (p : Nat) (L : List It) (now : Int) (w : World) (ok : Nat → Prop) (hl : L.length ≤ 900) (hg : ∀ x ∈ L, GoodIt x) (h : (refD p L ⋆ emp).H w ok) :
    Calls Try.prog 17 #[.pointer (some ⟨p, 0, none⟩), .int .u64 now] w fun e w' => ∃ (v vs : Value) (R1 R2 : List RIt) (M : List (Option Addr × List Int)), e = .returned v ∧ MatL R1 (rDue L now).1 ∧ MatL R2 (rDue L now).2 ∧ (∀ y ∈ poolOf R1 (rDue L now).1, y ∈ M) ∧ (∀ y ∈ poolOf R2 (rDue L now).2, y ∈ M) ∧ Sep w ok (row ritK 70 v R1 ⋆ pt p #[vs] 29 ⋆ row ritK 70 vs R2 ⋆ pool (Kd.int .i64) M ⋆ emp) w' := by
  obtain ⟨A, c, R, hm, hc, n_⟩ := ref_open (sep_begin h)
  have HS := Aside0.mk (sep_row_nil (d := ritK) (e := 70) (sep_row_nil (d := ritK) (e := 70) n_))
  have HL := Aside0.mk hl
  have HGD := Aside0.mk hg
  have HM := Aside0.mk hm
  clear h hl hg hm hc n_
  go_enter Try.func17, Try.ntmps17
  go_upto_region 4 with (fail)
  go_loopg [5, 6, 7] L.length (fun gg v5 v6 v7 wr => ∃ (i : Nat) (R1 R2 : List RIt), i ≤ L.length ∧ L.length - i ≤ gg ∧ v7 = .int .i64 (i : Int) ∧ Aside0 (DueR R L now i R1 R2) ∧ Aside0 (Sep w ok (row ritK 70 v5 R1 ⋆ row ritK 70 v6 R2 ⋆ pt p #[.slice A L.length c] 29 ⋆ row ritK 70 (.slice A L.length c) R ⋆ pool (Kd.int .i64) (poolOf R L) ⋆ emp) wr))
  case atStart => exact ⟨0, _, _, Nat.zero_le _, by omega, rfl, ⟨DueR_zero R L now⟩, HS⟩
  case round =>
    clear HS
    obtain ⟨i, R1, R2, hi, hgi, rfl, HD, HS⟩ := hrel
    by_cases hlt : i < L.length
    · have c1b : decide ((i : Int) < (L.length : Int)) = true := decide_eq_true (Int.ofNat_lt.2 hlt); have c1n : decide (i < L.length) = true := decide_eq_true hlt; have c1q : (i < L.length) = True := eq_true hlt; have p0_ := eq_true (Int.natCast_nonneg i)
      obtain ⟨x, hx⟩ : ∃ x, L[i]? = some x := ⟨_, List.getElem?_eq_getElem hlt⟩
      obtain ⟨q, hq, hqx⟩ := MatL_get HM.out hx
      have hgx := HGD.out x (List.mem_of_getElem? hx)
      obtain ⟨qi, qn, qs, qh, Aq, ql, cq⟩ := q
      have HMQ := Aside0.mk hqx
      obtain ⟨e1, e2, e3, e4, e5, hcap⟩ := hqx
      dsimp only at e1 e2 e3 e4 e5 hcap
      subst e1 e2 e3 e4 e5
      obtain ⟨g, rfl⟩ := rit_addr (sep_l3 HS.out) (by have := HM.out.1; omega)
      obtain ⟨⟨k0, k1, k2, k3, k4⟩, -⟩ := rit_now (sep_l3 HS.out) i _ hq
      (try clear b1 b2); obtain ⟨b1, b2⟩ := rv1 (sep_l2 HS.out)
      have HQ := Aside0.mk hq
      have HX := Aside0.mk hx
      have HPM := Aside0.mk (poolOf_at hq hx)
      have HCAP := Aside0.mk hcap
      have HF := Aside0.mk (runtil_f x hgx)
      have HI := Aside0.mk (And.intro hlt hgi)
      clear hi hgi hlt hx hq hcap hgx
      by_cases hd : untilI x ≤ now
      · have d1 : decide (untilI x ≤ now) = true := decide_eq_true hd
        have d2 := eq_true hd
        have HD2 := Aside0.mk (DueR_yes HD.out HQ.out HX.out HMQ.out d1)
        clear hd
        go_upto_region 7 with (go_at_call 32; have hx_ := scuttlebuttref15_Item_until.calls x.id x.inc x.since x.hold Aq cq x.who (untilI x) _ (sep_pool_at (sep_l4 HS.out) HPM.out) HCAP.out HF.out; (with_reducible refine Calls.mono hx_ ?_); rintro e w2 ⟨rfl, hb_⟩; have n_ := sep_below HS.out hb_; clear hb_ hx_; have n0_ := Aside0.mk n_; clear HS n_; have HS := n0_; clear n0_; clear k0 k1 k2 k3 k4; obtain ⟨⟨k0, k1, k2, k3, k4⟩, -⟩ := rit_now (sep_l3 HS.out) i _ HQ.out; (try clear b1 b2); obtain ⟨b1, b2⟩ := rv1 (sep_l2 HS.out))
        go_wp2_with ((with_reducible refine gate_builtin (b := .append) (xs := #[.tmp 27, .tmp 35]) rfl ?_); at_builtin; refine wp_append ritK rfl (.tmp 27) (.tmp 35) 27 70 z53 56 rfl Try.underlying27 info70 rfl (by decide) (by decide) _ R1 ⟨x.id, x.inc, x.since, x.hold, Aq, x.who.length, cq⟩ (RIt.cells ⟨x.id, x.inc, x.since, x.hold, Aq, x.who.length, cq⟩) (by rfl) (by rfl) (ritK_M _ _ _ _) HS.out (by have := HL.out; have := dueL_len L now i; have := HD.out.m1.1; have := HD.out.m2.1; omega) ?_; intro v2_ w5 n_; have n0_ := Aside0.mk n_; clear HS n_; have HS := n0_; clear n0_)
        go_roundg (L.length - (i + 1))
        case measure => have := HI.out; omega
        case rel => exact ⟨i + 1, _, _, HI.out.1, Nat.le_refl _, congrArg (Value.int .i64) (by have := HI.out; have := HL.out; unfold wrap64; omega), ⟨HD2.out⟩, HS⟩
      · have d1 : decide (untilI x ≤ now) = false := decide_eq_false hd
        have d2 := eq_false hd
        have HD2 := Aside0.mk (DueR_not HD.out HQ.out HX.out HMQ.out d1)
        clear hd
        go_upto_region 8 with (go_at_call 32; have hx_ := scuttlebuttref15_Item_until.calls x.id x.inc x.since x.hold Aq cq x.who (untilI x) _ (sep_pool_at (sep_l4 HS.out) HPM.out) HCAP.out HF.out; (with_reducible refine Calls.mono hx_ ?_); rintro e w2 ⟨rfl, hb_⟩; have n_ := sep_below HS.out hb_; clear hb_ hx_; have n0_ := Aside0.mk n_; clear HS n_; have HS := n0_; clear n0_; clear k0 k1 k2 k3 k4; obtain ⟨⟨k0, k1, k2, k3, k4⟩, -⟩ := rit_now (sep_l3 HS.out) i _ HQ.out; (try clear b1 b2); obtain ⟨b1, b2⟩ := rv1 (sep_l2 HS.out))
        have n_ := sep_l1 HS.out
        have n0_ := Aside0.mk n_; clear HS n_; have HS := n0_; clear n0_
        go_wp2_with ((with_reducible refine gate_builtin (b := .append) (xs := #[.tmp 37, .tmp 45]) rfl ?_); at_builtin; refine wp_append ritK rfl (.tmp 37) (.tmp 45) 27 70 z53 56 rfl Try.underlying27 info70 rfl (by decide) (by decide) _ R2 ⟨x.id, x.inc, x.since, x.hold, Aq, x.who.length, cq⟩ (RIt.cells ⟨x.id, x.inc, x.since, x.hold, Aq, x.who.length, cq⟩) (by rfl) (by rfl) (ritK_M _ _ _ _) HS.out (by have := HL.out; have := dueL_len L now i; have := HD.out.m1.1; have := HD.out.m2.1; omega) ?_; intro v2_ w5 n_; have n0_ := Aside0.mk n_; clear HS n_; have HS := n0_; clear n0_)
        have n_ := sep_l1 HS.out
        have n0_ := Aside0.mk n_; clear HS n_; have HS := n0_; clear n0_
        go_roundg (L.length - (i + 1))
        case measure => have := HI.out; omega
        case rel => exact ⟨i + 1, _, _, HI.out.1, Nat.le_refl _, congrArg (Value.int .i64) (by have := HI.out; have := HL.out; unfold wrap64; omega), ⟨HD2.out⟩, HS⟩
    · obtain rfl : i = L.length := by omega
      have c2b : decide ((L.length : Int) < (L.length : Int)) = false := decide_eq_false (by omega)
      (try clear b1 b2); obtain ⟨b1, b2⟩ := rv1 (sep_l2 HS.out)
      have hd := HD.out
      obtain ⟨h1, h2, h3, h4⟩ := hd
      unfold dueL at h1 h3
      unfold notL at h2 h4
      rw [List.take_length] at h1 h2 h3 h4
      have HE := Aside0.mk (And.intro h1 (And.intro h2 (And.intro h3 h4)))
      clear hi hgi hlt h1 h2 h3 h4
      obtain ⟨A6, c6, rfl, -, -⟩ := sep_row (sep_l1 HS.out)
      obtain ⟨A5, c5, rfl, -, -⟩ := sep_row HS.out
      go_wp2
      go_ret
      exact ⟨_, _, R1, R2, poolOf R L, rfl, HE.out.1, HE.out.2.1, HE.out.2.2.1, HE.out.2.2.2, sep_l1 (sep_drop (sep_l3 (sep_set (sep_l2 HS.out) 0 (.slice A6 R2.length c6))))⟩
end Go.Proofs.Ythoppcefadopeaa.DW
