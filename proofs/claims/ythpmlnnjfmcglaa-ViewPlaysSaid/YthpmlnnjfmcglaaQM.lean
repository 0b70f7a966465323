/- What taking many records comes to: ViewMerge's and ViewOrder's plain laws. No condition but those that each theorem names. -/
import Derived.Test.YthpmlnnjfmcglaaVM
namespace Go.Proofs.Ythpmlnnjfmcglaa.VW
set_option linter.unusedVariables false
set_option linter.unusedSimpArgs false
open Go Go.RowKit
theorem mgF_pre : ∀ (l : List Rec) (x : List Rec × VS), ∃ t, (l.foldl mgF x).1 = x.1 ++ t
  | [], x => ⟨[], (List.append_nil _).symm⟩
  | r :: l, x => by
    obtain ⟨t, ht⟩ := mgF_pre l (mgF x r)
    rw [List.foldl_cons, ht]
    unfold mgF
    dsimp only
    split
    · exact ⟨r :: t, by rw [List.append_assoc]; rfl⟩
    · exact ⟨t, rfl⟩
theorem mg_app (s : VS) (l m : List Rec) : mg s (l ++ m) = m.foldl mgF (mg s l) := by unfold mg; rw [List.foldl_append]
theorem mg_pre (s : VS) (l : List Rec) (i : Nat) : ∃ t, (mg s l).1 = (mg s (l.take i)).1 ++ t := by
  obtain ⟨t, ht⟩ := mgF_pre (l.drop i) (mg s (l.take i))
  rw [← mg_app, List.take_append_drop] at ht
  exact ⟨t, ht⟩
/-- Who turned something at i stands behind those that did ahead of it. -/
theorem mg_at (s : VS) (l : List Rec) (i : Nat) (y : Rec) (hy : l[i]? = some y) (ht : (takeE (mg s (l.take i)).2 y).1 = true) : (mg s l).1[(mg s (l.take i)).1.length]? = some y := by
  obtain ⟨t, h⟩ := mg_pre s l (i + 1)
  rw [List.take_add_one, hy, Option.toList_some, mg_snoc] at h
  unfold mgF at h
  dsimp only at h
  rw [if_pos ht] at h
  rw [h, List.append_assoc, List.getElem?_append_right (Nat.le_refl _), Nat.sub_self]
  rfl
theorem mg_lt (s : VS) (l : List Rec) (i : Nat) (y : Rec) (hy : l[i]? = some y) (ht : (takeE (mg s (l.take i)).2 y).1 = true) : (mg s (l.take i)).1.length < (mg s l).1.length :=
  (List.getElem?_eq_some_iff.1 (mg_at s l i y hy ht)).1
/-- Things as records of few nodes. -/
def own1 (t : Th) : Rec := thE ⟨t.r, true⟩
def ownL (l : List Th) (i : Nat) : List Rec := (l.take i).map own1
theorem ownL_len (l : List Th) (i : Nat) : (ownL l i).length ≤ i := by unfold ownL; rw [List.length_map, List.length_take]; omega
theorem ownL_length (l : List Th) (i : Nat) (h : i ≤ l.length) : (ownL l i).length = i := by unfold ownL; rw [List.length_map, List.length_take]; omega
theorem ownL_succ (l : List Th) (i : Nat) (t : Th) (ht : l[i]? = some t) : ownL l (i + 1) = ownL l i ++ [own1 t] := by
  unfold ownL
  rw [List.take_add_one, ht, Option.toList_some, List.map_append]
  rfl
theorem ownL_right (l : List Th) (i : Nat) (h : ∀ x ∈ l, thOk x) (r : Rec) (hr : r ∈ ownL l i) : right r = true := by
  unfold ownL at hr
  obtain ⟨t, ht, rfl⟩ := List.mem_map.1 hr
  have := h t (List.mem_of_mem_take ht)
  exact (thE_own ⟨t.r, true⟩ this rfl).1
theorem ownL_good (l : List Th) (i : Nat) (h : ∀ x ∈ l, thOk x) : (ownL l i).any bad = false := by
  rw [List.any_eq_false]
  intro r hr
  unfold bad
  rw [ownL_right l i h r hr]
  decide
theorem merge_good (s : VS) (l : List Rec) (h : l.any bad = false) : mergeE s l = ((mg s l).1, 0, (mg s l).2) := by
  unfold mergeE
  rw [if_neg (by rw [h]; decide)]
theorem merge_bad (s : VS) (l : List Rec) (h : l.any bad = true) : mergeE s l = ([], 1, s) := by
  unfold mergeE
  rw [if_pos h]
theorem members_new : members VS.new = [] := by kernel_rfl
/-! ## order -/
theorem cmpI_cases (a b : Int) : (a < b ∧ cmpI a b = -1) ∨ (a = b ∧ cmpI a b = 0) ∨ (b < a ∧ cmpI a b = 1) := by
  unfold cmpI
  rcases Int.lt_trichotomy a b with h | h | h
  · exact .inl ⟨h, if_pos h⟩
  · exact .inr (.inl ⟨h, by rw [if_neg (by omega), if_neg (by omega)]⟩)
  · exact .inr (.inr ⟨h, by rw [if_neg (by omega), if_pos h]⟩)
def leR (a b : Rec) : Prop := b.inc < a.inc ∨ (a.inc = b.inc ∧ (b.st < a.st ∨ (a.st = b.st ∧ (b.ip < a.ip ∨ (a.ip = b.ip ∧ b.po ≤ a.po)))))
theorem order_le (a b : Rec) : 0 ≤ order a b ↔ leR a b := by
  unfold order ordR ordA or2 leR
  rcases cmpI_cases a.inc b.inc with ⟨h, e⟩ | ⟨h, e⟩ | ⟨h, e⟩
  · rw [e, if_neg (by decide)]; omega
  · rw [e, if_pos rfl]
    rcases cmpI_cases a.st b.st with ⟨h2, e⟩ | ⟨h2, e⟩ | ⟨h2, e⟩
    · rw [e, if_neg (by decide)]; omega
    · rw [e, if_pos rfl]
      rcases cmpI_cases a.ip b.ip with ⟨h3, e⟩ | ⟨h3, e⟩ | ⟨h3, e⟩
      · rw [e, if_neg (by decide)]; omega
      · rw [e, if_pos rfl]
        rcases cmpI_cases a.po b.po with ⟨h4, e⟩ | ⟨h4, e⟩ | ⟨h4, e⟩ <;> rw [e] <;> omega
      · rw [e, if_neg (by decide)]; omega
    · rw [e, if_neg (by decide)]; omega
  · rw [e, if_neg (by decide)]; omega
theorem order_trans (a b c : Rec) (h1 : 0 ≤ order a b) (h2 : 0 ≤ order b c) : 0 ≤ order a c := by
  rw [order_le] at *
  unfold leR at *
  omega
theorem order_anti (a b : Rec) (hi : a.id = b.id) (h1 : 0 ≤ order a b) (h2 : 0 ≤ order b a) : a = b := by
  rw [order_le] at *
  unfold leR at *
  obtain ⟨a0, a1, a2, a3, a4⟩ := a
  obtain ⟨b0, b1, b2, b3, b4⟩ := b
  dsimp only at *
  obtain rfl : a0 = b0 := hi
  obtain rfl : a1 = b1 := by omega
  obtain rfl : a2 = b2 := by omega
  obtain rfl : a3 = b3 := by omega
  obtain rfl : a4 = b4 := by omega
  rfl
/-! ## what is known behind some records -/
/-- What a view knows of each ID is the greatest of its records. -/
def Kn (s : VS) (L : List Rec) : Prop := ∀ j, (s.K j = Rec.zero ∧ ∀ r ∈ L, r.id.toNat ≠ j) ∨ (s.K j ∈ L ∧ (s.K j).id = (j : Int) ∧ ∀ r ∈ L, r.id.toNat = j → 0 ≤ order (s.K j) r)
theorem Kn_new : Kn VS.new [] := fun j => .inl ⟨rfl, fun _ h => by cases h⟩
theorem Kn_congr {s : VS} {L L' : List Rec} (h : Kn s L) (hm : ∀ x, x ∈ L ↔ x ∈ L') : Kn s L' := by
  intro j
  rcases h j with ⟨h1, h2⟩ | ⟨h1, h2, h3⟩
  · exact .inl ⟨h1, fun r hr => h2 r ((hm r).2 hr)⟩
  · exact .inr ⟨(hm _).1 h1, h2, fun r hr => h3 r ((hm r).2 hr)⟩
theorem Kn_of {s : VS} {L : List Rec} (h : Kn s L) (r : Rec) (h1 : 1 ≤ r.id) (h2 : r.id ≤ 32) :
    (ofE s r.id = (Rec.zero, false) ∧ s.K r.id.toNat = Rec.zero ∧ ∀ x ∈ L, x.id.toNat ≠ r.id.toNat) ∨ (ofE s r.id = (s.K r.id.toNat, true) ∧ s.K r.id.toNat ∈ L ∧ (s.K r.id.toNat).id = r.id ∧ ∀ x ∈ L, x.id.toNat = r.id.toNat → 0 ≤ order (s.K r.id.toNat) x) := by
  rcases h r.id.toNat with ⟨k1, k2⟩ | ⟨k1, k2, k3⟩
  · refine .inl ⟨?_, k1, k2⟩
    unfold ofE
    rw [k1, if_pos (.inr (.inr rfl))]
  · refine .inr ⟨?_, k1, by omega, k3⟩
    exact of_K s r.id _ rfl h1 h2 (by omega)
theorem Kn_take {s : VS} {L : List Rec} (h : Kn s L) (r : Rec) (hr : right r = true) : Kn (takeE s r).2.2 (L ++ [r]) := by
  obtain ⟨g1, g2, -, -⟩ := right_id hr
  have hto : (r.id.toNat : Int) = r.id := by omega
  have hov := Kn_of h r g1 g2
  intro j
  rw [take_K]
  have ht : (takeE s r).1 = !(decide ((ofE s r.id).2 = true) && decide (over r (ofE s r.id).1 = false)) := by
    unfold takeE
    rw [if_neg (by rw [hr]; decide)]
    by_cases hc : (ofE s r.id).2 = true ∧ over r (ofE s r.id).1 = false
    · rw [if_pos hc, hc.1, hc.2]; rfl
    · rw [if_neg hc]
      have : (decide ((ofE s r.id).2 = true) && decide (over r (ofE s r.id).1 = false)) = false := by
        rw [Bool.and_eq_false_iff]
        by_cases h1 : (ofE s r.id).2 = true
        · exact .inr (decide_eq_false (fun h2 => hc ⟨h1, h2⟩))
        · exact .inl (decide_eq_false h1)
      rw [this]
      split <;> rfl
  rw [ht]
  rcases hov with ⟨ho, hK, hn⟩ | ⟨ho, hm, hid, hg⟩
  · rw [ho, if_pos (by simp)]
    unfold upd
    by_cases hj : j = r.id.toNat
    · subst hj
      rw [if_pos rfl]
      refine .inr ⟨by simp, by omega, fun x hx hxj => ?_⟩
      rcases List.mem_append.1 hx with hx | hx
      · exact absurd hxj (hn x hx)
      · rw [List.mem_singleton.1 hx, order_self]; decide
    · rw [if_neg hj]
      rcases h j with ⟨h1, h2⟩ | ⟨h1, h2, h3⟩
      · refine .inl ⟨h1, fun x hx => ?_⟩
        rcases List.mem_append.1 hx with hx | hx
        · exact h2 x hx
        · rw [List.mem_singleton.1 hx]; exact fun h => hj h.symm
      · refine .inr ⟨List.mem_append_left _ h1, h2, fun x hx hxj => ?_⟩
        rcases List.mem_append.1 hx with hx | hx
        · exact h3 x hx hxj
        · rw [List.mem_singleton.1 hx] at hxj; exact absurd hxj.symm hj
  · rw [ho]
    cases hv : over r (s.K r.id.toNat) with
    | false =>
      rw [if_neg (by simp)]
      have hge := order_nov r _ hv
      rcases h j with ⟨h1, h2⟩ | ⟨h1, h2, h3⟩
      · refine .inl ⟨h1, fun x hx => ?_⟩
        rcases List.mem_append.1 hx with hx | hx
        · exact h2 x hx
        · rw [List.mem_singleton.1 hx]
          rintro rfl
          rw [h1] at hid
          have : (0 : Int) = r.id := hid
          omega
      · refine .inr ⟨List.mem_append_left _ h1, h2, fun x hx hxj => ?_⟩
        rcases List.mem_append.1 hx with hx | hx
        · exact h3 x hx hxj
        · rw [List.mem_singleton.1 hx] at hxj ⊢
          rw [← hxj]
          exact hge
    | true =>
      have hgt := order_ov r _ hv
      rw [if_pos (by simp)]
      unfold upd
      by_cases hj : j = r.id.toNat
      · subst hj
        rw [if_pos rfl]
        refine .inr ⟨by simp, by omega, fun x hx hxj => ?_⟩
        rcases List.mem_append.1 hx with hx | hx
        · exact order_trans r _ x (Int.le_of_lt hgt) (hg x hx hxj)
        · rw [List.mem_singleton.1 hx, order_self]; decide
      · rw [if_neg hj]
        rcases h j with ⟨h1, h2⟩ | ⟨h1, h2, h3⟩
        · refine .inl ⟨h1, fun x hx => ?_⟩
          rcases List.mem_append.1 hx with hx | hx
          · exact h2 x hx
          · rw [List.mem_singleton.1 hx]; exact fun h => hj h.symm
        · refine .inr ⟨List.mem_append_left _ h1, h2, fun x hx hxj => ?_⟩
          rcases List.mem_append.1 hx with hx | hx
          · exact h3 x hx hxj
          · rw [List.mem_singleton.1 hx] at hxj; exact absurd hxj.symm hj
theorem Kn_foldl : ∀ (l : List Rec) (x : List Rec × VS) (L : List Rec), Kn x.2 L → (∀ r ∈ l, right r = true) → Kn (l.foldl mgF x).2 (L ++ l)
  | [], x, L, h, _ => by rw [List.append_nil]; exact h
  | r :: l, x, L, h, hr => by
    have := Kn_foldl l (mgF x r) (L ++ [r]) (Kn_take h r (hr r (List.mem_cons_self ..))) (fun y hy => hr y (List.mem_cons_of_mem _ hy))
    rw [List.append_assoc] at this
    exact this
theorem Kn_mg {s : VS} {L : List Rec} (h : Kn s L) (l : List Rec) (hr : ∀ r ∈ l, right r = true) : Kn (mg s l).2 (L ++ l) := Kn_foldl l ([], s) L h hr
theorem Kn_uniq {s s' : VS} {L : List Rec} (h : Kn s L) (h' : Kn s' L) (hp : ∀ r ∈ L, 0 ≤ r.id) : s.K = s'.K := by
  funext j
  rcases h j with ⟨h1, h2⟩ | ⟨h1, h2, h3⟩
  · rcases h' j with ⟨k1, k2⟩ | ⟨k1, k2, k3⟩
    · rw [h1, k1]
    · exact absurd (by omega) (h2 _ k1)
  · rcases h' j with ⟨k1, k2⟩ | ⟨k1, k2, k3⟩
    · exact absurd (by omega) (k2 _ h1)
    · exact order_anti _ _ (h2.trans k2.symm) (h3 _ k1 (by omega)) (k3 _ h1 (by omega))
theorem members_congr {s s' : VS} (h : s.K = s'.K) : members s = members s' := by unfold members; rw [h]
/-- Whoever is known already turns nothing. -/
theorem Kn_none {s : VS} {L : List Rec} (h : Kn s L) (r : Rec) (hr : right r = true) (hm : r ∈ L) : takeE s r = (false, 0, s) := by
  obtain ⟨g1, g2, -, -⟩ := right_id hr
  rcases Kn_of h r g1 g2 with ⟨-, -, hn⟩ | ⟨ho, -, hid, hg⟩
  · exact absurd rfl (hn r hm)
  · have h0 := hg r hm rfl
    have hv : over r (s.K r.id.toNat) = false := by
      unfold over
      rw [order_neg]
      exact decide_eq_false (by omega)
    unfold takeE
    rw [if_neg (by rw [hr]; decide), ho, if_pos ⟨rfl, hv⟩]
theorem mg_none {s : VS} {L : List Rec} (h : Kn s L) : ∀ (l : List Rec), (∀ r ∈ l, right r = true ∧ r ∈ L) → mg s l = ([], s) := by
  intro l hl
  unfold mg
  induction l with
  | nil => rfl
  | cons r l ih =>
    have hh := hl r (List.mem_cons_self ..)
    rw [List.foldl_cons]
    have : mgF ([], s) r = ([], s) := by
      unfold mgF
      dsimp only
      rw [Kn_none h r hh.1 hh.2, if_neg (by simp)]
    rw [this]
    exact ih (fun y hy => hl y (List.mem_cons_of_mem _ hy))
/-- The members rise. -/
theorem mem_rise {s : VS} {L : List Rec} (h : Kn s L) (k : Nat) : (mem1 s k).Pairwise (fun a b => a.id < b.id) ∧ ∀ r ∈ mem1 s k, r.id < (k : Int) := by
  induction k with
  | zero => exact ⟨List.Pairwise.nil, fun r hr => by cases hr⟩
  | succ k ih =>
    rw [mem1_succ]
    split
    · rename_i h0
      have hid : (s.K k).id = (k : Int) := by
        rcases h k with ⟨h1, _⟩ | ⟨_, h2, _⟩
        · rw [h1] at h0; exact absurd h0 (by decide)
        · exact h2
      refine ⟨List.pairwise_append.2 ⟨ih.1, List.pairwise_singleton _ _, fun a ha b hb => ?_⟩, fun r hr => ?_⟩
      · rw [List.mem_singleton.1 hb, hid]; exact ih.2 a ha
      · rcases List.mem_append.1 hr with hr | hr
        · have := ih.2 r hr; omega
        · rw [List.mem_singleton.1 hr, hid]; omega
    · rw [List.append_nil]
      exact ⟨ih.1, fun r hr => by have := ih.2 r hr; omega⟩
theorem members_rise {s : VS} {L : List Rec} (h : Kn s L) (i : Nat) (x y : Rec) (hx : (members s)[i]? = some x) (hy : (members s)[i + 1]? = some y) : x.id < y.id := by
  have hp := (mem_rise h 33).1
  obtain ⟨h1, rfl⟩ := List.getElem?_eq_some_iff.1 hx
  obtain ⟨h2, rfl⟩ := List.getElem?_eq_some_iff.1 hy
  exact List.pairwise_iff_getElem.1 hp i (i + 1) h1 h2 (Nat.lt_succ_self i)
theorem members_len (s : VS) : (members s).length ≤ 33 := mem1_len s 33
/-- What was taken from the end on, and some of it twice. -/
def Kb (L : List Rec) (s : VS) (r : Nat) : Prop := ∃ Lb, Kn s Lb ∧ (∀ x ∈ Lb, x ∈ L) ∧ (∀ j y, r ≤ j → L[j]? = some y → y ∈ Lb) ∧ s.E.length ≤ 128 ∧ s.seen ≤ 2 * (L.length - r)
theorem Kb_start (L : List Rec) : Kb L VS.new L.length := by
  refine ⟨[], Kn_new, (fun x h => by cases h), (fun j y hj hy => ?_), by decide, by rw [show VS.new.seen = 0 from rfl]; omega⟩
  have := (List.getElem?_eq_some_iff.1 hy).1
  omega
theorem Kb_step {L : List Rec} {s : VS} {r h : Nat} {y z : Rec} (hk : Kb L s (r + 1)) (hy : L[r]? = some y) (hz : L[h]? = some z) (hr : ∀ x ∈ L, right x = true) : Kb L (takeE (takeE s y).2.2 z).2.2 r := by
  obtain ⟨Lb, h1, h2, h3, h4, h5⟩ := hk
  have hym := List.mem_of_getElem? hy
  have hzm := List.mem_of_getElem? hz
  have hlt := (List.getElem?_eq_some_iff.1 hy).1
  refine ⟨(Lb ++ [y]) ++ [z], Kn_take (Kn_take h1 y (hr y hym)) z (hr z hzm), fun x hx => ?_, fun j u hj hu => ?_, take_len _ _ (take_len _ _ h4), ?_⟩
  · rcases List.mem_append.1 hx with hx | hx
    · rcases List.mem_append.1 hx with hx | hx
      · exact h2 x hx
      · rw [List.mem_singleton.1 hx]; exact hym
    · rw [List.mem_singleton.1 hx]; exact hzm
  · by_cases hjr : j = r
    · subst hjr
      rw [hy] at hu
      cases hu
      simp
    · exact List.mem_append_left _ (List.mem_append_left _ (h3 j u (by omega) hu))
  · have e1 := take_seen (takeE s y).2.2 z
    have e2 := take_seen s y
    omega
theorem Kb_end {L : List Rec} {s : VS} (hk : Kb L s 0) : Kn s L := by
  obtain ⟨Lb, h1, h2, h3, -, -⟩ := hk
  refine Kn_congr h1 (fun x => ⟨h2 x, fun hx => ?_⟩)
  obtain ⟨j, hj⟩ := List.getElem?_of_mem hx
  exact h3 j x (Nat.zero_le _) hj
theorem merge_none {s : VS} {L : List Rec} (h : Kn s L) (hr : ∀ r ∈ L, right r = true) : mergeE s L = ([], 0, s) := by
  rw [merge_good s L, mg_none h L (fun r hm => ⟨hr r hm, hm⟩)]
  rw [List.any_eq_false]
  intro r hm
  unfold bad
  rw [hr r hm]
  decide
end Go.Proofs.Ythpmlnnjfmcglaa.VW
