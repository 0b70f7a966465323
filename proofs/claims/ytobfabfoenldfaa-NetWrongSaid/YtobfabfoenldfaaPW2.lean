/- Plans of nets, plain: those that are right make a net, those with something wrong in them none. Conditions: those that each theorem names. -/
import Derived.Test.YtobfabfoenldfaaNX
namespace Go.Proofs.Ytobfabfoenldfaa.NW
set_option linter.unusedVariables false
set_option linter.unusedSimpArgs false
open Go Go.RowKit Go.Proofs.YtobfabfoenldfaaS Go.Proofs.YtobfabfoenldfaaS.Asn Go.Proofs.Ytobfabfoenldfaa.PA Go.Proofs.YtobfabfoenldfaaW.PrintWords Go.Proofs.YtobfabfoenldfaaW.PrintLast Go.Proofs.YtobfabfoenldfaaW.PrintMore
open Go.Proofs.Ytobfabfoenldfaa.BG
/-- The boxes behind i and its byte. -/
def nxtS (i : Nat) (b : Int) (sp : List Sp) : List Sp := if 0 < b % 4 ∨ sp.length = 0 then sp ++ [⟨b / 4 % 3, b / 12 % 3, 50 + i, 5 + b % 20, 3⟩] else sp
def nxtH (i : Nat) (b : Int) (sp : List Sp) : Hs := ⟨10 + i, 7, if 240 < b then 0 else sp.length⟩
def planS (l : List Int) : Nat → List Sp
  | 0 => []
  | i + 1 => nxtS i (l.getD i 0) (planS l i)
def planH (l : List Int) : Nat → List Hs
  | 0 => [⟨1, 7, 0⟩]
  | i + 1 => planH l i ++ [nxtH i (l.getD i 0) (planS l (i + 1))]
theorem planH_len (l : List Int) : ∀ i, (planH l i).length = i + 1
  | 0 => rfl
  | i + 1 => by rw [planH, List.length_append, planH_len l i]; rfl
theorem planS_len (l : List Int) : ∀ i, (planS l i).length ≤ i ∧ (planS l i).length ≤ (planS l (i + 1)).length
  | 0 => ⟨Nat.le_refl _, Nat.zero_le _⟩
  | i + 1 => by
    have h := planS_len l i
    have h1 : ∀ (j : Nat) (b : Int) (sp : List Sp), (nxtS j b sp).length ≤ sp.length + 1 ∧ sp.length ≤ (nxtS j b sp).length := by
      intro j b sp
      unfold nxtS
      split
      · rw [List.length_append]; exact ⟨Nat.le_refl _, Nat.le_add_right _ _⟩
      · exact ⟨Nat.le_succ _, Nat.le_refl _⟩
    have h2 := h1 i (l.getD i 0) (planS l i)
    have h3 := h1 (i + 1) (l.getD (i + 1) 0) (planS l (i + 1))
    refine ⟨?_, h3.2⟩
    show (nxtS i (l.getD i 0) (planS l i)).length ≤ i + 1
    omega
theorem planS_mono (l : List Int) (i : Nat) : ∀ d, (planS l i).length ≤ (planS l (i + d)).length
  | 0 => Nat.le_refl _
  | d + 1 => Nat.le_trans (planS_mono l i d) (planS_len l (i + d)).2
theorem planH_head (l : List Int) : ∀ i, ∃ t, planH l i = ⟨1, 7, 0⟩ :: t
  | 0 => ⟨[], rfl⟩
  | i + 1 => by
    obtain ⟨t, ht⟩ := planH_head l i
    exact ⟨t ++ [nxtH i (l.getD i 0) (planS l (i + 1))], by rw [planH, ht]; rfl⟩
theorem planS_mem (l : List Int) (hb : ∀ (j : Nat) (b : Int), l[j]? = some b → 0 ≤ b ∧ b ≤ 255) : ∀ (i : Nat), ∀ s ∈ planS l i, (50 ≤ s.ip ∧ s.ip < 50 + i) ∧ ((0 ≤ s.mp ∧ s.mp < 3) ∧ (0 ≤ s.fl ∧ s.fl < 3) ∧ (5 ≤ s.hold ∧ s.hold ≤ 100) ∧ s.room = 3)
  | 0, s, h => by cases h
  | i + 1, s, h => by
    have ih := planS_mem l hb i
    rw [planS] at h
    unfold nxtS at h
    have hbb : 0 ≤ l.getD i 0 ∧ l.getD i 0 ≤ 255 := by
      rw [List.getD_eq_getElem?_getD]
      cases hx : l[i]? with
      | none => exact ⟨Int.le_refl _, by decide⟩
      | some b => exact hb i b hx
    split at h
    · rcases List.mem_append.1 h with h | h
      · have := ih s h
        refine ⟨⟨this.1.1, ?_⟩, this.2⟩
        have := this.1.2
        omega
      · obtain rfl := List.mem_singleton.1 h
        generalize l.getD i 0 = b at hbb ⊢
        refine ⟨⟨?_, ?_⟩, ⟨?_, ?_⟩, ⟨?_, ?_⟩, ⟨?_, ?_⟩, rfl⟩ <;> dsimp only <;> omega
    · have := ih s h
      refine ⟨⟨this.1.1, ?_⟩, this.2⟩
      have := this.1.2
      omega
theorem planH_mem (l : List Int) : ∀ (i : Nat), ∀ x ∈ planH l i, (x.ip = 1 ∨ (10 ≤ x.ip ∧ x.ip < 10 + i)) ∧ x.po = 7 ∧ 0 ≤ x.bx ∧ x.bx ≤ (planS l i).length
  | 0, x, h => by
    obtain rfl := List.mem_singleton.1 h
    exact ⟨.inl rfl, rfl, Int.le_refl _, Int.natCast_nonneg _⟩
  | i + 1, x, h => by
    have hm := (planS_len l i).2
    rcases List.mem_append.1 h with h | h
    · obtain ⟨h1, h2, h3, h4⟩ := planH_mem l i x h
      exact ⟨h1.imp id (fun h => ⟨h.1, by have := h.2; omega⟩), h2, h3, by omega⟩
    · obtain rfl := List.mem_singleton.1 h
      refine ⟨.inr ⟨?_, ?_⟩, rfl, ?_, ?_⟩
      · show (10 : Int) ≤ 10 + i; omega
      · show (10 : Int) + i < 10 + ((i + 1 : Nat) : Int); omega
      · show (0 : Int) ≤ if 240 < l.getD i 0 then 0 else ((planS l (i + 1)).length : Int); split <;> omega
      · show (if 240 < l.getD i 0 then 0 else ((planS l (i + 1)).length : Int)) ≤ _; split <;> omega
theorem planH_nodup (l : List Int) : ∀ i, ((planH l i).map Hs.ip).Nodup
  | 0 => by simp [planH]
  | i + 1 => by
    rw [planH, List.map_append, List.nodup_append]
    refine ⟨planH_nodup l i, by simp, fun a ha b hb => ?_⟩
    obtain ⟨x, hx, rfl⟩ := List.mem_map.1 ha
    obtain rfl : b = 10 + (i : Int) := by simpa [nxtH] using hb
    obtain ⟨h1, -⟩ := planH_mem l i x hx
    omega
theorem planS_nodup (l : List Int) (hb : ∀ (j : Nat) (b : Int), l[j]? = some b → 0 ≤ b ∧ b ≤ 255) : ∀ i, ((planS l i).map Sp.ip).Nodup
  | 0 => List.nodup_nil
  | i + 1 => by
    rw [planS]
    unfold nxtS
    split
    · rw [List.map_append, List.nodup_append]
      refine ⟨planS_nodup l hb i, by simp, fun a ha b hb' => ?_⟩
      obtain ⟨x, hx, rfl⟩ := List.mem_map.1 ha
      obtain rfl : b = 50 + (i : Int) := by simpa using hb'
      have := (planS_mem l hb i x hx).1
      omega
    · exact planS_nodup l hb i
/-! ## right -/
theorem hosts_ok (nb : Nat) : ∀ (L P : List Hs), (∀ x ∈ L, noneB x.ip x.po = false ∧ 0 ≤ x.bx ∧ x.bx ≤ nb) → ((P ++ L).map Hs.ip).Nodup → hostsBad nb P L = false
  | [], _, _, _ => rfl
  | h :: t, P, hL, hn => by
    obtain ⟨h1, h2, h3⟩ := hL h List.mem_cons_self
    have ha : P.any (adH ⟨h.ip, h.po⟩) = false := by
      rw [List.any_eq_false]
      intro x hx hc
      rw [List.map_append, List.nodup_append] at hn
      have he : x.ip = h.ip := by
        unfold adH at hc
        exact beq_iff_eq.1 (Bool.and_eq_true_iff.1 hc).1
      exact hn.2.2 x.ip (List.mem_map.2 ⟨x, hx, rfl⟩) h.ip (List.mem_map.2 ⟨h, List.mem_cons_self, rfl⟩) he
    have hb : hostBad P nb h = false := by
      unfold hostBad
      rw [ha, h1, decide_eq_false (by omega), decide_eq_false (by omega)]
      rfl
    rw [hostsBad, hb, Bool.false_or]
    refine hosts_ok nb t (P ++ [h]) (fun x hx => hL x (List.mem_cons_of_mem _ hx)) ?_
    rw [List.append_assoc]
    exact hn
theorem owned_no {P : List Int} {ip but : Int} (h : ip ∉ P) : owned P ip but = false := by
  unfold owned
  rw [List.any_eq_false]
  intro j hj hc
  have hj' := List.mem_range.1 hj
  unfold ownB at hc
  have he := beq_iff_eq.1 (Bool.and_eq_true_iff.1 hc).2
  rw [List.getD_eq_getElem?_getD, List.getElem?_eq_getElem hj', Option.getD_some] at he
  exact h (he ▸ List.getElem_mem hj')
theorem owned_yes {P : List Int} {ip : Int} (h : ip ∈ P) : owned P ip (-1) = true := by
  obtain ⟨j, hj, he⟩ := List.mem_iff_getElem.1 h
  unfold owned
  refine List.any_eq_true.2 ⟨j, List.mem_range.2 hj, ?_⟩
  unfold ownB
  rw [List.getD_eq_getElem?_getD, List.getElem?_eq_getElem hj, Option.getD_some, he, beq_self_eq_true, Bool.and_true]
  exact decide_eq_true (by omega)
theorem specs_ok (hs : List Hs) : ∀ (L : List Sp) (P : List Int), (∀ s ∈ L, s.hold ≠ 0 ∧ ∀ x ∈ hs, x.ip ≠ s.ip) → (P ++ L.map Sp.ip).Nodup → specsBad hs P L = false
  | [], _, _, _ => rfl
  | s :: t, P, hL, hn => by
    obtain ⟨h1, h2⟩ := hL s List.mem_cons_self
    have ho : owned P s.ip (-1) = false := owned_no (fun hc => (List.nodup_append.1 hn).2.2 s.ip hc s.ip (List.mem_map.2 ⟨s, List.mem_cons_self, rfl⟩) rfl)
    have hi : hs.any (ipH s.ip) = false := by
      rw [List.any_eq_false]
      intro x hx hc
      exact h2 x hx (beq_iff_eq.1 hc)
    have hb : specBad hs P s = false := by
      unfold specBad
      rw [ho, hi, beq_eq_false_iff_ne.2 h1]
      rfl
    rw [specsBad, hb, Bool.false_or]
    refine specs_ok hs t (P ++ [s.ip]) (fun x hx => hL x (List.mem_cons_of_mem _ hx)) ?_
    rw [List.append_assoc]
    exact hn
section
variable (l : List Int) (hb : ∀ (j : Nat) (b : Int), l[j]? = some b → 0 ≤ b ∧ b ≤ 255) (i : Nat) (hi : i ≤ 5)
include hb hi
theorem plan_ok : hostsBad (planS l i).length [] (planH l i) = false ∧ specsBad (planH l i) [] (planS l i) = false := by
  refine ⟨hosts_ok _ _ [] (fun x hx => ?_) (planH_nodup l i), specs_ok _ _ [] (fun s hs => ?_) (planS_nodup l hb i)⟩
  · obtain ⟨h1, h2, h3, h4⟩ := planH_mem l i x hx
    refine ⟨?_, h3, h4⟩
    unfold noneB
    rw [if_neg (by omega), h2]
    rfl
  · obtain ⟨h1, h2⟩ := planS_mem l hb i s hs
    refine ⟨by omega, fun x hx => ?_⟩
    obtain ⟨h3, -⟩ := planH_mem l i x hx
    omega
omit hi in
theorem plan_right : ∀ s ∈ planS l i, Right s := by
  intro s hs
  obtain ⟨⟨h1, h2⟩, h3, h4, ⟨h5, h6⟩, h7⟩ := planS_mem l hb i s hs
  exact ⟨h3, h4, by omega, ⟨by omega, by omega⟩, by omega, by omega⟩
end
/-! ## wrong -/
theorem hosts_bad (nb : Nat) (x : Hs) : ∀ (L P : List Hs) (T : List Hs), hostBad (P ++ L) nb x = true → hostsBad nb P (L ++ x :: T) = true
  | [], P, T, h => by
    rw [List.append_nil] at h
    show (hostBad P nb x || _) = true
    rw [h]; rfl
  | y :: L, P, T, h => by
    show (hostBad P nb y || hostsBad nb (P ++ [y]) (L ++ x :: T)) = true
    rw [hosts_bad nb x L (P ++ [y]) T (by rw [List.append_assoc]; exact h), Bool.or_true]
theorem specs_bad (hs : List Hs) (s : Sp) : ∀ (L : List Sp) (P : List Int) (T : List Sp), specBad hs (P ++ L.map Sp.ip) s = true → specsBad hs P (L ++ s :: T) = true
  | [], P, T, h => by
    rw [List.map_nil, List.append_nil] at h
    show (specBad hs P s || _) = true
    rw [h]; rfl
  | y :: L, P, T, h => by
    show (specBad hs P y || specsBad hs (P ++ [y.ip]) (L ++ s :: T)) = true
    rw [specs_bad hs s L (P ++ [y.ip]) T (by rw [List.append_assoc]; exact h), Bool.or_true]
/-- The first host without an address, or at a box that is none. -/
theorem wrong_head (nb : Nat) (x : Hs) (t : List Hs) (hs : List Hs) (sp : List Sp) (h : noneB x.ip x.po = true ∨ x.bx < 0 ∨ (nb : Int) < x.bx) : (hostsBad nb [] (x :: t) || specsBad hs [] sp) = true := by
  suffices hh : hostBad [] nb x = true by
    show ((hostBad [] nb x || _) || _) = true
    rw [hh]; rfl
  unfold hostBad
  rcases h with h | h | h
  · rw [h]; simp
  · rw [decide_eq_true h]; simp
  · rw [decide_eq_true h]; simp
theorem wrong_twice (nb : Nat) (x : Hs) (t : List Hs) (hs : List Hs) (sp : List Sp) : (hostsBad nb [] ((x :: t) ++ [x]) || specsBad hs [] sp) = true := by
  rw [hosts_bad nb x (x :: t) [] [], Bool.true_or]
  unfold hostBad
  have : ([] ++ x :: t).any (adH ⟨x.ip, x.po⟩) = true := List.any_eq_true.2 ⟨x, List.mem_cons_self, by unfold adH; simp⟩
  rw [this]; rfl
theorem wrong_spec (b : Bool) (hs : List Hs) (sp T : List Sp) (s : Sp) (h : s.hold = 0 ∨ hs.any (ipH s.ip) = true) : (b || specsBad hs [] (sp ++ s :: T)) = true := by
  rw [specs_bad hs s sp [] T, Bool.or_true]
  unfold specBad
  rcases h with h | h
  · rw [h]; rfl
  · rw [h, Bool.or_true]
theorem wrong_owned (b : Bool) (hs : List Hs) (sp : List Sp) (s : Sp) : (b || specsBad hs [] (sp ++ [s, s])) = true := by
  rw [show sp ++ [s, s] = (sp ++ [s]) ++ s :: [] by simp, specs_bad hs s (sp ++ [s]) [] [], Bool.or_true]
  unfold specBad
  rw [owned_yes (by simp)]
  simp
end Go.Proofs.Ytobfabfoenldfaa.NW
