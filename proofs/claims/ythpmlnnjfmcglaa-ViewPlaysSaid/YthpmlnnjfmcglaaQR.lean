/- What a view does with a record, case by case. No condition but those that each theorem names. -/
import Derived.Test.YthpmlnnjfmcglaaQL
namespace Go.Proofs.Ythpmlnnjfmcglaa.VW
set_option linter.unusedVariables false
set_option linter.unusedSimpArgs false
open Go Go.RowKit
theorem cmpI_self (a : Int) : cmpI a a = 0 := by unfold cmpI; rw [if_neg (by omega), if_neg (by omega)]
theorem cmpI_neg (a b : Int) : cmpI a b = - cmpI b a := by unfold cmpI; split <;> split <;> (try split) <;> (try split) <;> omega
theorem or2_neg (a b c d : Int) (h1 : a = - c) (h2 : b = - d) : or2 a b = - or2 c d := by unfold or2; split <;> split <;> omega
theorem order_self (a : Rec) : order a a = 0 := by
  unfold order ordR ordA
  rw [cmpI_self, cmpI_self, cmpI_self, cmpI_self]
  decide
theorem order_neg (a b : Rec) : order a b = - order b a := by
  unfold order ordR ordA
  exact or2_neg _ _ _ _ (cmpI_neg _ _) (or2_neg _ _ _ _ (cmpI_neg _ _) (or2_neg _ _ _ _ (cmpI_neg _ _) (cmpI_neg _ _)))
theorem order_nov (a b : Rec) (h : over a b = false) : 0 ≤ order b a := by
  have h1 : ¬ order a b > 0 := of_decide_eq_false h
  rw [order_neg]
  omega
theorem order_ov (a b : Rec) (h : over a b = true) : 0 < order a b := of_decide_eq_true h
theorem of_K (s : VS) (id : Int) (y : Rec) (h : s.K id.toNat = y) (h1 : 1 ≤ id) (h2 : id ≤ 32) (h3 : y.id ≠ 0) : ofE s id = (y, true) := by
  unfold ofE
  generalize s.K id.toNat = z at h
  subst h
  rw [if_neg (by omega)]
theorem of_upd (K : Nat → Rec) (E : List Ev) (n : Nat) (r : Rec) (h1 : 1 ≤ r.id) (h2 : r.id ≤ 32) : ofE ⟨upd K r.id.toNat r, E, n⟩ r.id = (r, true) :=
  of_K _ _ r (by show upd K r.id.toNat r r.id.toNat = r; unfold upd; rw [if_pos rfl]) h1 h2 (by omega)
theorem right_id {r : Rec} (h : right r = true) : 1 ≤ r.id ∧ r.id ≤ 32 ∧ 0 ≤ r.st ∧ r.st ≤ 3 := by
  have := of_decide_eq_true h
  exact ⟨this.1, this.2.1, this.2.2.1, this.2.2.2.1⟩
theorem tell_K (s : VS) (e : Ev) : (tell s e).K = s.K := by rw [tell]
theorem tell_E (s : VS) (e : Ev) : (tell s e).E = (s.E ++ [e]).drop (s.E.length + 1 - 128) := by rw [tell]
theorem tell_seen (s : VS) (e : Ev) : (tell s e).seen = s.seen + 1 := by rw [tell]
theorem of_congr {s s' : VS} (h : s.K = s'.K) (id : Int) : ofE s id = ofE s' id := by
  obtain ⟨K, E, n⟩ := s
  obtain ⟨K', E', n'⟩ := s'
  have h' : K = K' := h
  subst h'
  rfl
theorem tell_last (s : VS) (e : Ev) (h : s.E.length ≤ 128) : ∃ m, (tell s e).E.length = m + 1 ∧ (tell s e).E[m]? = some e := by
  have hl : (s.E ++ [e]).length = s.E.length + 1 := by rw [List.length_append, List.length_singleton]
  refine ⟨s.E.length - (s.E.length + 1 - 128), ?_, ?_⟩
  · rw [tell_E, List.length_drop, hl]
    omega
  · rw [tell_E, List.getElem?_drop, show s.E.length + 1 - 128 + (s.E.length - (s.E.length + 1 - 128)) = s.E.length by omega, List.getElem?_append_right (Nat.le_refl _), Nat.sub_self]
    rfl
/-- One record, case by case: new; not over what is known; over it, of the same state; over it, of another one. -/
inductive Turn (s : VS) (r : Rec) : Prop
  | new (ho : ofE s r.id = (Rec.zero, false)) (ht : takeE s r = (true, 0, (takeE s r).2.2)) (hn : ofE (takeE s r).2.2 r.id = (r, true)) (hs : (takeE s r).2.2.seen = s.seen + 1) (hl : ∃ m, (takeE s r).2.2.E.length = m + 1 ∧ (takeE s r).2.2.E[m]? = some ⟨r.id, -1, r.st, r.inc⟩)
  | old (y : Rec) (ho : ofE s r.id = (y, true)) (ht : takeE s r = (false, 0, s)) (h1 : 0 ≤ order y r)
  | same (y : Rec) (ho : ofE s r.id = (y, true)) (ht : takeE s r = (true, 0, (takeE s r).2.2)) (hn : ofE (takeE s r).2.2 r.id = (r, true)) (hs : (takeE s r).2.2.seen = s.seen) (h1 : 0 < order r y) (h2 : y.st = r.st)
  | over (y : Rec) (ho : ofE s r.id = (y, true)) (ht : takeE s r = (true, 0, (takeE s r).2.2)) (hn : ofE (takeE s r).2.2 r.id = (r, true)) (hs : (takeE s r).2.2.seen = s.seen + 1) (hl : ∃ m, (takeE s r).2.2.E.length = m + 1 ∧ (takeE s r).2.2.E[m]? = some ⟨r.id, y.st, r.st, r.inc⟩) (h1 : 0 < order r y) (h2 : y.st ≠ r.st)
theorem turn (s : VS) (r : Rec) (hr : right r = true) (hE : s.E.length ≤ 128) : Turn s r := by
  obtain ⟨g1, g2, g3, g4⟩ := right_id hr
  obtain ⟨⟨y, th⟩, ho⟩ : ∃ x, ofE s r.id = x := ⟨_, rfl⟩
  have hw : wasE s r.id = if th = true then y.st else -1 := by unfold wasE; rw [ho]
  have hu := of_upd s.K s.E s.seen r g1 g2
  have ht0 : takeE s r = if th = true ∧ over r y = false then (false, 0, s) else if (if th = true then y.st else -1) = r.st then (true, 0, { s with K := upd s.K r.id.toNat r }) else (true, 0, tell { s with K := upd s.K r.id.toNat r } ⟨r.id, (if th = true then y.st else -1), r.st, r.inc⟩) := by
    unfold takeE
    rw [if_neg (by rw [hr]; decide), hw, ho]
  cases th with
  | false =>
    have hy : y = Rec.zero := by
      unfold ofE at ho
      split at ho
      · cases ho; rfl
      · cases ho
    subst hy
    rw [if_neg (by rintro ⟨h, _⟩; cases h)] at ht0
    rw [show (if false = true then Rec.zero.st else (-1 : Int)) = -1 from rfl, if_neg (by omega)] at ht0
    refine .new ho (by rw [ht0]) (by rw [ht0, of_congr (tell_K _ _)]; exact hu) (by rw [ht0, tell_seen]) (by rw [ht0]; exact tell_last _ _ hE)
  | true =>
    rw [if_pos (show true = true from rfl)] at ht0
    cases hov : over r y with
    | false =>
      rw [if_pos ⟨rfl, hov⟩] at ht0
      exact .old y ho ht0 (order_nov r y hov)
    | true =>
      rw [if_neg (by rintro ⟨_, h⟩; rw [hov] at h; cases h)] at ht0
      by_cases hs : y.st = r.st
      · rw [if_pos hs] at ht0
        exact .same y ho (by rw [ht0]) (by rw [ht0]; exact hu) (by rw [ht0]) (order_ov r y hov) hs
      · rw [if_neg hs] at ht0
        refine .over y ho (by rw [ht0]) (by rw [ht0, of_congr (tell_K _ _)]; exact hu) (by rw [ht0, tell_seen]) (by rw [ht0]; exact tell_last _ _ hE) (order_ov r y hov) hs
/-! ## ViewRises -/
/-- Only 1 to 6 are known. -/
def Six (s : VS) : Prop := ∀ j, s.K j = Rec.zero ∨ (1 ≤ j ∧ j ≤ 6)
theorem Six_new : Six VS.new := fun j => .inl rfl
theorem Six_take (s : VS) (r : Rec) (h : Six s) (h1 : 1 ≤ r.id) (h2 : r.id ≤ 6) : Six (takeE s r).2.2 := by
  intro j
  rw [take_K]
  split
  · unfold upd
    by_cases hj : j = r.id.toNat
    · exact .inr (by omega)
    · rw [if_neg hj]; exact h j
  · exact h j
theorem Six_mem (s : VS) (h : Six s) (k : Nat) : (mem1 s (k + 1)).length ≤ min k 6 := by
  induction k with
  | zero =>
    rcases h 0 with hK | hK
    · rw [mem1_succ, hK, if_neg (by decide)]
      exact Nat.le_refl 0
    · omega
  | succ k ih =>
    rw [mem1_succ, List.length_append]
    rcases h (k + 1) with hK | hK
    · rw [hK, if_neg (by decide), List.length_nil]; omega
    · split
      · rw [List.length_singleton]; omega
      · rw [List.length_nil]; omega
theorem Six_members (s : VS) (h : Six s) : (members s).length ≤ 6 := by
  have := Six_mem s h 32
  exact this
/-- A record by its parts. -/
structure Th where
  r : Rec
  own : Bool
def thE (t : Th) : Rec := if t.own = true then ⟨1 + IntKind.u64.wrap t.r.id % 6, IntKind.u64.wrap t.r.st % 4, t.r.inc % 5, 1 + t.r.ip % 3, 7⟩ else t.r
def u32Ok (i : Int) : Prop := 0 ≤ i ∧ i < 4294967296
def recOk (r : Rec) : Prop := u32Ok r.inc ∧ u32Ok r.ip
def thOk (t : Th) : Prop := recOk t.r
theorem thE_own (t : Th) (h : thOk t) (ho : t.own = true) : right (thE t) = true ∧ (thE t).id ≤ 6 := by
  obtain ⟨⟨h1, h2⟩, h3, h4⟩ := h
  have e1 := Int.emod_nonneg (IntKind.u64.wrap t.r.id) (show (6 : Int) ≠ 0 by decide)
  have e2 := Int.emod_lt_of_pos (IntKind.u64.wrap t.r.id) (show (0 : Int) < 6 by decide)
  have e3 := Int.emod_nonneg (IntKind.u64.wrap t.r.st) (show (4 : Int) ≠ 0 by decide)
  have e4 := Int.emod_lt_of_pos (IntKind.u64.wrap t.r.st) (show (0 : Int) < 4 by decide)
  unfold thE
  rw [if_pos ho]
  unfold right
  refine ⟨decide_eq_true ?_, ?_⟩
  · dsimp only
    omega
  · dsimp only
    omega
end Go.Proofs.Ythpmlnnjfmcglaa.VW
