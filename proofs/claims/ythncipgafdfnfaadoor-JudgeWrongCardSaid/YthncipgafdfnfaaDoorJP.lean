/- What the judge does, as plain functions, and what follows. No condition but those that each theorem names. (Of chapters 4 and 11's plain mathematics.) -/
import Derived.Test.YthncipgafdfnfaaDoorSepA
namespace Go.Proofs.YthncipgafdfnfaaDoor.JW
set_option linter.unusedVariables false
set_option linter.unusedSimpArgs false
open Go Go.RowKit
/-- A record: ID, state, Inc, IP, port. -/
structure Rec where
  id : Int
  st : Int
  inc : Int
  ip : Int
  po : Int
deriving DecidableEq
def Rec.zero : Rec := ⟨0, 0, 0, 0, 0⟩
def cmpI (a b : Int) : Int := if a < b then -1 else if a > b then 1 else 0
def or2 (a b : Int) : Int := if a = 0 then b else a
def ordA (a0 a1 b0 b1 : Int) : Int := or2 (cmpI a0 b0) (cmpI a1 b1)
def ordR (a1 a2 a3 a4 b1 b2 b3 b4 : Int) : Int := or2 (cmpI a2 b2) (or2 (cmpI a1 b1) (ordA a3 a4 b3 b4))
/-- How two records stand: by Inc, then the state, then the IP, then the port. -/
def order (a b : Rec) : Int := ordR a.st a.inc a.ip a.po b.st b.inc b.ip b.po
def liveB (r : Rec) : Bool := r.st == 0 || r.st == 1
theorem cmpI_self (a : Int) : cmpI a a = 0 := by unfold cmpI; rw [if_neg (by omega), if_neg (by omega)]
theorem cmpI_neg (a b : Int) : cmpI a b = - cmpI b a := by unfold cmpI; split <;> split <;> (try split) <;> (try split) <;> omega
theorem or2_neg (a b c d : Int) (h1 : a = - c) (h2 : b = - d) : or2 a b = - or2 c d := by unfold or2; split <;> split <;> omega
theorem order_self (a : Rec) : order a a = 0 := by
  unfold order ordR ordA
  rw [cmpI_self, cmpI_self, cmpI_self, cmpI_self]
  decide
theorem order_neg (a b : Rec) : order a b = - order b a := by
  unfold order ordR ordA
  exact or2_neg _ _ _ _ (cmpI_neg _ _) (or2_neg _ _ _ _ (cmpI_neg _ _) (or2_neg _ _ _ _ (cmpI_neg _ _) (cmpI_neg _ _)))
theorem cmpI_cases (a b : Int) : (a < b ∧ cmpI a b = -1) ∨ (a = b ∧ cmpI a b = 0) ∨ (b < a ∧ cmpI a b = 1) := by
  unfold cmpI
  rcases Int.lt_trichotomy a b with h | h | h
  · exact .inl ⟨h, if_pos h⟩
  · exact .inr (.inl ⟨h, by rw [if_neg (by omega), if_neg (by omega)]⟩)
  · exact .inr (.inr ⟨h, by rw [if_neg (by omega), if_pos h]⟩)
def leR (a b : Rec) : Prop := b.inc < a.inc ∨ (a.inc = b.inc ∧ (b.st < a.st ∨ (a.st = b.st ∧ (b.ip < a.ip ∨ (a.ip = b.ip ∧ b.po ≤ a.po)))))
theorem order_le (a b : Rec) : 0 ≤ order a b ↔ leR a b := by
  unfold order ordR ordA or2 leR
  rcases cmpI_cases a.inc b.inc with ⟨h, e⟩ | ⟨h, e⟩ | ⟨h, e⟩
  · rw [e, if_neg (by decide)]; omega
  · rw [e, if_pos rfl]
    rcases cmpI_cases a.st b.st with ⟨h2, e⟩ | ⟨h2, e⟩ | ⟨h2, e⟩
    · rw [e, if_neg (by decide)]; omega
    · rw [e, if_pos rfl]
      rcases cmpI_cases a.ip b.ip with ⟨h3, e⟩ | ⟨h3, e⟩ | ⟨h3, e⟩
      · rw [e, if_neg (by decide)]; omega
      · rw [e, if_pos rfl]
        rcases cmpI_cases a.po b.po with ⟨h4, e⟩ | ⟨h4, e⟩ | ⟨h4, e⟩ <;> rw [e] <;> omega
      · rw [e, if_neg (by decide)]; omega
    · rw [e, if_neg (by decide)]; omega
  · rw [e, if_neg (by decide)]; omega
theorem order_trans (a b c : Rec) (h1 : 0 ≤ order a b) (h2 : 0 ≤ order b c) : 0 ≤ order a c := by
  rw [order_le] at *
  unfold leR at *
  omega
theorem order_anti (a b : Rec) (hi : a.id = b.id) (h1 : 0 ≤ order a b) (h2 : 0 ≤ order b a) : a = b := by
  rw [order_le] at *
  unfold leR at *
  obtain ⟨a0, a1, a2, a3, a4⟩ := a
  obtain ⟨b0, b1, b2, b3, b4⟩ := b
  dsimp only at *
  obtain rfl : a0 = b0 := hi
  obtain rfl : a1 = b1 := by omega
  obtain rfl : a2 = b2 := by omega
  obtain rfl : a3 = b3 := by omega
  obtain rfl : a4 = b4 := by omega
  rfl
/-- A record by its parts. -/
structure Th where
  r : Rec
  own : Bool
def thE (t : Th) : Rec := if t.own = true then ⟨1 + IntKind.u64.wrap t.r.id % 6, IntKind.u64.wrap t.r.st % 4, t.r.inc % 5, 1 + t.r.ip % 3, 7⟩ else t.r
def u32Ok (i : Int) : Prop := 0 ≤ i ∧ i < 4294967296
def recOk (r : Rec) : Prop := u32Ok r.inc ∧ u32Ok r.ip
def thOk (t : Th) : Prop := recOk t.r
theorem thE_own (t : Th) (h : thOk t) (ho : t.own = true) : 1 ≤ (thE t).id ∧ (thE t).id ≤ 6 ∧ 0 ≤ (thE t).st ∧ (thE t).st ≤ 3 ∧ 0 ≤ (thE t).inc ∧ (thE t).inc ≤ 4 ∧ 1 ≤ (thE t).ip ∧ (thE t).ip ≤ 3 ∧ (thE t).po = 7 := by
  obtain ⟨⟨h1, h2⟩, h3, h4⟩ := h
  have e1 := Int.emod_nonneg (IntKind.u64.wrap t.r.id) (show (6 : Int) ≠ 0 by decide)
  have e2 := Int.emod_lt_of_pos (IntKind.u64.wrap t.r.id) (show (0 : Int) < 6 by decide)
  have e3 := Int.emod_nonneg (IntKind.u64.wrap t.r.st) (show (4 : Int) ≠ 0 by decide)
  have e4 := Int.emod_lt_of_pos (IntKind.u64.wrap t.r.st) (show (0 : Int) < 4 by decide)
  unfold thE
  rw [if_pos ho]
  dsimp only
  omega
/-! ## the judge -/
/-- The place of the first of which something is so, or -1. -/
def idx (p : Rec → Bool) (l : List Rec) : Int := if l.any p = true then (l.findIdx p : Int) else -1
theorem idx_found (p : Rec → Bool) (l : List Rec) (k : Nat) (y : Rec) (h : l[k]? = some y) (hp : p y = true) (hn : (l.take k).any p = false) : idx p l = (k : Int) := by
  obtain ⟨hk, rfl⟩ := List.getElem?_eq_some_iff.1 h
  unfold idx
  rw [if_pos (List.any_eq_true.2 ⟨_, List.getElem_mem hk, hp⟩)]
  congr 1
  refine (List.findIdx_eq hk).2 ⟨hp, fun j hj => ?_⟩
  rw [List.any_eq_false] at hn
  have := hn l[j] (by rw [List.mem_take_iff_getElem]; exact ⟨j, by omega, rfl⟩)
  simpa using this
theorem idx_none (p : Rec → Bool) (l : List Rec) (h : l.any p = false) : idx p l = -1 := by
  unfold idx
  rw [if_neg (by rw [h]; decide)]
theorem idx_ge (p : Rec → Bool) (l : List Rec) : decide (idx p l ≥ 0) = l.any p := by
  unfold idx
  cases h : l.any p with
  | true => rw [if_pos rfl]; exact decide_eq_true (by omega)
  | false => rw [if_neg (by decide)]; rfl
theorem idx_at (p : Rec → Bool) (l : List Rec) (h : l.any p = true) : ∃ (k : Nat) (y : Rec), idx p l = (k : Int) ∧ l[k]? = some y ∧ p y = true ∧ k < l.length := by
  have hl : l.findIdx p < l.length := List.findIdx_lt_length_of_exists (by simpa [List.any_eq_true] using h)
  refine ⟨l.findIdx p, l[l.findIdx p], ?_, List.getElem?_eq_getElem hl, List.findIdx_getElem, hl⟩
  unfold idx
  rw [if_pos h]
def isId (id : Int) (r : Rec) : Bool := decide (r.id = id)
/-- The first record of an ID. -/
def firstE (l : List Rec) (id : Int) : Rec × Bool := if idx (isId id) l < 0 then (Rec.zero, false) else (l.getD (idx (isId id) l).toNat Rec.zero, true)
def badB (b : List Rec) (r : Rec) : Bool := !(firstE b r.id).2 || decide (order (firstE b r.id).1 r < 0)
def risesE (a b : List Rec) : Bool := !a.any (badB b)
def ownB (r x : Rec) : Bool := decide (x = r) || (decide (x.inc = r.inc) && decide (r.st ≠ 0))
/-- What stands at at can't have been told. -/
def strange (told : List (List Rec)) (r : Rec) : Bool := decide (r.id < 1 ∨ (told.length : Int) < r.id) || !(told.getD (r.id - 1).toNat []).any (ownB r)
def strangerE (l : List Rec) (told : List (List Rec)) : Int := idx (strange told) l
def liveE (l : List Rec) (id : Int) : Bool := (firstE l id).2 && liveB (firstE l id).1
/-- Who is seen wrong by v, of the first n. -/
def wrong1 (views : List (List Rec)) (up : List Bool) (v n : Nat) : List (Int × Int) :=
  ((List.range n).filter (fun id => up.getD v false && (decide (v ≠ id) && (up.getD id false != liveE (views.getD v []) ((id : Int) + 1))))).map (fun id : Nat => ((v : Int) + 1, (id : Int) + 1))
def wrong2 (views : List (List Rec)) (up : List Bool) (n : Nat) : List (Int × Int) := (List.range n).flatMap (fun v => wrong1 views up v up.length)
def wrongE (views : List (List Rec)) (up : List Bool) : List (Int × Int) := wrong2 views up up.length
theorem wrong1_succ (views : List (List Rec)) (up : List Bool) (v n : Nat) : wrong1 views up v (n + 1) = wrong1 views up v n ++ if (up.getD v false && (decide (v ≠ n) && (up.getD n false != liveE (views.getD v []) ((n : Int) + 1)))) = true then [((v : Int) + 1, (n : Int) + 1)] else [] := by
  unfold wrong1
  rw [List.range_succ, List.filter_append, List.map_append]
  congr 1
  by_cases h : (up.getD v false && (decide (v ≠ n) && (up.getD n false != liveE (views.getD v []) ((n : Int) + 1)))) = true
  · rw [if_pos h, List.filter_cons, if_pos h]; rfl
  · rw [if_neg h, List.filter_cons, if_neg h]; rfl
theorem wrong1_len (views : List (List Rec)) (up : List Bool) (v n : Nat) : (wrong1 views up v n).length ≤ n := by
  unfold wrong1
  rw [List.length_map]
  refine Nat.le_trans (List.length_filter_le _ _) ?_
  simp
theorem wrong2_succ (views : List (List Rec)) (up : List Bool) (n : Nat) : wrong2 views up (n + 1) = wrong2 views up n ++ wrong1 views up n up.length := by
  unfold wrong2
  rw [List.range_succ, List.flatMap_append, List.flatMap_singleton]
theorem wrong2_len (views : List (List Rec)) (up : List Bool) (n : Nat) : (wrong2 views up n).length ≤ n * up.length := by
  induction n with
  | zero => exact Nat.zero_le _
  | succ n ih =>
    rw [wrong2_succ, List.length_append, Nat.add_mul, Nat.one_mul]
    have := wrong1_len views up n up.length
    omega
end Go.Proofs.YthncipgafdfnfaaDoor.JW
