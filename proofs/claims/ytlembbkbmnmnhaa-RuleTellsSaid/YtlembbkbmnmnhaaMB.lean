/- What slices.Contains tells of a list of addresses, and what rule.Passes tells. -/
import Derived.Test.YtlembbkbmnmnhaaMA
namespace Go.Proofs.Ytlembbkbmnmnhaa.MB
open Go Go.RowKit Go.Proofs.Ytlembbkbmnmnhaa.PA Go.Proofs.Ytlembbkbmnmnhaa.MA Go.Proofs.YtlembbkbmnmnhaaW.PrintWords Go.Proofs.YtlembbkbmnmnhaaW.PrintLast

def hit (a b : Int) (x : S28) : Bool := a == x.f0 && (b == x.f1)
theorem rd_at (l : List S28) (i : Nat) (h : i < l.length) : rd_T28 l (i : Int) = l[i] := by
  unfold rd_T28
  rw [Int.toNat_natCast, List.getD_eq_getElem?_getD, List.getElem?_eq_getElem h]
  rfl
theorem idx_l (l : List S28) (a b : Int) (hl : l.length < 9223372036854775808) : ∀ (d k i : Nat), l.length - i = d → i ≤ l.length → d < k → ∃ r, addr_Addr_28.l0 k l (l.length : Int) (i : Int) a b = some r ∧ decide (r ≥ 0) = (l.drop i).any (hit a b) := by
  intro d
  induction d with
  | zero =>
    intro k i hd hi hk
    obtain ⟨k, rfl⟩ : ∃ j, k = j + 1 := ⟨k - 1, by omega⟩
    simp only [addr_Addr_28.l0]
    rw [if_neg (by omega)]
    refine ⟨-1, rfl, ?_⟩
    rw [List.drop_eq_nil_of_le (by omega)]
    rfl
  | succ d ih =>
    intro k i hd hi hk
    obtain ⟨k, rfl⟩ : ∃ j, k = j + 1 := ⟨k - 1, by omega⟩
    have hlt : i < l.length := by omega
    simp only [addr_Addr_28.l0]
    rw [if_pos (by omega), if_pos (by omega), if_pos (by omega), rd_at l i hlt, List.drop_eq_getElem_cons hlt, List.any_cons]
    by_cases h : (a == l[i].f0 && (b == l[i].f1)) = true
    · rw [if_pos h]
      refine ⟨i, rfl, ?_⟩
      rw [show hit a b l[i] = true from h, Bool.true_or]
      exact decide_eq_true (by omega)
    · rw [if_neg h]
      have hw : wrap64 ((i : Int) + 1) = ((i + 1 : Nat) : Int) := by unfold wrap64; omega
      rw [hw]
      obtain ⟨r, h1, h2⟩ := ih k (i + 1) (by omega) (by omega) (by omega)
      refine ⟨r, h1, ?_⟩
      rw [h2, show hit a b l[i] = false from by simpa [hit] using h, Bool.false_or]
theorem has (k : Nat) (l : List S28) (a b : Int) (hl : l.length < 9223372036854775808) (hk : l.length < k) : addr_Addr_25.f k l a b = some (l.any (hit a b)) := by
  unfold addr_Addr_25.f addr_Addr_28.f
  obtain ⟨r, h1, h2⟩ := idx_l l a b hl l.length k 0 (by omega) (by omega) hk
  rw [show ((0 : Nat) : Int) = 0 from rfl] at h1
  rw [h1, Option.bind_some, h2, List.drop_zero]
theorem p0 (k : Nat) (l : List S28) (a b : Int) : rule_Passes.f k 0 0 l a b = some true := by simp [rule_Passes.f]
theorem p1 (k : Nat) (l : List S28) (a b : Int) : rule_Passes.f k 0 1 l a b = some (l.any (ipIs a)) := by simp [rule_Passes.f]
theorem p2 (k : Nat) (l : List S28) (a b : Int) (hl : l.length < 9223372036854775808) (hk : l.length < k) : rule_Passes.f k 0 2 l a b = some (l.any (hit a b)) := by
  rw [← has k l a b hl hk]
  simp [rule_Passes.f]
theorem p3 (k : Nat) (l : List S28) (a b : Int) : rule_Passes.f k 0 3 l a b = some false := by simp [rule_Passes.f]
theorem strict (l : List S28) (a b : Int) (h : l.any (hit a b) = true) : l.any (ipIs a) = true := by
  obtain ⟨x, hx, h⟩ := List.any_eq_true.1 h
  refine List.any_eq_true.2 ⟨x, hx, ?_⟩
  have h' : a = x.f0 ∧ b = x.f1 := by simpa [hit] using h
  simp [ipIs, h'.1]

end Go.Proofs.Ytlembbkbmnmnhaa.MB
