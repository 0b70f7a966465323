/- ViewEvents in plain: what a view is behind i turns. No condition but those that each theorem names. -/
import Derived.Test.YthpmlnnjfmcglaaVP
namespace Go.Proofs.Ythpmlnnjfmcglaa.VW
set_option linter.unusedVariables false
set_option linter.unusedSimpArgs false
open Go Go.RowKit
/-- The record of turn i. -/
def rc (i : Nat) : Rec := ⟨1 + ((i % 3 : Nat) : Int), ((i / 3 % 2 : Nat) : Int), ((i / 3 + 1 : Nat) : Int), 1, 1⟩
def wasOf (k : Nat) : Int := if k < 3 then -1 else (((k - 3) / 3 % 2 : Nat) : Int)
def ek (k : Nat) : Ev := ⟨1 + ((k % 3 : Nat) : Int), wasOf k, ((k / 3 % 2 : Nat) : Int), ((k / 3 + 1 : Nat) : Int)⟩
def evs (i : Nat) : List Ev := (List.range i).map ek
def KE (i : Nat) (j : Nat) : Rec := if 1 ≤ j ∧ j ≤ 3 ∧ j ≤ i then rc (j - 1 + 3 * ((i - j) / 3)) else Rec.zero
def lastE (n i : Nat) : List Ev := (evs i).drop (i - n)
/-- The view behind i turns. -/
def SE (i : Nat) : VS := ⟨KE i, lastE 128 i, i⟩
theorem SE_zero : SE 0 = VS.new := by
  unfold SE VS.new
  congr 1
  funext j
  unfold KE
  rw [if_neg (by omega)]
theorem evs_len (i : Nat) : (evs i).length = i := by simp [evs]
theorem lastE_eq (n i : Nat) : lastE n i = (evs i).drop (i - n) := rfl
theorem SE_E (i : Nat) : (SE i).E = lastE 128 i := by rw [SE]
theorem lastE_len (n i : Nat) : (lastE n i).length = min i n := by rw [lastE_eq, List.length_drop, evs_len]; omega
theorem SE_len (i : Nat) : (SE i).E.length = min i 128 := by
  rw [SE_E, lastE_len]
theorem SE_at (i j : Nat) (h : j < min i 128) : (SE i).E[j]? = some (ek (i - min i 128 + j)) := by
  rw [SE_E, lastE_eq, List.getElem?_drop, show i - 128 + j = i - min i 128 + j by omega]
  unfold evs
  rw [List.getElem?_map, List.getElem?_range (by omega), Option.map_some]
theorem right_rc (i : Nat) : right (rc i) = true := by
  unfold right rc
  exact decide_eq_true (by dsimp only; omega)
theorem of_rc (i : Nat) : ofE (SE i) (rc i).id = if i < 3 then (Rec.zero, false) else (rc (i - 3), true) := by
  have h1 : ((rc i).id).toNat = 1 + i % 3 := by show (1 + ((i % 3 : Nat) : Int)).toNat = _; omega
  have h2 : ¬ (rc i).id < 1 := by show ¬ (1 + ((i % 3 : Nat) : Int)) < 1; omega
  have h3 : ¬ 32 < (rc i).id := by show ¬ 32 < (1 + ((i % 3 : Nat) : Int)); omega
  have hK : (SE i).K (1 + i % 3) = if i < 3 then Rec.zero else rc (i - 3) := by
    unfold SE KE
    dsimp only
    by_cases hi : i < 3
    · rw [if_neg (by omega), if_pos hi]
    · rw [if_pos (by omega), if_neg hi, show 1 + i % 3 - 1 + 3 * ((i - (1 + i % 3)) / 3) = i - 3 by omega]
  unfold ofE
  rw [h1]
  generalize (SE i).K (1 + i % 3) = y at hK
  subst hK
  by_cases hi : i < 3
  · rw [if_pos hi, if_pos hi, if_pos (.inr (.inr rfl))]
  · rw [if_neg hi, if_neg hi, if_neg]
    rintro (h | h | h)
    · exact h2 h
    · exact h3 h
    · have : (1 + (((i - 3) % 3 : Nat) : Int)) = 0 := h
      omega
theorem over_rc (i : Nat) (h : ¬ i < 3) : over (rc i) (rc (i - 3)) = true := by
  unfold over order ordR or2 cmpI rc
  dsimp only
  have h1 : ¬ ((i / 3 + 1 : Nat) : Int) < (((i - 3) / 3 + 1 : Nat) : Int) := by omega
  have h2 : ((i / 3 + 1 : Nat) : Int) > (((i - 3) / 3 + 1 : Nat) : Int) := by omega
  rw [if_neg h1, if_pos h2, if_neg (by decide)]
  decide
theorem upd_rc (i : Nat) : upd (KE i) (1 + i % 3) (rc i) = KE (i + 1) := by
  funext j
  unfold upd KE
  by_cases h : j = 1 + i % 3
  · subst h
    rw [if_pos rfl, if_pos (by omega)]
    congr 1
    omega
  · rw [if_neg h]
    by_cases h1 : 1 ≤ j ∧ j ≤ 3 ∧ j ≤ i
    · rw [if_pos h1, if_pos (by omega)]
      congr 1
      omega
    · rw [if_neg h1, if_neg (by omega)]
theorem last_next (n i : Nat) (hn : 1 ≤ n) : (lastE n i ++ [ek i]).drop ((lastE n i).length + 1 - n) = lastE n (i + 1) := by
  have he : evs (i + 1) = evs i ++ [ek i] := by unfold evs; rw [List.range_succ, List.map_append]; rfl
  rw [lastE_len, lastE_eq, lastE_eq, he]
  rw [List.drop_append_of_le_length (l₁ := evs i) (by rw [evs_len]; omega)]
  by_cases hi : i < n
  · have hm : min i n = i := Nat.min_eq_left (Nat.le_of_lt hi)
    rw [hm, show i + 1 - n = 0 by omega, show i - n = 0 by omega]
    rfl
  · have hm : min i n = n := Nat.min_eq_right (by omega)
    rw [hm, show n + 1 - n = 1 by omega, List.drop_append_of_le_length (i := 1) (l₁ := (evs i).drop (i - n)) (by rw [List.length_drop, evs_len]; omega), List.drop_drop]
    congr 2
    omega
theorem take_rc (i : Nat) : takeE (SE i) (rc i) = (true, 0, SE (i + 1)) := by
  have h1 : ((rc i).id).toNat = 1 + i % 3 := by show (1 + ((i % 3 : Nat) : Int)).toNat = _; omega
  have hw : wasE (SE i) (rc i).id = wasOf i := by
    unfold wasE wasOf
    rw [of_rc]
    by_cases hi : i < 3
    · rw [if_pos hi, if_pos hi]; rfl
    · rw [if_neg hi, if_neg hi]; rfl
  have hne : wasOf i ≠ (rc i).st := by
    show wasOf i ≠ ((i / 3 % 2 : Nat) : Int)
    unfold wasOf
    split <;> omega
  unfold takeE
  rw [if_neg (by rw [right_rc]; decide), if_neg, hw, if_neg hne, h1]
  · have hT : tell { SE i with K := upd (SE i).K (1 + i % 3) (rc i) } (ek i) = SE (i + 1) := by
      rw [SE, SE]
      unfold tell
      dsimp only
      rw [upd_rc, last_next 128 i (by decide)]
    have hE : (⟨(rc i).id, wasOf i, (rc i).st, (rc i).inc⟩ : Ev) = ek i := by rw [ek, rc]
    rw [hE, hT]
  · rw [of_rc]
    by_cases hi : i < 3
    · rw [if_pos hi]; rintro ⟨h, _⟩; cases h
    · rw [if_neg hi]
      rintro ⟨_, h⟩
      have := over_rc i hi
      rw [this] at h
      cases h
end Go.Proofs.Ythpmlnnjfmcglaa.VW
