/- The document's answer of chapter 4 is the program's: right, order, join, bytes, words. -/
import Derived.Test.YtalibiaplhmfhaaMQ
namespace Go.Proofs.Ytalibiaplhmfhaa.MS
open Go Go.RowKit Go.Proofs.Ytalibiaplhmfhaa.PA Go.Proofs.Ytalibiaplhmfhaa.MP Go.Proofs.Ytalibiaplhmfhaa.MA Go.Proofs.Ytalibiaplhmfhaa.MQ Go.Proofs.YtalibiaplhmfhaaW.PrintWords Go.Proofs.YtalibiaplhmfhaaW.PrintLast Go.Proofs.YtalibiaplhmfhaaW.PrintMore

theorem right_ref (a0 a1 a2 a3 a4 : Int) : ref04_Right.f a0 a1 a2 a3 a4 = record_Right.f a0 a1 a2 a3 a4 := by
  rw [right_eq]
  unfold ref04_Right.f ref03_Addr_None.f rightB
  have hn : ∃ t : Bool, (if a3 = 0 then some true else some (a4 == 0)) = some t ∧ (t = false ↔ a3 ≠ 0 ∧ a4 ≠ 0) := by
    by_cases h4 : a3 = 0
    · rw [if_pos h4]
      exact ⟨_, rfl, by constructor <;> intro h <;> simp_all⟩
    · rw [if_neg h4]
      exact ⟨_, rfl, by simp [h4]⟩
  obtain ⟨t, ht, hiff⟩ := hn
  rw [ht, Option.bind_some]
  by_cases h0 : a0 ≥ 1
  · rw [if_pos h0]
    by_cases h1 : a0 ≤ 32
    · rw [if_pos h1]
      by_cases h2 : a1 ≥ 0
      · rw [if_pos h2]
        by_cases h3 : a1 ≤ 3
        · rw [if_pos h3]
          cases t with
          | false =>
            have := hiff.1 rfl
            rw [decide_eq_true (by omega)]
            rfl
          | true =>
            have : ¬ (a3 ≠ 0 ∧ a4 ≠ 0) := fun h => by have := hiff.2 h; cases this
            rw [decide_eq_false (by omega)]
            rfl
        · rw [if_neg h3, decide_eq_false (by omega)]
      · rw [if_neg h2, decide_eq_false (by omega)]
    · rw [if_neg h1, decide_eq_false (by omega)]
  · rw [if_neg h0, decide_eq_false (by omega)]

/-! ## numbers -/
theorem numB_take (a : Int) (m j : Nat) (hj : j < m) : (numB a m).take j ++ [a / 2 ^ (8 * (m - 1 - j)) % 256] = (numB a m).take (j + 1) := by
  have hl : j < (numB a m).length := by simpa [numB] using hj
  rw [List.take_succ_eq_append_getElem hl]
  congr 2
  simp [numB]
theorem shr_pow (x : Int) (i : Nat) (h : i < 8) : shr .u64 x (wrap64 (8 * (i : Int))) = x / 2 ^ (8 * i) := by
  unfold shr
  rw [wrap64_id (by omega) (by omega), show (8 * (i : Int)).toNat = 8 * i by omega, Nat.min_eq_left (by simp [IntKind.bits]; omega)]
theorem ref_l0 (a : Int) (m : Nat) (hm : m ≤ 8) : ∀ (d k j : Nat), m - j = d → j ≤ m → d < k → ref02_Number.l0 k a ((numB a m).take j) ((m : Int) - 1 - (j : Int)) = some (strOfNums (numB a m)) := by
  have hlen : (numB a m).length = m := by simp [numB]
  intro d
  induction d with
  | zero =>
    intro k j hd hj hk
    obtain ⟨k, rfl⟩ : ∃ m, k = m + 1 := ⟨k - 1, by omega⟩
    simp only [ref02_Number.l0]
    rw [if_neg (by omega), List.take_of_length_le (by omega)]
  | succ d ih =>
    intro k j hd hj hk
    obtain ⟨k, rfl⟩ : ∃ m, k = m + 1 := ⟨k - 1, by omega⟩
    have hi : (m : Int) - 1 - (j : Int) = ((m - 1 - j : Nat) : Int) := by omega
    simp only [ref02_Number.l0]
    rw [hi, if_pos (by omega), if_pos (by rw [wrap64_id (by omega) (by omega)]; omega), if_pos (by rw [List.length_take]; omega), shr_pow _ _ (by omega), numB_take a m j (by omega), wrap64_id (by omega) (by omega), show ((m - 1 - j : Nat) : Int) - 1 = (m : Int) - 1 - ((j + 1 : Nat) : Int) by omega]
    exact ih k (j + 1) (by omega) (by omega) (by omega)
theorem num_ref (k : Nat) (a : Int) (m : Nat) (h1 : 1 ≤ m) (h8 : m ≤ 8) (hk : 12 ≤ k) : ref02_Number.f k a (m : Int) = some (strOfNums (numB a m)) := by
  obtain ⟨k, rfl⟩ : ∃ m, k = m + 1 := ⟨k - 1, by omega⟩
  unfold ref02_Number.f
  rw [if_neg (by omega), decide_eq_false (by omega)]
  simp only [ref02_Number.j0]
  rw [if_neg (by decide), wrap64_id (by omega) (by omega)]
  have := ref_l0 a m h8 m k 0 (by omega) (by omega) (by omega)
  simpa using this
theorem r1 (k : Nat) (a : Int) (hk : 12 ≤ k) : ref02_Number.f k a 1 = some (strOfNums (numB a 1)) := num_ref k a 1 (by omega) (by omega) hk
theorem r2 (k : Nat) (a : Int) (hk : 12 ≤ k) : ref02_Number.f k a 2 = some (strOfNums (numB a 2)) := num_ref k a 2 (by omega) (by omega) hk
theorem r4 (k : Nat) (a : Int) (hk : 12 ≤ k) : ref02_Number.f k a 4 = some (strOfNums (numB a 4)) := num_ref k a 4 (by omega) (by omega) hk
theorem putA_ref (k : Nat) (a3 a4 : Int) (hk : 12 ≤ k) : ref03_Addr_Put.f k a3 a4 = some (putA a3 a4) := by
  unfold ref03_Addr_Put.f putA
  rw [r4 k _ hk, Option.bind_some, r2 k _ hk, Option.bind_some, if_pos (by rw [numB_size, numB_size]; omega)]
theorem put_ref (k : Nat) (a0 a1 a2 a3 a4 : Int) (hk : 12 ≤ k) : ref04_Record_Put.f k a0 a1 a2 a3 a4 = record_Record_Put.f a0 a1 a2 a3 a4 := by
  rw [put_eq]
  unfold ref04_Record_Put.f putR
  rw [right_ref, right_eq, Option.bind_some]
  by_cases h : rightB a0 a1 a3 a4 = true
  · rw [if_pos h, if_pos h, r1 k _ hk, Option.bind_some, r1 k _ hk, Option.bind_some, if_pos (by rw [numB_size, numB_size]; omega), r4 k _ hk, Option.bind_some, if_pos (by rw [cat_size, numB_size, numB_size, numB_size]; omega), putA_ref k _ _ hk, Option.bind_some, if_pos (by rw [cat_size, cat_size, numB_size, numB_size, numB_size, putA_size]; omega)]
  · rw [if_neg h, if_neg h]

/-! ## words -/
end Go.Proofs.Ytalibiaplhmfhaa.MS
