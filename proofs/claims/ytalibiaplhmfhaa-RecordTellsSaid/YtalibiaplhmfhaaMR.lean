/- The document's answer of chapter 4 is the program's: right, order, join, bytes, words. -/
import Derived.Test.YtalibiaplhmfhaaMQ
namespace Go.Proofs.Ytalibiaplhmfhaa.MR
open Go Go.RowKit Go.Proofs.Ytalibiaplhmfhaa.PA Go.Proofs.Ytalibiaplhmfhaa.MP Go.Proofs.Ytalibiaplhmfhaa.MA Go.Proofs.Ytalibiaplhmfhaa.MQ Go.Proofs.YtalibiaplhmfhaaW.PrintWords Go.Proofs.YtalibiaplhmfhaaW.PrintLast Go.Proofs.YtalibiaplhmfhaaW.PrintMore

theorem right_ref (a0 a1 a2 a3 a4 : Int) : ref04_Right.f a0 a1 a2 a3 a4 = record_Right.f a0 a1 a2 a3 a4 := by
  rw [right_eq]
  unfold ref04_Right.f ref03_Addr_None.f rightB
  have hn : ∃ t : Bool, (if a3 = 0 then some true else some (a4 == 0)) = some t ∧ (t = false ↔ a3 ≠ 0 ∧ a4 ≠ 0) := by
    by_cases h4 : a3 = 0
    · rw [if_pos h4]
      exact ⟨_, rfl, by constructor <;> intro h <;> simp_all⟩
    · rw [if_neg h4]
      exact ⟨_, rfl, by simp [h4]⟩
  obtain ⟨t, ht, hiff⟩ := hn
  rw [ht, Option.bind_some]
  by_cases h0 : a0 ≥ 1
  · rw [if_pos h0]
    by_cases h1 : a0 ≤ 32
    · rw [if_pos h1]
      by_cases h2 : a1 ≥ 0
      · rw [if_pos h2]
        by_cases h3 : a1 ≤ 3
        · rw [if_pos h3]
          cases t with
          | false =>
            have := hiff.1 rfl
            rw [decide_eq_true (by omega)]
            rfl
          | true =>
            have : ¬ (a3 ≠ 0 ∧ a4 ≠ 0) := fun h => by have := hiff.2 h; cases this
            rw [decide_eq_false (by omega)]
            rfl
        · rw [if_neg h3, decide_eq_false (by omega)]
      · rw [if_neg h2, decide_eq_false (by omega)]
    · rw [if_neg h1, decide_eq_false (by omega)]
  · rw [if_neg h0, decide_eq_false (by omega)]

theorem order_ref (k : Nat) (a0 a1 a2 a3 a4 b0 b1 b2 b3 b4 : Int) (hk : 5 ≤ k) : ref04_Order.f k a0 a1 a2 a3 a4 b0 b1 b2 b3 b4 = some (ordR a1 a2 a3 a4 b1 b2 b3 b4) := by
  obtain ⟨k, rfl⟩ : ∃ m, k = m + 1 := ⟨k - 1, by omega⟩
  have hA : ref03_Order.f (k + 1) a3 a4 b3 b4 = some (ordA a3 a4 b3 b4) := by
    unfold ref03_Order.f ordA or2
    simp only [ref03_Order.j0]
    rcases cmpI_cases a3 b3 with ⟨h, e⟩ | ⟨h, e⟩ | ⟨h, e⟩
    · rw [if_pos h, if_pos trivial, e, if_neg (by omega)]
    · rw [if_neg (by omega), if_pos h, e, if_pos rfl]
      rcases cmpI_cases a4 b4 with ⟨h', e'⟩ | ⟨h', e'⟩ | ⟨h', e'⟩
      · rw [decide_eq_true h', if_pos rfl, e']
      · rw [decide_eq_false (by omega), if_neg (by decide), e', if_pos (by simp [h, h'])]
      · rw [decide_eq_false (by omega), if_neg (by decide), e', if_neg (by simp [h]; omega)]
    · rw [if_neg (by omega), if_neg (by omega), if_neg (by decide), if_neg (by simp; omega), e, if_neg (by omega)]
  unfold ref04_Order.f ordR
  rw [hA]
  rcases cmpI_cases a2 b2 with ⟨h, e⟩ | ⟨h, e⟩ | ⟨h, e⟩
  · rw [if_neg (by omega), if_pos h, e]
    unfold or2
    rw [if_neg (by omega)]
  · rw [if_pos h, e]
    rcases cmpI_cases a1 b1 with ⟨h', e'⟩ | ⟨h', e'⟩ | ⟨h', e'⟩
    · rw [if_neg (by omega), if_pos h', e']
      rfl
    · rw [if_pos h', e', Option.bind_some]
      rfl
    · rw [if_neg (by omega), if_neg (by omega), e']
      rfl
  · rw [if_neg (by omega), if_neg (by omega), e]
    unfold or2
    rw [if_neg (by omega)]
theorem over_ref (k : Nat) (a0 a1 a2 a3 a4 b0 b1 b2 b3 b4 : Int) (hk : 5 ≤ k) : ref04_Over.f k a0 a1 a2 a3 a4 b0 b1 b2 b3 b4 = some (decide (ordR a1 a2 a3 a4 b1 b2 b3 b4 > 0)) := by
  unfold ref04_Over.f
  rw [order_ref k _ _ _ _ _ _ _ _ _ _ hk, Option.bind_some]
theorem join_some (k : Nat) (a0 a1 a2 a3 a4 b0 b1 b2 b3 b4 : Int) (hk : 5 ≤ k) : ∃ c0 c1 c2 c3 c4, record_Join.f k a0 a1 a2 a3 a4 b0 b1 b2 b3 b4 = some (c0, c1, c2, c3, c4) := by
  unfold record_Join.f
  rw [record_over k _ _ _ _ _ _ _ _ _ _ hk, Option.bind_some]
  split <;> exact ⟨_, _, _, _, _, rfl⟩
theorem join_ref (k : Nat) (a0 a1 a2 a3 a4 b0 b1 b2 b3 b4 : Int) (hk : 5 ≤ k) : ref04_Join.f k a0 a1 a2 a3 a4 b0 b1 b2 b3 b4 = record_Join.f k a0 a1 a2 a3 a4 b0 b1 b2 b3 b4 := by
  unfold ref04_Join.f record_Join.f
  rw [record_over k _ _ _ _ _ _ _ _ _ _ hk, over_ref k _ _ _ _ _ _ _ _ _ _ hk]

/-! ## numbers -/
theorem numB_take (a : Int) (m j : Nat) (hj : j < m) : (numB a m).take j ++ [a / 2 ^ (8 * (m - 1 - j)) % 256] = (numB a m).take (j + 1) := by
  have hl : j < (numB a m).length := by simpa [numB] using hj
  rw [List.take_succ_eq_append_getElem hl]
  congr 2
  simp [numB]
theorem shr_pow (x : Int) (i : Nat) (h : i < 8) : shr .u64 x (wrap64 (8 * (i : Int))) = x / 2 ^ (8 * i) := by
  unfold shr
  rw [wrap64_id (by omega) (by omega), show (8 * (i : Int)).toNat = 8 * i by omega, Nat.min_eq_left (by simp [IntKind.bits]; omega)]
theorem ref_l0 (a : Int) (m : Nat) (hm : m ≤ 8) : ∀ (d k j : Nat), m - j = d → j ≤ m → d < k → ref02_Number.l0 k a ((numB a m).take j) ((m : Int) - 1 - (j : Int)) = some (strOfNums (numB a m)) := by
  have hlen : (numB a m).length = m := by simp [numB]
  intro d
  induction d with
  | zero =>
    intro k j hd hj hk
    obtain ⟨k, rfl⟩ : ∃ m, k = m + 1 := ⟨k - 1, by omega⟩
    simp only [ref02_Number.l0]
    rw [if_neg (by omega), List.take_of_length_le (by omega)]
  | succ d ih =>
    intro k j hd hj hk
    obtain ⟨k, rfl⟩ : ∃ m, k = m + 1 := ⟨k - 1, by omega⟩
    have hi : (m : Int) - 1 - (j : Int) = ((m - 1 - j : Nat) : Int) := by omega
    simp only [ref02_Number.l0]
    rw [hi, if_pos (by omega), if_pos (by rw [wrap64_id (by omega) (by omega)]; omega), if_pos (by rw [List.length_take]; omega), shr_pow _ _ (by omega), numB_take a m j (by omega), wrap64_id (by omega) (by omega), show ((m - 1 - j : Nat) : Int) - 1 = (m : Int) - 1 - ((j + 1 : Nat) : Int) by omega]
    exact ih k (j + 1) (by omega) (by omega) (by omega)
theorem num_ref (k : Nat) (a : Int) (m : Nat) (h1 : 1 ≤ m) (h8 : m ≤ 8) (hk : 12 ≤ k) : ref02_Number.f k a (m : Int) = some (strOfNums (numB a m)) := by
  obtain ⟨k, rfl⟩ : ∃ m, k = m + 1 := ⟨k - 1, by omega⟩
  unfold ref02_Number.f
  rw [if_neg (by omega), decide_eq_false (by omega)]
  simp only [ref02_Number.j0]
  rw [if_neg (by decide), wrap64_id (by omega) (by omega)]
  have := ref_l0 a m h8 m k 0 (by omega) (by omega) (by omega)
  simpa using this
theorem r1 (k : Nat) (a : Int) (hk : 12 ≤ k) : ref02_Number.f k a 1 = some (strOfNums (numB a 1)) := num_ref k a 1 (by omega) (by omega) hk
theorem r2 (k : Nat) (a : Int) (hk : 12 ≤ k) : ref02_Number.f k a 2 = some (strOfNums (numB a 2)) := num_ref k a 2 (by omega) (by omega) hk
theorem r4 (k : Nat) (a : Int) (hk : 12 ≤ k) : ref02_Number.f k a 4 = some (strOfNums (numB a 4)) := num_ref k a 4 (by omega) (by omega) hk
theorem putA_ref (k : Nat) (a3 a4 : Int) (hk : 12 ≤ k) : ref03_Addr_Put.f k a3 a4 = some (putA a3 a4) := by
  unfold ref03_Addr_Put.f putA
  rw [r4 k _ hk, Option.bind_some, r2 k _ hk, Option.bind_some, if_pos (by rw [numB_size, numB_size]; omega)]
theorem put_ref (k : Nat) (a0 a1 a2 a3 a4 : Int) (hk : 12 ≤ k) : ref04_Record_Put.f k a0 a1 a2 a3 a4 = record_Record_Put.f a0 a1 a2 a3 a4 := by
  rw [put_eq]
  unfold ref04_Record_Put.f putR
  rw [right_ref, right_eq, Option.bind_some]
  by_cases h : rightB a0 a1 a3 a4 = true
  · rw [if_pos h, if_pos h, r1 k _ hk, Option.bind_some, r1 k _ hk, Option.bind_some, if_pos (by rw [numB_size, numB_size]; omega), r4 k _ hk, Option.bind_some, if_pos (by rw [cat_size, numB_size, numB_size, numB_size]; omega), putA_ref k _ _ hk, Option.bind_some, if_pos (by rw [cat_size, cat_size, numB_size, numB_size, numB_size, putA_size]; omega)]
  · rw [if_neg h, if_neg h]

/-! ## words -/
theorem word_some (z : Int) : ∃ w, record_Word.f z = some w := by
  unfold record_Word.f
  split
  · exact ⟨_, rfl⟩
  · split <;> exact ⟨_, rfl⟩
theorem word_ref (z : Int) : ref04_Word.f z = record_Word.f z := by
  unfold ref04_Word.f record_Word.f
  by_cases h : z < 0
  · rw [if_pos h, if_pos h]
  · rw [if_neg h, if_neg h]
    by_cases h2 : z > 3
    · rw [if_pos h2, if_pos (by omega)]
    · rw [if_neg h2, if_neg (by omega), Option.bind_some, if_pos (by omega), if_pos (by simp only [List.length_cons, List.length_nil]; omega)]
      have hc : z = 0 ∨ z = 1 ∨ z = 2 ∨ z = 3 := by omega
      rcases hc with rfl | rfl | rfl | rfl <;> rfl

end Go.Proofs.Ytalibiaplhmfhaa.MR
