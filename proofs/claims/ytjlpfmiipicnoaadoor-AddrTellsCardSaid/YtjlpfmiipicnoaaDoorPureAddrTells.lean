/- AddrTells: for every two addresses the law answers true: they are told, put, held against one another, as the document's answer says. No condition. -/
import Derived.Test.YtjlpfmiipicnoaaDoorMX
namespace Go.Proofs.YtjlpfmiipicnoaaDoor.Pure
set_option linter.unusedVariables false
open Go Go.RowKit Go.Proofs.YtjlpfmiipicnoaaDoor.PA Go.Proofs.YtjlpfmiipicnoaaDoor.MA Go.Proofs.YtjlpfmiipicnoaaDoor.MP Go.Proofs.YtjlpfmiipicnoaaDoor.MT Go.Proofs.YtjlpfmiipicnoaaDoor.MX Go.Proofs.YtjlpfmiipicnoaaDoorW.PrintWords Go.Proofs.YtjlpfmiipicnoaaDoorW.PrintLast Go.Proofs.YtjlpfmiipicnoaaDoorW.PrintMore

/-! ## numbers -/
theorem numB_take (a : Int) (m j : Nat) (hj : j < m) : (numB a m).take j ++ [a / 2 ^ (8 * (m - 1 - j)) % 256] = (numB a m).take (j + 1) := by
  have hl : j < (numB a m).length := by simpa [numB] using hj
  rw [List.take_succ_eq_append_getElem hl]
  congr 2
  simp [numB]
theorem shr_pow (x : Int) (i : Nat) (h : i < 8) : shr .u64 x (wrap64 (8 * (i : Int))) = x / 2 ^ (8 * i) := by
  unfold shr
  rw [wrap64_id (by omega) (by omega), show (8 * (i : Int)).toNat = 8 * i by omega, Nat.min_eq_left (by simp [IntKind.bits]; omega)]
theorem ref_l0 (a : Int) (m : Nat) (hm : m ≤ 8) : ∀ (d k j : Nat), m - j = d → j ≤ m → d < k → ref02_Number.l0 k a ((numB a m).take j) ((m : Int) - 1 - (j : Int)) = some (strOfNums (numB a m)) := by
  have hlen : (numB a m).length = m := by simp [numB]
  intro d
  induction d with
  | zero =>
    intro k j hd hj hk
    obtain ⟨k, rfl⟩ : ∃ m, k = m + 1 := ⟨k - 1, by omega⟩
    simp only [ref02_Number.l0]
    rw [if_neg (by omega), List.take_of_length_le (by omega)]
  | succ d ih =>
    intro k j hd hj hk
    obtain ⟨k, rfl⟩ : ∃ m, k = m + 1 := ⟨k - 1, by omega⟩
    have hi : (m : Int) - 1 - (j : Int) = ((m - 1 - j : Nat) : Int) := by omega
    simp only [ref02_Number.l0]
    rw [hi, if_pos (by omega), if_pos (by rw [wrap64_id (by omega) (by omega)]; omega), if_pos (by rw [List.length_take]; omega), shr_pow _ _ (by omega), numB_take a m j (by omega), wrap64_id (by omega) (by omega), show ((m - 1 - j : Nat) : Int) - 1 = (m : Int) - 1 - ((j + 1 : Nat) : Int) by omega]
    exact ih k (j + 1) (by omega) (by omega) (by omega)
theorem num_ref (k : Nat) (a : Int) (m : Nat) (h1 : 1 ≤ m) (h8 : m ≤ 8) (hk : 12 ≤ k) : ref02_Number.f k a (m : Int) = some (strOfNums (numB a m)) := by
  obtain ⟨k, rfl⟩ : ∃ m, k = m + 1 := ⟨k - 1, by omega⟩
  unfold ref02_Number.f
  rw [if_neg (by omega), decide_eq_false (by omega)]
  simp only [ref02_Number.j0]
  rw [if_neg (by decide), wrap64_id (by omega) (by omega)]
  have := ref_l0 a m h8 m k 0 (by omega) (by omega) (by omega)
  simpa using this
theorem r1 (k : Nat) (a : Int) (hk : 12 ≤ k) : ref02_Number.f k a 1 = some (strOfNums (numB a 1)) := num_ref k a 1 (by omega) (by omega) hk
theorem r2 (k : Nat) (a : Int) (hk : 12 ≤ k) : ref02_Number.f k a 2 = some (strOfNums (numB a 2)) := num_ref k a 2 (by omega) (by omega) hk
theorem r4 (k : Nat) (a : Int) (hk : 12 ≤ k) : ref02_Number.f k a 4 = some (strOfNums (numB a 4)) := num_ref k a 4 (by omega) (by omega) hk
theorem putA_ref (k : Nat) (a3 a4 : Int) (hk : 12 ≤ k) : ref03_Addr_Put.f k a3 a4 = some (putA a3 a4) := by
  unfold ref03_Addr_Put.f putA
  rw [r4 k _ hk, Option.bind_some, r2 k _ hk, Option.bind_some, if_pos (by rw [numB_size, numB_size]; omega)]
theorem order_ref (k : Nat) (a3 a4 b3 b4 : Int) (hk : 2 ≤ k) : ref03_Order.f k a3 a4 b3 b4 = some (ordA a3 a4 b3 b4) := by
  obtain ⟨k, rfl⟩ : ∃ m, k = m + 1 := ⟨k - 1, by omega⟩
  unfold ref03_Order.f ordA or2
  simp only [ref03_Order.j0]
  rcases cmpI_cases a3 b3 with ⟨h, e⟩ | ⟨h, e⟩ | ⟨h, e⟩
  · rw [if_pos h, if_pos trivial, e, if_neg (by omega)]
  · rw [if_neg (by omega), if_pos h, e, if_pos rfl]
    rcases cmpI_cases a4 b4 with ⟨h', e'⟩ | ⟨h', e'⟩ | ⟨h', e'⟩
    · rw [decide_eq_true h', if_pos rfl, e']
    · rw [decide_eq_false (by omega), if_neg (by decide), e', if_pos (by simp [h, h'])]
    · rw [decide_eq_false (by omega), if_neg (by decide), e', if_neg (by simp [h]; omega)]
  · rw [if_neg (by omega), if_neg (by omega), if_neg (by decide), if_neg (by simp; omega), e, if_neg (by omega)]
theorem none_ref (a b : Int) : ref03_Addr_None.f a b = addr_Addr_None.f a b := rfl
theorem none_some (a b : Int) : ∃ r, addr_Addr_None.f a b = some r := by
  unfold addr_Addr_None.f
  split <;> exact ⟨_, rfl⟩
theorem private_ref (a b : Int) : ∃ r, addr_Addr_Private.f a b = some r ∧ ref03_Addr_Private.f a b = some r := by
  unfold addr_Addr_Private.f ref03_Addr_Private.f
  by_cases h1 : a / 16777216 = 10
  · rw [if_pos h1, if_pos h1]; exact ⟨_, rfl, rfl⟩
  · rw [if_neg h1, if_neg h1]
    by_cases h2 : a / 1048576 = 2753
    · rw [if_pos h2, if_pos h2]; exact ⟨_, rfl, rfl⟩
    · rw [if_neg h2, if_neg h2]
      by_cases h3 : a / 65536 = 49320
      · rw [if_pos h3]; exact ⟨true, rfl, by simp [h3]⟩
      · rw [if_neg h3]; exact ⟨false, rfl, by simp [h3]⟩
theorem AddrTells : law03_AddrTells.Pure := by
  intro a0 a1 b0 b1 w0 w1 w2 w3
  have r0 := wf_u32 w0
  have r1 := wf_u16 w1
  obtain ⟨a, rfl⟩ := Int.eq_ofNat_of_zero_le r0.1
  obtain ⟨p, rfl⟩ := Int.eq_ofNat_of_zero_le r1.1
  have ha : a < 4294967296 := by omega
  have hp : p < 65536 := by omega
  obtain ⟨n, en⟩ := none_some (a : Int) (p : Int)
  obtain ⟨q, eq1, eq2⟩ := private_ref (a : Int) (p : Int)
  refine ⟨60, ?_⟩
  unfold law03_AddrTells.f law03_ref.f
  rw [examples_true 60 (by omega), Option.bind_some, if_pos rfl, Option.bind_some]
  dsimp only
  rw [addr_text 60 a p ha hp (by omega), Option.bind_some, text_ref 60 a p ha hp (by omega), Option.bind_some, if_pos rfl, putA_eq, Option.bind_some, putA_ref 60 _ _ (by omega), Option.bind_some, if_pos rfl, none_ref, en, Option.bind_some, Option.bind_some, if_pos (by simp), eq1, Option.bind_some, eq2, Option.bind_some, if_pos (by simp), addr_order 60 _ _ _ _ (by omega), Option.bind_some, Option.bind_some]
  dsimp only
  rw [order_ref 60 _ _ _ _ (by omega), Option.bind_some]
  simp

end Go.Proofs.YtjlpfmiipicnoaaDoor.Pure
