/- The plain mathematics of chapter 3: how addresses stand, and their bytes. -/
import Derived.Test.YtjlpfmiipicnoaaDoorMP
namespace Go.Proofs.YtjlpfmiipicnoaaDoor.MA
open Go Go.RowKit Go.Proofs.YtjlpfmiipicnoaaDoor.PA Go.Proofs.YtjlpfmiipicnoaaDoor.MP Go.Proofs.YtjlpfmiipicnoaaDoorW.PrintWords Go.Proofs.YtjlpfmiipicnoaaDoorW.PrintLast Go.Proofs.YtjlpfmiipicnoaaDoorW.PrintMore
theorem wf_u32 {n : Int} (h : (Lit.int .u32 n).wf = true) : 0 ≤ n ∧ n < 4294967296 := by
  simp [Lit.wf, IntKind.min, IntKind.max, IntKind.signed, IntKind.bits] at h
  omega
def cmpI (a b : Int) : Int := if a < b then -1 else if a > b then 1 else 0
theorem cmp_u32 (a b : Int) : cmp_Compare_uint32.f a b = some (cmpI a b) := by
  unfold cmp_Compare_uint32.f cmp_isNaN_uint32.f cmpI
  simp only [bne_self_eq_false, Option.bind_some]
  rw [if_neg (by decide), if_neg (by decide)]
  by_cases h1 : a < b
  · rw [if_pos h1, if_pos h1]
  · rw [if_neg h1, if_neg h1]
    by_cases h2 : a > b
    · rw [if_pos h2, if_pos h2]
    · rw [if_neg h2, if_neg h2]
theorem cmp_u16 (a b : Int) : cmp_Compare_uint16.f a b = some (cmpI a b) := by
  unfold cmp_Compare_uint16.f cmp_isNaN_uint16.f cmpI
  simp only [bne_self_eq_false, Option.bind_some]
  rw [if_neg (by decide), if_neg (by decide)]
  by_cases h1 : a < b
  · rw [if_pos h1, if_pos h1]
  · rw [if_neg h1, if_neg h1]
    by_cases h2 : a > b
    · rw [if_pos h2, if_pos h2]
    · rw [if_neg h2, if_neg h2]
def or2 (a b : Int) : Int := if a = 0 then b else a
theorem or_two (k : Nat) (a b : Int) (hk : 4 ≤ k) : cmp_Or_int.f k [a, b] = some (or2 a b) := by
  obtain ⟨k, rfl⟩ : ∃ m, k = m + 4 := ⟨k - 4, by omega⟩
  unfold cmp_Or_int.f or2
  simp only [cmp_Or_int.l0, List.length_cons, List.length_nil]
  simp [rd, wrap64]
  by_cases h : a = 0
  · simp only [h, if_true]
    by_cases h2 : b = 0
    · simp [h2]
    · simp [h2]
  · simp [h]
def ordA (a0 a1 b0 b1 : Int) : Int := or2 (cmpI a0 b0) (cmpI a1 b1)
theorem addr_order (k : Nat) (a0 a1 b0 b1 : Int) (hk : 5 ≤ k) : addr_Order.f k a0 a1 b0 b1 = some (ordA a0 a1 b0 b1) := by
  unfold addr_Order.f
  rw [cmp_u32, Option.bind_some, cmp_u16, Option.bind_some, or_two k _ _ (by omega), Option.bind_some]
  rfl
theorem cmpI_cases (a b : Int) : (a < b ∧ cmpI a b = -1) ∨ (a = b ∧ cmpI a b = 0) ∨ (b < a ∧ cmpI a b = 1) := by
  unfold cmpI
  rcases Int.lt_trichotomy a b with h | h | h
  · exact .inl ⟨h, by rw [if_pos h]⟩
  · exact .inr (.inl ⟨h, by rw [if_neg (by omega), if_neg (by omega)]⟩)
  · exact .inr (.inr ⟨h, by rw [if_neg (by omega), if_pos h]⟩)
theorem cmpI_anti (a b : Int) : cmpI b a = -cmpI a b := by
  rcases cmpI_cases a b with ⟨h, e⟩ | ⟨h, e⟩ | ⟨h, e⟩ <;> rcases cmpI_cases b a with ⟨h', e'⟩ | ⟨h', e'⟩ | ⟨h', e'⟩ <;> omega
theorem or2_anti (a b : Int) : or2 (-a) (-b) = -or2 a b := by
  unfold or2
  by_cases h : a = 0
  · rw [if_pos h, if_pos (by omega)]
  · rw [if_neg h, if_neg (by omega)]
theorem or2_rng {a b : Int} (ha : -1 ≤ a ∧ a ≤ 1) (hb : -1 ≤ b ∧ b ≤ 1) : -1 ≤ or2 a b ∧ or2 a b ≤ 1 := by unfold or2; split <;> omega
theorem cmpI_rng (a b : Int) : -1 ≤ cmpI a b ∧ cmpI a b ≤ 1 := by rcases cmpI_cases a b with ⟨h, e⟩ | ⟨h, e⟩ | ⟨h, e⟩ <;> omega
theorem cmpI_self (a : Int) : cmpI a a = 0 := by rcases cmpI_cases a a with ⟨h, e⟩ | ⟨h, e⟩ | ⟨h, e⟩ <;> omega
theorem num_eq (a : Int) (m : Nat) (h1 : 1 ≤ m) (h8 : m ≤ 8) : pack_Number.f a (m : Int) = some (strOfNums (numB a m)) := by
  unfold pack_Number.f
  rw [if_neg (by omega), if_neg (by omega), Int.toNat_natCast]
theorem n2 (a : Int) : pack_Number.f a 2 = some (strOfNums (numB a 2)) := num_eq a 2 (by omega) (by omega)
theorem n4 (a : Int) : pack_Number.f a 4 = some (strOfNums (numB a 4)) := num_eq a 4 (by omega) (by omega)
theorem numB_size (a : Int) (m : Nat) : (strOfNums (numB a m)).size = m := by rw [strOfNums_size]; simp [numB]
theorem cat_size (x y : ByteArray) : (x ++ y).size = x.size + y.size := ByteArray.size_append
def putA (a3 a4 : Int) : ByteArray := strOfNums (numB (IntKind.u64.wrap a3) 4) ++ strOfNums (numB (IntKind.u64.wrap a4) 2)
theorem putA_eq (a3 a4 : Int) : addr_Addr_Put.f a3 a4 = some (putA a3 a4) := by
  unfold addr_Addr_Put.f putA
  rw [n4, Option.bind_some, n2, Option.bind_some, if_pos (by rw [numB_size, numB_size]; omega)]
theorem putA_size (a3 a4 : Int) : (putA a3 a4).size = 6 := by unfold putA; rw [cat_size, numB_size, numB_size]

/-! ## addresses -/
theorem ordA_anti (a0 a1 b0 b1 : Int) : ordA b0 b1 a0 a1 = -ordA a0 a1 b0 b1 := by
  unfold ordA
  rw [cmpI_anti a0, cmpI_anti a1, or2_anti]
theorem ordA_spec (a0 a1 b0 b1 : Int) :
    (ordA a0 a1 b0 b1 = 1 ∧ (b0 < a0 ∨ (b0 = a0 ∧ b1 < a1))) ∨ (ordA a0 a1 b0 b1 = 0 ∧ b0 = a0 ∧ b1 = a1) ∨ (ordA a0 a1 b0 b1 = -1 ∧ (a0 < b0 ∨ (a0 = b0 ∧ a1 < b1))) := by
  unfold ordA or2
  rcases cmpI_cases a0 b0 with ⟨h1, e1⟩ | ⟨h1, e1⟩ | ⟨h1, e1⟩
  · rw [e1, if_neg (by decide)]; omega
  · rw [e1, if_pos rfl]
    rcases cmpI_cases a1 b1 with ⟨h2, e2⟩ | ⟨h2, e2⟩ | ⟨h2, e2⟩ <;> rw [e2] <;> omega
  · rw [e1, if_neg (by decide)]; omega
theorem nb_cat (a b n m : Nat) (hb : b < 256 ^ m) : nb (a * 256 ^ m + b) (n + m) = nb a n ++ nb b m := by
  have hp : 0 < 256 ^ m := Nat.pow_pos (by decide)
  induction n with
  | zero =>
    rw [Nat.zero_add, ← nb_mod (a * 256 ^ m + b) m, Nat.mul_comm a, Nat.mul_add_mod, Nat.mod_eq_of_lt hb]
    rfl
  | succ n ih =>
    rw [show n + 1 + m = (n + m) + 1 by omega, nb, nb, ih, List.cons_append]
    congr 2
    rw [Nat.pow_add, Nat.mul_comm (256 ^ n), ← Nat.div_div_eq_div_mul, Nat.mul_comm a, Nat.mul_add_div hp, Nat.div_eq_of_lt hb, Nat.add_zero]
theorem putA_data (a b : Nat) (hb : b < 65536) (ha : a < 4294967296) : (putA (a : Int) (b : Int)).data.toList = nb (a * 65536 + b) 6 := by
  unfold putA
  rw [append_data, wrap_u64, wrap_u64, show (a : Int) % 18446744073709551616 = (a : Int) by omega, show (b : Int) % 18446744073709551616 = (b : Int) by omega, num_data, num_data]
  exact (nb_cat a b 4 2 hb).symm
theorem putA_less (a0 a1 b0 b1 : Int) (h0 : 0 ≤ a0 ∧ a0 < 4294967296) (h1 : 0 ≤ a1 ∧ a1 < 65536) (g0 : 0 ≤ b0 ∧ b0 < 4294967296) (g1 : 0 ≤ b1 ∧ b1 < 65536) :
    Op.bytesLess (putA a0 a1).toList (putA b0 b1).toList = decide (ordA a0 a1 b0 b1 < 0) := by
  obtain ⟨a, rfl⟩ := Int.eq_ofNat_of_zero_le h0.1
  obtain ⟨c, rfl⟩ := Int.eq_ofNat_of_zero_le h1.1
  obtain ⟨b, rfl⟩ := Int.eq_ofNat_of_zero_le g0.1
  obtain ⟨d, rfl⟩ := Int.eq_ofNat_of_zero_le g1.1
  rw [toList_data, toList_data, putA_data a c (by omega) (by omega), putA_data b d (by omega) (by omega), nb_less]
  have e6 : (256 : Nat) ^ 6 = 281474976710656 := by decide
  rw [e6, Nat.mod_eq_of_lt (by omega), Nat.mod_eq_of_lt (by omega)]
  have hs := ordA_spec (a : Int) (c : Int) (b : Int) (d : Int)
  by_cases h : a * 65536 + c < b * 65536 + d
  · rw [decide_eq_true h, decide_eq_true (by omega)]
  · rw [decide_eq_false h, decide_eq_false (by omega)]

theorem examples_true (k : Nat) (hk : 40 ≤ k) : law03_examples.f k = some true :=
  at_rounds (fun k => law03_examples.mono k) hk (by decide +kernel)

end Go.Proofs.YtjlpfmiipicnoaaDoor.MA
