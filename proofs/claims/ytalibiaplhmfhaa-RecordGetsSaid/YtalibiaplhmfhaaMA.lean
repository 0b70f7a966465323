/- The plain mathematics of chapter 4: how records stand, what the printed functions of packages record and addr come to. -/
import Derived.Test.YtalibiaplhmfhaaMP
namespace Go.Proofs.Ytalibiaplhmfhaa.MA
open Go Go.RowKit Go.Proofs.Ytalibiaplhmfhaa.PA Go.Proofs.Ytalibiaplhmfhaa.MP Go.Proofs.YtalibiaplhmfhaaW.PrintWords Go.Proofs.YtalibiaplhmfhaaW.PrintLast Go.Proofs.YtalibiaplhmfhaaW.PrintMore

theorem wf_u32 {n : Int} (h : (Lit.int .u32 n).wf = true) : 0 ≤ n ∧ n < 4294967296 := by
  simp [Lit.wf, IntKind.min, IntKind.max, IntKind.signed, IntKind.bits] at h
  omega

/-! ## how two stand -/
def cmpI (a b : Int) : Int := if a < b then -1 else if a > b then 1 else 0
theorem cmp_u32 (a b : Int) : cmp_Compare_uint32.f a b = some (cmpI a b) := by
  unfold cmp_Compare_uint32.f cmp_isNaN_uint32.f cmpI
  simp only [bne_self_eq_false, Option.bind_some]
  rw [if_neg (by decide), if_neg (by decide)]
  by_cases h1 : a < b
  · rw [if_pos h1, if_pos h1]
  · rw [if_neg h1, if_neg h1]
    by_cases h2 : a > b
    · rw [if_pos h2, if_pos h2]
    · rw [if_neg h2, if_neg h2]
theorem cmp_u16 (a b : Int) : cmp_Compare_uint16.f a b = some (cmpI a b) := by
  unfold cmp_Compare_uint16.f cmp_isNaN_uint16.f cmpI
  simp only [bne_self_eq_false, Option.bind_some]
  rw [if_neg (by decide), if_neg (by decide)]
  by_cases h1 : a < b
  · rw [if_pos h1, if_pos h1]
  · rw [if_neg h1, if_neg h1]
    by_cases h2 : a > b
    · rw [if_pos h2, if_pos h2]
    · rw [if_neg h2, if_neg h2]
theorem cmp_i (a b : Int) : cmp_Compare_int.f a b = some (cmpI a b) := by
  unfold cmp_Compare_int.f cmp_isNaN_int.f cmpI
  simp only [bne_self_eq_false, Option.bind_some]
  rw [if_neg (by decide), if_neg (by decide)]
  by_cases h1 : a < b
  · rw [if_pos h1, if_pos h1]
  · rw [if_neg h1, if_neg h1]
    by_cases h2 : a > b
    · rw [if_pos h2, if_pos h2]
    · rw [if_neg h2, if_neg h2]
def or2 (a b : Int) : Int := if a = 0 then b else a
theorem or_two (k : Nat) (a b : Int) (hk : 4 ≤ k) : cmp_Or_int.f k [a, b] = some (or2 a b) := by
  obtain ⟨k, rfl⟩ : ∃ m, k = m + 4 := ⟨k - 4, by omega⟩
  unfold cmp_Or_int.f or2
  simp only [cmp_Or_int.l0, List.length_cons, List.length_nil]
  simp [rd, wrap64]
  by_cases h : a = 0
  · simp only [h, if_true]
    by_cases h2 : b = 0
    · simp [h2]
    · simp [h2]
  · simp [h]
theorem or_three (k : Nat) (a b c : Int) (hk : 5 ≤ k) : cmp_Or_int.f k [a, b, c] = some (or2 a (or2 b c)) := by
  obtain ⟨k, rfl⟩ : ∃ m, k = m + 5 := ⟨k - 5, by omega⟩
  unfold cmp_Or_int.f or2
  simp only [cmp_Or_int.l0, List.length_cons, List.length_nil]
  simp [rd, wrap64]
  by_cases h : a = 0
  · simp only [h, if_true]
    by_cases h2 : b = 0
    · simp only [h2, if_true]
      by_cases h3 : c = 0
      · simp [h3]
      · simp [h3]
    · simp [h2]
  · simp [h]

def ordA (a0 a1 b0 b1 : Int) : Int := or2 (cmpI a0 b0) (cmpI a1 b1)
theorem addr_order (k : Nat) (a0 a1 b0 b1 : Int) (hk : 5 ≤ k) : addr_Order.f k a0 a1 b0 b1 = some (ordA a0 a1 b0 b1) := by
  unfold addr_Order.f
  rw [cmp_u32, Option.bind_some, cmp_u16, Option.bind_some, or_two k _ _ (by omega), Option.bind_some]
  rfl
def ordR (a1 a2 a3 a4 b1 b2 b3 b4 : Int) : Int := or2 (cmpI a2 b2) (or2 (cmpI a1 b1) (ordA a3 a4 b3 b4))
theorem record_order (k : Nat) (a0 a1 a2 a3 a4 b0 b1 b2 b3 b4 : Int) (hk : 5 ≤ k) : record_Order.f k a0 a1 a2 a3 a4 b0 b1 b2 b3 b4 = some (ordR a1 a2 a3 a4 b1 b2 b3 b4) := by
  unfold record_Order.f
  rw [cmp_u32, Option.bind_some, cmp_i, Option.bind_some, addr_order k _ _ _ _ hk, Option.bind_some, or_three k _ _ _ hk, Option.bind_some]
  rfl
theorem record_over (k : Nat) (a0 a1 a2 a3 a4 b0 b1 b2 b3 b4 : Int) (hk : 5 ≤ k) : record_Over.f k a0 a1 a2 a3 a4 b0 b1 b2 b3 b4 = some (decide (ordR a1 a2 a3 a4 b1 b2 b3 b4 > 0)) := by
  unfold record_Over.f
  rw [record_order k _ _ _ _ _ _ _ _ _ _ hk, Option.bind_some]
theorem cmpI_cases (a b : Int) : (a < b ∧ cmpI a b = -1) ∨ (a = b ∧ cmpI a b = 0) ∨ (b < a ∧ cmpI a b = 1) := by
  unfold cmpI
  rcases Int.lt_trichotomy a b with h | h | h
  · exact .inl ⟨h, by rw [if_pos h]⟩
  · exact .inr (.inl ⟨h, by rw [if_neg (by omega), if_neg (by omega)]⟩)
  · exact .inr (.inr ⟨h, by rw [if_neg (by omega), if_pos h]⟩)
theorem cmpI_anti (a b : Int) : cmpI b a = -cmpI a b := by
  rcases cmpI_cases a b with ⟨h, e⟩ | ⟨h, e⟩ | ⟨h, e⟩ <;> rcases cmpI_cases b a with ⟨h', e'⟩ | ⟨h', e'⟩ | ⟨h', e'⟩ <;> omega
theorem or2_anti (a b : Int) : or2 (-a) (-b) = -or2 a b := by
  unfold or2
  by_cases h : a = 0
  · rw [if_pos h, if_pos (by omega)]
  · rw [if_neg h, if_neg (by omega)]
theorem ordR_anti (a1 a2 a3 a4 b1 b2 b3 b4 : Int) : ordR b1 b2 b3 b4 a1 a2 a3 a4 = -ordR a1 a2 a3 a4 b1 b2 b3 b4 := by
  unfold ordR ordA
  rw [cmpI_anti a2, cmpI_anti a1, cmpI_anti a3, cmpI_anti a4, or2_anti, or2_anti, or2_anti]
theorem or2_rng {a b : Int} (ha : -1 ≤ a ∧ a ≤ 1) (hb : -1 ≤ b ∧ b ≤ 1) : -1 ≤ or2 a b ∧ or2 a b ≤ 1 := by unfold or2; split <;> omega
theorem cmpI_rng (a b : Int) : -1 ≤ cmpI a b ∧ cmpI a b ≤ 1 := by rcases cmpI_cases a b with ⟨h, e⟩ | ⟨h, e⟩ | ⟨h, e⟩ <;> omega
theorem ordR_rng (a1 a2 a3 a4 b1 b2 b3 b4 : Int) : -1 ≤ ordR a1 a2 a3 a4 b1 b2 b3 b4 ∧ ordR a1 a2 a3 a4 b1 b2 b3 b4 ≤ 1 :=
  or2_rng (cmpI_rng _ _) (or2_rng (cmpI_rng _ _) (or2_rng (cmpI_rng _ _) (cmpI_rng _ _)))
theorem cmpI_self (a : Int) : cmpI a a = 0 := by rcases cmpI_cases a a with ⟨h, e⟩ | ⟨h, e⟩ | ⟨h, e⟩ <;> omega
theorem ordR_self (a1 a2 a3 a4 : Int) : ordR a1 a2 a3 a4 a1 a2 a3 a4 = 0 := by
  unfold ordR ordA
  rw [cmpI_self, cmpI_self, cmpI_self, cmpI_self]
  rfl

theorem thing_some (a0 a1 a2 a3 a4 : Int) (b : Bool) : ∃ r0 r1 r2 r3 r4, law04_Thing_thing.f a0 a1 a2 a3 a4 b = some (r0, r1, r2, r3, r4) := by
  unfold law04_Thing_thing.f
  split
  · exact ⟨_, _, _, _, _, rfl⟩
  · exact ⟨_, _, _, _, _, rfl⟩

theorem examples_true (k : Nat) (hk : 16 ≤ k) : law04_examples.f k = some true :=
  at_rounds (fun k => law04_examples.mono k) hk (by decide +kernel)

end Go.Proofs.Ytalibiaplhmfhaa.MA
