/- What the printed functions of package record come to. Conditions: those that each theorem names. (Of chapter 4's plain mathematics.) -/
import Derived.Test.YthpmlnnjfmcglaaVA
namespace Go.Proofs.Ythpmlnnjfmcglaa.VW
set_option linter.unusedVariables false
set_option linter.unusedSimpArgs false
open Go Go.RowKit Go.Proofs.Ythpmlnnjfmcglaa.PA Go.Proofs.YthpmlnnjfmcglaaW.PrintWords Go.Proofs.YthpmlnnjfmcglaaW.PrintLast Go.Proofs.YthpmlnnjfmcglaaW.PrintMore
theorem cmp_u32 (a b : Int) : cmp_Compare_uint32.f a b = some (cmpI a b) := by
  unfold cmp_Compare_uint32.f cmp_isNaN_uint32.f cmpI
  simp only [bne_self_eq_false, Option.bind_some]
  rw [if_neg (by decide), if_neg (by decide)]
  by_cases h1 : a < b
  · rw [if_pos h1, if_pos h1]
  · rw [if_neg h1, if_neg h1]
    by_cases h2 : a > b
    · rw [if_pos h2, if_pos h2]
    · rw [if_neg h2, if_neg h2]
theorem cmp_u16 (a b : Int) : cmp_Compare_uint16.f a b = some (cmpI a b) := by
  unfold cmp_Compare_uint16.f cmp_isNaN_uint16.f cmpI
  simp only [bne_self_eq_false, Option.bind_some]
  rw [if_neg (by decide), if_neg (by decide)]
  by_cases h1 : a < b
  · rw [if_pos h1, if_pos h1]
  · rw [if_neg h1, if_neg h1]
    by_cases h2 : a > b
    · rw [if_pos h2, if_pos h2]
    · rw [if_neg h2, if_neg h2]
theorem cmp_i (a b : Int) : cmp_Compare_int.f a b = some (cmpI a b) := by
  unfold cmp_Compare_int.f cmp_isNaN_int.f cmpI
  simp only [bne_self_eq_false, Option.bind_some]
  rw [if_neg (by decide), if_neg (by decide)]
  by_cases h1 : a < b
  · rw [if_pos h1, if_pos h1]
  · rw [if_neg h1, if_neg h1]
    by_cases h2 : a > b
    · rw [if_pos h2, if_pos h2]
    · rw [if_neg h2, if_neg h2]
theorem or_two (k : Nat) (a b : Int) (hk : 4 ≤ k) : cmp_Or_int.f k [a, b] = some (or2 a b) := by
  obtain ⟨k, rfl⟩ : ∃ m, k = m + 4 := ⟨k - 4, by omega⟩
  unfold cmp_Or_int.f or2
  simp only [cmp_Or_int.l0, List.length_cons, List.length_nil]
  simp [rd, wrap64]
  by_cases h : a = 0
  · simp only [h, if_true]
    by_cases h2 : b = 0
    · simp [h2]
    · simp [h2]
  · simp [h]
theorem or_three (k : Nat) (a b c : Int) (hk : 5 ≤ k) : cmp_Or_int.f k [a, b, c] = some (or2 a (or2 b c)) := by
  obtain ⟨k, rfl⟩ : ∃ m, k = m + 5 := ⟨k - 5, by omega⟩
  unfold cmp_Or_int.f or2
  simp only [cmp_Or_int.l0, List.length_cons, List.length_nil]
  simp [rd, wrap64]
  by_cases h : a = 0
  · simp only [h, if_true]
    by_cases h2 : b = 0
    · simp only [h2, if_true]
      by_cases h3 : c = 0
      · simp [h3]
      · simp [h3]
    · simp [h2]
  · simp [h]

theorem addr_order (k : Nat) (a0 a1 b0 b1 : Int) (hk : 5 ≤ k) : addr_Order.f k a0 a1 b0 b1 = some (ordA a0 a1 b0 b1) := by
  unfold addr_Order.f
  rw [cmp_u32, Option.bind_some, cmp_u16, Option.bind_some, or_two k _ _ (by omega), Option.bind_some]
  rfl
theorem record_order (k : Nat) (a0 a1 a2 a3 a4 b0 b1 b2 b3 b4 : Int) (hk : 5 ≤ k) : record_Order.f k a0 a1 a2 a3 a4 b0 b1 b2 b3 b4 = some (ordR a1 a2 a3 a4 b1 b2 b3 b4) := by
  unfold record_Order.f
  rw [cmp_u32, Option.bind_some, cmp_i, Option.bind_some, addr_order k _ _ _ _ hk, Option.bind_some, or_three k _ _ _ hk, Option.bind_some]
  rfl
theorem record_over (k : Nat) (a0 a1 a2 a3 a4 b0 b1 b2 b3 b4 : Int) (hk : 5 ≤ k) : record_Over.f k a0 a1 a2 a3 a4 b0 b1 b2 b3 b4 = some (decide (ordR a1 a2 a3 a4 b1 b2 b3 b4 > 0)) := by
  unfold record_Over.f
  rw [record_order k _ _ _ _ _ _ _ _ _ _ hk, Option.bind_some]
def rightB (a0 a1 a3 a4 : Int) : Bool := decide (1 ≤ a0 ∧ a0 ≤ 32 ∧ 0 ≤ a1 ∧ a1 ≤ 3 ∧ a3 ≠ 0 ∧ a4 ≠ 0)
theorem right_eq (a0 a1 a2 a3 a4 : Int) : record_Right.f a0 a1 a2 a3 a4 = some (rightB a0 a1 a3 a4) := by
  unfold record_Right.f addr_Addr_None.f rightB
  by_cases h0 : a0 ≥ 1
  · rw [if_pos h0]
    by_cases h1 : a0 ≤ 32
    · rw [if_pos h1]
      by_cases h2 : a1 ≥ 0
      · rw [if_pos h2]
        by_cases h3 : a1 < 4
        · rw [if_pos h3]
          by_cases h4 : a3 = 0
          · rw [if_pos h4, Option.bind_some, decide_eq_false (by omega)]
            rfl
          · rw [if_neg h4, Option.bind_some]
            by_cases h5 : a4 = 0
            · rw [decide_eq_false (by omega), show (a4 == 0) = true by simpa using h5]
              rfl
            · rw [decide_eq_true (by omega), show (a4 == 0) = false by simpa using h5]
              rfl
        · rw [if_neg h3, decide_eq_false (by omega)]
      · rw [if_neg h2, decide_eq_false (by omega)]
    · rw [if_neg h1, decide_eq_false (by omega)]
  · rw [if_neg h0, decide_eq_false (by omega)]
theorem over_f (a b : Rec) : record_Over.f 5 a.id a.st a.inc a.ip a.po b.id b.st b.inc b.ip b.po = some (over a b) := record_over 5 _ _ _ _ _ _ _ _ _ _ (by decide)
theorem order_f (a b : Rec) : record_Order.f 5 a.id a.st a.inc a.ip a.po b.id b.st b.inc b.ip b.po = some (order a b) := record_order 5 _ _ _ _ _ _ _ _ _ _ (by decide)
theorem right_f (a : Rec) : record_Right.f a.id a.st a.inc a.ip a.po = some (right a) := right_eq _ _ _ _ _
theorem live_f (a : Rec) : record_Record_Live.f a.id a.st a.inc a.ip a.po = some (liveB a) := by
  unfold record_Record_Live.f liveB
  by_cases h : a.st = 0
  · rw [if_pos h, h]; rfl
  · rw [if_neg h, (beq_eq_false_iff_ne).2 h, Bool.false_or]
end Go.Proofs.Ythpmlnnjfmcglaa.VW
