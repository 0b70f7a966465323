/- What the printed functions of package record come to. Conditions: those that each theorem names. (Of chapter 4's plain mathematics.) -/
import Derived.Test.YthncipgafdfnfaaDoorJP
import Derived.Test.YthncipgafdfnfaaDoorPAx
namespace Go.Proofs.YthncipgafdfnfaaDoor.JW
set_option linter.unusedVariables false
set_option linter.unusedSimpArgs false
open Go Go.RowKit Go.Proofs.YthncipgafdfnfaaDoor.PA Go.Proofs.YthncipgafdfnfaaDoorW.PrintWords Go.Proofs.YthncipgafdfnfaaDoorW.PrintLast Go.Proofs.YthncipgafdfnfaaDoorW.PrintMore
theorem cmp_u32 (a b : Int) : cmp_Compare_uint32.f a b = some (cmpI a b) := by
  unfold cmp_Compare_uint32.f cmp_isNaN_uint32.f cmpI
  simp only [bne_self_eq_false, Option.bind_some]
  rw [if_neg (by decide), if_neg (by decide)]
  by_cases h1 : a < b
  · rw [if_pos h1, if_pos h1]
  · rw [if_neg h1, if_neg h1]
    by_cases h2 : a > b
    · rw [if_pos h2, if_pos h2]
    · rw [if_neg h2, if_neg h2]
theorem cmp_u16 (a b : Int) : cmp_Compare_uint16.f a b = some (cmpI a b) := by
  unfold cmp_Compare_uint16.f cmp_isNaN_uint16.f cmpI
  simp only [bne_self_eq_false, Option.bind_some]
  rw [if_neg (by decide), if_neg (by decide)]
  by_cases h1 : a < b
  · rw [if_pos h1, if_pos h1]
  · rw [if_neg h1, if_neg h1]
    by_cases h2 : a > b
    · rw [if_pos h2, if_pos h2]
    · rw [if_neg h2, if_neg h2]
theorem cmp_i (a b : Int) : cmp_Compare_int.f a b = some (cmpI a b) := by
  unfold cmp_Compare_int.f cmp_isNaN_int.f cmpI
  simp only [bne_self_eq_false, Option.bind_some]
  rw [if_neg (by decide), if_neg (by decide)]
  by_cases h1 : a < b
  · rw [if_pos h1, if_pos h1]
  · rw [if_neg h1, if_neg h1]
    by_cases h2 : a > b
    · rw [if_pos h2, if_pos h2]
    · rw [if_neg h2, if_neg h2]
theorem or_two (k : Nat) (a b : Int) (hk : 4 ≤ k) : cmp_Or_int.f k [a, b] = some (or2 a b) := by
  obtain ⟨k, rfl⟩ : ∃ m, k = m + 4 := ⟨k - 4, by omega⟩
  unfold cmp_Or_int.f or2
  simp only [cmp_Or_int.l0, List.length_cons, List.length_nil]
  simp [rd, wrap64]
  by_cases h : a = 0
  · simp only [h, if_true]
    by_cases h2 : b = 0
    · simp [h2]
    · simp [h2]
  · simp [h]
theorem or_three (k : Nat) (a b c : Int) (hk : 5 ≤ k) : cmp_Or_int.f k [a, b, c] = some (or2 a (or2 b c)) := by
  obtain ⟨k, rfl⟩ : ∃ m, k = m + 5 := ⟨k - 5, by omega⟩
  unfold cmp_Or_int.f or2
  simp only [cmp_Or_int.l0, List.length_cons, List.length_nil]
  simp [rd, wrap64]
  by_cases h : a = 0
  · simp only [h, if_true]
    by_cases h2 : b = 0
    · simp only [h2, if_true]
      by_cases h3 : c = 0
      · simp [h3]
      · simp [h3]
    · simp [h2]
  · simp [h]
theorem addr_order (k : Nat) (a0 a1 b0 b1 : Int) (hk : 5 ≤ k) : addr_Order.f k a0 a1 b0 b1 = some (ordA a0 a1 b0 b1) := by
  unfold addr_Order.f
  rw [cmp_u32, Option.bind_some, cmp_u16, Option.bind_some, or_two k _ _ (by omega), Option.bind_some]
  rfl
theorem record_order (k : Nat) (a0 a1 a2 a3 a4 b0 b1 b2 b3 b4 : Int) (hk : 5 ≤ k) : record_Order.f k a0 a1 a2 a3 a4 b0 b1 b2 b3 b4 = some (ordR a1 a2 a3 a4 b1 b2 b3 b4) := by
  unfold record_Order.f
  rw [cmp_u32, Option.bind_some, cmp_i, Option.bind_some, addr_order k _ _ _ _ hk, Option.bind_some, or_three k _ _ _ hk, Option.bind_some]
  rfl
theorem order_f (a b : Rec) : record_Order.f 5 a.id a.st a.inc a.ip a.po b.id b.st b.inc b.ip b.po = some (order a b) := record_order 5 _ _ _ _ _ _ _ _ _ _ (by decide)
theorem live_f (a : Rec) : record_Record_Live.f a.id a.st a.inc a.ip a.po = some (liveB a) := by
  unfold record_Record_Live.f liveB
  by_cases h : a.st = 0
  · rw [if_pos h, h]; rfl
  · rw [if_neg h, (beq_eq_false_iff_ne).2 h, Bool.false_or]
/-- thing, of what its numbers may be. -/
theorem thing_f (t : Th) (h : thOk t) : scuttlebuttlaw22_Thing_thing.f t.r.id t.r.st t.r.inc t.r.ip t.r.po t.own = some ((thE t).id, (thE t).st, (thE t).inc, (thE t).ip, (thE t).po) := by
  obtain ⟨⟨h1, h2⟩, h3, h4⟩ := h
  have e0 : 0 ≤ IntKind.u64.wrap t.r.id := by rw [IntKind.wrap_u64]; omega
  have e5 : 0 ≤ IntKind.u64.wrap t.r.st := by rw [IntKind.wrap_u64]; omega
  have e1 := Int.emod_nonneg (IntKind.u64.wrap t.r.id) (show (6 : Int) ≠ 0 by decide)
  have e2 := Int.emod_lt_of_pos (IntKind.u64.wrap t.r.id) (show (0 : Int) < 6 by decide)
  have e3 := Int.emod_nonneg (IntKind.u64.wrap t.r.st) (show (4 : Int) ≠ 0 by decide)
  have e4 := Int.emod_lt_of_pos (IntKind.u64.wrap t.r.st) (show (0 : Int) < 4 by decide)
  unfold scuttlebuttlaw22_Thing_thing.f thE
  by_cases ho : t.own = true
  · rw [if_pos ho, if_pos ho, Int.tmod_eq_emod_of_nonneg e0, Int.tmod_eq_emod_of_nonneg e5, Int.tmod_eq_emod_of_nonneg h1, Int.tmod_eq_emod_of_nonneg h3]
    have i1 : wrap64 (IntKind.u64.wrap t.r.id % 6) = IntKind.u64.wrap t.r.id % 6 := by unfold wrap64; omega
    have i2 : wrap64 (1 + IntKind.u64.wrap t.r.id % 6) = 1 + IntKind.u64.wrap t.r.id % 6 := by unfold wrap64; omega
    have i3 : wrap64 (IntKind.u64.wrap t.r.st % 4) = IntKind.u64.wrap t.r.st % 4 := by unfold wrap64; omega
    have i4 : (1 + t.r.ip % 3) % 4294967296 = 1 + t.r.ip % 3 := by omega
    rw [i1, i2, i3, i4]
  · rw [if_neg ho, if_neg ho]
end Go.Proofs.YthncipgafdfnfaaDoor.JW
