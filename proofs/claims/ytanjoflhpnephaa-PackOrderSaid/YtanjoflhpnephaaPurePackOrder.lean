/- PackOrder: for every two numbers and size the law answers true: numbers of one size stand as their bytes do, and another number has other bytes. No condition. -/
import Derived.Test.YtanjoflhpnephaaMA
namespace Go.Proofs.Ytanjoflhpnephaa.Pure
open Go Go.RowKit Go.Proofs.Ytanjoflhpnephaa.PA Go.Proofs.Ytanjoflhpnephaa.MA Go.Proofs.YtanjoflhpnephaaW.PrintWords Go.Proofs.YtanjoflhpnephaaW.PrintLast Go.Proofs.YtanjoflhpnephaaW.PrintMore

theorem shl_pow (m : Nat) (h : m < 8) : shl .u64 1 (((8 * m : Nat) : Int)) = ((256 ^ m : Nat) : Int) := by
  unfold shl
  rw [Int.toNat_natCast, Nat.min_eq_left (by simp [IntKind.bits]; omega), wrap_u64, Int.one_mul, show ((2 : Int) ^ (8 * m)) = ((2 ^ (8 * m) : Nat) : Int) by simp, pow_256]
  have : 256 ^ m ≤ 72057594037927936 := Nat.le_trans (Nat.pow_le_pow_right (show 0 < 256 by decide) (show m ≤ 7 by omega)) (by decide)
  generalize 256 ^ m = P at this ⊢
  omega

theorem tail_ok (a b m : Nat) (h1 : 1 ≤ m) (h8 : m ≤ 8) (ha : a < 256 ^ m) (hb : b < 256 ^ m) :
    ((pack_Number.f (a : Int) (m : Int)).bind fun t => (pack_Number.f (b : Int) (m : Int)).bind fun u =>
      (if ((decide ((a : Int) < (b : Int))) == (Op.bytesLess t.toList u.toList)) = true then
        (if (((a : Int) == (b : Int)) == (t.toList == u.toList)) = true then (some ((t.size : Int) == (m : Int))) else (none)) else (none))) = some true := by
  rw [num_some a m h1 h8, Option.bind_some, num_some b m h1 h8, Option.bind_some, toList_data, toList_data, num_data, num_data, nb_less, Nat.mod_eq_of_lt ha, Nat.mod_eq_of_lt hb, size_data, num_data, nb_length]
  have e1 : (decide ((a : Int) < (b : Int)) == decide (a < b)) = true := by
    by_cases h : a < b
    · rw [decide_eq_true h, decide_eq_true (by omega)]; rfl
    · rw [decide_eq_false h, decide_eq_false (by omega)]; rfl
  have e2 : (((a : Int) == (b : Int)) == (nb a m == nb b m)) = true := by
    by_cases h : a = b
    · subst h
      simp
    · have h1 : ((a : Int) == (b : Int)) = false := by simp; omega
      have h2 : (nb a m == nb b m) = false := by
        rw [beq_eq_false_iff_ne]
        intro e
        have := congrArg val e
        rw [val_nb, val_nb, Nat.mod_eq_of_lt ha, Nat.mod_eq_of_lt hb] at this
        exact h this
      rw [h1, h2]
      rfl
  rw [if_pos e1, if_pos e2]
  simp

theorem PackOrder : scuttlebuttlaw02_PackOrder.Pure := by
  intro a b z ha hb hz
  have ra := wf_u64 ha
  have rb := wf_u64 hb
  have rz := wf_u8 hz
  obtain ⟨a, rfl⟩ := Int.eq_ofNat_of_zero_le ra.1
  obtain ⟨b, rfl⟩ := Int.eq_ofNat_of_zero_le rb.1
  obtain ⟨m, hm⟩ : ∃ m : Nat, 1 + z % 8 = (m : Int) := ⟨(1 + z % 8).toNat, by omega⟩
  have e0 : wrap64 (Int.tmod z 8) = z % 8 := by rw [Int.tmod_eq_emod_of_nonneg rz.1, wrap64_id (by omega) (by omega)]
  have e1 : wrap64 (1 + wrap64 (Int.tmod z 8)) = (m : Int) := by rw [e0, wrap64_id (by omega) (by omega), hm]
  have e2 : wrap64 (8 * (m : Int)) = ((8 * m : Nat) : Int) := by rw [wrap64_id (by omega) (by omega)]; omega
  have hp : 0 < 256 ^ m := Nat.pow_pos (by decide)
  refine ⟨12, ?_⟩
  unfold scuttlebuttlaw02_PackOrder.f
  rw [examples_true 12 (by omega), Option.bind_some, if_pos rfl]
  rw [e1, e2]
  by_cases h : m < 8
  · rw [if_pos (by omega), if_pos (by omega), shl_pow m h, if_neg (by omega), Int.tmod_eq_emod_of_nonneg ra.1, Int.tmod_eq_emod_of_nonneg rb.1, ← Int.natCast_emod, ← Int.natCast_emod]
    exact tail_ok _ _ m (by omega) (by omega) (Nat.mod_lt _ hp) (Nat.mod_lt _ hp)
  · have hm8 : m = 8 := by omega
    rw [if_neg (by omega)]
    refine tail_ok _ _ m (by omega) (by omega) ?_ ?_
    · rw [hm8]; omega
    · rw [hm8]; omega

end Go.Proofs.Ytanjoflhpnephaa.Pure
