/- What is right, and the bytes of a record, in closed form. -/
import Derived.Test.YtalibiaplhmfhaaMA
namespace Go.Proofs.Ytalibiaplhmfhaa.MQ
open Go Go.RowKit Go.Proofs.Ytalibiaplhmfhaa.PA Go.Proofs.Ytalibiaplhmfhaa.MP Go.Proofs.Ytalibiaplhmfhaa.MA Go.Proofs.YtalibiaplhmfhaaW.PrintWords Go.Proofs.YtalibiaplhmfhaaW.PrintLast Go.Proofs.YtalibiaplhmfhaaW.PrintMore

def rightB (a0 a1 a3 a4 : Int) : Bool := decide (1 ≤ a0 ∧ a0 ≤ 32 ∧ 0 ≤ a1 ∧ a1 ≤ 3 ∧ a3 ≠ 0 ∧ a4 ≠ 0)
theorem right_eq (a0 a1 a2 a3 a4 : Int) : record_Right.f a0 a1 a2 a3 a4 = some (rightB a0 a1 a3 a4) := by
  unfold record_Right.f addr_Addr_None.f rightB
  by_cases h0 : a0 ≥ 1
  · rw [if_pos h0]
    by_cases h1 : a0 ≤ 32
    · rw [if_pos h1]
      by_cases h2 : a1 ≥ 0
      · rw [if_pos h2]
        by_cases h3 : a1 < 4
        · rw [if_pos h3]
          by_cases h4 : a3 = 0
          · rw [if_pos h4, Option.bind_some, decide_eq_false (by omega)]
            rfl
          · rw [if_neg h4, Option.bind_some]
            by_cases h5 : a4 = 0
            · rw [decide_eq_false (by omega), show (a4 == 0) = true by simpa using h5]
              rfl
            · rw [decide_eq_true (by omega), show (a4 == 0) = false by simpa using h5]
              rfl
        · rw [if_neg h3, decide_eq_false (by omega)]
      · rw [if_neg h2, decide_eq_false (by omega)]
    · rw [if_neg h1, decide_eq_false (by omega)]
  · rw [if_neg h0, decide_eq_false (by omega)]
theorem right_some (a0 a1 a2 a3 a4 : Int) : ∃ t, record_Right.f a0 a1 a2 a3 a4 = some t := ⟨_, right_eq a0 a1 a2 a3 a4⟩
theorem num_eq (a : Int) (m : Nat) (h1 : 1 ≤ m) (h8 : m ≤ 8) : pack_Number.f a (m : Int) = some (strOfNums (numB a m)) := by
  unfold pack_Number.f
  rw [if_neg (by omega), if_neg (by omega), Int.toNat_natCast]
theorem n1 (a : Int) : pack_Number.f a 1 = some (strOfNums (numB a 1)) := num_eq a 1 (by omega) (by omega)
theorem n2 (a : Int) : pack_Number.f a 2 = some (strOfNums (numB a 2)) := num_eq a 2 (by omega) (by omega)
theorem n4 (a : Int) : pack_Number.f a 4 = some (strOfNums (numB a 4)) := num_eq a 4 (by omega) (by omega)
theorem numB_size (a : Int) (m : Nat) : (strOfNums (numB a m)).size = m := by rw [strOfNums_size]; simp [numB]
theorem cat_size (x y : ByteArray) : (x ++ y).size = x.size + y.size := ByteArray.size_append
def putA (a3 a4 : Int) : ByteArray := strOfNums (numB (IntKind.u64.wrap a3) 4) ++ strOfNums (numB (IntKind.u64.wrap a4) 2)
theorem putA_eq (a3 a4 : Int) : addr_Addr_Put.f a3 a4 = some (putA a3 a4) := by
  unfold addr_Addr_Put.f putA
  rw [n4, Option.bind_some, n2, Option.bind_some, if_pos (by rw [numB_size, numB_size]; omega)]
theorem putA_size (a3 a4 : Int) : (putA a3 a4).size = 6 := by unfold putA; rw [cat_size, numB_size, numB_size]
def putR (a0 a1 a2 a3 a4 : Int) : ByteArray := ((strOfNums (numB (IntKind.u64.wrap a0) 1) ++ strOfNums (numB (IntKind.u64.wrap a1) 1)) ++ strOfNums (numB (IntKind.u64.wrap a2) 4)) ++ putA a3 a4
theorem put_eq (a0 a1 a2 a3 a4 : Int) : record_Record_Put.f a0 a1 a2 a3 a4 = if rightB a0 a1 a3 a4 = true then some (putR a0 a1 a2 a3 a4, true) else some (⟨#[]⟩, false) := by
  unfold record_Record_Put.f putR
  rw [right_eq, Option.bind_some]
  by_cases h : rightB a0 a1 a3 a4 = true
  · rw [if_pos h, if_pos h, n1, Option.bind_some, n1, Option.bind_some, if_pos (by rw [numB_size, numB_size]; omega), n4, Option.bind_some, if_pos (by rw [cat_size, numB_size, numB_size, numB_size]; omega), putA_eq, Option.bind_some, if_pos (by rw [cat_size, cat_size, numB_size, numB_size, numB_size, putA_size]; omega)]
  · rw [if_neg h, if_neg h]
theorem put_some (a0 a1 a2 a3 a4 : Int) : ∃ s ok, record_Record_Put.f a0 a1 a2 a3 a4 = some (s, ok) := by
  rw [put_eq]
  split <;> exact ⟨_, _, rfl⟩

end Go.Proofs.Ytalibiaplhmfhaa.MQ
