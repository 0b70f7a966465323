/- The document's answer to chapter 3: digits and texts. -/
import Derived.Test.YtjlpfmiipicnoaaDoorMU
namespace Go.Proofs.YtjlpfmiipicnoaaDoor.MX
set_option linter.unusedVariables false
open Go Go.RowKit Go.Proofs.YtjlpfmiipicnoaaDoor.PA Go.Proofs.YtjlpfmiipicnoaaDoor.MP Go.Proofs.YtjlpfmiipicnoaaDoor.MA Go.Proofs.YtjlpfmiipicnoaaDoor.MT Go.Proofs.YtjlpfmiipicnoaaDoorW.PrintWords Go.Proofs.YtjlpfmiipicnoaaDoorW.PrintLast Go.Proofs.YtjlpfmiipicnoaaDoorW.PrintMore

def hd (n : Nat) : List UInt8 := if n < 10 then [] else dd (n / 10)
theorem dd_hd (n : Nat) : dd n = hd n ++ [UInt8.ofNat (48 + n % 10)] := by
  unfold hd
  by_cases h : n < 10
  · rw [if_pos h, dd_small h, Nat.mod_eq_of_lt h]
    rfl
  · rw [if_neg h, dd_big h]
theorem one_digit (n : Nat) (hn : n < 18446744073709551616) : (strOfNums [(IntKind.u64.wrap (48 + Int.tmod (n : Int) 10)) % 256]).data.toList = [UInt8.ofNat (48 + n % 10)] := by
  rw [strOfNums_data, Int.tmod_eq_emod_of_nonneg (by omega), wrap_u64]
  simp only [List.map_cons, List.map_nil]
  congr 2
  omega
theorem digits_l (m : Nat) : ∀ (n k : Nat) (x : ByteArray), n < 10 ^ m → n < 18446744073709551616 → m < k → x.size + m ≤ 1000 → ref03_Digits.l0 k (n : Int) x = some (mk (hd n ++ x.data.toList)) := by
  induction m with
  | zero =>
    intro n k x h _ hk _
    obtain ⟨k, rfl⟩ : ∃ j, k = j + 1 := ⟨k - 1, by omega⟩
    simp only [ref03_Digits.l0]
    have : n = 0 := by simpa using h
    subst this
    rw [if_neg (by decide)]
    exact congrArg some (mk_of x).symm
  | succ m ih =>
    intro n k x h h64 hk hx
    obtain ⟨k, rfl⟩ : ∃ j, k = j + 1 := ⟨k - 1, by omega⟩
    simp only [ref03_Digits.l0]
    by_cases hn : n < 10
    · rw [if_neg (by omega)]
      unfold hd
      rw [if_pos hn]
      exact congrArg some (mk_of x).symm
    · have hdiv : IntKind.u64.wrap (Int.tdiv (n : Int) 10) = ((n / 10 : Nat) : Int) := by
        rw [Int.tdiv_eq_ediv_of_nonneg (by omega), wrap_u64]
        omega
      rw [if_pos (by omega), Option.bind_some, hdiv]
      have h1 := one_digit (n / 10) (by omega)
      have hs : (strOfNums [(IntKind.u64.wrap (48 + Int.tmod ((n / 10 : Nat) : Int) 10)) % 256]).size = 1 := by rw [strOfNums_size]; rfl
      generalize strOfNums [(IntKind.u64.wrap (48 + Int.tmod ((n / 10 : Nat) : Int) 10)) % 256] = y at h1 hs
      rw [if_pos (by omega), ih (n / 10) k (y ++ x) (by rw [Nat.pow_succ] at h; omega) (by omega) (by omega) (by rw [cat_size]; omega), append_data, h1, ← List.append_assoc, ← dd_hd]
      congr 2
      show _ = hd n ++ _
      unfold hd
      rw [if_neg hn]
theorem digits_eq (n k : Nat) (h : n < 10000000000000000000) (hk : 22 ≤ k) : ref03_Digits.f k (n : Int) = some (mk (dd n)) := by
  unfold ref03_Digits.f
  rw [digits_l 20 n k _ (by omega) (by omega) (by omega) (by rw [strOfNums_size]; simp), one_digit n (by omega), ← dd_hd]
theorem text_ref (k : Nat) (a p : Nat) (ha : a < 4294967296) (hp : p < 65536) (hk : 22 ≤ k) : ref03_Addr_Text.f k (a : Int) (p : Int) = some (T a p) := by
  have wa : IntKind.u64.wrap (a : Int) = (a : Int) := by rw [wrap_u64]; omega
  have wp : IntKind.u64.wrap (p : Int) = (p : Int) := by rw [wrap_u64]; omega
  have e0 : (a : Int) / 16777216 = ((a / 16777216 : Nat) : Int) := by omega
  have e1 : Int.tmod ((a : Int) / 65536) 256 = ((a / 65536 % 256 : Nat) : Int) := by rw [Int.tmod_eq_emod_of_nonneg (by omega)]; omega
  have e2 : Int.tmod ((a : Int) / 256) 256 = ((a / 256 % 256 : Nat) : Int) := by rw [Int.tmod_eq_emod_of_nonneg (by omega)]; omega
  have e3 : Int.tmod (a : Int) 256 = ((a % 256 : Nat) : Int) := by rw [Int.tmod_eq_emod_of_nonneg (by omega)]; omega
  have l0 := num_len (n := a / 16777216) (by omega)
  have l1 := num_len (n := a / 65536 % 256) (by omega)
  have l2 := num_len (n := a / 256 % 256) (by omega)
  have l3 := num_len (n := a % 256) (by omega)
  have l4 := port_len hp
  have s0 := mk_size (dd (a / 16777216))
  have s1 := mk_size (dd (a / 65536 % 256))
  have s2 := mk_size (dd (a / 256 % 256))
  have s3 := mk_size (dd (a % 256))
  have s4 := mk_size (dd p)
  have d1 : (⟨#[46]⟩ : ByteArray).size = 1 := rfl
  have d2 : (⟨#[58]⟩ : ByteArray).size = 1 := rfl
  unfold ref03_Addr_Text.f
  rw [wa, wp, e0, e1, e2, e3, digits_eq _ k (by omega) hk, Option.bind_some, if_pos (by omega), digits_eq _ k (by omega) hk, Option.bind_some, if_pos (by simp only [cat_size]; omega), if_pos (by simp only [cat_size]; omega),
    digits_eq _ k (by omega) hk, Option.bind_some, if_pos (by simp only [cat_size]; omega), if_pos (by simp only [cat_size]; omega), digits_eq _ k (by omega) hk, Option.bind_some, if_pos (by simp only [cat_size]; omega), if_pos (by simp only [cat_size]; omega),
    digits_eq _ k (by omega) hk, Option.bind_some, if_pos (by simp only [cat_size]; omega)]
  congr 1
  apply bytes_ext
  simp only [append_data, mk_data]
  show _ = txt a p
  simp [txt]
end Go.Proofs.YtjlpfmiipicnoaaDoor.MX
