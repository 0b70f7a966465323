/- The plain mathematics of chapter 3's texts: what an address' text is, and that it is read as that address alone. -/
import Derived.Test.YtjlpfmiipicnoaaDoorMA
set_option linter.unusedVariables false
set_option linter.unusedSimpArgs false
namespace Go.Proofs.YtjlpfmiipicnoaaDoor.MT
open Go Go.RowKit Go.Proofs.YtjlpfmiipicnoaaDoor.PA Go.Proofs.YtjlpfmiipicnoaaDoor.MP Go.Proofs.YtjlpfmiipicnoaaDoor.MA Go.Proofs.YtjlpfmiipicnoaaDoorW.PrintWords Go.Proofs.YtjlpfmiipicnoaaDoorW.PrintLast Go.Proofs.YtjlpfmiipicnoaaDoorW.PrintMore

/-! ## digits -/
abbrev dd (n : Nat) : List UInt8 := Lib.decDigits n
theorem dd_small {n : Nat} (h : n < 10) : dd n = [UInt8.ofNat (48 + n)] := by
  show Lib.decDigits n = _
  rw [Lib.decDigits, dif_pos h]
theorem dd_big {n : Nat} (h : ¬ n < 10) : dd n = dd (n / 10) ++ [UInt8.ofNat (48 + n % 10)] := by
  show Lib.decDigits n = _
  rw [Lib.decDigits, dif_neg h]
theorem dig_toNat {d : Nat} (h : d < 10) : (UInt8.ofNat (48 + d)).toNat = 48 + d := by
  simp
  omega
theorem dd_pos (n : Nat) : 1 ≤ (dd n).length := by
  show 1 ≤ (Lib.decDigits n).length
  rw [Lib.decDigits_length]
  exact Lib.nDigits_pos n
theorem dd_len {n m : Nat} (h : n < 10 ^ m) (hm : 1 ≤ m) : (dd n).length ≤ m := by
  induction m generalizing n with
  | zero => omega
  | succ m ih =>
    by_cases hn : n < 10
    · rw [dd_small hn]; simp
    · rw [dd_big hn, List.length_append]
      rw [Nat.pow_succ] at h
      by_cases hm1 : 1 ≤ m
      · have := ih (n := n / 10) (by omega) hm1
        simp only [List.length_cons, List.length_nil]
        omega
      · obtain rfl : m = 0 := by omega
        simp at h
        omega
theorem dd_digits (n : Nat) : ∀ c ∈ dd n, 48 ≤ c.toNat ∧ c.toNat ≤ 57 := by
  induction n using Nat.strongRecOn with
  | _ n ih =>
    by_cases hn : n < 10
    · rw [dd_small hn]
      intro c hc
      simp only [List.mem_singleton] at hc
      subst hc
      rw [dig_toNat hn]
      omega
    · rw [dd_big hn]
      intro c hc
      rcases List.mem_append.1 hc with h | h
      · exact ih (n / 10) (by omega) c h
      · simp only [List.mem_singleton] at h
        subst h
        rw [dig_toNat (Nat.mod_lt _ (by omega))]
        omega
theorem numS_data (n : Nat) (h : n < 10000000000000000000) : (IT.numS (n : Int)).data.toList = dd n := by
  unfold IT.numS
  rw [Int.toNat_natCast, IT.decF_eq 19 n (by omega)]
theorem itoa_some (n : Nat) (h : n < 9223372036854775808) : strconv_Itoa_26.f (n : Int) = some (IT.numS (n : Int)) := by
  unfold strconv_Itoa_26.f IT.itoaF
  rw [if_pos (by omega)]

/-! ## the text of an address -/
def txt (a p : Nat) : List UInt8 := dd (a / 16777216) ++ 46 :: (dd (a / 65536 % 256) ++ 46 :: (dd (a / 256 % 256) ++ 46 :: (dd (a % 256) ++ 58 :: dd p)))
def T (a p : Nat) : ByteArray := ⟨(txt a p).toArray⟩
theorem T_data (a p : Nat) : (T a p).data.toList = txt a p := rfl
theorem num_len {n : Nat} (h : n < 256) : (dd n).length ≤ 3 := dd_len (m := 3) (by omega) (by omega)
theorem port_len {n : Nat} (h : n < 65536) : (dd n).length ≤ 5 := dd_len (m := 5) (by omega) (by omega)
theorem numS_size (n : Nat) (h : n < 10000000000000000000) : (IT.numS (n : Int)).size = (dd n).length := by rw [size_data, numS_data n h]
theorem addr_text (k : Nat) (a p : Nat) (ha : a < 4294967296) (hp : p < 65536) (hk : 6 ≤ k) : addr_Addr_Text.f k (a : Int) (p : Int) = some (T a p) := by
  obtain ⟨k, rfl⟩ : ∃ m, k = m + 5 := ⟨k - 5, by omega⟩
  have e0 : shr .u32 (a : Int) 24 % 256 = ((a / 16777216 : Nat) : Int) := by
    show (a : Int) / 2 ^ 24 % 256 = _
    omega
  have e1 : shr .u32 (a : Int) 16 % 256 = ((a / 65536 % 256 : Nat) : Int) := by
    show (a : Int) / 2 ^ 16 % 256 = _
    omega
  have e2 : shr .u32 (a : Int) 8 % 256 = ((a / 256 % 256 : Nat) : Int) := by
    show (a : Int) / 2 ^ 8 % 256 = _
    omega
  have e3 : shr .u32 (a : Int) 0 % 256 = ((a % 256 : Nat) : Int) := by
    show (a : Int) / 2 ^ 0 % 256 = _
    omega
  have l0 := num_len (n := a / 16777216) (by omega)
  have l1 := num_len (n := a / 65536 % 256) (by omega)
  have l2 := num_len (n := a / 256 % 256) (by omega)
  have l3 := num_len (n := a % 256) (by omega)
  have l4 := port_len hp
  have s0 := numS_size (a / 16777216) (by omega)
  have s1 := numS_size (a / 65536 % 256) (by omega)
  have s2 := numS_size (a / 256 % 256) (by omega)
  have s3 := numS_size (a % 256) (by omega)
  have s4 := numS_size p (by omega)
  have d1 : (⟨#[46]⟩ : ByteArray).size = 1 := rfl
  have d2 : (⟨#[58]⟩ : ByteArray).size = 1 := rfl
  have d3 : (⟨#[]⟩ : ByteArray).size = 0 := rfl
  unfold addr_Addr_Text.f
  simp only [addr_Addr_Text.l0]
  rw [if_pos (by decide), if_neg (by decide), show wrap64 (24 - wrap64 (8 * 0)) = 24 by decide +kernel, if_pos (by decide), e0, itoa_some _ (by omega), Option.bind_some, if_pos (by omega),
    show wrap64 (0 + 1) = 1 by decide +kernel, if_pos (by decide), if_pos (by decide), if_pos (by rw [cat_size]; omega), show wrap64 (24 - wrap64 (8 * 1)) = 16 by decide +kernel, if_pos (by decide), e1, itoa_some _ (by omega), Option.bind_some, if_pos (by simp only [cat_size]; omega),
    show wrap64 (1 + 1) = 2 by decide +kernel, if_pos (by decide), if_pos (by decide), if_pos (by simp only [cat_size]; omega), show wrap64 (24 - wrap64 (8 * 2)) = 8 by decide +kernel, if_pos (by decide), e2, itoa_some _ (by omega), Option.bind_some, if_pos (by simp only [cat_size]; omega),
    show wrap64 (2 + 1) = 3 by decide +kernel, if_pos (by decide), if_pos (by decide), if_pos (by simp only [cat_size]; omega), show wrap64 (24 - wrap64 (8 * 3)) = 0 by decide +kernel, if_pos (by decide), e3, itoa_some _ (by omega), Option.bind_some, if_pos (by simp only [cat_size]; omega),
    show wrap64 (3 + 1) = 4 by decide +kernel, if_neg (by decide), if_pos (by simp only [cat_size]; omega), show wrap64 (p : Int) = (p : Int) from wrap64_id (by omega) (by omega), itoa_some _ (by omega), Option.bind_some, if_pos (by simp only [cat_size]; omega)]
  congr 1
  apply bytes_ext
  simp only [append_data, numS_data _ (show a / 16777216 < 10000000000000000000 by omega), numS_data _ (show a / 65536 % 256 < 10000000000000000000 by omega), numS_data _ (show a / 256 % 256 < 10000000000000000000 by omega), numS_data _ (show a % 256 < 10000000000000000000 by omega), numS_data _ (show p < 10000000000000000000 by omega)]
  show _ = txt a p
  simp [txt]
theorem txt_len (a p : Nat) (ha : a < 4294967296) (hp : p < 65536) : (txt a p).length ≤ 21 ∧ 9 ≤ (txt a p).length := by
  have l0 := num_len (n := a / 16777216) (by omega)
  have l1 := num_len (n := a / 65536 % 256) (by omega)
  have l2 := num_len (n := a / 256 % 256) (by omega)
  have l3 := num_len (n := a % 256) (by omega)
  have l4 := port_len hp
  have g0 := dd_pos (a / 16777216)
  have g1 := dd_pos (a / 65536 % 256)
  have g2 := dd_pos (a / 256 % 256)
  have g3 := dd_pos (a % 256)
  have g4 := dd_pos p
  simp only [txt, List.length_append, List.length_cons]
  omega

/-! ## the digits that a text begins with -/
def scan (most n : Nat) : List UInt8 → Nat × List UInt8 × List UInt8
  | [] => (n, [], [])
  | c :: l => if 48 ≤ c.toNat ∧ c.toNat ≤ 57 ∧ n ≤ most then ((scan most (n * 10 + (c.toNat - 48)) l).1, c :: (scan most (n * 10 + (c.toNat - 48)) l).2.1, (scan most (n * 10 + (c.toNat - 48)) l).2.2) else (n, [], c :: l)
theorem scan_split (most : Nat) : ∀ (l : List UInt8) (n : Nat), (scan most n l).2.1 ++ (scan most n l).2.2 = l
  | [], _ => rfl
  | c :: l, n => by
    rw [scan]
    split
    · show c :: ((scan most _ l).2.1 ++ (scan most _ l).2.2) = c :: l
      rw [scan_split most l]
    · rfl
theorem scan_lt (most : Nat) : ∀ (l : List UInt8) (n : Nat), n < 10 * most + 10 → (scan most n l).1 < 10 * most + 10
  | [], _, h => h
  | c :: l, n, h => by
    rw [scan]
    split
    · exact scan_lt most l _ (by omega)
    · exact h
theorem scan_dd (most : Nat) : ∀ (m : Nat) (l : List UInt8), m / 10 ≤ most → scan most 0 (dd m ++ l) = ((scan most m l).1, dd m ++ (scan most m l).2.1, (scan most m l).2.2) := by
  intro m
  induction m using Nat.strongRecOn with
  | _ m ih =>
    intro l hm
    by_cases h : m < 10
    · rw [dd_small h, List.singleton_append, scan, if_pos (by rw [dig_toNat h]; omega), dig_toNat h, show 0 * 10 + (48 + m - 48) = m by omega]
      rfl
    · rw [dd_big h, List.append_assoc, List.singleton_append, ih (m / 10) (by omega) _ (by omega), scan, dig_toNat (Nat.mod_lt _ (by omega)), if_pos (by omega), show m / 10 * 10 + (48 + m % 10 - 48) = m by omega]
      simp
theorem scan_stop (most n : Nat) (c : UInt8) (l : List UInt8) (h : c.toNat < 48 ∨ 57 < c.toNat) : scan most n (c :: l) = (n, [], c :: l) := by
  rw [scan, if_neg (by omega)]

def tl (e n : Nat) : List UInt8 → Nat × List UInt8 × Bool
  | [] => (0, [], false)
  | c :: q => if c.toNat = e then (n, q, true) else (0, [], false)
def mk (l : List UInt8) : ByteArray := ⟨l.toArray⟩
theorem mk_data (l : List UInt8) : (mk l).data.toList = l := rfl
theorem mk_of (s : ByteArray) : mk s.data.toList = s := bytes_ext rfl
theorem mk_size (l : List UInt8) : (mk l).size = l.length := by rw [size_data]; rfl
theorem mk_extract (l : List UInt8) (n : Nat) : (mk l).extract n (mk l).size = mk (l.drop n) := by
  apply bytes_ext
  rw [ext_data, mk_data, mk_data, mk_size, List.take_of_length_le (by simp)]
theorem mk_front (l : List UInt8) (n : Nat) : (mk l).extract 0 n = mk (l.take n) := by
  apply bytes_ext
  rw [ext_data, mk_data, mk_data]
  simp
theorem mk_bt (l : List UInt8) (i : Nat) (h : i < l.length) : bt (mk l) (i : Int) = ((l[i]).toNat : Int) := bt_data (mk l) i h

def up (x : Nat × List UInt8 × Bool) : Int × ByteArray × Bool := ((x.1 : Int), mk x.2.1, x.2.2)
theorem number_j2 (k : Nat) (l : List UInt8) (most e : Nat) (he : e < 256) (t r : List UInt8) (n : Nat) (hl : t ++ r = l) (hlen : l.length < 1000000000000000000) :
    addr_number.j2 (k + 1) (mk l) (e : Int) (n : Int) (t.length : Int) false =
      some (up (if e = 0 then (n, r, decide (r = [])) else tl e n r)) := by
  subst hl
  have hn : (mk (t ++ r)).size = t.length + r.length := by rw [mk_size, List.length_append]
  rw [List.length_append] at hlen
  simp only [addr_number.j2]
  rw [if_neg (by decide)]
  by_cases h0 : e = 0
  · subst h0
    rw [if_pos (by omega), if_pos (by omega), if_pos (by omega), if_pos rfl, Int.toNat_natCast, mk_extract, List.drop_left, hn]
    unfold up
    congr 3
    rw [Bool.eq_iff_iff]
    simp only [beq_iff_eq, decide_eq_true_eq]
    constructor
    · intro h
      exact List.eq_nil_of_length_eq_zero (by omega)
    · intro h
      rw [h]
      simp
  · rw [if_neg (by omega), if_neg h0]
    cases r with
    | nil =>
      rw [if_neg (by rw [hn]; simp)]
      rfl
    | cons c q =>
      have hlt : t.length < (t ++ c :: q).length := by simp
      rw [if_pos (by rw [hn, List.length_cons]; omega), if_pos (by omega), mk_bt _ _ hlt, show (t ++ c :: q)[t.length] = c by simp]
      by_cases hc : c.toNat = e
      · rw [if_pos (by omega), show wrap64 ((t.length : Int) + 1) = ((t.length + 1 : Nat) : Int) by rw [wrap64_id (by omega) (by omega)]; omega, if_pos (by omega), if_pos (by rw [hn, List.length_cons]; omega), Int.toNat_natCast, mk_extract]
        rw [tl, if_pos hc, show t ++ c :: q = (t ++ [c]) ++ q by simp, show t.length + 1 = (t ++ [c]).length by simp, List.drop_left]
        rfl
      · rw [if_neg (by omega)]
        rw [tl, if_neg hc]
        rfl
end Go.Proofs.YtjlpfmiipicnoaaDoor.MT
