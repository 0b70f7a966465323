/- The plain mathematics of package pack: what the printed functions of package pack come to, over lists of bytes. -/
import Derived.Test.YtjlpfmiipicnoaaDoorPAx
import Derived.Laws.BitsAllLaws
import Derived.Lib.IndexBytes
namespace Go.Proofs.YtjlpfmiipicnoaaDoor.MP
open Go Go.RowKit Go.Proofs.YtjlpfmiipicnoaaDoor.PA Go.Proofs.YtjlpfmiipicnoaaDoorW.PrintWords Go.Proofs.YtjlpfmiipicnoaaDoorW.PrintLast Go.Proofs.YtjlpfmiipicnoaaDoorW.PrintMore

theorem wrap_u64 (n : Int) : IntKind.u64.wrap n = n % 18446744073709551616 := by simp [IntKind.wrap, IntKind.bits, IntKind.signed]
theorem wrap64_id {n : Int} (h0 : -9223372036854775808 ≤ n) (h1 : n < 9223372036854775808) : wrap64 n = n := by unfold wrap64; omega
theorem wf_u64 {n : Int} (h : (Lit.int .u64 n).wf = true) : 0 ≤ n ∧ n < 18446744073709551616 := by
  simp [Lit.wf, IntKind.min, IntKind.max, IntKind.signed, IntKind.bits] at h
  omega
theorem wf_i64 {n : Int} (h : (Lit.int .i64 n).wf = true) : -9223372036854775808 ≤ n ∧ n < 9223372036854775808 := by
  simp [Lit.wf, IntKind.min, IntKind.max, IntKind.signed, IntKind.bits] at h
  omega
theorem wf_u8 {n : Int} (h : (Lit.int .u8 n).wf = true) : 0 ≤ n ∧ n < 256 := by
  simp [Lit.wf, IntKind.min, IntKind.max, IntKind.signed, IntKind.bits] at h
  omega
theorem wf_u16 {n : Int} (h : (Lit.int .u16 n).wf = true) : 0 ≤ n ∧ n < 65536 := by
  simp [Lit.wf, IntKind.min, IntKind.max, IntKind.signed, IntKind.bits] at h
  omega

/-! ## texts as lists of bytes -/
theorem bytes_ext {a b : ByteArray} (h : a.data.toList = b.data.toList) : a = b := by
  cases a
  cases b
  simpa using h
theorem toList_data (s : ByteArray) : s.toList = s.data.toList := ByteArray.toList_eq s
theorem size_data (s : ByteArray) : s.size = s.data.toList.length := by rw [Array.length_toList]; rfl
theorem bt_data (s : ByteArray) (i : Nat) (h : i < s.data.toList.length) : bt s (i : Int) = ((s.data.toList[i]).toNat : Int) := by
  have h' : i < s.size := by rw [size_data]; exact h
  simp [bt, h']
  rfl
theorem ext_data (s : ByteArray) (a b : Nat) : (s.extract a b).data.toList = (s.data.toList.drop a).take (b - a) := Lib.extract_data s a b
theorem append_data (a b : ByteArray) : (a ++ b).data.toList = a.data.toList ++ b.data.toList := by
  rw [ByteArray.data_append, Array.toList_append]

def val (l : List UInt8) : Nat := l.foldl (fun n c => n * 256 + c.toNat) 0
theorem val_snoc (l : List UInt8) (c : UInt8) : val (l ++ [c]) = val l * 256 + c.toNat := by simp [val]
theorem val_lt (l : List UInt8) : val l < 256 ^ l.length := by
  have key : ∀ (n : Nat) (l : List UInt8), l.length = n → val l < 256 ^ n := by
    intro n
    induction n with
    | zero => intro l h; obtain rfl := List.eq_nil_of_length_eq_zero h; decide
    | succ n ih =>
      intro l h
      obtain ⟨r, c, rfl⟩ : ∃ r c, l = r ++ [c] := ⟨l.dropLast, l.getLast (by intro e; rw [e] at h; cases h), (List.dropLast_concat_getLast _).symm⟩
      have h1 := ih r (by simpa using h)
      have hc := c.toNat_lt
      rw [val_snoc, Nat.pow_succ]
      omega
  exact key _ l rfl

/-! ## a reader -/
theorem bad_bytes (s : ByteArray) (n : Int) : pack_Reader_bytes.f s true n = some (⟨#[]⟩, ⟨#[]⟩, true) := rfl
theorem bad_number (k : Nat) (s : ByteArray) (n : Int) (hk : 2 ≤ k) : pack_Reader_Number.f k s true n = some (0, ⟨#[]⟩, true) := by
  have hj : ∀ b, pack_Reader_Number.j0 k n 0 b s true = some (0, ⟨#[]⟩, true) := by
    intro b
    obtain ⟨k, rfl⟩ : ∃ m, k = m + 2 := ⟨k - 2, by omega⟩
    cases b <;> rfl
  unfold pack_Reader_Number.f
  split <;> exact hj _
theorem no_number (k : Nat) (s : ByteArray) (b : Bool) (n : Int) (hn : n < 1 ∨ 8 < n) (hk : 2 ≤ k) : pack_Reader_Number.f k s b n = some (0, ⟨#[]⟩, true) := by
  unfold pack_Reader_Number.f
  obtain ⟨k, rfl⟩ : ∃ m, k = m + 2 := ⟨k - 2, by omega⟩
  rcases hn with hn | hn
  · rw [if_pos hn]
    rfl
  · rw [if_neg (by omega), decide_eq_true hn]
    rfl
theorem some_bytes (s : ByteArray) (n : Nat) (h : n ≤ s.size) : pack_Reader_bytes.f s false (n : Int) = some (s.extract 0 n, s.extract n s.size, false) := by
  unfold pack_Reader_bytes.f
  rw [if_neg (by decide), if_neg (by omega), if_pos (by omega), if_pos (by omega), Int.toNat_natCast]
theorem short_bytes (s : ByteArray) (n : Int) (h : (s.size : Int) < n) : pack_Reader_bytes.f s false n = some (⟨#[]⟩, ⟨#[]⟩, true) := by
  unfold pack_Reader_bytes.f
  rw [if_neg (by decide), if_pos (by omega)]

theorem or_byte (x : Nat) (c : Nat) (hx : x < 72057594037927936) (hc : c < 256) : Go.bits .or .u64 (IntKind.u64.wrap ((x : Int) * 256)) (IntKind.u64.wrap (c : Int)) = ((x * 256 + c : Nat) : Int) := by
  rw [wrap_u64, wrap_u64, show ((x : Int) * 256) % 18446744073709551616 = ((x * 256 : Nat) : Int) by omega, show (c : Int) % 18446744073709551616 = (c : Int) by omega, u64_or_nat _ _ (by omega) (by omega), nat_join 8 (x * 256) c (by omega) (by omega)]

theorem l0_ok (s : ByteArray) (m : Nat) (R : ByteArray) (b : Bool) (hs : s.size = m) (hm : m ≤ 8) : ∀ (d k i : Nat), m - i = d → i ≤ m → d < k →
    pack_Reader_Number.l0 k ((val (s.data.toList.take i) : Nat) : Int) s (m : Int) (i : Int) R b = some (((val s.data.toList : Nat) : Int), R, b) := by
  intro d
  have hl : s.data.toList.length = m := by rw [← size_data]; exact hs
  induction d with
  | zero =>
    intro k i hd hi hk
    obtain ⟨k, rfl⟩ : ∃ m, k = m + 1 := ⟨k - 1, by omega⟩
    simp only [pack_Reader_Number.l0]
    rw [if_neg (by omega), List.take_of_length_le (by omega)]
  | succ d ih =>
    intro k i hd hi hk
    obtain ⟨k, rfl⟩ : ∃ m, k = m + 1 := ⟨k - 1, by omega⟩
    have hlt : i < s.data.toList.length := by omega
    have hv := val_lt (s.data.toList.take i)
    rw [List.length_take, Nat.min_eq_left (by omega)] at hv
    have hp : 256 ^ i ≤ 256 ^ 7 := Nat.pow_le_pow_right (by omega) (by omega)
    have hstep : ((val (s.data.toList.take i) * 256 + (s.data.toList[i]).toNat : Nat) : Int) = ((val (s.data.toList.take (i + 1)) : Nat) : Int) := by rw [List.take_succ_eq_append_getElem hlt, val_snoc]
    simp only [pack_Reader_Number.l0]
    rw [if_pos (by omega), if_pos (by omega), if_pos (by omega), bt_data _ _ hlt, or_byte _ _ (by omega) (s.data.toList[i]).toNat_lt, wrap64_id (by omega) (by omega), show ((i : Int) + 1) = ((i + 1 : Nat) : Int) by omega, hstep]
    exact ih k (i + 1) (by omega) (by omega) (by omega)

theorem some_number (k : Nat) (s : ByteArray) (n : Nat) (h1 : 1 ≤ n) (h8 : n ≤ 8) (h : n ≤ s.size) (hk : 12 ≤ k) :
    pack_Reader_Number.f k s false (n : Int) = some (((val (s.data.toList.take n) : Nat) : Int), s.extract n s.size, false) := by
  unfold pack_Reader_Number.f
  obtain ⟨k, rfl⟩ : ∃ m, k = m + 1 := ⟨k - 1, by omega⟩
  rw [if_neg (by omega), decide_eq_false (by omega)]
  simp only [pack_Reader_Number.j0]
  rw [if_neg (by decide), some_bytes s n h, Option.bind_some]
  have hs : (s.extract 0 n).size = n := by rw [size_data, ext_data, List.length_take, List.length_drop, ← size_data]; omega
  have he : (s.extract 0 n).data.toList = s.data.toList.take n := by rw [ext_data]; simp
  have := l0_ok (s.extract 0 n) n (s.extract n s.size) false hs h8 n k 0 (by omega) (by omega) (by omega)
  rw [List.take_zero, he] at this
  rw [hs]
  exact this
theorem short_number (k : Nat) (s : ByteArray) (n : Nat) (h1 : 1 ≤ n) (h8 : n ≤ 8) (h : s.size < n) (hk : 12 ≤ k) :
    pack_Reader_Number.f k s false (n : Int) = some (0, ⟨#[]⟩, true) := by
  unfold pack_Reader_Number.f
  obtain ⟨k, rfl⟩ : ∃ m, k = m + 2 := ⟨k - 2, by omega⟩
  rw [if_neg (by omega), decide_eq_false (by omega)]
  simp only [pack_Reader_Number.j0]
  rw [if_neg (by decide), short_bytes s n (by omega), Option.bind_some]
  rfl

/-! ## the bytes of a number -/
def nb (a : Nat) : Nat → List UInt8
  | 0 => []
  | m + 1 => UInt8.ofNat (a / 256 ^ m % 256) :: nb a m
theorem nb_length (a m : Nat) : (nb a m).length = m := by
  induction m with
  | zero => rfl
  | succ m ih => simp [nb, ih]
theorem pow_256 (n : Nat) : 2 ^ (8 * n) = 256 ^ n := by rw [Nat.pow_mul]
theorem numB_nb (a m : Nat) : (numB (a : Int) m).map (fun n => UInt8.ofNat n.toNat) = nb a m := by
  induction m with
  | zero => rfl
  | succ m ih =>
    rw [nb, ← ih]
    unfold numB
    rw [List.range_succ_eq_map]
    simp only [List.map_cons, List.map_map]
    congr 1
    · rw [show m + 1 - 1 - 0 = m by omega]
      have e : ((a : Int) / 2 ^ (8 * m) % 256).toNat = a / 256 ^ m % 256 := by
        rw [show ((2 : Int) ^ (8 * m)) = ((2 ^ (8 * m) : Nat) : Int) by simp, pow_256]
        omega
      rw [e]
    · apply List.map_congr_left
      intro j _
      show UInt8.ofNat _ = UInt8.ofNat _
      simp only [Function.comp]
      rw [show m + 1 - 1 - (j + 1) = m - 1 - j by omega]
theorem num_data (a m : Nat) : (strOfNums (numB (a : Int) m)).data.toList = nb a m := by rw [strOfNums_data, numB_nb]
theorem num_some (a m : Nat) (h1 : 1 ≤ m) (h8 : m ≤ 8) : pack_Number.f (a : Int) (m : Int) = some (strOfNums (numB (a : Int) m)) := by
  unfold pack_Number.f
  rw [if_neg (by omega), if_neg (by omega), Int.toNat_natCast]
theorem num_none (a : Int) (m : Int) (h : m < 1 ∨ 8 < m) : pack_Number.f a m = some ⟨#[]⟩ := by
  unfold pack_Number.f
  rcases h with h | h
  · rw [if_pos h]
  · rw [if_neg (by omega), if_pos (by omega)]
theorem val_cons (c : UInt8) (l : List UInt8) : val (c :: l) = c.toNat * 256 ^ l.length + val l := by
  have key : ∀ (l : List UInt8) (n : Nat), l.foldl (fun n c => n * 256 + c.toNat) n = n * 256 ^ l.length + val l := by
    intro l
    induction l with
    | nil => intro n; simp [val]
    | cons c l ih =>
      intro n
      have h1 := ih (n * 256 + c.toNat)
      have h2 := ih c.toNat
      simp only [List.foldl_cons, List.length_cons, val] at *
      rw [h1, Nat.zero_mul, Nat.zero_add, h2, Nat.pow_succ, Nat.add_mul, Nat.mul_assoc, Nat.mul_comm 256, Nat.add_assoc]
  have := key l c.toNat
  simpa [val] using this
theorem mod_succ (a m : Nat) : a % 256 ^ (m + 1) = (a / 256 ^ m % 256) * 256 ^ m + a % 256 ^ m := by
  rw [Nat.pow_succ, Nat.mod_mul, Nat.mul_comm, Nat.add_comm]
theorem ofNat_toNat {n : Nat} (h : n < 256) : (UInt8.ofNat n).toNat = n := by simp; omega
theorem val_nb (a m : Nat) : val (nb a m) = a % 256 ^ m := by
  induction m with
  | zero => simp [nb, val, Nat.mod_one]
  | succ m ih => rw [nb, val_cons, nb_length, ih, ofNat_toNat (Nat.mod_lt _ (by decide)), mod_succ]
theorem nb_mod (a m : Nat) : nb (a % 256 ^ m) m = nb a m := by
  have key : ∀ j, j ≤ m → nb (a % 256 ^ m) j = nb a j := by
    intro j
    induction j with
    | zero => intro _; rfl
    | succ j ih =>
      intro hj
      rw [nb, nb, ih (by omega)]
      congr 2
      obtain ⟨d, rfl⟩ : ∃ d, m = j + 1 + d := ⟨m - (j + 1), by omega⟩
      rw [Nat.pow_add, Nat.pow_succ, Nat.mul_assoc, Nat.mod_mul_right_div_self, Nat.mod_mul_right_mod]
  exact key m (Nat.le_refl _)
theorem less_cons (a b : UInt8) (x y : List UInt8) : Op.bytesLess (a :: x) (b :: y) = (decide (a.toNat < b.toNat) || (decide (a.toNat = b.toNat) && Op.bytesLess x y)) := by
  have e1 : (decide (a < b)) = decide (a.toNat < b.toNat) := by simp [UInt8.lt_iff_toNat_lt]
  have e2 : (a == b) = decide (a.toNat = b.toNat) := by
    by_cases h : a = b
    · subst h
      simp
    · have : ¬ a.toNat = b.toNat := fun e => h (UInt8.toNat_inj.1 e)
      simp [h, this]
  simp only [Op.bytesLess, e1, e2]
theorem nb_less (a b m : Nat) : Op.bytesLess (nb a m) (nb b m) = decide (a % 256 ^ m < b % 256 ^ m) := by
  induction m with
  | zero => simp [nb, Op.bytesLess, Nat.mod_one]
  | succ m ih =>
    rw [nb, nb, less_cons, ih, ofNat_toNat (Nat.mod_lt _ (by decide)), ofNat_toNat (Nat.mod_lt _ (by decide)), mod_succ a, mod_succ b]
    have h1 := Nat.mod_lt a (show 0 < 256 ^ m from Nat.pow_pos (by decide))
    have h2 := Nat.mod_lt b (show 0 < 256 ^ m from Nat.pow_pos (by decide))
    generalize a / 256 ^ m % 256 = x
    generalize b / 256 ^ m % 256 = y
    generalize a % 256 ^ m = r at *
    generalize b % 256 ^ m = t at *
    generalize 256 ^ m = P at *
    rcases Nat.lt_trichotomy x y with h | h | h
    · have : x * P + P ≤ y * P := by rw [← Nat.succ_mul]; exact Nat.mul_le_mul_right _ h
      rw [decide_eq_true h, decide_eq_true (show x * P + r < y * P + t by omega)]
      rfl
    · subst h
      rw [decide_eq_false (Nat.lt_irrefl x), decide_eq_true rfl]
      simp
    · have : y * P + P ≤ x * P := by rw [← Nat.succ_mul]; exact Nat.mul_le_mul_right _ h
      rw [decide_eq_false (show ¬ x < y by omega), decide_eq_false (show ¬ x = y by omega), decide_eq_false (show ¬ x * P + r < y * P + t by omega)]
      rfl

end Go.Proofs.YtjlpfmiipicnoaaDoor.MP
