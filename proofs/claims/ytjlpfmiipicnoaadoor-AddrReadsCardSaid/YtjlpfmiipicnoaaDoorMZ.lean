/- The document's answer to chapter 3: what it gets of bytes; a text with one byte another one. -/
import Derived.Test.YtjlpfmiipicnoaaDoorMY
import Derived.Test.YtjlpfmiipicnoaaDoorMV
namespace Go.Proofs.YtjlpfmiipicnoaaDoor.MZ
set_option linter.unusedVariables false
open Go Go.RowKit Go.Proofs.YtjlpfmiipicnoaaDoor.PA Go.Proofs.YtjlpfmiipicnoaaDoor.MP Go.Proofs.YtjlpfmiipicnoaaDoor.MA Go.Proofs.YtjlpfmiipicnoaaDoor.MT Go.Proofs.YtjlpfmiipicnoaaDoor.MV Go.Proofs.YtjlpfmiipicnoaaDoorW.PrintWords Go.Proofs.YtjlpfmiipicnoaaDoorW.PrintLast Go.Proofs.YtjlpfmiipicnoaaDoorW.PrintMore

theorem g_l0 (s : ByteArray) (m : Nat) (hs : m ≤ s.size) (hm : m ≤ 8) : ∀ (d k i : Nat), m - i = d → i ≤ m → d < k →
    ref02_Reader_Number.l0 k (m : Int) ((val (s.data.toList.take i) : Nat) : Int) (i : Int) s false = some (((val (s.data.toList.take m) : Nat) : Int), s.extract m s.size, false) := by
  intro d
  have hl : s.data.toList.length = s.size := (size_data s).symm
  induction d with
  | zero =>
    intro k i hd hi hk
    obtain ⟨k, rfl⟩ : ∃ m, k = m + 1 := ⟨k - 1, by omega⟩
    obtain rfl : i = m := by omega
    simp only [ref02_Reader_Number.l0]
    rw [if_neg (by omega), if_pos (by omega), if_pos (by omega), Int.toNat_natCast]
  | succ d ih =>
    intro k i hd hi hk
    obtain ⟨k, rfl⟩ : ∃ m, k = m + 1 := ⟨k - 1, by omega⟩
    have hlt : i < s.data.toList.length := by omega
    have hv := val_lt (s.data.toList.take i)
    rw [List.length_take, Nat.min_eq_left (by omega)] at hv
    have hp : 256 ^ i ≤ 256 ^ 7 := Nat.pow_le_pow_right (by omega) (by omega)
    have hstep : ((val (s.data.toList.take i) * 256 + (s.data.toList[i]).toNat : Nat) : Int) = ((val (s.data.toList.take (i + 1)) : Nat) : Int) := by rw [List.take_succ_eq_append_getElem hlt, val_snoc]
    simp only [ref02_Reader_Number.l0]
    rw [if_pos (by omega), if_pos (by omega), if_pos (by omega), bt_data _ _ hlt, or_byte _ _ (by omega) (s.data.toList[i]).toNat_lt, wrap64_id (by omega) (by omega), show ((i : Int) + 1) = ((i + 1 : Nat) : Int) by omega, hstep]
    exact ih k (i + 1) (by omega) (by omega) (by omega)
theorem read_number (k : Nat) (s : ByteArray) (b : Bool) (n : Int) (hk : 13 ≤ k) :
    ∃ (x : Nat) (u : ByteArray) (c : Bool), pack_Reader_Number.f k s b n = some ((x : Int), u, c) ∧ ref02_Reader_Number.f k s b n = some ((x : Int), u, c) ∧ (c = true → x = 0 ∧ u = ⟨#[]⟩) ∧ (b = true → c = true) := by
  obtain ⟨k, rfl⟩ : ∃ m, k = m + 1 := ⟨k - 1, by omega⟩
  have hj : ∀ b, ref02_Reader_Number.j0 (k + 1) n true s b = some (0, ⟨#[]⟩, true) := fun _ => rfl
  unfold ref02_Reader_Number.f
  cases b with
  | true =>
    rw [if_pos rfl, hj]
    exact ⟨0, _, _, bad_number _ s n (by omega), rfl, fun _ => ⟨rfl, rfl⟩, fun _ => rfl⟩
  | false =>
    rw [if_neg (by decide), hj]
    by_cases h1 : n < 1
    · rw [if_pos h1]
      exact ⟨0, _, _, no_number _ s false n (Or.inl h1) (by omega), rfl, fun _ => ⟨rfl, rfl⟩, fun _ => rfl⟩
    · rw [if_neg h1]
      by_cases h8 : n > 8
      · rw [if_pos h8]
        exact ⟨0, _, _, no_number _ s false n (Or.inr h8) (by omega), rfl, fun _ => ⟨rfl, rfl⟩, fun _ => rfl⟩
      · rw [if_neg h8]
        obtain ⟨m, rfl⟩ := Int.eq_ofNat_of_zero_le (show 0 ≤ n by omega)
        by_cases hs : s.size < m
        · rw [decide_eq_true (by omega), hj]
          exact ⟨0, _, _, short_number _ s m (by omega) (by omega) hs (by omega), rfl, fun _ => ⟨rfl, rfl⟩, fun _ => rfl⟩
        · rw [decide_eq_false (by omega)]
          refine ⟨val (s.data.toList.take m), s.extract m s.size, false, some_number _ s m (by omega) (by omega) (by omega) (by omega), ?_, fun h => (by cases h), fun h => (by cases h)⟩
          simp only [ref02_Reader_Number.j0]
          rw [if_neg (by decide)]
          exact g_l0 s m (by omega) (by omega) m k 0 (by omega) (by omega) (by omega)
theorem get_same (k : Nat) (s : ByteArray) (hk : 14 ≤ k) : ∃ x y ok, addr_Get.f k s = some (x, y, ok) ∧ ref03_Get.f k s = some (x, y, ok) := by
  obtain ⟨x, u, c, e1, f1, h1, _⟩ := read_number k s false 4 (by omega)
  obtain ⟨y, v, d, e2, f2, h2, hcd⟩ := read_number k u c 2 (by omega)
  by_cases h6 : s.size = 6
  · have hl : s.data.toList.length = 6 := by rw [← size_data]; exact h6
    have hx := some_number k s 4 (by omega) (by omega) (by omega) (by omega)
    rw [show ((4 : Nat) : Int) = 4 from rfl, e1] at hx
    simp only [Option.some.injEq, Prod.mk.injEq] at hx
    obtain ⟨hxv, hu, hc⟩ := hx
    have hus : u.size = 2 := by rw [hu, size_data, ext_data, List.length_take, List.length_drop]; omega
    subst hc
    have hy := some_number k u 2 (by omega) (by omega) (by omega) (by omega)
    rw [show ((2 : Nat) : Int) = 2 from rfl, e2] at hy
    simp only [Option.some.injEq, Prod.mk.injEq] at hy
    obtain ⟨hyv, hv, hd⟩ := hy
    subst hd
    have hvl : v.toList = ([] : List UInt8) := by
      rw [toList_data, hv, ext_data]
      apply List.eq_nil_of_length_eq_zero
      rw [List.length_take, List.length_drop, ← size_data]
      omega
    refine ⟨(x : Int) % 4294967296, IntKind.u16.wrap (y : Int), true, ?_, ?_⟩
    · unfold addr_Get.f pack_Read.f
      rw [Option.bind_some]
      dsimp only
      rw [e1, Option.bind_some]
      dsimp only
      rw [e2, Option.bind_some]
      dsimp only
      unfold pack_Reader_Done.f
      rw [if_neg (by decide), Option.bind_some, hvl, if_pos (by decide)]
      by_cases h : (((x : Int) % 4294967296 == 0) && (IntKind.u16.wrap (y : Int) == 0)) = true
      · rw [if_pos h, if_pos (by omega)]
        have hz : (x : Int) % 4294967296 = 0 := by
          have h' := (Bool.and_eq_true _ _).mp h
          simpa using h'.1
        have hb := bt_data s 0 (by omega)
        obtain ⟨P, hP⟩ : ∃ P, s.data.toList.take 4 = P := ⟨_, rfl⟩
        have lP : P.length = 4 := by rw [← hP, List.length_take]; omega
        have hxP : x = val P := by rw [hP] at hxv; omega
        have hlt := val_lt P
        rw [lP] at hlt
        have hz' : val P = 0 := by
          have : (256 : Nat) ^ 4 = 4294967296 := by decide
          omega
        have hc0 : (s.data.toList[0]'(by omega)).toNat = 0 := by
          have e0 : s.data.toList[0]'(by omega) = P[0]'(by omega) := by
            simp only [← hP, List.getElem_take]
          rw [e0]
          match P, lP, hz' with
          | c :: P', lP, hz' =>
            rw [val_cons] at hz'
            have hpos : 0 < 256 ^ P'.length := Nat.pow_pos (by decide)
            rcases Nat.eq_zero_or_pos c.toNat with e | e
            · exact e
            · have : 0 < c.toNat * 256 ^ P'.length := Nat.mul_pos e hpos
              omega
        rw [hc0] at hb
        rw [if_pos (show bt s 0 = 0 from hb)]
      · rw [if_neg h]
    · unfold ref03_Get.f
      rw [f1, Option.bind_some]
      dsimp only
      rw [f2, Option.bind_some]
      dsimp only
      rw [if_neg (by decide), if_pos hvl]
  · refine ⟨0, 0, false, get_wrong k s h6 hk, ?_⟩
    unfold ref03_Get.f
    rw [f1, Option.bind_some]
    dsimp only
    rw [f2, Option.bind_some]
    dsimp only
    cases d with
    | true => rw [if_pos rfl]
    | false =>
      rw [if_neg (by decide), if_neg]
      intro hvl
      have hc : c = false := by
        cases c with
        | true => exact absurd (hcd rfl) (by decide)
        | false => rfl
      subst hc
      have hl : s.data.toList.length = s.size := (size_data s).symm
      by_cases h4 : s.size < 4
      · have hx := short_number k s 4 (by omega) (by omega) h4 (by omega)
        rw [show ((4 : Nat) : Int) = 4 from rfl, e1] at hx
        simp at hx
      · have hx := some_number k s 4 (by omega) (by omega) (by omega) (by omega)
        rw [show ((4 : Nat) : Int) = 4 from rfl, e1] at hx
        simp only [Option.some.injEq, Prod.mk.injEq] at hx
        obtain ⟨_, hu, _⟩ := hx
        have hus : u.size = s.size - 4 := by rw [hu, size_data, ext_data, List.length_take, List.length_drop]; omega
        have hul : u.data.toList.length = u.size := (size_data u).symm
        by_cases h2 : u.size < 2
        · have hy := short_number k u 2 (by omega) (by omega) h2 (by omega)
          rw [show ((2 : Nat) : Int) = 2 from rfl, e2] at hy
          simp at hy
        · have hy := some_number k u 2 (by omega) (by omega) (by omega) (by omega)
          rw [show ((2 : Nat) : Int) = 2 from rfl, e2] at hy
          simp only [Option.some.injEq, Prod.mk.injEq] at hy
          obtain ⟨_, hv, _⟩ := hy
          rw [toList_data, hv, ext_data] at hvl
          have := congrArg List.length hvl
          rw [List.length_take, List.length_drop] at this
          simp at this
          omega
theorem bend_some (s : ByteArray) (at_ by_ : Int) (h0 : -9223372036854775808 ≤ at_) (h1 : at_ < 9223372036854775808) : ∃ t, law03_bend.f s at_ by_ = some t ∧ t.size = s.size := by
  unfold law03_bend.f
  by_cases hz : s.size = 0
  · rw [if_pos hz]
    exact ⟨_, rfl, rfl⟩
  · rw [if_neg hz]
    have hx : 0 ≤ (if at_ < 0 then wrap64 (-(wrap64 (at_ + 1))) else at_) := by
      by_cases hn : at_ < 0
      · rw [if_pos hn, wrap64_id (n := at_ + 1) (by omega) (by omega), wrap64_id (by omega) (by omega)]
        omega
      · rw [if_neg hn]
        omega
    have hb : 0 ≤ bendAt at_ (s.size : Int) ∧ bendAt at_ (s.size : Int) < (s.size : Int) := by
      unfold bendAt
      exact ⟨Int.tmod_nonneg _ hx, Int.tmod_lt_of_pos _ (by omega)⟩
    rw [if_pos hb]
    exact ⟨_, rfl, by rw [strOfNums_size, bendL_length]⟩
end Go.Proofs.YtjlpfmiipicnoaaDoor.MZ
