/- What is got of bytes: the record, or none; by the document's answer the same. -/
import Derived.Test.YtalibiaplhmfhaaMS
namespace Go.Proofs.Ytalibiaplhmfhaa.MG
open Go Go.RowKit Go.Proofs.Ytalibiaplhmfhaa.PA Go.Proofs.Ytalibiaplhmfhaa.MA Go.Proofs.Ytalibiaplhmfhaa.MP Go.Proofs.Ytalibiaplhmfhaa.MQ Go.Proofs.Ytalibiaplhmfhaa.MS Go.Proofs.YtalibiaplhmfhaaW.PrintWords Go.Proofs.YtalibiaplhmfhaaW.PrintLast Go.Proofs.YtalibiaplhmfhaaW.PrintMore

theorem g_l0 (s : ByteArray) (m : Nat) (hs : m ≤ s.size) (hm : m ≤ 8) : ∀ (d k i : Nat), m - i = d → i ≤ m → d < k →
    ref02_Reader_Number.l0 k (m : Int) ((val (s.data.toList.take i) : Nat) : Int) (i : Int) s false = some (((val (s.data.toList.take m) : Nat) : Int), s.extract m s.size, false) := by
  intro d
  have hl : s.data.toList.length = s.size := (size_data s).symm
  induction d with
  | zero =>
    intro k i hd hi hk
    obtain ⟨k, rfl⟩ : ∃ m, k = m + 1 := ⟨k - 1, by omega⟩
    obtain rfl : i = m := by omega
    simp only [ref02_Reader_Number.l0]
    rw [if_neg (by omega), if_pos (by omega), if_pos (by omega), Int.toNat_natCast]
  | succ d ih =>
    intro k i hd hi hk
    obtain ⟨k, rfl⟩ : ∃ m, k = m + 1 := ⟨k - 1, by omega⟩
    have hlt : i < s.data.toList.length := by omega
    have hv := val_lt (s.data.toList.take i)
    rw [List.length_take, Nat.min_eq_left (by omega)] at hv
    have hp : 256 ^ i ≤ 256 ^ 7 := Nat.pow_le_pow_right (by omega) (by omega)
    have hstep : ((val (s.data.toList.take i) * 256 + (s.data.toList[i]).toNat : Nat) : Int) = ((val (s.data.toList.take (i + 1)) : Nat) : Int) := by rw [List.take_succ_eq_append_getElem hlt, val_snoc]
    simp only [ref02_Reader_Number.l0]
    rw [if_pos (by omega), if_pos (by omega), if_pos (by omega), bt_data _ _ hlt, or_byte _ _ (by omega) (s.data.toList[i]).toNat_lt, wrap64_id (by omega) (by omega), show ((i : Int) + 1) = ((i + 1 : Nat) : Int) by omega, hstep]
    exact ih k (i + 1) (by omega) (by omega) (by omega)

theorem g_both (k : Nat) (s : ByteArray) (m : Nat) (A R : List UInt8) (h : s.data.toList = A ++ R) (hA : A.length = m) (h1 : 1 ≤ m) (h8 : m ≤ 8) (hk : 13 ≤ k) :
    ∃ u, pack_Reader_Number.f k s false (m : Int) = some (((val A : Nat) : Int), u, false) ∧ ref02_Reader_Number.f k s false (m : Int) = some (((val A : Nat) : Int), u, false) ∧ u.data.toList = R := by
  have hs : s.size = (A ++ R).length := by rw [size_data, h]
  have hle : m ≤ s.size := by rw [hs, List.length_append]; omega
  have ht : s.data.toList.take m = A := by rw [h, ← hA, List.take_left]
  obtain ⟨k, rfl⟩ : ∃ j, k = j + 1 := ⟨k - 1, by omega⟩
  refine ⟨s.extract m s.size, ?_, ?_, ?_⟩
  · rw [some_number (k + 1) s m h1 h8 hle (by omega), ht]
  · unfold ref02_Reader_Number.f
    rw [if_neg (by decide), if_neg (by omega), if_neg (by omega), decide_eq_false (by omega)]
    simp only [ref02_Reader_Number.j0]
    rw [if_neg (by decide)]
    have := g_l0 s m hle h8 m k 0 (by omega) (by omega) (by omega)
    rw [ht] at this
    exact this
  · rw [ext_data, h, hs, ← hA, List.drop_left, List.take_of_length_le (by simp)]

theorem g_addr (k : Nat) (E : ByteArray) (hE : E.size = 6) (hk : 13 ≤ k) : ∃ x y, addr_Get.f k E = some (x, y, true) ∧ ref03_Get.f k E = some (x, y, true) := by
  have hl : E.data.toList.length = 6 := by rw [← size_data]; exact hE
  obtain ⟨P, hP⟩ : ∃ P, E.data.toList.take 4 = P := ⟨_, rfl⟩
  obtain ⟨Q, hQ⟩ : ∃ Q, E.data.toList.drop 4 = Q := ⟨_, rfl⟩
  have hPQ : E.data.toList = P ++ Q := by rw [← hP, ← hQ, List.take_append_drop]
  have lP : P.length = 4 := by rw [← hP, List.length_take]; omega
  have lQ : Q.length = 2 := by rw [← hQ, List.length_drop]; omega
  obtain ⟨u, e1, f1, hu⟩ := g_both k E 4 P Q hPQ lP (by omega) (by omega) hk
  obtain ⟨v, e2, f2, hv⟩ := g_both k u 2 Q [] (by rw [hu, List.append_nil]) lQ (by omega) (by omega) hk
  have hvl : v.toList = ([] : List UInt8) := by rw [toList_data, hv]
  rw [show ((4 : Nat) : Int) = 4 from rfl] at e1 f1
  rw [show ((2 : Nat) : Int) = 2 from rfl] at e2 f2
  refine ⟨((val P : Nat) : Int) % 4294967296, IntKind.u16.wrap ((val Q : Nat) : Int), ?_, ?_⟩
  · unfold addr_Get.f pack_Read.f
    rw [Option.bind_some]
    dsimp only
    rw [e1, Option.bind_some]
    dsimp only
    rw [e2, Option.bind_some]
    dsimp only
    unfold pack_Reader_Done.f
    rw [if_neg (by decide), Option.bind_some, hvl, if_pos (by decide)]
    by_cases h : ((((val P : Nat) : Int) % 4294967296 == 0) && (IntKind.u16.wrap ((val Q : Nat) : Int) == 0)) = true
    · rw [if_pos h, if_pos (by omega)]
      have hz : ((val P : Nat) : Int) % 4294967296 = 0 := by
        have h' := (Bool.and_eq_true _ _).mp h
        simpa using h'.1
      have hlt := val_lt P
      rw [lP] at hlt
      have hz' : val P = 0 := by
        have : (256 : Nat) ^ 4 = 4294967296 := by decide
        omega
      match P, lP, hPQ, hz' with
      | c :: P', lP, hPQ, hz' =>
        rw [val_cons] at hz'
        have hpos : 0 < 256 ^ P'.length := Nat.pow_pos (by decide)
        have hc : c.toNat = 0 := by
          rcases Nat.eq_zero_or_pos c.toNat with e | e
          · exact e
          · have : 0 < c.toNat * 256 ^ P'.length := Nat.mul_pos e hpos
            omega
        have hb := bt_data E 0 (by omega)
        have h0 : E.data.toList[0] = c := by simp only [hPQ]; rfl
        rw [h0, hc] at hb
        rw [show ((0 : Nat) : Int) = 0 from rfl] at hb
        rw [if_pos hb]
    · rw [if_neg h]
  · unfold ref03_Get.f
    rw [f1, Option.bind_some]
    dsimp only
    rw [f2, Option.bind_some]
    dsimp only
    rw [if_neg (by decide), if_pos hvl]

theorem g_none (k : Nat) (a b c : Int) (s : ByteArray) (x : Bool) : record_Get.j0 (k + 1) a b c true s x = some (0, 0, 0, 0, 0, ⟨#[]⟩, false) := rfl

theorem get_same (k : Nat) (s : ByteArray) (hk : 14 ≤ k) : ∃ a b c d e t ok, record_Get.f k s = some (a, b, c, d, e, t, ok) ∧ ref04_Get.f k s = some (a, b, c, d, e, t, ok) := by
  obtain ⟨k, rfl⟩ : ∃ j, k = j + 1 := ⟨k - 1, by omega⟩
  have hl : s.data.toList.length = s.size := (size_data s).symm
  obtain ⟨L, hL⟩ : ∃ L, s.data.toList = L := ⟨_, rfl⟩
  rw [hL] at hl
  by_cases h12 : s.size < 12
  · refine ⟨0, 0, 0, 0, 0, ⟨#[]⟩, false, ?_, ?_⟩
    · unfold record_Get.f pack_Read.f
      rw [Option.bind_some]
      dsimp only
      rw [show (1 : Int) = ((1 : Nat) : Int) from rfl, show (4 : Int) = ((4 : Nat) : Int) from rfl]
      by_cases h1 : s.size < 1
      · rw [short_number (k + 1) s 1 (by omega) (by omega) h1 (by omega), Option.bind_some]
        dsimp only
        rw [bad_number _ _ _ (by omega), Option.bind_some]
        dsimp only
        rw [bad_number _ _ _ (by omega), Option.bind_some]
        dsimp only
        rw [if_pos rfl, g_none]
      · obtain ⟨u1, e1, _, hu1⟩ := g_both (k + 1) s 1 (L.take 1) (L.drop 1) (by rw [hL, List.take_append_drop]) (by rw [List.length_take]; omega) (by omega) (by omega) (by omega)
        have z1 : u1.size = s.size - 1 := by rw [size_data, hu1, List.length_drop]; omega
        rw [e1, Option.bind_some]
        dsimp only
        by_cases h2 : s.size < 2
        · rw [short_number (k + 1) u1 1 (by omega) (by omega) (by omega) (by omega), Option.bind_some]
          dsimp only
          rw [bad_number _ _ _ (by omega), Option.bind_some]
          dsimp only
          rw [if_pos rfl, g_none]
        · obtain ⟨u2, e2, _, hu2⟩ := g_both (k + 1) u1 1 ((L.drop 1).take 1) ((L.drop 1).drop 1) (by rw [hu1, List.take_append_drop]) (by rw [List.length_take, List.length_drop]; omega) (by omega) (by omega) (by omega)
          have z2 : u2.size = s.size - 2 := by rw [size_data, hu2, List.length_drop, List.length_drop]; omega
          rw [e2, Option.bind_some]
          dsimp only
          by_cases h6 : s.size < 6
          · rw [short_number (k + 1) u2 4 (by omega) (by omega) (by omega) (by omega), Option.bind_some]
            dsimp only
            rw [if_pos rfl, g_none]
          · obtain ⟨u3, e3, _, hu3⟩ := g_both (k + 1) u2 4 (((L.drop 1).drop 1).take 4) (((L.drop 1).drop 1).drop 4) (by rw [hu2, List.take_append_drop]) (by rw [List.length_take, List.length_drop, List.length_drop]; omega) (by omega) (by omega) (by omega)
            have z3 : u3.size = s.size - 6 := by rw [size_data, hu3, List.length_drop, List.length_drop, List.length_drop]; omega
            rw [e3, Option.bind_some]
            dsimp only
            rw [if_neg (by decide), decide_eq_true (by omega), g_none]
    · unfold ref04_Get.f
      rw [if_pos (by omega)]
  · obtain ⟨u1, e1, _, hu1⟩ := g_both (k + 1) s 1 (L.take 1) (L.drop 1) (by rw [hL, List.take_append_drop]) (by rw [List.length_take]; omega) (by omega) (by omega) (by omega)
    obtain ⟨u2, e2, _, hu2⟩ := g_both (k + 1) u1 1 ((L.drop 1).take 1) ((L.drop 1).drop 1) (by rw [hu1, List.take_append_drop]) (by rw [List.length_take, List.length_drop]; omega) (by omega) (by omega) (by omega)
    obtain ⟨u3, e3, _, hu3⟩ := g_both (k + 1) u2 4 (((L.drop 1).drop 1).take 4) (((L.drop 1).drop 1).drop 4) (by rw [hu2, List.take_append_drop]) (by rw [List.length_take, List.length_drop, List.length_drop]; omega) (by omega) (by omega) (by omega)
    rw [List.drop_drop, List.drop_drop] at hu3
    rw [List.drop_drop] at e3
    have z3 : u3.size = s.size - 6 := by rw [size_data, hu3, List.length_drop]; omega
    obtain ⟨u4, _, e4, _⟩ := g_both (k + 1) (s.extract 2 6) 4 ((L.drop 2).take 4) [] (by rw [ext_data, hL, List.append_nil]) (by rw [List.length_take, List.length_drop]; omega) (by omega) (by omega) (by omega)
    have hE : u3.extract 0 6 = s.extract 6 12 := bytes_ext (by rw [ext_data, ext_data, hu3, hL]; simp)
    have hEs : (s.extract 6 12).size = 6 := by rw [size_data, ext_data, hL, List.length_take, List.length_drop]; omega
    have hrest : u3.extract 6 u3.size = s.extract 12 s.size := bytes_ext (by
      rw [ext_data, ext_data, hu3, hL, List.drop_drop, List.take_of_length_le (by rw [List.length_drop]; omega), List.take_of_length_le (by rw [List.length_drop]; omega)])
    obtain ⟨x, y, ex, fx⟩ := g_addr k (s.extract 6 12) hEs (by omega)
    obtain ⟨x', y', ex', fx'⟩ := g_addr (k + 1) (s.extract 6 12) hEs (by omega)
    have hmono : addr_Get.f (k + 1) (s.extract 6 12) = some (x, y, true) := addr_Get.mono _ _ _ ex
    obtain ⟨rfl, rfl⟩ : x = x' ∧ y = y' := by
      rw [hmono] at ex'
      injection ex' with h
      injection h with h1 h2
      injection h2 with h2 _
      exact ⟨h1, h2⟩
    have hb0 : bt s 0 = ((val (L.take 1) : Nat) : Int) := by
      have := bt_data s 0 (by rw [hL]; omega)
      rw [show ((0 : Nat) : Int) = 0 from rfl] at this
      rw [this]
      simp only [hL]
      match L, hl with
      | c :: _, _ => simp [val]
      | [], hl => simp at hl; omega
    have hb1 : bt s 1 = ((val ((L.drop 1).take 1) : Nat) : Int) := by
      have := bt_data s 1 (by rw [hL]; omega)
      rw [show ((1 : Nat) : Int) = 1 from rfl] at this
      rw [this]
      simp only [hL]
      match L, hl with
      | _ :: c :: _, _ => simp [val]
      | [_], hl => simp at hl; omega
      | [], hl => simp at hl; omega
    have hinc : (1 : Nat) + 1 = 2 := rfl
    rw [hinc] at e3
    obtain ⟨t, ht⟩ := right_some (wrap64 ((val (L.take 1) : Nat) : Int)) (wrap64 ((val ((L.drop 1).take 1) : Nat) : Int)) (((val ((L.drop 2).take 4) : Nat) : Int) % 4294967296) x y
    have eo : record_Get.f (k + 1) s = if t = true then some (wrap64 ((val (L.take 1) : Nat) : Int), wrap64 ((val ((L.drop 1).take 1) : Nat) : Int), ((val ((L.drop 2).take 4) : Nat) : Int) % 4294967296, x, y, s.extract 12 s.size, true) else some (0, 0, 0, 0, 0, (⟨#[]⟩ : ByteArray), false) := by
      unfold record_Get.f pack_Read.f
      rw [Option.bind_some]
      dsimp only
      rw [show (1 : Int) = ((1 : Nat) : Int) from rfl, show (4 : Int) = ((4 : Nat) : Int) from rfl, e1, Option.bind_some]
      dsimp only
      rw [e2, Option.bind_some]
      dsimp only
      rw [e3, Option.bind_some]
      dsimp only
      rw [if_neg (by decide), decide_eq_false (by omega)]
      simp only [record_Get.j0]
      rw [if_neg (by decide), if_pos (by decide), if_pos (by omega), hE, ex, Option.bind_some]
      dsimp only
      rw [if_pos rfl, ht, Option.bind_some, hrest]
    have er : ref04_Get.f (k + 1) s = if t = true then some (wrap64 ((val (L.take 1) : Nat) : Int), wrap64 ((val ((L.drop 1).take 1) : Nat) : Int), ((val ((L.drop 2).take 4) : Nat) : Int) % 4294967296, x, y, s.extract 12 s.size, true) else some (0, 0, 0, 0, 0, (⟨#[]⟩ : ByteArray), false) := by
      unfold ref04_Get.f
      rw [if_neg (by omega), if_pos (by decide), if_pos (by omega), fx', Option.bind_some, if_pos (by decide), if_pos (by omega)]
      rw [show (4 : Int) = ((4 : Nat) : Int) from rfl, e4, Option.bind_some]
      dsimp only
      rw [if_pos (by omega), if_pos (by omega), hb0, hb1, right_ref, ht, Option.bind_some]
    cases t with
    | true =>
      rw [if_pos rfl] at eo er
      exact ⟨_, _, _, _, _, _, _, eo, er⟩
    | false =>
      rw [if_neg (by decide)] at eo er
      exact ⟨_, _, _, _, _, _, _, eo, er⟩

end Go.Proofs.Ytalibiaplhmfhaa.MG
