/- PackBack: for every two numbers, size, text, what stands behind and cut the law answers true: what was put one behind the other is read so, what stands behind it is left, cut anywhere it is bad. No condition. -/
import Derived.Test.YtanjoflhpnephaaMA
namespace Go.Proofs.Ytanjoflhpnephaa.Pure
open Go Go.RowKit Go.Proofs.Ytanjoflhpnephaa.PA Go.Proofs.Ytanjoflhpnephaa.MA Go.Proofs.YtanjoflhpnephaaW.PrintWords Go.Proofs.YtanjoflhpnephaaW.PrintLast Go.Proofs.YtanjoflhpnephaaW.PrintMore

theorem back_num (k : Nat) (s : ByteArray) (m : Nat) (A R : List UInt8) (h : s.data.toList = A ++ R) (hA : A.length = m) (h1 : 1 ≤ m) (h8 : m ≤ 8) (hk : 12 ≤ k) :
    ∃ u, pack_Reader_Number.f k s false (m : Int) = some (((val A : Nat) : Int), u, false) ∧ u.data.toList = R := by
  have hs : s.size = (A ++ R).length := by rw [size_data, h]
  refine ⟨s.extract m s.size, ?_, ?_⟩
  · rw [some_number k s m h1 h8 (by rw [hs, List.length_append]; omega) hk, h, ← hA, List.take_left]
  · rw [ext_data, h, hs, ← hA, List.drop_left, List.take_of_length_le (by simp)]

theorem back_text0 (k : Nat) (s : ByteArray) (h : s.size = 0) (hk : 12 ≤ k) : pack_Reader_Text.f k s false = some (⟨#[]⟩, ⟨#[]⟩, true) := by
  unfold pack_Reader_Text.f
  rw [show (1 : Int) = ((1 : Nat) : Int) from rfl, short_number k s 1 (by omega) (by omega) (by omega) hk, Option.bind_some]
  rfl
theorem back_text1 (k : Nat) (s : ByteArray) (c : UInt8) (r : List UInt8) (h : s.data.toList = c :: r) (hc : r.length < c.toNat) (hk : 12 ≤ k) : pack_Reader_Text.f k s false = some (⟨#[]⟩, ⟨#[]⟩, true) := by
  have hcl := c.toNat_lt
  obtain ⟨u, e, hu⟩ := back_num k s 1 [c] r h rfl (by omega) (by omega) hk
  have hz : u.size = r.length := by rw [size_data, hu]
  have hv : val [c] = c.toNat := by simp [val]
  unfold pack_Reader_Text.f
  rw [show (1 : Int) = ((1 : Nat) : Int) from rfl, e, Option.bind_some]
  dsimp only
  rw [hv, wrap64_id (by omega) (by omega), short_bytes u _ (by omega), Option.bind_some]

/-- What was put, and what stands behind it. -/
def all (a m b : Nat) (tx rest : List UInt8) : List UInt8 := nb a m ++ (UInt8.ofNat tx.length :: (tx ++ (nb b 8 ++ rest)))

theorem read_ok (k a b m : Nat) (tx rest : List UInt8) (s : ByteArray) (h1 : 1 ≤ m) (h8 : m ≤ 8) (ha : a < 256 ^ m) (hb : b < 18446744073709551616) (ht : tx.length ≤ 200) (hs : s.data.toList = all a m b tx rest) (hk : 12 ≤ k) :
    ∃ u1 t u2 u3, pack_Reader_Number.f k s false (m : Int) = some ((a : Int), u1, false) ∧ pack_Reader_Text.f k u1 false = some (t, u2, false) ∧ t.data.toList = tx ∧
      pack_Reader_Number.f k u2 false 8 = some ((b : Int), u3, false) ∧ u3.data.toList = rest := by
  obtain ⟨u1, e1, hu1⟩ := back_num k s m _ _ hs (nb_length a m) h1 h8 hk
  rw [val_nb, Nat.mod_eq_of_lt ha] at e1
  have hc : (UInt8.ofNat tx.length).toNat = tx.length := ofNat_toNat (by omega)
  obtain ⟨t, u2, e2, ht2, hu2⟩ := some_text k u1 _ _ hu1 (by rw [hc, List.length_append]; omega) hk
  rw [hc, List.take_left] at ht2
  rw [hc, List.drop_left] at hu2
  obtain ⟨u3, e3, hu3⟩ := back_num k u2 8 _ _ hu2 (nb_length b 8) (by omega) (by omega) hk
  rw [val_nb, Nat.mod_eq_of_lt (show b < 256 ^ 8 from hb)] at e3
  exact ⟨u1, t, u2, u3, e1, e2, ht2, e3, hu3⟩

theorem cut_bad (k a b m c : Nat) (tx : List UInt8) (s : ByteArray) (h1 : 1 ≤ m) (h8 : m ≤ 8) (ht : tx.length ≤ 200) (hs : s.data.toList = (all a m b tx []).take c) (hlt : c < (all a m b tx []).length) (hk : 12 ≤ k) :
    ∃ x1 u1 b1 x2 u2 b2, pack_Reader_Number.f k s false (m : Int) = some (x1, u1, b1) ∧ pack_Reader_Text.f k u1 b1 = some (x2, u2, b2) ∧ pack_Reader_Number.f k u2 b2 8 = some (0, ⟨#[]⟩, true) := by
  have hall : (all a m b tx []).length = m + 1 + tx.length + 8 := by
    simp only [all, List.length_append, List.length_cons, nb_length, List.length_nil]
    omega
  have hsz : s.size = c := by rw [size_data, hs, List.length_take]; omega
  by_cases h : c < m
  · exact ⟨_, _, _, _, _, _, short_number k s m h1 h8 (by omega) hk, bad_text k _ (by omega), bad_number k _ _ (by omega)⟩
  · have hs1 : s.data.toList = nb a m ++ (UInt8.ofNat tx.length :: (tx ++ (nb b 8 ++ []))).take (c - m) := by
      rw [hs, all, List.take_append, nb_length, List.take_of_length_le (by rw [nb_length]; omega)]
    obtain ⟨u1, e1, hu1⟩ := back_num k s m _ _ hs1 (nb_length a m) h1 h8 hk
    obtain ⟨d, hd⟩ : ∃ d, c - m = d := ⟨_, rfl⟩
    rw [hd] at hu1
    cases d with
    | zero =>
      have hz : u1.size = 0 := by rw [size_data, hu1]; rfl
      exact ⟨_, _, _, _, _, _, e1, back_text0 k u1 hz hk, bad_number k _ _ (by omega)⟩
    | succ d =>
      rw [List.take_succ_cons] at hu1
      have hc : (UInt8.ofNat tx.length).toNat = tx.length := ofNat_toNat (by omega)
      by_cases hdt : d < tx.length
      · exact ⟨_, _, _, _, _, _, e1, back_text1 k u1 _ _ hu1 (by rw [hc, List.length_take]; omega) hk, bad_number k _ _ (by omega)⟩
      · obtain ⟨t, u2, e2, ht2, hu2⟩ := some_text k u1 _ _ hu1 (by rw [hc, List.length_take, List.length_append, List.length_append, nb_length]; omega) hk
        have hz : u2.size < 8 := by
          rw [size_data, hu2, hc, List.length_drop, List.length_take]
          omega
        exact ⟨_, _, _, _, _, _, e1, e2, short_number k u2 8 (by omega) (by omega) hz hk⟩

theorem back_ptext (s : ByteArray) (h : s.size ≤ 255) : pack_Text.f s = some (strOfNums [(s.size : Int)] ++ s, true) := by
  unfold pack_Text.f
  rw [if_neg (by omega), Option.bind_some, Int.emod_eq_of_lt (by omega) (by omega), if_pos (by rw [strOfNums_size]; simp only [List.length_cons, List.length_nil]; omega)]

theorem back_j1 (a b m : Nat) (s rest T al : ByteArray) (cut : Int) (h1 : 1 ≤ m) (h8 : m ≤ 8) (ha : a < 256 ^ m) (hb : b < 18446744073709551616) (hT : s.extract 0 (mn (s.size : Int) 200).toNat = T) (ht : T.size ≤ 200) (hcut : 0 ≤ cut ∧ cut < 65536) (hr : rest.size ≤ 140737488351232)
    (hal : al.data.toList = all a m b T.data.toList []) (hm : 0 ≤ mn (s.size : Int) 200) (hm2 : mn (s.size : Int) 200 ≤ (s.size : Int)) :
    scuttlebuttlaw02_PackBack.j1 13 (a : Int) (b : Int) s rest cut (m : Int) al false = some true := by
  show scuttlebuttlaw02_PackBack.j1 (12 + 1) _ _ _ _ _ _ _ _ = _
  simp only [scuttlebuttlaw02_PackBack.j1]
  have htl : T.data.toList.length = T.size := (size_data T).symm
  have hlen : (all a m b T.data.toList []).length = m + 1 + T.size + 8 := by
    simp only [all, List.length_append, List.length_cons, nb_length, List.length_nil]
    omega
  have hsz : al.size = m + 1 + T.size + 8 := by rw [size_data, hal, hlen]
  have hfull : (al ++ rest).data.toList = all a m b T.data.toList rest.data.toList := by
    rw [append_data, hal]
    simp [all, List.append_assoc]
  obtain ⟨u1, t, u2, u3, e1, e2, e3, e4, e5⟩ := read_ok 12 a b m T.data.toList rest.data.toList (al ++ rest) h1 h8 ha hb (by omega) hfull (by omega)
  have hw : wrap64 cut = cut := wrap64_id (by omega) (by omega)
  have hpos : (0 : Int) < (al.size : Int) := by omega
  have hmod0 : 0 ≤ Int.tmod cut (al.size : Int) := Int.tmod_nonneg _ hcut.1
  have hmod1 : Int.tmod cut (al.size : Int) < (al.size : Int) := Int.tmod_lt_of_pos _ hpos
  obtain ⟨c, hc⟩ : ∃ c : Nat, Int.tmod cut (al.size : Int) = (c : Int) := ⟨(Int.tmod cut (al.size : Int)).toNat, by omega⟩
  have hcl : (al.extract 0 c).data.toList = (all a m b T.data.toList []).take c := by rw [ext_data, hal]; simp
  obtain ⟨x1, v1, b1, x2, v2, b2, f1, f2, f3⟩ := cut_bad 12 a b m c T.data.toList (al.extract 0 c) h1 h8 (by omega) hcl (by rw [hlen]; omega) (by omega)
  have eT : t.toList = T.toList := by rw [toList_data, toList_data, e3]
  have eR : u3.toList = rest.toList := by rw [toList_data, toList_data, e5]
  rw [if_neg (by decide), if_pos (by omega)]
  unfold pack_Read.f
  rw [Option.bind_some]
  dsimp only
  rw [e1, Option.bind_some]
  dsimp only
  rw [e2, Option.bind_some]
  dsimp only
  rw [e4, Option.bind_some]
  dsimp only
  rw [hw, hc, if_neg (by omega), if_pos (by omega), if_pos (by omega), Int.toNat_natCast, Option.bind_some]
  dsimp only
  rw [f1, Option.bind_some]
  dsimp only
  rw [f2, Option.bind_some]
  dsimp only
  rw [f3, Option.bind_some]
  dsimp only
  rw [bad_number 12 _ 1 (by omega), Option.bind_some]
  dsimp only
  rw [if_pos rfl, if_pos hm, if_pos hm2, hT, if_pos eT, if_pos rfl, if_pos eR, if_neg (by decide)]
  have hd : pack_Reader_Done.f u3 false = some (rest.toList == ([] : List UInt8)) := by
    unfold pack_Reader_Done.f
    rw [if_neg (by decide), eR]
  have hd2 : pack_Reader_Done.f ⟨#[]⟩ true = some false := rfl
  have he : (⟨#[]⟩ : ByteArray).toList = ([] : List UInt8) := by decide +kernel
  rw [hd, Option.bind_some, hd2, Option.bind_some, if_pos rfl, if_pos rfl, if_pos he]
  by_cases h : rest.toList = ([] : List UInt8)
  · rw [if_pos (by simpa using h), if_pos h]
    rfl
  · rw [if_neg (by simpa using h), if_neg h]
    rfl

theorem back_j0 (a b m : Nat) (s rest : ByteArray) (cut : Int) (h1 : 1 ≤ m) (h8 : m ≤ 8) (ha : a < 256 ^ m) (hb : b < 18446744073709551616) (hcut : 0 ≤ cut ∧ cut < 65536) (hr : rest.size ≤ 140737488351232) :
    scuttlebuttlaw02_PackBack.j0 14 (a : Int) (b : Int) s rest cut (m : Int) = some true := by
  show scuttlebuttlaw02_PackBack.j0 (13 + 1) _ _ _ _ _ _ = _
  simp only [scuttlebuttlaw02_PackBack.j0]
  have hm : 0 ≤ mn (s.size : Int) 200 ∧ mn (s.size : Int) 200 ≤ (s.size : Int) ∧ mn (s.size : Int) 200 ≤ 200 := by
    unfold mn
    split <;> omega
  obtain ⟨T, hT⟩ : ∃ T, s.extract 0 (mn (s.size : Int) 200).toNat = T := ⟨_, rfl⟩
  have ht : T.size ≤ 200 := by
    rw [← hT, size_data, ext_data, List.length_take]
    omega
  rw [if_pos hm.1, if_pos hm.2.1, hT, back_ptext T (by omega), Option.bind_some, num_some a m h1 h8, Option.bind_some]
  dsimp only
  have l1 : (strOfNums (numB (a : Int) m)).data.toList = nb a m := num_data a m
  have l2 : (strOfNums (numB (b : Int) 8)).data.toList = nb b 8 := num_data b 8
  have l3 : (strOfNums [(T.size : Int)]).data.toList = [UInt8.ofNat T.size] := by
    rw [strOfNums_data]
    simp
  rw [show (8 : Int) = ((8 : Nat) : Int) from rfl, num_some b 8 (by omega) (by omega)]
  generalize strOfNums (numB (a : Int) m) = A at l1
  generalize strOfNums (numB (b : Int) 8) = B at l2
  generalize strOfNums [(T.size : Int)] = L at l3
  have z1 : A.size = m := by rw [size_data, l1, nb_length]
  have z2 : B.size = 8 := by rw [size_data, l2, nb_length]
  have z3 : L.size = 1 := by rw [size_data, l3]; rfl
  have zt : (L ++ T).size = 1 + T.size := by rw [ByteArray.size_append, z3]
  have hal : (A ++ (L ++ T) ++ B).data.toList = all a m b T.data.toList [] := by
    rw [append_data, append_data, append_data, l1, l2, l3, all, ← size_data]
    simp [List.append_assoc]
  have hne : ((A ++ (L ++ T) ++ B).toList == ([] : List UInt8)) = false := by
    rw [beq_eq_false_iff_ne, toList_data, hal]
    intro e
    have := congrArg List.length e
    simp [all] at this
  rw [zt, z1, if_pos (by omega), Option.bind_some, ByteArray.size_append, z1, zt, z2, if_pos (by omega), if_pos rfl, hne]
  exact back_j1 a b m s rest T _ cut h1 h8 ha hb hT ht hcut hr hal hm.1 hm.2.1

theorem back_shl (m : Nat) (h : m < 8) : shl .u64 1 (((8 * m : Nat) : Int)) = ((256 ^ m : Nat) : Int) := by
  unfold shl
  rw [Int.toNat_natCast, Nat.min_eq_left (by simp [IntKind.bits]; omega), wrap_u64, Int.one_mul, show ((2 : Int) ^ (8 * m)) = ((2 ^ (8 * m) : Nat) : Int) by simp, pow_256]
  have : 256 ^ m ≤ 72057594037927936 := Nat.le_trans (Nat.pow_le_pow_right (show 0 < 256 by decide) (show m ≤ 7 by omega)) (by decide)
  generalize 256 ^ m = P at this ⊢
  omega

theorem PackBack : scuttlebuttlaw02_PackBack.Pure := by
  intro a b z s rest cut ha hb hz _ hr hcut
  have ra := wf_u64 ha
  have rb := wf_u64 hb
  have rz := wf_u8 hz
  have rc := wf_u16 hcut
  obtain ⟨a, rfl⟩ := Int.eq_ofNat_of_zero_le ra.1
  obtain ⟨b, rfl⟩ := Int.eq_ofNat_of_zero_le rb.1
  obtain ⟨m, hm⟩ : ∃ m : Nat, 1 + z % 8 = (m : Int) := ⟨(1 + z % 8).toNat, by omega⟩
  have e0 : wrap64 (Int.tmod z 8) = z % 8 := by rw [Int.tmod_eq_emod_of_nonneg rz.1, wrap64_id (by omega) (by omega)]
  have e1 : wrap64 (1 + wrap64 (Int.tmod z 8)) = (m : Int) := by rw [e0, wrap64_id (by omega) (by omega), hm]
  have e2 : wrap64 (8 * (m : Int)) = ((8 * m : Nat) : Int) := by rw [wrap64_id (by omega) (by omega)]; omega
  have hp : 0 < 256 ^ m := Nat.pow_pos (by decide)
  refine ⟨14, ?_⟩
  unfold scuttlebuttlaw02_PackBack.f
  rw [examples_true 14 (by omega), Option.bind_some, if_pos rfl]
  rw [e1, e2]
  by_cases h : m < 8
  · rw [if_pos (by omega), if_pos (by omega), back_shl m h, if_neg (by omega), Int.tmod_eq_emod_of_nonneg ra.1, ← Int.natCast_emod]
    exact back_j0 _ b m s rest cut (by omega) (by omega) (Nat.mod_lt _ hp) (by omega) rc hr
  · have hm8 : m = 8 := by omega
    rw [if_neg (by omega)]
    refine back_j0 _ b m s rest cut (by omega) (by omega) ?_ (by omega) rc hr
    rw [hm8]
    omega

end Go.Proofs.Ytanjoflhpnephaa.Pure
