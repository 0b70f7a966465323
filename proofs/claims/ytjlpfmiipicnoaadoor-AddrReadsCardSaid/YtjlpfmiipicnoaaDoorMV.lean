/- The plain mathematics of chapter 3's bytes: six bytes are an address, others are none. -/
import Derived.Test.YtjlpfmiipicnoaaDoorMU
namespace Go.Proofs.YtjlpfmiipicnoaaDoor.MV
set_option linter.unusedVariables false
open Go Go.RowKit Go.Proofs.YtjlpfmiipicnoaaDoor.PA Go.Proofs.YtjlpfmiipicnoaaDoor.MP Go.Proofs.YtjlpfmiipicnoaaDoor.MA Go.Proofs.YtjlpfmiipicnoaaDoor.MT Go.Proofs.YtjlpfmiipicnoaaDoorW.PrintWords Go.Proofs.YtjlpfmiipicnoaaDoorW.PrintLast Go.Proofs.YtjlpfmiipicnoaaDoorW.PrintMore

theorem rd_num (k : Nat) (s : ByteArray) (m : Nat) (L R : List UInt8) (hs : s.data.toList = L ++ R) (hL : L.length = m) (h1 : 1 ≤ m) (h8 : m ≤ 8) (hk : 12 ≤ k) :
    ∃ t, pack_Reader_Number.f k s false (m : Int) = some (((val L : Nat) : Int), t, false) ∧ t.data.toList = R := by
  have hsz : s.size = m + R.length := by rw [size_data, hs, List.length_append, hL]
  refine ⟨s.extract m s.size, ?_, ?_⟩
  · rw [some_number k s m h1 h8 (by omega) hk, hs, List.take_left' hL]
  · rw [ext_data, hs, List.drop_left' hL, List.take_of_length_le (by omega)]
theorem get_yes (k : Nat) (s : ByteArray) (p q : Nat) (hp : p < 4294967296) (hq : q < 65536) (hs : s.data.toList = nb p 4 ++ nb q 2) (hk : 12 ≤ k) : addr_Get.f k s = some ((p : Int), (q : Int), true) := by
  unfold addr_Get.f pack_Read.f
  rw [Option.bind_some]
  dsimp only
  obtain ⟨t, e, ht⟩ := rd_num k s 4 _ _ hs (nb_length _ _) (by omega) (by omega) hk
  rw [show (4 : Int) = ((4 : Nat) : Int) from rfl, e, Option.bind_some]
  dsimp only
  obtain ⟨u, e2, hu⟩ := rd_num k t 2 _ [] (by rw [ht, List.append_nil]) (nb_length _ _) (by omega) (by omega) hk
  rw [show (2 : Int) = ((2 : Nat) : Int) from rfl, e2, Option.bind_some]
  dsimp only
  have hd : pack_Reader_Done.f u false = some true := by
    unfold pack_Reader_Done.f
    rw [if_neg (by decide), toList_data, hu]
    rfl
  have v4 : ((val (nb p 4) : Nat) : Int) % 4294967296 = (p : Int) := by rw [val_nb]; omega
  have v2 : IntKind.u16.wrap ((val (nb q 2) : Nat) : Int) = (q : Int) := by rw [val_nb, IntKind.wrap_u16]; omega
  have hsz : s.size = 6 := by rw [size_data, hs, List.length_append, nb_length, nb_length]
  rw [hd, Option.bind_some, if_pos rfl, v4, v2]
  by_cases hz : (((p : Int) == 0) && ((q : Int) == 0)) = true
  · rw [if_pos hz, if_pos (by omega)]
    have hp0 : p = 0 := by
      have h' := (Bool.and_eq_true _ _).mp hz
      have := h'.1
      simp at this
      omega
    subst hp0
    have hb := bt_data s 0 (by rw [← size_data]; omega)
    have h0 : s.data.toList[0]'(by rw [← size_data]; omega) = 0 := by simp only [hs]; rfl
    rw [h0, show ((0 : Nat) : Int) = 0 from rfl] at hb
    rw [if_pos (show bt s 0 = 0 from hb)]
  · rw [if_neg hz]
theorem get_wrong (k : Nat) (s : ByteArray) (h6 : s.size ≠ 6) (hk : 14 ≤ k) : addr_Get.f k s = some (0, 0, false) := by
  have hl : s.data.toList.length = s.size := (size_data s).symm
  unfold addr_Get.f pack_Read.f
  rw [Option.bind_some]
  dsimp only
  rw [show (4 : Int) = ((4 : Nat) : Int) from rfl]
  by_cases h4 : s.size < 4
  · rw [short_number k s 4 (by omega) (by omega) h4 (by omega), Option.bind_some]
    dsimp only
    rw [bad_number k _ 2 (by omega), Option.bind_some]
    rfl
  · obtain ⟨u, e1, hu⟩ := rd_num k s 4 (s.data.toList.take 4) (s.data.toList.drop 4) (by rw [List.take_append_drop]) (by rw [List.length_take]; omega) (by omega) (by omega) (by omega)
    have hus : u.size = s.size - 4 := by rw [size_data, hu, List.length_drop]; omega
    rw [e1, Option.bind_some]
    dsimp only
    rw [show (2 : Int) = ((2 : Nat) : Int) from rfl]
    by_cases h2 : u.size < 2
    · rw [short_number k u 2 (by omega) (by omega) h2 (by omega), Option.bind_some]
      rfl
    · have hul : u.data.toList.length = u.size := (size_data u).symm
      obtain ⟨v, e2, hv⟩ := rd_num k u 2 (u.data.toList.take 2) (u.data.toList.drop 2) (by rw [List.take_append_drop]) (by rw [List.length_take]; omega) (by omega) (by omega) (by omega)
      have hvs : v.data.toList ≠ [] := by
        rw [hv]
        intro e
        have := congrArg List.length e
        rw [List.length_drop] at this
        simp at this
        omega
      have hd : pack_Reader_Done.f v false = some false := by
        unfold pack_Reader_Done.f
        rw [if_neg (by decide), toList_data]
        congr 1
        simpa using hvs
      rw [e2, Option.bind_some]
      dsimp only
      rw [hd, Option.bind_some, if_neg (by decide)]
theorem putA_nb (a b : Nat) (hb : b < 65536) (ha : a < 4294967296) : (putA (a : Int) (b : Int)).data.toList = nb a 4 ++ nb b 2 := by
  unfold putA
  rw [append_data, wrap_u64, wrap_u64, show (a : Int) % 18446744073709551616 = (a : Int) by omega, show (b : Int) % 18446744073709551616 = (b : Int) by omega, num_data, num_data]
/-- A zero ahead: no address' text. -/
theorem readR_zero (a p : Nat) (ha : a < 4294967296) : readR (48 :: txt a p) = (0, 0, false) := by
  have h : (numR 255 46 (48 :: txt a p)).2.2 = false := by
    have e : scan 255 0 (48 :: txt a p) = (a / 16777216, 48 :: dd (a / 16777216), 46 :: (dd (a / 65536 % 256) ++ 46 :: (dd (a / 256 % 256) ++ 46 :: (dd (a % 256) ++ 58 :: dd p)))) := by
      rw [scan, if_pos (by decide)]
      show ((scan 255 0 (txt a p)).1, (48 : UInt8) :: (scan 255 0 (txt a p)).2.1, (scan 255 0 (txt a p)).2.2) = _
      unfold txt
      rw [scan_dd 255 _ _ (by omega), scan_stop _ _ _ _ (by decide)]
      simp
    rw [numR_fin, e]
    unfold fin
    rw [if_pos]
    right
    right
    intro h
    have := congrArg List.length h
    simp at this
  unfold readR
  rw [if_pos h]
end Go.Proofs.YtjlpfmiipicnoaaDoor.MV
