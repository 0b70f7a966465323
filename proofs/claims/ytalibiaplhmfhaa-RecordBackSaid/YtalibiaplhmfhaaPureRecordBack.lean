/- RecordBack: for every record that is right, what stands behind it and where it is cut, the law answers true: what was put is got, and what stands behind it; cut anywhere it is none. No condition. -/
import Derived.Test.YtalibiaplhmfhaaMQ
namespace Go.Proofs.Ytalibiaplhmfhaa.Pure
open Go Go.RowKit Go.Proofs.Ytalibiaplhmfhaa.PA Go.Proofs.Ytalibiaplhmfhaa.MP Go.Proofs.Ytalibiaplhmfhaa.MA Go.Proofs.Ytalibiaplhmfhaa.MQ Go.Proofs.YtalibiaplhmfhaaW.PrintWords Go.Proofs.YtalibiaplhmfhaaW.PrintLast Go.Proofs.YtalibiaplhmfhaaW.PrintMore

theorem rd_num (k : Nat) (s : ByteArray) (m : Nat) (L R : List UInt8) (hs : s.data.toList = L ++ R) (hL : L.length = m) (h1 : 1 ≤ m) (h8 : m ≤ 8) (hk : 12 ≤ k) :
    ∃ t, pack_Reader_Number.f k s false (m : Int) = some (((val L : Nat) : Int), t, false) ∧ t.data.toList = R := by
  have hsz : s.size = m + R.length := by rw [size_data, hs, List.length_append, hL]
  refine ⟨s.extract m s.size, ?_, ?_⟩
  · rw [some_number k s m h1 h8 (by omega) hk, hs, List.take_left' hL]
  · rw [ext_data, hs, List.drop_left' hL, List.take_of_length_le (by omega)]

theorem nbx (a : Int) (m : Nat) (h0 : 0 ≤ a) (h : a < 18446744073709551616) : (strOfNums (numB (IntKind.u64.wrap a) m)).data.toList = nb a.toNat m := by
  rw [wrap_u64, Int.emod_eq_of_lt h0 h]
  obtain ⟨n, rfl⟩ := Int.eq_ofNat_of_zero_le h0
  rw [num_data, Int.toNat_natCast]

theorem get_addr (k : Nat) (s : ByteArray) (p q : Nat) (hp0 : 0 < p) (hp : p < 4294967296) (hq : q < 65536) (hs : s.data.toList = nb p 4 ++ nb q 2) (hk : 12 ≤ k) : addr_Get.f k s = some ((p : Int), (q : Int), true) := by
  unfold addr_Get.f pack_Read.f
  rw [Option.bind_some]
  dsimp only
  obtain ⟨t, e, ht⟩ := rd_num k s 4 _ _ hs (nb_length _ _) (by omega) (by omega) hk
  rw [show (4 : Int) = ((4 : Nat) : Int) from rfl, e, Option.bind_some]
  dsimp only
  obtain ⟨u, e2, hu⟩ := rd_num k t 2 _ [] (by rw [ht, List.append_nil]) (nb_length _ _) (by omega) (by omega) hk
  rw [show (2 : Int) = ((2 : Nat) : Int) from rfl, e2, Option.bind_some]
  dsimp only
  have hd : pack_Reader_Done.f u false = some true := by
    unfold pack_Reader_Done.f
    rw [if_neg (by decide), toList_data, hu]
    rfl
  have v4 : ((val (nb p 4) : Nat) : Int) % 4294967296 = (p : Int) := by rw [val_nb]; omega
  have v2 : IntKind.u16.wrap ((val (nb q 2) : Nat) : Int) = (q : Int) := by rw [val_nb, IntKind.wrap_u16]; omega
  have hz : ((p : Int) == 0) = false := by simp; omega
  rw [hd, Option.bind_some, if_pos rfl, v4, v2, hz, Bool.false_and, if_neg (by decide)]

theorem get_all (k : Nat) (s rest : ByteArray) (a0 a1 a2 a3 a4 : Int) (hr : rightB a0 a1 a3 a4 = true) (h2 : 0 ≤ a2 ∧ a2 < 4294967296) (h3 : 0 ≤ a3 ∧ a3 < 4294967296) (h4 : 0 ≤ a4 ∧ a4 < 65536)
    (hs : s.data.toList = (putR a0 a1 a2 a3 a4).data.toList ++ rest.data.toList) (hk : 13 ≤ k) : ∃ t, record_Get.f k s = some (a0, a1, a2, a3, a4, t, true) ∧ t.data.toList = rest.data.toList := by
  have hR : 1 ≤ a0 ∧ a0 ≤ 32 ∧ 0 ≤ a1 ∧ a1 ≤ 3 ∧ a3 ≠ 0 ∧ a4 ≠ 0 := by simpa [rightB] using hr
  have hdat : s.data.toList = nb a0.toNat 1 ++ (nb a1.toNat 1 ++ (nb a2.toNat 4 ++ ((nb a3.toNat 4 ++ nb a4.toNat 2) ++ rest.data.toList))) := by
    rw [hs]
    unfold putR putA
    rw [append_data, append_data, append_data, append_data, nbx a0 1 (by omega) (by omega), nbx a1 1 (by omega) (by omega), nbx a2 4 (by omega) (by omega), nbx a3 4 (by omega) (by omega), nbx a4 2 (by omega) (by omega)]
    simp only [List.append_assoc]
  obtain ⟨x, e1, hx⟩ := rd_num k s 1 _ _ hdat (nb_length _ _) (by omega) (by omega) (by omega)
  obtain ⟨y, e2, hy⟩ := rd_num k x 1 _ _ hx (nb_length _ _) (by omega) (by omega) (by omega)
  obtain ⟨z, e3, hz⟩ := rd_num k y 4 _ _ hy (nb_length _ _) (by omega) (by omega) (by omega)
  have hl6 : (nb a3.toNat 4 ++ nb a4.toNat 2).length = 6 := by rw [List.length_append, nb_length, nb_length]
  have hzs : z.size = 6 + rest.data.toList.length := by rw [size_data, hz, List.length_append, hl6]
  have hz6 : (z.extract 0 6).data.toList = nb a3.toNat 4 ++ nb a4.toNat 2 := by
    rw [ext_data, hz, List.drop_zero, List.take_left' hl6]
  have hzr : (z.extract 6 z.size).data.toList = rest.data.toList := by
    rw [ext_data, hz, List.drop_left' hl6, List.take_of_length_le (by omega)]
  refine ⟨z.extract 6 z.size, ?_, hzr⟩
  obtain ⟨k, rfl⟩ : ∃ m, k = m + 1 := ⟨k - 1, by omega⟩
  unfold record_Get.f pack_Read.f
  rw [Option.bind_some]
  dsimp only
  rw [show (1 : Int) = ((1 : Nat) : Int) from rfl, e1, Option.bind_some]
  dsimp only
  rw [e2, Option.bind_some]
  dsimp only
  rw [show (4 : Int) = ((4 : Nat) : Int) from rfl, e3, Option.bind_some]
  dsimp only
  rw [if_neg (by decide), decide_eq_false (by omega)]
  simp only [record_Get.j0]
  rw [if_neg (by decide), if_pos (by decide), if_pos (by omega), get_addr k _ a3.toNat a4.toNat (by omega) (by omega) (by omega) hz6 (by omega), Option.bind_some]
  dsimp only
  have v0 : wrap64 ((val (nb a0.toNat 1) : Nat) : Int) = a0 := by rw [val_nb, wrap64_id (by omega) (by omega)]; omega
  have v1 : wrap64 ((val (nb a1.toNat 1) : Nat) : Int) = a1 := by rw [val_nb, wrap64_id (by omega) (by omega)]; omega
  have v2 : ((val (nb a2.toNat 4) : Nat) : Int) % 4294967296 = a2 := by rw [val_nb]; omega
  rw [if_pos rfl, v0, v1, v2, Int.toNat_of_nonneg h3.1, Int.toNat_of_nonneg h4.1, right_eq, hr, Option.bind_some, if_pos rfl]

theorem get_short (k : Nat) (s : ByteArray) (h : s.size < 12) (hk : 14 ≤ k) : record_Get.f k s = some (0, 0, 0, 0, 0, ⟨#[]⟩, false) := by
  obtain ⟨k, rfl⟩ : ∃ m, k = m + 1 := ⟨k - 1, by omega⟩
  have hbad : ∀ a b c (r : ByteArray), record_Get.j0 (k + 1) a b c true r true = some (0, 0, 0, 0, 0, ⟨#[]⟩, false) := fun a b c r => by
    simp only [record_Get.j0]
    rw [if_pos trivial]
  unfold record_Get.f pack_Read.f
  rw [Option.bind_some]
  dsimp only
  have one : (1 : Int) = ((1 : Nat) : Int) := rfl
  have four : (4 : Int) = ((4 : Nat) : Int) := rfl
  by_cases h1 : s.size < 1
  · rw [one, short_number (k + 1) s 1 (by omega) (by omega) h1 (by omega), Option.bind_some]
    dsimp only
    rw [bad_number (k + 1) _ _ (by omega), Option.bind_some]
    dsimp only
    rw [bad_number (k + 1) _ _ (by omega), Option.bind_some]
    dsimp only
    rw [if_pos rfl]
    exact hbad _ _ _ _
  · have z1 : (s.extract 1 s.size).size = s.size - 1 := by rw [size_data, ext_data, List.length_take, List.length_drop, ← size_data]; omega
    rw [one, some_number (k + 1) s 1 (by omega) (by omega) (by omega) (by omega), Option.bind_some]
    dsimp only
    generalize s.extract 1 s.size = x at z1 ⊢
    by_cases h2 : x.size < 1
    · rw [short_number (k + 1) x 1 (by omega) (by omega) h2 (by omega), Option.bind_some]
      dsimp only
      rw [bad_number (k + 1) _ _ (by omega), Option.bind_some]
      dsimp only
      rw [if_pos rfl]
      exact hbad _ _ _ _
    · have z2 : (x.extract 1 x.size).size = x.size - 1 := by rw [size_data, ext_data, List.length_take, List.length_drop, ← size_data]; omega
      rw [some_number (k + 1) x 1 (by omega) (by omega) (by omega) (by omega), Option.bind_some]
      dsimp only
      generalize x.extract 1 x.size = y at z2 ⊢
      by_cases h3 : y.size < 4
      · rw [four, short_number (k + 1) y 4 (by omega) (by omega) h3 (by omega), Option.bind_some]
        dsimp only
        rw [if_pos rfl]
        exact hbad _ _ _ _
      · have z3 : (y.extract 4 y.size).size = y.size - 4 := by rw [size_data, ext_data, List.length_take, List.length_drop, ← size_data]; omega
        rw [four, some_number (k + 1) y 4 (by omega) (by omega) (by omega) (by omega), Option.bind_some]
        dsimp only
        generalize y.extract 4 y.size = z at z3 ⊢
        rw [if_neg (by decide), decide_eq_true (by omega)]
        simp only [record_Get.j0]
        rw [if_pos trivial]

theorem RecordBack : scuttlebuttlaw04_RecordBack.Pure := by
  intro x0 x1 x2 x3 x4 x5 rest cut hx0 hx1 hx2 hx3 hx4 hrest hcut
  have r2 := wf_u32 hx2
  have r3 := wf_u32 hx3
  have rc := wf_u8 hcut
  refine ⟨20, ?_⟩
  unfold scuttlebuttlaw04_RecordBack.f scuttlebuttlaw04_Thing_thing.f
  rw [examples_true 20 (by omega), Option.bind_some, if_pos rfl, if_pos rfl, Option.bind_some]
  dsimp only
  have e0 : wrap64 (1 + wrap64 (Int.tmod (IntKind.u64.wrap x0) 6)) = 1 + IntKind.u64.wrap x0 % 6 := by
    rw [wrap_u64, Int.tmod_eq_emod_of_nonneg (by omega), wrap64_id (n := x0 % 18446744073709551616 % 6) (by omega) (by omega), wrap64_id (by omega) (by omega)]
  have e1 : wrap64 (Int.tmod (IntKind.u64.wrap x1) 4) = IntKind.u64.wrap x1 % 4 := by
    rw [wrap_u64, Int.tmod_eq_emod_of_nonneg (by omega), wrap64_id (by omega) (by omega)]
  have e2 : Int.tmod x2 5 = x2 % 5 := Int.tmod_eq_emod_of_nonneg r2.1
  have e3 : (1 + Int.tmod x3 3) % 4294967296 = 1 + x3 % 3 := by rw [Int.tmod_eq_emod_of_nonneg r3.1]; omega
  rw [e0, e1, e2, e3]
  have b0 : 1 ≤ 1 + IntKind.u64.wrap x0 % 6 ∧ 1 + IntKind.u64.wrap x0 % 6 ≤ 6 := by omega
  have b1 : 0 ≤ IntKind.u64.wrap x1 % 4 ∧ IntKind.u64.wrap x1 % 4 ≤ 3 := by omega
  have b2 : 0 ≤ x2 % 5 ∧ x2 % 5 < 5 := by omega
  have b3 : 1 ≤ 1 + x3 % 3 ∧ 1 + x3 % 3 ≤ 3 := by omega
  generalize 1 + IntKind.u64.wrap x0 % 6 = a0 at b0 ⊢
  generalize IntKind.u64.wrap x1 % 4 = a1 at b1 ⊢
  generalize x2 % 5 = a2 at b2 ⊢
  generalize 1 + x3 % 3 = a3 at b3 ⊢
  have hr : rightB a0 a1 a3 7 = true := by unfold rightB; exact decide_eq_true ⟨by omega, by omega, by omega, by omega, by omega, by omega⟩
  have hsz : (putR a0 a1 a2 a3 7).size = 12 := by unfold putR; rw [cat_size, cat_size, cat_size, numB_size, numB_size, numB_size, putA_size]
  have hne : ¬ (putR a0 a1 a2 a3 7).toList = [] := by
    intro h
    rw [toList_data] at h
    rw [size_data, h] at hsz
    cases hsz
  rw [put_eq, if_pos hr, Option.bind_some]
  dsimp only
  obtain ⟨t, hg, ht⟩ := get_all 20 (putR a0 a1 a2 a3 7 ++ rest) rest a0 a1 a2 a3 7 hr (by omega) (by omega) (by omega) (append_data _ _) (by omega)
  have ec : Int.tmod (wrap64 cut) ((12 : Nat) : Int) = ((cut % 12).toNat : Int) := by rw [wrap64_id (by omega) (by omega), Int.tmod_eq_emod_of_nonneg rc.1]; omega
  rw [if_neg hne, if_pos (by rw [hsz]; omega), hg, Option.bind_some, hsz, if_neg (by omega), ec, if_pos (by omega), if_pos (by omega), Int.toNat_natCast]
  have hcs : ((putR a0 a1 a2 a3 7).extract 0 (cut % 12).toNat).size < 12 := by rw [size_data, ext_data, List.length_take]; omega
  rw [get_short 20 _ hcs (by omega), Option.bind_some]
  dsimp only
  rw [if_pos rfl, if_pos (by simp), if_pos (by rw [toList_data, toList_data, ht]), if_pos rfl, if_neg (by decide), right_eq, hr, Option.bind_some]

end Go.Proofs.Ytalibiaplhmfhaa.Pure
