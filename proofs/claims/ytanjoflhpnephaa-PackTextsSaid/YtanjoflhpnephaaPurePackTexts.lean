/- PackTexts: for every length, number and size the law answers true: a text of at most 255 bytes is put behind how many it has, and read so; a longer one is none; numbers of a size are the lowest bytes. No condition. -/
import Derived.Test.YtanjoflhpnephaaMA
namespace Go.Proofs.Ytanjoflhpnephaa.Pure
open Go Go.RowKit Go.Proofs.Ytanjoflhpnephaa.PA Go.Proofs.Ytanjoflhpnephaa.MA Go.Proofs.YtanjoflhpnephaaW.PrintWords Go.Proofs.YtanjoflhpnephaaW.PrintLast Go.Proofs.YtanjoflhpnephaaW.PrintMore

theorem nb_drop (a m j : Nat) (h : j ≤ m) : (nb a m).drop (m - j) = nb a j := by
  induction m with
  | zero => obtain rfl : j = 0 := by omega
            rfl
  | succ m ih =>
    by_cases hj : j = m + 1
    · subst hj
      simp
    · rw [show m + 1 - j = (m - j) + 1 by omega, nb, List.drop_succ_cons]
      exact ih (by omega)

theorem text_short (s : ByteArray) (h : s.size ≤ 255) : pack_Text.f s = some (strOfNums [(s.size : Int)] ++ s, true) := by
  unfold pack_Text.f
  rw [if_neg (by omega), Option.bind_some, Int.emod_eq_of_lt (by omega) (by omega), if_pos (by rw [strOfNums_size]; simp only [List.length_cons, List.length_nil]; omega)]
theorem text_long (s : ByteArray) (h : 255 < s.size) : pack_Text.f s = some (⟨#[]⟩, false) := by
  unfold pack_Text.f
  rw [if_pos (by omega)]

theorem j0_ok (s : ByteArray) (hs : s.size < 600) : ∃ t ok, pack_Text.f s = some (t, ok) ∧ scuttlebuttlaw02_PackTexts.j0 20 s t ok false = some true := by
  by_cases h : s.size ≤ 255
  · refine ⟨_, _, text_short s h, ?_⟩
    have hd : (strOfNums [(s.size : Int)] ++ s).data.toList = UInt8.ofNat s.size :: s.data.toList := by
      rw [append_data, strOfNums_data]
      simp
    have hc : (UInt8.ofNat s.size).toNat = s.size := ofNat_toNat (by omega)
    have hl : s.data.toList.length = s.size := (size_data s).symm
    obtain ⟨t, u, e, h1, h2⟩ := some_text 19 (strOfNums [(s.size : Int)] ++ s) _ _ hd (by rw [hc, hl]; omega) (by omega)
    rw [hc, ← hl, List.take_length] at h1
    rw [hc, ← hl, List.drop_length] at h2
    have hsz : (strOfNums [(s.size : Int)] ++ s).size = s.size + 1 := by rw [size_data, hd, List.length_cons, hl]
    show scuttlebuttlaw02_PackTexts.j0 (19 + 1) _ _ _ _ = _
    simp only [scuttlebuttlaw02_PackTexts.j0]
    unfold pack_Read.f
    rw [if_neg (by decide), Option.bind_some]
    dsimp only
    rw [if_pos trivial, e, Option.bind_some]
    dsimp only
    rw [if_pos (by omega), hsz, wrap64_id (by omega) (by omega), if_pos (by omega), if_pos (by rw [toList_data, toList_data, h1])]
    unfold pack_Reader_Done.f
    rw [if_neg (by decide), toList_data, h2]
    rfl
  · refine ⟨_, _, text_long s (by omega), ?_⟩
    show scuttlebuttlaw02_PackTexts.j0 (19 + 1) _ _ _ _ = _
    simp only [scuttlebuttlaw02_PackTexts.j0]
    rw [if_neg (by decide), if_neg (by decide), if_pos (by omega), toList_data]
    rfl

theorem PackTexts : scuttlebuttlaw02_PackTexts.Pure := by
  intro z a w hz ha hw
  have rz := wf_u16 hz
  have ra := wf_u64 ha
  have rw' := wf_u8 hw
  obtain ⟨a, rfl⟩ := Int.eq_ofNat_of_zero_le ra.1
  obtain ⟨m, hm⟩ : ∃ m : Nat, 1 + w % 8 = (m : Int) := ⟨(1 + w % 8).toNat, by omega⟩
  have e0 : wrap64 (Int.tmod w 8) = w % 8 := by rw [Int.tmod_eq_emod_of_nonneg rw'.1, wrap64_id (by omega) (by omega)]
  have e1 : wrap64 (1 + wrap64 (Int.tmod w 8)) = (m : Int) := by rw [e0, wrap64_id (by omega) (by omega), hm]
  have e2 : wrap64 (8 - (m : Int)) = ((8 - m : Nat) : Int) := by rw [wrap64_id (by omega) (by omega)]; omega
  have e3 : wrap64 (Int.tmod z 600) = z % 600 := by rw [Int.tmod_eq_emod_of_nonneg rz.1, wrap64_id (by omega) (by omega)]
  refine ⟨20, ?_⟩
  unfold scuttlebuttlaw02_PackTexts.f
  rw [examples_true 20 (by omega), Option.bind_some, if_pos rfl, e3, if_pos (by omega), if_pos (by omega), Option.bind_some]
  have hs : (strOfNums (List.replicate (z % 600).toNat 0)).size < 600 := by rw [strOfNums_size, List.length_replicate]; omega
  generalize strOfNums (List.replicate (z % 600).toNat 0) = s at hs ⊢
  obtain ⟨t, ok, ht, hj⟩ := j0_ok s hs
  rw [ht, Option.bind_some, e1, num_some a m (by omega) (by omega), Option.bind_some, show (8 : Int) = ((8 : Nat) : Int) from rfl, num_some a 8 (by omega) (by omega), Option.bind_some]
  have l8 : (strOfNums (numB (a : Int) 8)).size = 8 := by rw [size_data, num_data, nb_length]
  have lm : (strOfNums (numB (a : Int) m)).size = m := by rw [size_data, num_data, nb_length]
  rw [l8, lm, if_pos rfl, if_pos rfl]
  rw [show (((8 : Nat) : Int)) = 8 from rfl, e2, if_pos (by omega), if_pos (by omega), Int.toNat_natCast]
  have hsame : ((strOfNums (numB (a : Int) 8)).extract (8 - m) 8).toList = (strOfNums (numB (a : Int) m)).toList := by
    rw [toList_data, toList_data, ext_data, num_data, num_data, nb_drop a 8 m (by omega), List.take_of_length_le (by rw [nb_length]; omega)]
  rw [hsame, bne_self_eq_false]
  exact hj

end Go.Proofs.Ytanjoflhpnephaa.Pure
