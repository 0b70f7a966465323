/- AddrBack: for every address and byte the law answers true: what is told is read, and what is put is got, as it was; shorter, or longer, it is none. No condition. -/
import Derived.Test.YtjlpfmiipicnoaaDoorMV
namespace Go.Proofs.YtjlpfmiipicnoaaDoor.Pure
set_option linter.unusedVariables false
open Go Go.RowKit Go.Proofs.YtjlpfmiipicnoaaDoor.PA Go.Proofs.YtjlpfmiipicnoaaDoor.MA Go.Proofs.YtjlpfmiipicnoaaDoor.MP Go.Proofs.YtjlpfmiipicnoaaDoor.MT Go.Proofs.YtjlpfmiipicnoaaDoor.MV Go.Proofs.YtjlpfmiipicnoaaDoorW.PrintWords Go.Proofs.YtjlpfmiipicnoaaDoorW.PrintLast Go.Proofs.YtjlpfmiipicnoaaDoorW.PrintMore

theorem read_of (k : Nat) (s : ByteArray) (hs : s.size ≤ 100) (hk : 220 ≤ k) : addr_Read.f k s = some (upR (readR s.data.toList)) := by
  have e := read_eq k s.data.toList (by rw [← size_data]; omega) (by rw [← size_data]; omega)
  rw [mk_of] at e
  exact e
theorem AddrBack : scuttlebuttlaw03_AddrBack.Pure := by
  intro a0 a1 by_ w0 w1 w2
  have r0 := wf_u32 w0
  have r1 := wf_u16 w1
  obtain ⟨a, rfl⟩ := Int.eq_ofNat_of_zero_le r0.1
  obtain ⟨p, rfl⟩ := Int.eq_ofNat_of_zero_le r1.1
  have ha : a < 4294967296 := by omega
  have hp : p < 65536 := by omega
  have hl := txt_len a p ha hp
  have hsz : (T a p).size = (txt a p).length := mk_size _
  have hps := putA_size (a : Int) (p : Int)
  have e1 : addr_Read.f 240 (T a p) = some ((a : Int), (p : Int), true) := by
    rw [read_of 240 _ (by omega) (by omega), T_data, readR_txt a p ha hp]
    rfl
  have e2 := get_yes 240 (putA (a : Int) (p : Int)) a p ha hp (putA_nb a p hp ha) (by omega)
  have e3 : addr_Get.f 240 (putA (a : Int) (p : Int) ++ strOfNums [by_]) = some (0, 0, false) := get_wrong 240 _ (by rw [cat_size, hps, strOfNums_size]; simp) (by omega)
  have e4 : addr_Read.f 240 ((⟨#[48]⟩ : ByteArray) ++ T a p) = some (0, 0, false) := by
    rw [read_of 240 _ (by rw [cat_size]; show 1 + _ ≤ 100; omega) (by omega), append_data, T_data]
    show some (upR (readR (48 :: txt a p))) = _
    rw [readR_zero a p ha]
    rfl
  have e5 : addr_Read.f 240 (T a p ++ (⟨#[58]⟩ : ByteArray)) = some (0, 0, false) := by
    rw [read_of 240 _ (by rw [cat_size]; show _ + 1 ≤ 100; omega) (by omega), append_data, T_data, readR_no]
    · rfl
    · intro b q _ _ e
      have := congrArg (List.count 58) e
      rw [List.count_append, (txt_count a p).2.1, (txt_count b q).2.1] at this
      revert this
      decide
  have e6 : addr_Get.f 240 ((putA (a : Int) (p : Int)).extract 1 (putA (a : Int) (p : Int)).size) = some (0, 0, false) := by
    refine get_wrong 240 _ ?_ (by omega)
    rw [size_data, ext_data, List.length_take, List.length_drop, ← size_data, hps]
    omega
  refine ⟨240, ?_⟩
  unfold scuttlebuttlaw03_AddrBack.f
  rw [examples_true 240 (by omega), Option.bind_some, if_pos rfl, addr_text 240 a p ha hp (by omega), Option.bind_some, e1, Option.bind_some, putA_eq, Option.bind_some, e2, Option.bind_some, Option.bind_some, Option.bind_some, if_pos (by rw [hps, strOfNums_size]; simp), e3, Option.bind_some, Option.bind_some, if_pos (by omega), e4, Option.bind_some, Option.bind_some, if_pos (by omega), e5, Option.bind_some, Option.bind_some, if_pos (by rw [hps]; rfl), Option.bind_some, if_pos (by rw [hps]; decide), e6, Option.bind_some]
  dsimp only
  rw [if_pos rfl, if_pos (by simp), if_pos rfl, if_pos (by simp), if_neg (by decide), if_neg (by decide), if_neg (by decide)]
  rfl

end Go.Proofs.YtjlpfmiipicnoaaDoor.Pure
