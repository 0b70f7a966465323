/- AddrTexts: for every choice and every address the law answers true: what is no address's text is refused. No condition. -/
import Derived.Test.YtjlpfmiipicnoaaDoorMU
namespace Go.Proofs.YtjlpfmiipicnoaaDoor.Pure
open Go Go.RowKit Go.Proofs.YtjlpfmiipicnoaaDoor.PA Go.Proofs.YtjlpfmiipicnoaaDoor.MA Go.Proofs.YtjlpfmiipicnoaaDoor.MP Go.Proofs.YtjlpfmiipicnoaaDoor.MT Go.Proofs.YtjlpfmiipicnoaaDoorW.PrintWords Go.Proofs.YtjlpfmiipicnoaaDoorW.PrintLast Go.Proofs.YtjlpfmiipicnoaaDoorW.PrintMore

theorem read_no (k : Nat) (s : ByteArray) (hs : s.size ≤ 100) (hk : 220 ≤ k) (h : ∀ a p, a < 4294967296 → p < 65536 → s.data.toList ≠ txt a p) : addr_Read.f k s = some (0, 0, false) := by
  have e := read_eq k s.data.toList (by rw [← size_data]; omega) (by rw [← size_data]; omega)
  rw [mk_of, readR_no h] at e
  exact e
theorem read_no_count (k : Nat) (s : ByteArray) (c : UInt8) (n : Nat) (hs : s.size ≤ 100) (hk : 220 ≤ k) (hc : s.data.toList.count c ≠ n) (h : ∀ a p, (txt a p).count c = n) : addr_Read.f k s = some (0, 0, false) :=
  read_no k s hs hk (fun a p _ _ e => hc (by rw [e, h]))
theorem l18 {P : ByteArray → Prop} {x0 x1 x2 x3 x4 x5 x6 x7 x8 x9 x10 x11 x12 x13 x14 x15 x16 x17 : ByteArray} (h0 : P x0) (h1 : P x1) (h2 : P x2) (h3 : P x3) (h4 : P x4) (h5 : P x5) (h6 : P x6) (h7 : P x7) (h8 : P x8) (h9 : P x9) (h10 : P x10) (h11 : P x11) (h12 : P x12) (h13 : P x13) (h14 : P x14) (h15 : P x15) (h16 : P x16) (h17 : P x17)
    (i : Int) (hi : 0 ≤ i ∧ i < 18) : P (rdOf ByteArray.empty [x0, x1, x2, x3, x4, x5, x6, x7, x8, x9, x10, x11, x12, x13, x14, x15, x16, x17] i) := by
  obtain ⟨n, rfl⟩ := Int.eq_ofNat_of_zero_le hi.1
  have hn : n < 18 := by omega
  unfold rdOf
  rw [Int.toNat_natCast]
  match n, hn with
  | 0, _ => exact h0
  | 1, _ => exact h1
  | 2, _ => exact h2
  | 3, _ => exact h3
  | 4, _ => exact h4
  | 5, _ => exact h5
  | 6, _ => exact h6
  | 7, _ => exact h7
  | 8, _ => exact h8
  | 9, _ => exact h9
  | 10, _ => exact h10
  | 11, _ => exact h11
  | 12, _ => exact h12
  | 13, _ => exact h13
  | 14, _ => exact h14
  | 15, _ => exact h15
  | 16, _ => exact h16
  | 17, _ => exact h17
theorem AddrTexts : scuttlebuttlaw03_AddrTexts.Pure := by
  intro a0 a1 a2 w0 w1 w2
  have r0 := wf_u8 w0
  have r1 := wf_u32 w1
  have r2 := wf_u16 w2
  obtain ⟨a, rfl⟩ := Int.eq_ofNat_of_zero_le r1.1
  obtain ⟨p, rfl⟩ := Int.eq_ofNat_of_zero_le r2.1
  have ha : a < 4294967296 := by omega
  have hp : p < 65536 := by omega
  have hl := txt_len a p ha hp
  have hc := txt_count a p
  have hsz : (T a p).size = (txt a p).length := mk_size _
  refine ⟨240, ?_⟩
  unfold scuttlebuttlaw03_AddrTexts.f
  rw [examples_true 240 (by omega), Option.bind_some, if_pos rfl, addr_text 240 a p ha hp (by omega), Option.bind_some, if_pos (by omega), if_pos (by omega), if_pos (by omega), Option.bind_some]
  have hi : 0 ≤ Int.tmod (wrap64 a0) 18 ∧ Int.tmod (wrap64 a0) 18 < 18 := by
    rw [wrap64_id (by omega) (by omega), Int.tmod_eq_emod_of_nonneg r0.1]
    omega
  dsimp only [List.length_cons, List.length_nil]
  rw [if_neg (by decide)]
  have key : ∀ s : ByteArray, addr_Read.f 240 s = some (0, 0, false) → ((addr_Read.f 240 s).bind fun bt180 => (if bt180.2.2 = true then (none) else (if bt180.1 = 0 then (some (bt180.2.1 == 0)) else (none)))) = some true := by
    intro s h
    rw [h, Option.bind_some]
    rfl
  refine (if_pos hi.1).trans ((if_pos hi.2).trans (key _ (l18 (P := fun s => addr_Read.f 240 s = some (0, 0, false)) ?_ ?_ ?_ ?_ ?_ ?_ ?_ ?_ ?_ ?_ ?_ ?_ ?_ ?_ ?_ ?_ ?_ ?_ _ hi)))
  · decide +kernel
  · decide +kernel
  · decide +kernel
  · decide +kernel
  · decide +kernel
  · decide +kernel
  · decide +kernel
  · decide +kernel
  · decide +kernel
  · decide +kernel
  · decide +kernel
  · decide +kernel
  · refine read_no_count 240 _ 32 0 (by rw [cat_size, hsz]; show 1 + _ ≤ 100; omega) (by omega) ?_ (fun a p => (txt_count a p).2.2)
    rw [append_data, T_data, List.count_append, hc.2.2]
    decide
  · refine read_no_count 240 _ 32 0 (by rw [cat_size, hsz]; show _ + 1 ≤ 100; omega) (by omega) ?_ (fun a p => (txt_count a p).2.2)
    rw [append_data, T_data, List.count_append, hc.2.2]
    decide
  · refine read_no_count 240 _ 58 1 (by rw [cat_size, hsz]; omega) (by omega) ?_ (fun a p => (txt_count a p).2.1)
    rw [append_data, T_data, List.count_append, hc.2.1]
    decide
  · decide +kernel
  · decide +kernel
  · decide +kernel

end Go.Proofs.YtjlpfmiipicnoaaDoor.Pure
