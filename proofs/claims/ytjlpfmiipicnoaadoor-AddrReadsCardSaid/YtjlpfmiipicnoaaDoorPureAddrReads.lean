/- AddrReads: for every address, text, choice, place, byte and bytes the law answers true: any text, and that of an address with a byte another one, or one more, or one less, is the address, or none, that the document's answer reads; so are any bytes. No condition. -/
import Derived.Test.YtjlpfmiipicnoaaDoorMZ
namespace Go.Proofs.YtjlpfmiipicnoaaDoor.Pure
set_option linter.unusedVariables false
open Go Go.RowKit Go.Proofs.YtjlpfmiipicnoaaDoor.PA Go.Proofs.YtjlpfmiipicnoaaDoor.MA Go.Proofs.YtjlpfmiipicnoaaDoor.MP Go.Proofs.YtjlpfmiipicnoaaDoor.MT Go.Proofs.YtjlpfmiipicnoaaDoor.MX Go.Proofs.YtjlpfmiipicnoaaDoor.MY Go.Proofs.YtjlpfmiipicnoaaDoor.MZ Go.Proofs.YtjlpfmiipicnoaaDoorW.PrintWords Go.Proofs.YtjlpfmiipicnoaaDoorW.PrintLast Go.Proofs.YtjlpfmiipicnoaaDoorW.PrintMore

theorem j0_true (k : Nat) (s b : ByteArray) (hs : s.size ≤ 140737488351332) (hk : 2 * s.size + 200 ≤ k) : law03_AddrReads.j0 k s b = some true := by
  obtain ⟨k, rfl⟩ : ∃ m, k = m + 1 := ⟨k - 1, by omega⟩
  have e1 := read_eq k s.data.toList (by rw [← size_data]; omega) (by rw [← size_data]; omega)
  rw [mk_of] at e1
  have e2 := read_ref k s (by omega)
  obtain ⟨x, y, ok, e3, e4⟩ := get_same k b (by omega)
  simp only [law03_AddrReads.j0]
  generalize upR (readR s.data.toList) = z at e1 e2
  rw [e1, Option.bind_some, e2, Option.bind_some, e3, Option.bind_some, e4, Option.bind_some]
  unfold law03_ref.f
  rw [Option.bind_some]
  dsimp only
  rw [if_pos (by simp), if_pos (by simp), Option.bind_some, if_pos (by simp)]
  simp
theorem idx (a : Int) (m : Nat) (hm : 0 < m) (hb : m ≤ 1000) : ∃ n : Nat, wrap64 (Int.tmod (IntKind.u64.wrap a) (m : Int)) = (n : Int) ∧ n < m := by
  have h0 : 0 ≤ IntKind.u64.wrap a := by rw [wrap_u64]; omega
  have a1 := Int.tmod_nonneg (m : Int) h0
  have a2 := Int.tmod_lt_of_pos (IntKind.u64.wrap a) (show (0 : Int) < (m : Int) by omega)
  generalize Int.tmod (IntKind.u64.wrap a) (m : Int) = x at a1 a2 ⊢
  clear h0
  obtain ⟨n, rfl⟩ := Int.eq_ofNat_of_zero_le a1
  exact ⟨n, wrap64_id (by omega) (by omega), by omega⟩
theorem u64_nat (n : Nat) (h : n ≤ 1000) : IntKind.u64.wrap (n : Int) = (n : Int) := by rw [wrap_u64]; omega
theorem u64_succ (n : Nat) (h : n ≤ 1000) : IntKind.u64.wrap (wrap64 ((n : Int) + 1)) = ((n + 1 : Nat) : Int) := by rw [wrap64_id (by omega) (by omega), wrap_u64]; omega
theorem succ_w (n : Nat) (h : n ≤ 1000) : wrap64 ((n : Int) + 1) = ((n + 1 : Nat) : Int) := by rw [wrap64_id (by omega) (by omega)]; omega
theorem ne0 (n : Nat) (h : 0 < n) : ¬ (n : Int) = 0 := by omega
theorem AddrReads : law03_AddrReads.Pure := by
  intro a0 a1 s own at_ by_ b w0 w1 hs wo wa wb hbs
  have r0 := wf_u32 w0
  have r1 := wf_u16 w1
  have ro := wf_u8 wo
  have ra := wf_i64 wa
  have rb := wf_u8 wb
  obtain ⟨a, rfl⟩ := Int.eq_ofNat_of_zero_le r0.1
  obtain ⟨p, rfl⟩ := Int.eq_ofNat_of_zero_le r1.1
  have ha : a < 4294967296 := by omega
  have hp : p < 65536 := by omega
  have hl := txt_len a p ha hp
  have hsz : (T a p).size = (txt a p).length := mk_size _
  refine ⟨2 * s.size + 1000, ?_⟩
  have hK : 1000 ≤ 2 * s.size + 1000 := by omega
  have hS : 2 * s.size + 200 ≤ 2 * s.size + 1000 := by omega
  generalize 2 * s.size + 1000 = K at hK hS
  unfold law03_AddrReads.f
  rw [examples_true K (by omega), Option.bind_some, if_pos rfl]
  unfold law03_ref.f
  rw [Option.bind_some]
  dsimp only
  rw [text_ref K a p ha hp (by omega), Option.bind_some]
  generalize T a p = t at hsz
  have ht : 9 ≤ t.size ∧ t.size ≤ 21 := by omega
  by_cases h1 : Int.tmod own 4 = 1
  · rw [if_pos h1]
    obtain ⟨z, ez, hz⟩ := bend_some t at_ by_ ra.1 ra.2
    rw [ez, Option.bind_some]
    exact j0_true K z b (by omega) (by omega)
  · rw [if_neg h1]
    by_cases h2 : Int.tmod own 4 = 2
    · rw [if_pos h2]
      obtain ⟨n, hw, hn⟩ := idx at_ (t.size + 1) (by omega) (by omega)
      have hm := u64_succ t.size (by clear hw; omega)
      rw [← hm] at hw
      have h0 : ¬ IntKind.u64.wrap (wrap64 ((t.size : Int) + 1)) = 0 := by rw [hm]; exact ne0 _ (Nat.succ_pos _)
      replace hn := Nat.le_of_lt_succ hn
      rw [hw]
      clear hw hm
      have h16 : 0 ≤ Int.tmod by_ 16 ∧ Int.tmod by_ 16 < 16 := ⟨Int.tmod_nonneg _ rb.1, Int.tmod_lt_of_pos _ (by decide)⟩
      have H0 := Aside0.mk h0
      have H16 := Aside0.mk h16
      clear h0 h16 h1 h2 ra ro rb
      have s1 : (t.extract 0 n).size = n := by rw [size_data, ext_data, List.length_take, List.length_drop, ← size_data]; omega
      have s2 : (t.extract n t.size).size = t.size - n := by rw [size_data, ext_data, List.length_take, List.length_drop, ← size_data]; omega
      have s3 : ∀ x : Int, (strOfNums [x]).size = 1 := fun x => by rw [strOfNums_size]; rfl
      refine (if_neg H0.out).trans ((if_pos (Int.natCast_nonneg n)).trans ((if_pos (Int.ofNat_le.2 hn)).trans ((if_pos H16.out.1).trans ((if_pos H16.out.2).trans ((Option.bind_some _ _).trans ((if_pos ?_).trans ((if_pos ?_).trans (j0_true K _ b ?_ ?_))))))))
      · rw [Int.toNat_natCast, s1, s3]; omega
      · rw [Int.toNat_natCast, cat_size, s1, s2, s3]; omega
      · rw [Int.toNat_natCast, cat_size, cat_size, s1, s2, s3]; omega
      · rw [Int.toNat_natCast, cat_size, cat_size, s1, s2, s3]; omega
    · rw [if_neg h2]
      by_cases h3 : Int.tmod own 4 = 3
      · rw [if_pos h3]
        obtain ⟨n, hw, hn⟩ := idx at_ t.size (by omega) (by omega)
        have hm := u64_nat t.size (by clear hw; omega)
        rw [← hm] at hw
        have h0 : ¬ IntKind.u64.wrap (t.size : Int) = 0 := by rw [hm]; exact ne0 _ (by clear hm hw; omega)
        have hw2 := succ_w n (by clear hm hw h0; omega)
        rw [hw, hw2]
        clear hw hm hw2
        have H0 := Aside0.mk h0
        clear h0 h1 h2 h3 ra ro rb
        have s1 : (t.extract 0 n).size = n := by rw [size_data, ext_data, List.length_take, List.length_drop, ← size_data]; omega
        have s2 : (t.extract (n + 1) t.size).size = t.size - (n + 1) := by rw [size_data, ext_data, List.length_take, List.length_drop, ← size_data]; omega
        refine (if_neg H0.out).trans ((if_pos (Int.natCast_nonneg n)).trans ((if_pos (Int.ofNat_le.2 (Nat.le_of_lt hn))).trans ((if_pos (Int.natCast_nonneg (n + 1))).trans ((if_pos (Int.ofNat_le.2 hn)).trans ((if_pos ?_).trans (j0_true K _ b ?_ ?_))))))
        · rw [Int.toNat_natCast, Int.toNat_natCast, s1, s2]; omega
        · rw [Int.toNat_natCast, Int.toNat_natCast, cat_size, s1, s2]; omega
        · rw [Int.toNat_natCast, Int.toNat_natCast, cat_size, s1, s2]; omega
      · rw [if_neg h3]
        exact j0_true K s b (by omega) (by omega)

end Go.Proofs.YtjlpfmiipicnoaaDoor.Pure
