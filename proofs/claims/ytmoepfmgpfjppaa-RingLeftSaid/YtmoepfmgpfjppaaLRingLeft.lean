/- RingLeft, walked. Conditions: those that the theorem names. -/
import Derived.Test.YtmoepfmgpfjppaaLX
import Derived.Deep.RegionHeld3
namespace Go.Proofs.Ytmoepfmgpfjppaa.LX
set_option linter.unusedVariables false
set_option linter.unusedSimpArgs false
open Go Go.RowKit Go.Proofs.YtmoepfmgpfjppaaS Go.Proofs.YtmoepfmgpfjppaaS.Asn Go.Proofs.Ytmoepfmgpfjppaa.PA Go.Proofs.Ytmoepfmgpfjppaa.MA Go.Proofs.Ytmoepfmgpfjppaa.RG Go.Proofs.YtmoepfmgpfjppaaW.PrintWords Go.Proofs.YtmoepfmgpfjppaaW.PrintLast Go.Proofs.YtmoepfmgpfjppaaW.PrintMore
attribute [local go_sem] max2_int max_two
theorem facts6 {w0 w : World} {ok0 : Nat → Prop} {X F : Asn} {g g' : Nat} {t t' : TypeId} {a b c a' b' c' : Value} (h : Sep w0 ok0 (X ⋆ pt g #[a, b, c] t ⋆ pt g' #[a', b', c'] t' ⋆ F) w) :
    w.cell? ⟨g, 0, none⟩ = some a ∧ w.cell? ⟨g, 1, none⟩ = some b ∧ w.cell? ⟨g, 2, none⟩ = some c ∧ w.cell? ⟨g', 0, none⟩ = some a' ∧ w.cell? ⟨g', 1, none⟩ = some b' ∧ w.cell? ⟨g', 2, none⟩ = some c' :=
  ⟨sep_cell (sep_l1 h) 0, sep_cell (sep_l1 h) 1, sep_cell (sep_l1 h) 2, sep_cell (sep_l2 h) 0, sep_cell (sep_l2 h) 1, sep_cell (sep_l2 h) 2⟩
set_option maxHeartbeats 4000000 in
set_option maxRecDepth 100000 in
theorem left_walk (a0 : Int) (A1 A2 : Option Addr) (c1 c2 : Nat) (l1 l2 : List Int) (w : World) (hr1 : Kd.C (Kd.int .u8) w A1 l1.length l1) (hc1 : l1.length ≤ c1) (hr2 : Kd.C (Kd.int .u8) w A2 l2.length l2) (hc2 : l2.length ≤ c2) :
    Calls Try.prog 7 #[.int .u64 a0, .slice A1 l1.length c1, .slice A2 l2.length c2] w fun e w' => e = .returned (.bool true) ∧ Below w.heap.size w w' := by
  have HR1 := Aside0.mk hr1
  have HC1 := Aside0.mk hc1
  have HR2 := Aside0.mk hr2
  have HC2 := Aside0.mk hc2
  clear hr1 hc1 hr2 hc2
  obtain ⟨i1, b1, s1, L1, hn1⟩ : ∃ i b s L, nx a0 [] (lst l1) = (i, b, s, L) := ⟨_, _, _, _, rfl⟩
  obtain ⟨i2, b2, s2, L2, hn2⟩ : ∃ i b s L, nx s1 L1 (lst l2) = (i, b, s, L) := ⟨_, _, _, _, rfl⟩
  have HN1 := Aside0.mk hn1
  have HN2 := Aside0.mk hn2
  clear hn1 hn2
  have HX := Aside0.mk (lst_length l1)
  have HY := Aside0.mk (lst_length l2)
  have HS := Aside0.mk (sep_start w)
  go_enter Try.func7, Try.ntmps7
  go_upto_region 5 with (first | (go_at_call 8; refine Calls.mono (examples_walk _) ?_; rintro e w1 ⟨rfl, hb_⟩; have n_ := sep_below HS.out hb_; clear hb_; have n0_ := Aside0.mk n_; clear HS n_; have HS := n0_; clear n0_) | (go_at_call 9; refine Calls.mono (ring_New a0 _) ?_; rintro e w2 ⟨p, rfl, hm_⟩; have n_ := sep_made_of HS.out (sep_only hm_); clear hm_; have n0_ := Aside0.mk n_; clear HS n_; have HS := n0_; clear n0_))
  go_upto_region 7 with (fail)
  have hsz : (w2.alloc (.cells #[.bool false, .slice A1 l1.length c1, .int .i64 0] 31)).heap.size = w2.heap.size + 1 := by simp
  have n_ := sep_alloc (sep_alloc HS.out #[.bool false, .slice A1 l1.length c1, .int .i64 0] 31) #[.bool false, .slice A2 l2.length c2, .int .i64 0] 31
  rw [hsz] at n_
  replace n_ := sep_l2 (sep_l1 n_)
  clear hsz
  have n0_ := Aside0.mk n_; clear HS n_; have HS := n0_; clear n0_
  generalize (w2.alloc (.cells #[.bool false, .slice A1 l1.length c1, .int .i64 0] 31)).alloc (.cells #[.bool false, .slice A2 l2.length c2, .int .i64 0] 31) = w3 at HS ⊢
  generalize w2.heap.size + 1 = g10 at HS ⊢
  generalize w2.heap.size = g9 at HS ⊢
  obtain ⟨k1, k2, k3, k4, k5, k6⟩ := facts6 HS.out
  have HL0 : Aside0 (([] : List Int).length ≤ 1000000) := ⟨Nat.zero_le _⟩
  go_upto_region 10 with (first | (go_at_call 13; have hx_ := list_call (a := false) (n := 0) (Kd.C_below HR1.out (sep_below_of HS.out)) HC1.out; (with_reducible refine Calls.mono hx_ ?_); rintro e w3 ⟨v3_, rfl, hq_⟩; have n_ := sep_made_of HS.out (sep_only hq_); clear hx_ hq_; obtain ⟨v, cv, rfl, hcv, -⟩ := sep_row n_; have HCv := Aside0.mk hcv; clear hcv; have n0_ := Aside0.mk n_; clear HS n_; have HS := n0_; clear n0_; clear k1 k2 k3 k4 k5 k6; obtain ⟨k1, k2, k3, k4, k5, k6⟩ := facts6 (sep_drop HS.out)) | (go_at_call 15; obtain ⟨ok_, hp_, hk_⟩ := sep_use2 (sep_l1 (row_rdo HS.out)); have hx_ := ring_NextE HN1.out HCv.out HL0.out (by have := HX.out; omega) hp_; (with_reducible refine Calls.mono hx_ ?_); rintro e w5 ⟨rfl, hq_⟩; have n_ := sep_drop (sep_l1 (back2 hk_ hq_)); clear hx_ hp_ hk_ hq_ HCv; have n0_ := Aside0.mk n_; clear HS n_; have HS := n0_; clear n0_; clear k1 k2 k3 k4 k5 k6; obtain ⟨k1, k2, k3, k4, k5, k6⟩ := facts6 (HS.out)))
  have HL1 : Aside0 (L1.length ≤ 1000000) := ⟨by have h1 := nx_len HN1.out; have := HX.out; simp only [List.length_nil] at h1; omega⟩
  have HL2 : Aside0 (L2.length ≤ 1000000) := ⟨by have h1 := nx_len HN2.out; have := HY.out; have := HL1.out; omega⟩
  go_upto_region 11 with (go_at_call 17; obtain ⟨ok_, hp_, hk_⟩ := sep_use1 HS.out; have hx_ := ring_Left p _ L1 _ ok_ HL1.out hp_; (with_reducible refine Calls.mono hx_ ?_); rintro e w6 ⟨v6, rfl, hq_⟩; have n_ := back2 hk_ hq_; obtain ⟨A6, c6, rfl, -, -⟩ := sep_row n_; replace n_ := sep_drop n_; clear hx_ hp_ hk_ hq_; have n0_ := Aside0.mk n_; clear HS n_; have HS := n0_; clear n0_; clear k1 k2 k3 k4 k5 k6; obtain ⟨k1, k2, k3, k4, k5, k6⟩ := facts6 (HS.out))
  go_upto_region 12 with (first | (go_at_call 13; have hx_ := list_call (a := false) (n := 0) (Kd.C_below HR2.out (sep_below_of HS.out)) HC2.out; (with_reducible refine Calls.mono hx_ ?_); rintro e w3 ⟨v3_, rfl, hq_⟩; have n_ := sep_made_of HS.out (sep_only hq_); clear hx_ hq_; obtain ⟨v, cv, rfl, hcv, -⟩ := sep_row n_; have HCv := Aside0.mk hcv; clear hcv; have n0_ := Aside0.mk n_; clear HS n_; have HS := n0_; clear n0_; clear k1 k2 k3 k4 k5 k6; obtain ⟨k1, k2, k3, k4, k5, k6⟩ := facts6 (sep_drop HS.out)) | (go_at_call 15; obtain ⟨ok_, hp_, hk_⟩ := sep_use2 (sep_l1 (row_rdo HS.out)); have hx_ := ring_NextE HN2.out HCv.out HL1.out (by have := HY.out; omega) hp_; (with_reducible refine Calls.mono hx_ ?_); rintro e w7 ⟨rfl, hq_⟩; have n_ := sep_drop (sep_l1 (back2 hk_ hq_)); clear hx_ hp_ hk_ hq_ HCv; have n0_ := Aside0.mk n_; clear HS n_; have HS := n0_; clear n0_; clear k1 k2 k3 k4 k5 k6; obtain ⟨k1, k2, k3, k4, k5, k6⟩ := facts6 (HS.out)))
  go_upto_region 14 with (fail)
  clear k1 k2 k3 k4 k5 k6
  go_loopg [16, 17] (lst l2).length (fun gg v16 v17 wr => ∃ i : Nat, i ≤ (lst l2).length ∧ (lst l2).length - i ≤ gg ∧ v16 = .bool (decide (i2 ∈ (lst l2).take i)) ∧ v17 = .int .i64 (i : Int) ∧ Aside0 (Sep w (fun _ => False) (ringA p s2 L2 ⋆ pt g9 #[.bool false, .slice A1 l1.length c1, .int .i64 0] 31 ⋆ pt g10 #[.bool false, .slice A2 l2.length c2, .int .i64 0] 31 ⋆ emp) wr))
  case atStart => exact ⟨0, Nat.zero_le _, by omega, by rw [List.take_zero]; rfl, rfl, HS⟩
  case round =>
    clear HS
    obtain ⟨i, hi, hgi, rfl, rfl, HS⟩ := hrel
    obtain ⟨k1, k2, k3, k4, k5, k6⟩ := facts6 HS.out
    by_cases hlt : i < (lst l2).length
    · have c1b : decide ((i : Int) < ((lst l2).length : Int)) = true := decide_eq_true (by omega)
      have c1n : decide (i < (lst l2).length) = true := decide_eq_true hlt
      have c1q : (i < (lst l2).length) = True := eq_true hlt
      have p0 := eq_true (Int.natCast_nonneg i)
      have hnext : (lst l2).take (i + 1) = (lst l2).take i ++ [(lst l2)[i]] := List.take_succ_eq_append_getElem hlt
      have hget := rd_get (lst l2) i hlt
      generalize (lst l2)[i] = y at hnext hget
      have HNX := Aside0.mk hnext
      have HG := Aside0.mk hget
      have HLT := Aside0.mk (And.intro hlt hgi)
      clear hnext hget hi hgi
      go_upto_region 16 with (go_at_call 13; have hx_ := list_call (a := false) (n := 0) (Kd.C_below HR2.out (sep_below_of HS.out)) HC2.out; (with_reducible refine Calls.mono hx_ ?_); rintro e w3 ⟨v3_, rfl, hq_⟩; have n_ := sep_made_of HS.out (sep_only hq_); clear hx_ hq_; obtain ⟨v, cv, rfl, hcv, -⟩ := sep_row n_; have HCv := Aside0.mk hcv; clear hcv; have n0_ := Aside0.mk n_; clear HS n_; have HS := n0_; clear n0_; clear k1 k2 k3 k4 k5 k6; obtain ⟨k1, k2, k3, k4, k5, k6⟩ := facts6 (sep_drop HS.out))
      replace HS := Aside0.mk (sep_drop HS.out)
      clear HCv
      by_cases hin : i2 ∈ (lst l2).take i
      · have e1 : decide (i2 ∈ (lst l2).take i) = true := decide_eq_true hin
        have HIN := Aside0.mk hin
        clear hin
        go_wp2
        go_roundg ((lst l2).length - (i + 1))
        case measure => have := HLT.out; omega
        case rel => exact ⟨i + 1, HLT.out.1, Nat.le_refl _, by rw [HNX.out, decide_eq_true (List.mem_append_left _ HIN.out)], congrArg (Value.int .i64) (by unfold wrap64; have := HY.out; have := HLT.out; omega), HS⟩
      · have e1 : decide (i2 ∈ (lst l2).take i) = false := decide_eq_false hin
        have HIN := Aside0.mk hin
        clear hin
        go_wp2_with (go_at_call 13; have hx_ := list_call (a := false) (n := 0) (Kd.C_below HR2.out (sep_below_of HS.out)) HC2.out; (with_reducible refine Calls.mono hx_ ?_); rintro e w3 ⟨v3_, rfl, hq_⟩; have n_ := sep_made_of HS.out (sep_only hq_); clear hx_ hq_; obtain ⟨v, cv, rfl, hcv, hC_⟩ := sep_row n_; obtain ⟨ad, rfl, ka⟩ := Kd.at_int hC_ (i : Int) (Int.natCast_nonneg i) (Int.ofNat_lt.2 HLT.out.1); rw [Int.toNat_natCast, HG.out] at ka; clear hcv hC_; replace n_ := sep_drop n_; have n0_ := Aside0.mk n_; clear HS n_; have HS := n0_; clear n0_; clear k1 k2 k3 k4 k5 k6; obtain ⟨k1, k2, k3, k4, k5, k6⟩ := facts6 (HS.out))
        go_roundg ((lst l2).length - (i + 1))
        case measure => have := HLT.out; omega
        case rel =>
          have hin := HIN.out
          refine ⟨i + 1, HLT.out.1, Nat.le_refl _, ?_, congrArg (Value.int .i64) (by unfold wrap64; have := HY.out; have := HLT.out; omega), HS⟩
          rw [HNX.out]
          congr 1
          by_cases hy : y = i2
          · subst hy
            rw [decide_eq_true (List.mem_append_right _ (List.mem_singleton.2 rfl))]
            simp
          · rw [decide_eq_false (fun h => by rcases List.mem_append.1 h with h | h; exact hin h; exact hy (List.mem_singleton.1 h).symm)]
            simpa using hy
    · obtain rfl : i = (lst l2).length := by omega
      rw [List.take_length] at *
      clear hi hgi
      go_upto_region 17 with (go_at_call 13; have hx_ := list_call (a := false) (n := 0) (Kd.C_below HR2.out (sep_below_of HS.out)) HC2.out; (with_reducible refine Calls.mono hx_ ?_); rintro e w3 ⟨v3_, rfl, hq_⟩; have n_ := sep_made_of HS.out (sep_only hq_); clear hx_ hq_; obtain ⟨v, cv, rfl, hcv, -⟩ := sep_row n_; have HCv := Aside0.mk hcv; clear hcv; have n0_ := Aside0.mk n_; clear HS n_; have HS := n0_; clear n0_; clear k1 k2 k3 k4 k5 k6; obtain ⟨k1, k2, k3, k4, k5, k6⟩ := facts6 (sep_drop HS.out))
      replace HS := Aside0.mk (sep_drop HS.out)
      clear HCv
      have hb1 := nx_b HN1.out
      have hb2 := nx_b HN2.out
      have l1e := nx_nil_len HN1.out
      have l2e := nx_len HN2.out
      have hm2 := nx_mem HN2.out
      replace HS := Aside0.mk (sep_drew HS.out)
      have HB1 := Aside0.mk hb1
      have HB2 := Aside0.mk hb2
      have HE1 := Aside0.mk l1e
      have HE2 := Aside0.mk l2e
      have HM2 := Aside0.mk hm2
      clear hb1 hb2 l1e l2e hm2 HN1 HN2 hlt
      by_cases hx : (lst l1).length = 0
      · have hl : L1.length = 0 := by have := HE1.out; omega
        have hbb : b1 = false := by rw [HB1.out, hx]; rfl
        subst hbb
        clear HB1 HE1
        by_cases hy : (lst l2).length = 0
        · have hbc : b2 = false := by rw [HB2.out, hy]; rfl
          have m0 := HE2.out
          rw [hy] at m0
          have m2 : (L2.length ≤ L1.length) = True := eq_true (by omega)
          have m3 : ((L2.length : Int) ≤ (L1.length : Int)) = True := eq_true (by omega)
          have m5 : ((L1.length : Int) < 0) = False := eq_false (by omega)
          have m6 : (L2.length : Int) ≤ 0 ∨ (L2.length : Int) ≤ (L1.length : Int) := by omega
          have M6 := Aside0.mk m6
          have m7 : (L1.length = 0) → L2.length = 0 := by omega
          have M7 := Aside0.mk m7
          subst hbc
          clear HB2 HE2 HM2 m0 m6 m7
          by_cases hz : L2.length = 0
          · skip
            (all_goals first | go_region_held3 (fun w' => w'.cell? ⟨g9, 0, none⟩ = some (.bool false) ∧ w'.cell? ⟨g9, 1, none⟩ = some (.slice A1 l1.length c1) ∧ w'.cell? ⟨g9, 2, none⟩ = some (.int .i64 0) ∧ w'.cell? ⟨g10, 0, none⟩ = some (.bool false) ∧ w'.cell? ⟨g10, 1, none⟩ = some (.slice A2 l2.length c2) ∧ w'.cell? ⟨g10, 2, none⟩ = some (.int .i64 0)) (exact ⟨k1, k2, k3, k4, k5, k6⟩) (first | ((go_at_call 13; have hx_ := list_call (a := false) (n := 0) (Kd.C_below HR1.out (sep_below_of HS.out)) HC1.out; (with_reducible refine Calls.mono hx_ ?_); rintro e w3 ⟨v3_, rfl, hq_⟩; have n_ := sep_made_of HS.out (sep_only hq_); clear hx_ hq_; obtain ⟨v, cv, rfl, hcv, -⟩ := sep_row n_; have HCv := Aside0.mk hcv; clear hcv; have n0_ := Aside0.mk n_; clear HS n_; have HS := n0_; clear n0_; clear k1 k2 k3 k4 k5 k6; obtain ⟨k1, k2, k3, k4, k5, k6⟩ := facts6 (sep_drop HS.out)); replace HS := Aside0.mk (sep_drop HS.out); clear HCv) | ((go_at_call 13; have hx_ := list_call (a := false) (n := 0) (Kd.C_below HR2.out (sep_below_of HS.out)) HC2.out; (with_reducible refine Calls.mono hx_ ?_); rintro e w3 ⟨v3_, rfl, hq_⟩; have n_ := sep_made_of HS.out (sep_only hq_); clear hx_ hq_; obtain ⟨v, cv, rfl, hcv, -⟩ := sep_row n_; have HCv := Aside0.mk hcv; clear hcv; have n0_ := Aside0.mk n_; clear HS n_; have HS := n0_; clear n0_; clear k1 k2 k3 k4 k5 k6; obtain ⟨k1, k2, k3, k4, k5, k6⟩ := facts6 (sep_drop HS.out)); replace HS := Aside0.mk (sep_drop HS.out); clear HCv) | (go_at_call 17; obtain ⟨ok_, hp_, hk_⟩ := sep_use1 HS.out; have hx_ := ring_Left p _ L2 _ ok_ HL2.out hp_; (with_reducible refine Calls.mono hx_ ?_); rintro e w9 ⟨v6, rfl, hq_⟩; have n_ := back2 hk_ hq_; obtain ⟨A6, c6, rfl, -, -⟩ := sep_row n_; replace n_ := sep_drop n_; clear hx_ hp_ hk_ hq_; have n0_ := Aside0.mk n_; clear HS n_; have HS := n0_; clear n0_; clear k1 k2 k3 k4 k5 k6; obtain ⟨k1, k2, k3, k4, k5, k6⟩ := facts6 (HS.out))) | fail)
            all_goals go_wp2
            all_goals go_ret
            all_goals exact ⟨rfl, sep_below_of HS.out⟩
          · try exact absurd (M7.out hl) hz
            (all_goals first | go_region_held3 (fun w' => w'.cell? ⟨g9, 0, none⟩ = some (.bool false) ∧ w'.cell? ⟨g9, 1, none⟩ = some (.slice A1 l1.length c1) ∧ w'.cell? ⟨g9, 2, none⟩ = some (.int .i64 0) ∧ w'.cell? ⟨g10, 0, none⟩ = some (.bool false) ∧ w'.cell? ⟨g10, 1, none⟩ = some (.slice A2 l2.length c2) ∧ w'.cell? ⟨g10, 2, none⟩ = some (.int .i64 0)) (exact ⟨k1, k2, k3, k4, k5, k6⟩) (first | ((go_at_call 13; have hx_ := list_call (a := false) (n := 0) (Kd.C_below HR1.out (sep_below_of HS.out)) HC1.out; (with_reducible refine Calls.mono hx_ ?_); rintro e w3 ⟨v3_, rfl, hq_⟩; have n_ := sep_made_of HS.out (sep_only hq_); clear hx_ hq_; obtain ⟨v, cv, rfl, hcv, -⟩ := sep_row n_; have HCv := Aside0.mk hcv; clear hcv; have n0_ := Aside0.mk n_; clear HS n_; have HS := n0_; clear n0_; clear k1 k2 k3 k4 k5 k6; obtain ⟨k1, k2, k3, k4, k5, k6⟩ := facts6 (sep_drop HS.out)); replace HS := Aside0.mk (sep_drop HS.out); clear HCv) | ((go_at_call 13; have hx_ := list_call (a := false) (n := 0) (Kd.C_below HR2.out (sep_below_of HS.out)) HC2.out; (with_reducible refine Calls.mono hx_ ?_); rintro e w3 ⟨v3_, rfl, hq_⟩; have n_ := sep_made_of HS.out (sep_only hq_); clear hx_ hq_; obtain ⟨v, cv, rfl, hcv, -⟩ := sep_row n_; have HCv := Aside0.mk hcv; clear hcv; have n0_ := Aside0.mk n_; clear HS n_; have HS := n0_; clear n0_; clear k1 k2 k3 k4 k5 k6; obtain ⟨k1, k2, k3, k4, k5, k6⟩ := facts6 (sep_drop HS.out)); replace HS := Aside0.mk (sep_drop HS.out); clear HCv) | (go_at_call 17; obtain ⟨ok_, hp_, hk_⟩ := sep_use1 HS.out; have hx_ := ring_Left p _ L2 _ ok_ HL2.out hp_; (with_reducible refine Calls.mono hx_ ?_); rintro e w9 ⟨v6, rfl, hq_⟩; have n_ := back2 hk_ hq_; obtain ⟨A6, c6, rfl, -, -⟩ := sep_row n_; replace n_ := sep_drop n_; clear hx_ hp_ hk_ hq_; have n0_ := Aside0.mk n_; clear HS n_; have HS := n0_; clear n0_; clear k1 k2 k3 k4 k5 k6; obtain ⟨k1, k2, k3, k4, k5, k6⟩ := facts6 (HS.out))) | fail)
            all_goals go_wp2
            all_goals go_ret
            all_goals exact ⟨rfl, sep_below_of HS.out⟩
        · have hbc : b2 = true := by rw [HB2.out]; exact decide_eq_true (by omega)
          have hin : decide (i2 ∈ lst l2) = true := decide_eq_true (HM2.out hbc)
          subst hbc
          have y1 : (0 < (lst l2).length) = True := eq_true (by omega)
          have y2 : decide (0 < (lst l2).length) = true := decide_eq_true (by omega)
          have y3 : ((0 : Int) < ((lst l2).length : Int)) = True := eq_true (by omega)
          by_cases hmm : L1.length < (lst l2).length
          · have m1 : ((L1.length : Int) < ((lst l2).length : Int)) = True := eq_true (by omega)
            have m2 : (L2.length ≤ (lst l2).length) = True := eq_true (by have := HE2.out; omega)
            have m3 : ((L2.length : Int) ≤ ((lst l2).length : Int)) = True := eq_true (by have := HE2.out; omega)
            have m4 := eq_true hmm
            clear hmm hy HB2 HE2 HM2
            (all_goals first | go_region_held3 (fun w' => w'.cell? ⟨g9, 0, none⟩ = some (.bool false) ∧ w'.cell? ⟨g9, 1, none⟩ = some (.slice A1 l1.length c1) ∧ w'.cell? ⟨g9, 2, none⟩ = some (.int .i64 0) ∧ w'.cell? ⟨g10, 0, none⟩ = some (.bool false) ∧ w'.cell? ⟨g10, 1, none⟩ = some (.slice A2 l2.length c2) ∧ w'.cell? ⟨g10, 2, none⟩ = some (.int .i64 0)) (exact ⟨k1, k2, k3, k4, k5, k6⟩) (first | ((go_at_call 13; have hx_ := list_call (a := false) (n := 0) (Kd.C_below HR1.out (sep_below_of HS.out)) HC1.out; (with_reducible refine Calls.mono hx_ ?_); rintro e w3 ⟨v3_, rfl, hq_⟩; have n_ := sep_made_of HS.out (sep_only hq_); clear hx_ hq_; obtain ⟨v, cv, rfl, hcv, -⟩ := sep_row n_; have HCv := Aside0.mk hcv; clear hcv; have n0_ := Aside0.mk n_; clear HS n_; have HS := n0_; clear n0_; clear k1 k2 k3 k4 k5 k6; obtain ⟨k1, k2, k3, k4, k5, k6⟩ := facts6 (sep_drop HS.out)); replace HS := Aside0.mk (sep_drop HS.out); clear HCv) | ((go_at_call 13; have hx_ := list_call (a := false) (n := 0) (Kd.C_below HR2.out (sep_below_of HS.out)) HC2.out; (with_reducible refine Calls.mono hx_ ?_); rintro e w3 ⟨v3_, rfl, hq_⟩; have n_ := sep_made_of HS.out (sep_only hq_); clear hx_ hq_; obtain ⟨v, cv, rfl, hcv, -⟩ := sep_row n_; have HCv := Aside0.mk hcv; clear hcv; have n0_ := Aside0.mk n_; clear HS n_; have HS := n0_; clear n0_; clear k1 k2 k3 k4 k5 k6; obtain ⟨k1, k2, k3, k4, k5, k6⟩ := facts6 (sep_drop HS.out)); replace HS := Aside0.mk (sep_drop HS.out); clear HCv) | (go_at_call 17; obtain ⟨ok_, hp_, hk_⟩ := sep_use1 HS.out; have hx_ := ring_Left p _ L2 _ ok_ HL2.out hp_; (with_reducible refine Calls.mono hx_ ?_); rintro e w9 ⟨v6, rfl, hq_⟩; have n_ := back2 hk_ hq_; obtain ⟨A6, c6, rfl, -, -⟩ := sep_row n_; replace n_ := sep_drop n_; clear hx_ hp_ hk_ hq_; have n0_ := Aside0.mk n_; clear HS n_; have HS := n0_; clear n0_; clear k1 k2 k3 k4 k5 k6; obtain ⟨k1, k2, k3, k4, k5, k6⟩ := facts6 (HS.out))) | fail)
            all_goals go_wp2
            all_goals go_ret
            all_goals exact ⟨rfl, sep_below_of HS.out⟩
          · try (exfalso; omega)
            all_goals have m1 : ((L1.length : Int) < ((lst l2).length : Int)) = False := eq_false (by omega)
            all_goals have m2 : (L2.length ≤ L1.length) = True := eq_true (by have := HE2.out; omega)
            all_goals have m3 : ((L2.length : Int) ≤ (L1.length : Int)) = True := eq_true (by have := HE2.out; omega)
            all_goals have m4 := eq_false hmm
            all_goals clear hmm hy HB2 HE2 HM2
            (all_goals first | go_region_held3 (fun w' => w'.cell? ⟨g9, 0, none⟩ = some (.bool false) ∧ w'.cell? ⟨g9, 1, none⟩ = some (.slice A1 l1.length c1) ∧ w'.cell? ⟨g9, 2, none⟩ = some (.int .i64 0) ∧ w'.cell? ⟨g10, 0, none⟩ = some (.bool false) ∧ w'.cell? ⟨g10, 1, none⟩ = some (.slice A2 l2.length c2) ∧ w'.cell? ⟨g10, 2, none⟩ = some (.int .i64 0)) (exact ⟨k1, k2, k3, k4, k5, k6⟩) (first | ((go_at_call 13; have hx_ := list_call (a := false) (n := 0) (Kd.C_below HR1.out (sep_below_of HS.out)) HC1.out; (with_reducible refine Calls.mono hx_ ?_); rintro e w3 ⟨v3_, rfl, hq_⟩; have n_ := sep_made_of HS.out (sep_only hq_); clear hx_ hq_; obtain ⟨v, cv, rfl, hcv, -⟩ := sep_row n_; have HCv := Aside0.mk hcv; clear hcv; have n0_ := Aside0.mk n_; clear HS n_; have HS := n0_; clear n0_; clear k1 k2 k3 k4 k5 k6; obtain ⟨k1, k2, k3, k4, k5, k6⟩ := facts6 (sep_drop HS.out)); replace HS := Aside0.mk (sep_drop HS.out); clear HCv) | ((go_at_call 13; have hx_ := list_call (a := false) (n := 0) (Kd.C_below HR2.out (sep_below_of HS.out)) HC2.out; (with_reducible refine Calls.mono hx_ ?_); rintro e w3 ⟨v3_, rfl, hq_⟩; have n_ := sep_made_of HS.out (sep_only hq_); clear hx_ hq_; obtain ⟨v, cv, rfl, hcv, -⟩ := sep_row n_; have HCv := Aside0.mk hcv; clear hcv; have n0_ := Aside0.mk n_; clear HS n_; have HS := n0_; clear n0_; clear k1 k2 k3 k4 k5 k6; obtain ⟨k1, k2, k3, k4, k5, k6⟩ := facts6 (sep_drop HS.out)); replace HS := Aside0.mk (sep_drop HS.out); clear HCv) | (go_at_call 17; obtain ⟨ok_, hp_, hk_⟩ := sep_use1 HS.out; have hx_ := ring_Left p _ L2 _ ok_ HL2.out hp_; (with_reducible refine Calls.mono hx_ ?_); rintro e w9 ⟨v6, rfl, hq_⟩; have n_ := back2 hk_ hq_; obtain ⟨A6, c6, rfl, -, -⟩ := sep_row n_; replace n_ := sep_drop n_; clear hx_ hp_ hk_ hq_; have n0_ := Aside0.mk n_; clear HS n_; have HS := n0_; clear n0_; clear k1 k2 k3 k4 k5 k6; obtain ⟨k1, k2, k3, k4, k5, k6⟩ := facts6 (HS.out))) | fail)
            all_goals go_wp2
            all_goals go_ret
            all_goals exact ⟨rfl, sep_below_of HS.out⟩
      · have hl : (lst l1).length = L1.length + 1 := by have := HE1.out; omega
        have hbb : b1 = true := by rw [HB1.out]; exact decide_eq_true (by omega)
        subst hbb
        have w1_ : IntKind.i64.wrap (L1.length : Int) = (L1.length : Int) := by rw [IntKind.wrap_i64]; have := HL1.out; omega
        have w2_ : wrap64 (L1.length : Int) = (L1.length : Int) := wrap64_id (by have := HL1.out; omega) (by have := HL1.out; omega)
        have z1_ : ((L1.length : Int) < 0) = False := eq_false (by omega)
        clear HB1 HE1 hx
        by_cases hy : (lst l2).length = 0
        · have hbc : b2 = false := by rw [HB2.out, hy]; rfl
          have m0 := HE2.out
          rw [hy] at m0
          have m2 : (L2.length ≤ L1.length) = True := eq_true (by omega)
          have m3 : ((L2.length : Int) ≤ (L1.length : Int)) = True := eq_true (by omega)
          have m5 : ((L1.length : Int) < 0) = False := eq_false (by omega)
          have m6 : (L2.length : Int) ≤ 0 ∨ (L2.length : Int) ≤ (L1.length : Int) := by omega
          have M6 := Aside0.mk m6
          have m7 : (L1.length = 0) → L2.length = 0 := by omega
          have M7 := Aside0.mk m7
          subst hbc
          clear HB2 HE2 HM2 m0 m6 m7
          by_cases hz : L2.length = 0
          · skip
            (all_goals first | go_region_held3 (fun w' => w'.cell? ⟨g9, 0, none⟩ = some (.bool false) ∧ w'.cell? ⟨g9, 1, none⟩ = some (.slice A1 l1.length c1) ∧ w'.cell? ⟨g9, 2, none⟩ = some (.int .i64 0) ∧ w'.cell? ⟨g10, 0, none⟩ = some (.bool false) ∧ w'.cell? ⟨g10, 1, none⟩ = some (.slice A2 l2.length c2) ∧ w'.cell? ⟨g10, 2, none⟩ = some (.int .i64 0)) (exact ⟨k1, k2, k3, k4, k5, k6⟩) (first | ((go_at_call 13; have hx_ := list_call (a := false) (n := 0) (Kd.C_below HR1.out (sep_below_of HS.out)) HC1.out; (with_reducible refine Calls.mono hx_ ?_); rintro e w3 ⟨v3_, rfl, hq_⟩; have n_ := sep_made_of HS.out (sep_only hq_); clear hx_ hq_; obtain ⟨v, cv, rfl, hcv, -⟩ := sep_row n_; have HCv := Aside0.mk hcv; clear hcv; have n0_ := Aside0.mk n_; clear HS n_; have HS := n0_; clear n0_; clear k1 k2 k3 k4 k5 k6; obtain ⟨k1, k2, k3, k4, k5, k6⟩ := facts6 (sep_drop HS.out)); replace HS := Aside0.mk (sep_drop HS.out); clear HCv) | ((go_at_call 13; have hx_ := list_call (a := false) (n := 0) (Kd.C_below HR2.out (sep_below_of HS.out)) HC2.out; (with_reducible refine Calls.mono hx_ ?_); rintro e w3 ⟨v3_, rfl, hq_⟩; have n_ := sep_made_of HS.out (sep_only hq_); clear hx_ hq_; obtain ⟨v, cv, rfl, hcv, -⟩ := sep_row n_; have HCv := Aside0.mk hcv; clear hcv; have n0_ := Aside0.mk n_; clear HS n_; have HS := n0_; clear n0_; clear k1 k2 k3 k4 k5 k6; obtain ⟨k1, k2, k3, k4, k5, k6⟩ := facts6 (sep_drop HS.out)); replace HS := Aside0.mk (sep_drop HS.out); clear HCv) | (go_at_call 17; obtain ⟨ok_, hp_, hk_⟩ := sep_use1 HS.out; have hx_ := ring_Left p _ L2 _ ok_ HL2.out hp_; (with_reducible refine Calls.mono hx_ ?_); rintro e w9 ⟨v6, rfl, hq_⟩; have n_ := back2 hk_ hq_; obtain ⟨A6, c6, rfl, -, -⟩ := sep_row n_; replace n_ := sep_drop n_; clear hx_ hp_ hk_ hq_; have n0_ := Aside0.mk n_; clear HS n_; have HS := n0_; clear n0_; clear k1 k2 k3 k4 k5 k6; obtain ⟨k1, k2, k3, k4, k5, k6⟩ := facts6 (HS.out))) | fail)
            all_goals go_wp2
            all_goals go_ret
            all_goals exact ⟨rfl, sep_below_of HS.out⟩
          · try exact absurd (M7.out hl) hz
            (all_goals first | go_region_held3 (fun w' => w'.cell? ⟨g9, 0, none⟩ = some (.bool false) ∧ w'.cell? ⟨g9, 1, none⟩ = some (.slice A1 l1.length c1) ∧ w'.cell? ⟨g9, 2, none⟩ = some (.int .i64 0) ∧ w'.cell? ⟨g10, 0, none⟩ = some (.bool false) ∧ w'.cell? ⟨g10, 1, none⟩ = some (.slice A2 l2.length c2) ∧ w'.cell? ⟨g10, 2, none⟩ = some (.int .i64 0)) (exact ⟨k1, k2, k3, k4, k5, k6⟩) (first | ((go_at_call 13; have hx_ := list_call (a := false) (n := 0) (Kd.C_below HR1.out (sep_below_of HS.out)) HC1.out; (with_reducible refine Calls.mono hx_ ?_); rintro e w3 ⟨v3_, rfl, hq_⟩; have n_ := sep_made_of HS.out (sep_only hq_); clear hx_ hq_; obtain ⟨v, cv, rfl, hcv, -⟩ := sep_row n_; have HCv := Aside0.mk hcv; clear hcv; have n0_ := Aside0.mk n_; clear HS n_; have HS := n0_; clear n0_; clear k1 k2 k3 k4 k5 k6; obtain ⟨k1, k2, k3, k4, k5, k6⟩ := facts6 (sep_drop HS.out)); replace HS := Aside0.mk (sep_drop HS.out); clear HCv) | ((go_at_call 13; have hx_ := list_call (a := false) (n := 0) (Kd.C_below HR2.out (sep_below_of HS.out)) HC2.out; (with_reducible refine Calls.mono hx_ ?_); rintro e w3 ⟨v3_, rfl, hq_⟩; have n_ := sep_made_of HS.out (sep_only hq_); clear hx_ hq_; obtain ⟨v, cv, rfl, hcv, -⟩ := sep_row n_; have HCv := Aside0.mk hcv; clear hcv; have n0_ := Aside0.mk n_; clear HS n_; have HS := n0_; clear n0_; clear k1 k2 k3 k4 k5 k6; obtain ⟨k1, k2, k3, k4, k5, k6⟩ := facts6 (sep_drop HS.out)); replace HS := Aside0.mk (sep_drop HS.out); clear HCv) | (go_at_call 17; obtain ⟨ok_, hp_, hk_⟩ := sep_use1 HS.out; have hx_ := ring_Left p _ L2 _ ok_ HL2.out hp_; (with_reducible refine Calls.mono hx_ ?_); rintro e w9 ⟨v6, rfl, hq_⟩; have n_ := back2 hk_ hq_; obtain ⟨A6, c6, rfl, -, -⟩ := sep_row n_; replace n_ := sep_drop n_; clear hx_ hp_ hk_ hq_; have n0_ := Aside0.mk n_; clear HS n_; have HS := n0_; clear n0_; clear k1 k2 k3 k4 k5 k6; obtain ⟨k1, k2, k3, k4, k5, k6⟩ := facts6 (HS.out))) | fail)
            all_goals go_wp2
            all_goals go_ret
            all_goals exact ⟨rfl, sep_below_of HS.out⟩
        · have hbc : b2 = true := by rw [HB2.out]; exact decide_eq_true (by omega)
          have hin : decide (i2 ∈ lst l2) = true := decide_eq_true (HM2.out hbc)
          subst hbc
          have y1 : (0 < (lst l2).length) = True := eq_true (by omega)
          have y2 : decide (0 < (lst l2).length) = true := decide_eq_true (by omega)
          have y3 : ((0 : Int) < ((lst l2).length : Int)) = True := eq_true (by omega)
          by_cases hmm : L1.length < (lst l2).length
          · have m1 : ((L1.length : Int) < ((lst l2).length : Int)) = True := eq_true (by omega)
            have m2 : (L2.length ≤ (lst l2).length) = True := eq_true (by have := HE2.out; omega)
            have m3 : ((L2.length : Int) ≤ ((lst l2).length : Int)) = True := eq_true (by have := HE2.out; omega)
            have m4 := eq_true hmm
            clear hmm hy HB2 HE2 HM2
            (all_goals first | go_region_held3 (fun w' => w'.cell? ⟨g9, 0, none⟩ = some (.bool false) ∧ w'.cell? ⟨g9, 1, none⟩ = some (.slice A1 l1.length c1) ∧ w'.cell? ⟨g9, 2, none⟩ = some (.int .i64 0) ∧ w'.cell? ⟨g10, 0, none⟩ = some (.bool false) ∧ w'.cell? ⟨g10, 1, none⟩ = some (.slice A2 l2.length c2) ∧ w'.cell? ⟨g10, 2, none⟩ = some (.int .i64 0)) (exact ⟨k1, k2, k3, k4, k5, k6⟩) (first | ((go_at_call 13; have hx_ := list_call (a := false) (n := 0) (Kd.C_below HR1.out (sep_below_of HS.out)) HC1.out; (with_reducible refine Calls.mono hx_ ?_); rintro e w3 ⟨v3_, rfl, hq_⟩; have n_ := sep_made_of HS.out (sep_only hq_); clear hx_ hq_; obtain ⟨v, cv, rfl, hcv, -⟩ := sep_row n_; have HCv := Aside0.mk hcv; clear hcv; have n0_ := Aside0.mk n_; clear HS n_; have HS := n0_; clear n0_; clear k1 k2 k3 k4 k5 k6; obtain ⟨k1, k2, k3, k4, k5, k6⟩ := facts6 (sep_drop HS.out)); replace HS := Aside0.mk (sep_drop HS.out); clear HCv) | ((go_at_call 13; have hx_ := list_call (a := false) (n := 0) (Kd.C_below HR2.out (sep_below_of HS.out)) HC2.out; (with_reducible refine Calls.mono hx_ ?_); rintro e w3 ⟨v3_, rfl, hq_⟩; have n_ := sep_made_of HS.out (sep_only hq_); clear hx_ hq_; obtain ⟨v, cv, rfl, hcv, -⟩ := sep_row n_; have HCv := Aside0.mk hcv; clear hcv; have n0_ := Aside0.mk n_; clear HS n_; have HS := n0_; clear n0_; clear k1 k2 k3 k4 k5 k6; obtain ⟨k1, k2, k3, k4, k5, k6⟩ := facts6 (sep_drop HS.out)); replace HS := Aside0.mk (sep_drop HS.out); clear HCv) | (go_at_call 17; obtain ⟨ok_, hp_, hk_⟩ := sep_use1 HS.out; have hx_ := ring_Left p _ L2 _ ok_ HL2.out hp_; (with_reducible refine Calls.mono hx_ ?_); rintro e w9 ⟨v6, rfl, hq_⟩; have n_ := back2 hk_ hq_; obtain ⟨A6, c6, rfl, -, -⟩ := sep_row n_; replace n_ := sep_drop n_; clear hx_ hp_ hk_ hq_; have n0_ := Aside0.mk n_; clear HS n_; have HS := n0_; clear n0_; clear k1 k2 k3 k4 k5 k6; obtain ⟨k1, k2, k3, k4, k5, k6⟩ := facts6 (HS.out))) | fail)
            all_goals go_wp2
            all_goals go_ret
            all_goals exact ⟨rfl, sep_below_of HS.out⟩
          · try (exfalso; omega)
            all_goals have m1 : ((L1.length : Int) < ((lst l2).length : Int)) = False := eq_false (by omega)
            all_goals have m2 : (L2.length ≤ L1.length) = True := eq_true (by have := HE2.out; omega)
            all_goals have m3 : ((L2.length : Int) ≤ (L1.length : Int)) = True := eq_true (by have := HE2.out; omega)
            all_goals have m4 := eq_false hmm
            all_goals clear hmm hy HB2 HE2 HM2
            (all_goals first | go_region_held3 (fun w' => w'.cell? ⟨g9, 0, none⟩ = some (.bool false) ∧ w'.cell? ⟨g9, 1, none⟩ = some (.slice A1 l1.length c1) ∧ w'.cell? ⟨g9, 2, none⟩ = some (.int .i64 0) ∧ w'.cell? ⟨g10, 0, none⟩ = some (.bool false) ∧ w'.cell? ⟨g10, 1, none⟩ = some (.slice A2 l2.length c2) ∧ w'.cell? ⟨g10, 2, none⟩ = some (.int .i64 0)) (exact ⟨k1, k2, k3, k4, k5, k6⟩) (first | ((go_at_call 13; have hx_ := list_call (a := false) (n := 0) (Kd.C_below HR1.out (sep_below_of HS.out)) HC1.out; (with_reducible refine Calls.mono hx_ ?_); rintro e w3 ⟨v3_, rfl, hq_⟩; have n_ := sep_made_of HS.out (sep_only hq_); clear hx_ hq_; obtain ⟨v, cv, rfl, hcv, -⟩ := sep_row n_; have HCv := Aside0.mk hcv; clear hcv; have n0_ := Aside0.mk n_; clear HS n_; have HS := n0_; clear n0_; clear k1 k2 k3 k4 k5 k6; obtain ⟨k1, k2, k3, k4, k5, k6⟩ := facts6 (sep_drop HS.out)); replace HS := Aside0.mk (sep_drop HS.out); clear HCv) | ((go_at_call 13; have hx_ := list_call (a := false) (n := 0) (Kd.C_below HR2.out (sep_below_of HS.out)) HC2.out; (with_reducible refine Calls.mono hx_ ?_); rintro e w3 ⟨v3_, rfl, hq_⟩; have n_ := sep_made_of HS.out (sep_only hq_); clear hx_ hq_; obtain ⟨v, cv, rfl, hcv, -⟩ := sep_row n_; have HCv := Aside0.mk hcv; clear hcv; have n0_ := Aside0.mk n_; clear HS n_; have HS := n0_; clear n0_; clear k1 k2 k3 k4 k5 k6; obtain ⟨k1, k2, k3, k4, k5, k6⟩ := facts6 (sep_drop HS.out)); replace HS := Aside0.mk (sep_drop HS.out); clear HCv) | (go_at_call 17; obtain ⟨ok_, hp_, hk_⟩ := sep_use1 HS.out; have hx_ := ring_Left p _ L2 _ ok_ HL2.out hp_; (with_reducible refine Calls.mono hx_ ?_); rintro e w9 ⟨v6, rfl, hq_⟩; have n_ := back2 hk_ hq_; obtain ⟨A6, c6, rfl, -, -⟩ := sep_row n_; replace n_ := sep_drop n_; clear hx_ hp_ hk_ hq_; have n0_ := Aside0.mk n_; clear HS n_; have HS := n0_; clear n0_; clear k1 k2 k3 k4 k5 k6; obtain ⟨k1, k2, k3, k4, k5, k6⟩ := facts6 (HS.out))) | fail)
            all_goals go_wp2
            all_goals go_ret
            all_goals exact ⟨rfl, sep_below_of HS.out⟩
end Go.Proofs.Ytmoepfmgpfjppaa.LX
