/- NetFull, walked. Conditions: those that the theorem names. -/
import Derived.Test.YtobfabfoenldfaaPB2
namespace Go.Proofs.Ytobfabfoenldfaa.NW
set_option linter.unusedVariables false
set_option linter.unusedSimpArgs false
open Go Go.RowKit Go.Proofs.YtobfabfoenldfaaS Go.Proofs.YtobfabfoenldfaaS.Asn Go.Proofs.Ytobfabfoenldfaa.PA Go.Proofs.YtobfabfoenldfaaW.PrintWords Go.Proofs.YtobfabfoenldfaaW.PrintLast Go.Proofs.YtobfabfoenldfaaW.PrintMore


open Go.Proofs.Ytobfabfoenldfaa.BG
theorem len_rep (m : Nat) : ((List.replicate m (dx 1)).length : Int) = (m : Int) := by rw [List.length_replicate]
theorem len_j (j : Nat) : ((List.replicate j (dx 1) ++ [fy]).length : Int) = (j : Int) + 1 := by rw [List.length_append, List.length_replicate]; rfl
set_option maxHeartbeats 4000000 in
set_option maxRecDepth 100000 in
theorem full_walk (room many : Int) (w : World) (hr : 0 ≤ room ∧ room ≤ 255) (hm : 0 ≤ many ∧ many ≤ 255) :
    Calls Try.prog 7 #[.int .u8 room, .int .u8 many] w fun e w' => e = .returned (.bool true) ∧ Below w.heap.size w w' := by
  have HS := Aside0.mk (sep_start w)
  obtain ⟨k, hk1, hk8, hk⟩ : ∃ k : Nat, 1 ≤ k ∧ k ≤ 8 ∧ 1 + room % 8 = (k : Int) := ⟨(1 + room % 8).toNat, by omega, by omega, by omega⟩
  obtain ⟨N, hN1, hN⟩ : ∃ N : Nat, N ≤ 11 ∧ many % 12 = (N : Int) := ⟨(many % 12).toNat, by omega, by omega⟩
  have HK := Aside0.mk (And.intro hk1 (And.intro hk8 hN1))
  clear hk1 hk8 hN1
  go_enter Try.func7, Try.ntmps7
  go_upto_region 6 with (go_at_call 9; (with_reducible refine Calls.mono (examples_walk _) ?_); rintro e w1 ⟨rfl, hb_⟩; have n_ := sep_below HS.out hb_; clear hb_; have n0_ := Aside0.mk n_; clear HS n_; have HS := n0_; clear n0_; skip)
  clear hk hr
  have n_ := sep_allocg HS.out #[.int .u32 1, .int .u16 7] 28 _ rfl; have n0_ := Aside0.mk n_; clear HS n_; have HS := n0_; clear n0_; generalize hw_ : World.alloc _ _ = wa at HS ⊢; clear hw_; generalize hp_ : Array.size (World.heap _) = g7 at HS ⊢; clear hp_
  go_upto_region 7 with (fail)
  have n_ := sep_allocg HS.out #[.int .u32 2, .int .u16 7] 28 _ rfl; have n0_ := Aside0.mk n_; clear HS n_; have HS := n0_; clear n0_; generalize hw_ : World.alloc _ _ = wb at HS ⊢; clear hw_; generalize hp_ : Array.size (World.heap _) = g8 at HS ⊢; clear hp_
  (try clear b0 b1); have b0 := sep_cell (id HS.out) 0; have b1 := sep_cell (id HS.out) 1
  (try clear a0 a1); have a0 := sep_cell (sep_l1 HS.out) 0; have a1 := sep_cell (sep_l1 HS.out) 1
  go_upto_region 8 with (go_at_call 10; have h1_ := sep_allocg HS.out #[.int .u32 1, .int .u16 7, .int .i64 0, .int .u32 2, .int .u16 7, .int .i64 0] 34 _ rfl; have hx_ := new_zero _ 2 eh 2 (k : Int) _ rfl (by decide) (by have := HK.out; omega) (by decide +kernel) (lit_hos eh h1_ (by decide) (fun j x hx => by rcases j with _ | _ | _ | j <;> first | (cases hx; exact ⟨rfl, rfl, rfl⟩) | simp [eh] at hx)); (with_reducible refine Calls.mono hx_ ?_); rintro e w1 ⟨p, pb, rfl, hm_⟩; have n_ := sep_l2 (sep_l2 (sep_emp (made2 (sep_drop h1_) hm_))); clear h1_ hx_ hm_; have n0_ := Aside0.mk n_; clear HS n_; have HS := n0_; clear n0_; skip)
  clear a0 a1 b0 b1
  go_upto_region 11 with (go_at_call 19; obtain ⟨ok_, hp_, hk_⟩ := sep_use1 HS.out; have hx_ := bag_A p pb eh [] _ ok_ hp_; (with_reducible refine Calls.mono hx_ ?_); rintro e w1 ⟨rfl, hb_⟩; have n_ := sep_below HS.out hb_; clear hx_ hp_ hk_ hb_; have n0_ := Aside0.mk n_; clear HS n_; have HS := n0_; clear n0_; skip)
  go_loopg [11] N (fun gg s11 wr => ∃ i : Nat, i ≤ N ∧ N - i ≤ gg ∧ s11 = .int .i64 i ∧ Aside0 (Sep w (fun _ => False) (netA p eh [] pb ⋆ bagA pb (List.replicate (min i k) (dx 1)) k ⋆ emp ⋆ pt g8 #[.int .u32 2, .int .u16 7] 28 ⋆ pt g7 #[.int .u32 1, .int .u16 7] 28 ⋆ emp) wr))
  case atStart => exact ⟨0, Nat.zero_le _, Nat.le_refl _, rfl, ⟨by rw [Nat.zero_min]; exact HS.out⟩⟩
  case round =>
    clear HS
    obtain ⟨i, hi, hg, rfl, HS⟩ := hrel
    by_cases hlt : i < N
    · have c1b : decide ((i : Int) < (N : Int)) = true := decide_eq_true (Int.ofNat_lt.2 hlt); have c1n : decide (i < N) = true := decide_eq_true hlt; have c1i : ((i : Int) < (N : Int)) = True := eq_true (Int.ofNat_lt.2 hlt); have c1q : (i < N) = True := eq_true hlt; have p0_ := eq_true (Int.natCast_nonneg i)
      have HI := Aside0.mk (And.intro hlt hg)
      clear hi hg
      (try clear b0 b1); have b0 := sep_cell (sep_l3 HS.out) 0; have b1 := sep_cell (sep_l3 HS.out) 1
      by_cases hik : i < k
      · have d1b : decide ((i : Int) < (k : Int)) = true := decide_eq_true (by omega)
        have d1i : ((i : Int) < (k : Int)) = True := eq_true (by omega)
        have d1n : decide (i < k) = true := decide_eq_true hik
        have d1q : (i < k) = True := eq_true hik
        have hs := HS.out
        rw [Nat.min_eq_left (by omega)] at hs
        have HIK := Aside0.mk hik
        clear HS hik hlt
        have HS := Aside0.mk hs
        clear hs
        go_upto_region 14 with (go_at_call 11; obtain ⟨ok_, hp_, hk_⟩ := sep_use2 HS.out; have hx_ := sendP p pb eh [] (List.replicate i (dx 1)) (List.replicate (i + 1) (dx 1)) k 0 _ ok_ 0 ⟨1, 7, 0⟩ 1 ⟨2, 7⟩ ⟨#[120]⟩ 0 rfl rfl rfl rfl (by decide) (by decide) (by have := HK.out; omega) (by decide) (fx_ok HIK.out).1 (fx_ok HIK.out).2 hp_; (with_reducible refine Calls.mono hx_ ?_); rintro e w1 ⟨rfl, hq_⟩; have n_ := back2 hk_ hq_; clear hx_ hp_ hk_ hq_; have n0_ := Aside0.mk n_; clear HS n_; have HS := n0_; clear n0_; skip)
        clear b0 b1
        go_wp2
        go_roundg (N - (i + 1))
        case measure => have := HI.out; omega
        case rel =>
          refine ⟨i + 1, by have := HI.out; omega, Nat.le_refl _, congrArg (Value.int .i64) (by have := HI.out; have := HK.out; unfold wrap64; omega), ⟨?_⟩⟩
          rw [Nat.min_eq_left (by have := HIK.out; omega)]
          exact HS.out
      · have d1b : decide ((i : Int) < (k : Int)) = false := decide_eq_false (by omega)
        have d1i : ((i : Int) < (k : Int)) = False := eq_false (by omega)
        have d1n : decide (i < k) = false := decide_eq_false hik
        have d1q : (i < k) = False := eq_false hik
        have hs := HS.out
        rw [Nat.min_eq_right (by omega)] at hs
        have HIK : Aside0 (k ≤ i) := ⟨by omega⟩
        clear HS hik hlt
        have HS := Aside0.mk hs
        clear hs
        go_upto_region 14 with (go_at_call 11; obtain ⟨ok_, hp_, hk_⟩ := sep_use2 HS.out; have hx_ := sendP p pb eh [] (List.replicate k (dx 1)) (List.replicate k (dx 1)) k 0 _ ok_ 0 ⟨1, 7, 0⟩ 1 ⟨2, 7⟩ ⟨#[120]⟩ 4 rfl rfl rfl rfl (by decide) (by decide) (by have := HK.out; omega) (by decide) (fx_full (Nat.le_refl k)).1 (fx_full (Nat.le_refl k)).2 hp_; (with_reducible refine Calls.mono hx_ ?_); rintro e w1 ⟨rfl, hq_⟩; have n_ := back2 hk_ hq_; clear hx_ hp_ hk_ hq_; have n0_ := Aside0.mk n_; clear HS n_; have HS := n0_; clear n0_; skip)
        clear b0 b1
        go_wp2
        go_roundg (N - (i + 1))
        case measure => have := HI.out; omega
        case rel =>
          refine ⟨i + 1, by have := HI.out; omega, Nat.le_refl _, congrArg (Value.int .i64) (by have := HI.out; have := HK.out; unfold wrap64; omega), ⟨?_⟩⟩
          rw [Nat.min_eq_right (by have := HIK.out; omega)]
          exact HS.out
    · obtain rfl : i = N := by omega
      have c2b : decide ((i : Int) < (i : Int)) = false := decide_eq_false (by omega)
      clear hi hg hlt
      obtain ⟨m, hm⟩ : ∃ m, min i k = m := ⟨_, rfl⟩
      rw [hm] at HS
      have HM : Aside0 (m ≤ k ∧ m ≤ i ∧ (m = i ∨ m = k)) := ⟨by omega⟩
      clear hm
      go_upto_region 17 with (first | (go_at_call 19; obtain ⟨ok_, hp_, hk_⟩ := sep_use1 HS.out; have hx_ := bag_A p pb eh [] _ ok_ hp_; (with_reducible refine Calls.mono hx_ ?_); rintro e w1 ⟨rfl, hb_⟩; have n_ := sep_below HS.out hb_; clear hx_ hp_ hk_ hb_; have n0_ := Aside0.mk n_; clear HS n_; have HS := n0_; clear n0_; skip) | (go_at_call 20; obtain ⟨ok_, hp_, hk_⟩ := sep_use1 (sep_l1 HS.out); have hx_ := bag_Len pb ((List.replicate m (dx 1))) k _ ok_ hp_; rw [len_rep m] at hx_; (with_reducible refine Calls.mono hx_ ?_); rintro e w1 ⟨rfl, hq_⟩; have n_ := sep_l1 (back1 hk_ hq_); clear hx_ hp_ hk_ hq_; have n0_ := Aside0.mk n_; clear HS n_; have HS := n0_; clear n0_))
      (try clear b0 b1); have b0 := sep_cell (sep_l3 HS.out) 0; have b1 := sep_cell (sep_l3 HS.out) 1
      go_upto_region 18 with (go_at_call 11; obtain ⟨ok_, hp_, hk_⟩ := sep_use1 HS.out; have hx_ := sendE p pb eh [] 0 _ ok_ 3 ⟨2, 7⟩ ⟨#[120]⟩ (.inr (.inl (by decide))) hp_; (with_reducible refine Calls.mono hx_ ?_); rintro e w1 ⟨rfl, hb_⟩; have n_ := sep_below HS.out hb_; clear hx_ hp_ hk_ hb_; have n0_ := Aside0.mk n_; clear HS n_; have HS := n0_; clear n0_; skip)
      clear b0 b1
      go_upto_region 19 with (go_at_call 11; obtain ⟨ok_, hp_, hk_⟩ := sep_use1 HS.out; have hx_ := sendE p pb eh [] 0 _ ok_ 1 ⟨0, 0⟩ ⟨#[120]⟩ (.inr (.inr rfl)) hp_; (with_reducible refine Calls.mono hx_ ?_); rintro e w1 ⟨rfl, hb_⟩; have n_ := sep_below HS.out hb_; clear hx_ hp_ hk_ hb_; have n0_ := Aside0.mk n_; clear HS n_; have HS := n0_; clear n0_; skip)
      cases m with
      | zero =>
        go_upto_region 20 with (go_at_call 17; obtain ⟨ok_, hp_, hk_⟩ := sep_use2 HS.out; have hx_ := dropI p pb eh [] [] [] k _ ok_ 0 5 It.zero (by decide) (away_none [] _ rfl) hp_; (with_reducible refine Calls.mono hx_ ?_); rintro e w1 ⟨rfl, hq_⟩; have n_ := back2 hk_ hq_; clear hx_ hp_ hk_ hq_; have n0_ := Aside0.mk n_; clear HS n_; have HS := n0_; clear n0_; skip)
        (try clear a0 a1); have a0 := sep_cell (sep_l4 HS.out) 0; have a1 := sep_cell (sep_l4 HS.out) 1
        go_upto_region 21 with (go_at_call 11; obtain ⟨ok_, hp_, hk_⟩ := sep_use2 HS.out; have hx_ := sendP p pb eh [] (List.replicate 0 (dx 1)) (List.replicate 0 (dx 1) ++ [fy]) k 0 _ ok_ 1 ⟨2, 7, 0⟩ 2 ⟨1, 7⟩ ⟨#[121]⟩ 0 rfl rfl rfl rfl (by decide) (by decide) (by have := HK.out; omega) (by decide) (fy_ok (by have := HK.out; have := HM.out; omega)).1 (fy_ok (by have := HK.out; have := HM.out; omega)).2 hp_; (with_reducible refine Calls.mono hx_ ?_); rintro e w1 ⟨rfl, hq_⟩; have n_ := back2 hk_ hq_; clear hx_ hp_ hk_ hq_; have n0_ := Aside0.mk n_; clear HS n_; have HS := n0_; clear n0_; skip)
        clear a0 a1
        go_upto_region 22 with (first | (go_at_call 19; obtain ⟨ok_, hp_, hk_⟩ := sep_use1 HS.out; have hx_ := bag_A p pb eh [] _ ok_ hp_; (with_reducible refine Calls.mono hx_ ?_); rintro e w1 ⟨rfl, hb_⟩; have n_ := sep_below HS.out hb_; clear hx_ hp_ hk_ hb_; have n0_ := Aside0.mk n_; clear HS n_; have HS := n0_; clear n0_; skip) | (go_at_call 20; obtain ⟨ok_, hp_, hk_⟩ := sep_use1 (sep_l1 HS.out); have hx_ := bag_Len pb ((List.replicate 0 (dx 1) ++ [fy])) k _ ok_ hp_; rw [len_j 0] at hx_; (with_reducible refine Calls.mono hx_ ?_); rintro e w1 ⟨rfl, hq_⟩; have n_ := sep_l1 (back1 hk_ hq_); clear hx_ hp_ hk_ hq_; have n0_ := Aside0.mk n_; clear HS n_; have HS := n0_; clear n0_))
        go_upto_region 23 with (go_at_call 12; obtain ⟨ok_, hp_, hk_⟩ := sep_use2 HS.out; have hx_ := delN p pb eh [] (List.replicate 0 (dx 1) ++ [fy]) (List.replicate 0 (dx 1) ++ [fy]) k 0 _ ok_ 0 5 It.zero (by decide) (f_early 0) (by decide) hp_; (with_reducible refine Calls.mono hx_ ?_); rintro e w1 ⟨rfl, hq_⟩; have n_ := back2 hk_ hq_; clear hx_ hp_ hk_ hq_; have n0_ := Aside0.mk n_; clear HS n_; have HS := n0_; clear n0_; skip)
        have n_ := sep_l3 (sep_l3 (sep_l3 (sep_allocg HS.out #[.int .i64 0, .int .u32 0, .int .u16 0, .string ⟨#[]⟩] 42 _ rfl))); have n0_ := Aside0.mk n_; clear HS n_; have HS := n0_; clear n0_; generalize hw_ : World.alloc _ _ = wh at HS ⊢; clear hw_; generalize hp_ : Array.size (World.heap _) = g19 at HS ⊢; clear hp_
        have u0 := sep_cell (sep_l3 HS.out) 0
        have hki : ¬ k < i := by have := HK.out; have := HM.out; omega
        have hi0 : i = 0 := by have := HK.out; have := HM.out; omega
        have f1 := eq_false hki
        have f2 : decide (k < i) = false := decide_eq_false hki
        have f3 : ((0 : Int) = (i : Int)) = True := eq_true (by omega)
        have f4 : ((i : Int) = 0) = True := eq_true (by omega)
        have f5 : (i = 0) = True := eq_true hi0
        have f6 : (0 = i) = True := eq_true hi0.symm
        have f7 : ((0 : Int) == (i : Int)) = true := beq_iff_eq.2 (by omega)
        clear hki hi0
        go_wp2
        go_ret
        exact ⟨rfl, sep_below_of HS.out⟩
      | succ j =>
        go_upto_region 20 with (go_at_call 17; obtain ⟨ok_, hp_, hk_⟩ := sep_use2 HS.out; have hx_ := dropI p pb eh [] (List.replicate (j + 1) (dx 1)) (List.replicate j (dx 1)) k _ ok_ 0 0 (dx 1) (by decide) (f_drop j) hp_; (with_reducible refine Calls.mono hx_ ?_); rintro e w1 ⟨rfl, hq_⟩; have n_ := back2 hk_ hq_; clear hx_ hp_ hk_ hq_; have n0_ := Aside0.mk n_; clear HS n_; have HS := n0_; clear n0_; skip)
        (try clear a0 a1); have a0 := sep_cell (sep_l4 HS.out) 0; have a1 := sep_cell (sep_l4 HS.out) 1
        go_upto_region 21 with (go_at_call 11; obtain ⟨ok_, hp_, hk_⟩ := sep_use2 HS.out; have hx_ := sendP p pb eh [] (List.replicate j (dx 1)) (List.replicate j (dx 1) ++ [fy]) k 0 _ ok_ 1 ⟨2, 7, 0⟩ 2 ⟨1, 7⟩ ⟨#[121]⟩ 0 rfl rfl rfl rfl (by decide) (by decide) (by have := HK.out; omega) (by decide) (fy_ok (by have := HK.out; have := HM.out; omega)).1 (fy_ok (by have := HK.out; have := HM.out; omega)).2 hp_; (with_reducible refine Calls.mono hx_ ?_); rintro e w1 ⟨rfl, hq_⟩; have n_ := back2 hk_ hq_; clear hx_ hp_ hk_ hq_; have n0_ := Aside0.mk n_; clear HS n_; have HS := n0_; clear n0_; skip)
        clear a0 a1
        go_upto_region 22 with (first | (go_at_call 19; obtain ⟨ok_, hp_, hk_⟩ := sep_use1 HS.out; have hx_ := bag_A p pb eh [] _ ok_ hp_; (with_reducible refine Calls.mono hx_ ?_); rintro e w1 ⟨rfl, hb_⟩; have n_ := sep_below HS.out hb_; clear hx_ hp_ hk_ hb_; have n0_ := Aside0.mk n_; clear HS n_; have HS := n0_; clear n0_; skip) | (go_at_call 20; obtain ⟨ok_, hp_, hk_⟩ := sep_use1 (sep_l1 HS.out); have hx_ := bag_Len pb ((List.replicate j (dx 1) ++ [fy])) k _ ok_ hp_; rw [len_j j] at hx_; (with_reducible refine Calls.mono hx_ ?_); rintro e w1 ⟨rfl, hq_⟩; have n_ := sep_l1 (back1 hk_ hq_); clear hx_ hp_ hk_ hq_; have n0_ := Aside0.mk n_; clear HS n_; have HS := n0_; clear n0_))
        go_upto_region 23 with (go_at_call 12; obtain ⟨ok_, hp_, hk_⟩ := sep_use2 HS.out; have hx_ := delN p pb eh [] (List.replicate j (dx 1) ++ [fy]) (List.replicate j (dx 1) ++ [fy]) k 0 _ ok_ 0 5 It.zero (by decide) (f_early j) (by decide) hp_; (with_reducible refine Calls.mono hx_ ?_); rintro e w1 ⟨rfl, hq_⟩; have n_ := back2 hk_ hq_; clear hx_ hp_ hk_ hq_; have n0_ := Aside0.mk n_; clear HS n_; have HS := n0_; clear n0_; skip)
        have n_ := sep_l3 (sep_l3 (sep_l3 (sep_allocg HS.out #[.int .i64 0, .int .u32 0, .int .u16 0, .string ⟨#[]⟩] 42 _ rfl))); have n0_ := Aside0.mk n_; clear HS n_; have HS := n0_; clear n0_; generalize hw_ : World.alloc _ _ = wh at HS ⊢; clear hw_; generalize hp_ : Array.size (World.heap _) = g19 at HS ⊢; clear hp_
        have u0 := sep_cell (sep_l3 HS.out) 0
        have g1 : wrap64 (j : Int) = (j : Int) := by have := HK.out; have := HM.out; unfold wrap64; omega
        have g2 : wrap64 ((j : Int) + 1) = (j : Int) + 1 := by have := HK.out; have := HM.out; unfold wrap64; omega
        by_cases hki : k < i
        · have f1 := eq_true hki
          have f2 : decide (k < i) = true := decide_eq_true hki
          have hjk : (j : Int) + 1 = (k : Int) := by have := HM.out; omega
          have f3 := eq_true hjk
          have f4 : decide ((j : Int) + 1 = (k : Int)) = true := decide_eq_true hjk
          have f5 : ((j : Int) + 1 == (k : Int)) = true := beq_iff_eq.2 hjk
          clear hki hjk
          go_wp2
          go_ret
          exact ⟨rfl, sep_below_of HS.out⟩
        · have f1 := eq_false hki
          have f2 : decide (k < i) = false := decide_eq_false hki
          have hjk : (j : Int) + 1 = (i : Int) := by have := HM.out; omega
          have f3 := eq_true hjk
          have f4 : decide ((j : Int) + 1 = (i : Int)) = true := decide_eq_true hjk
          have f5 : ((j : Int) + 1 == (i : Int)) = true := beq_iff_eq.2 hjk
          clear hki hjk
          go_wp2
          go_ret
          exact ⟨rfl, sep_below_of HS.out⟩
end Go.Proofs.Ytobfabfoenldfaa.NW
