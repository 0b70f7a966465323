/- NetAnew, walked. Conditions: those that the theorem names. -/
import Derived.Test.YtobfabfoenldfaaPB2
namespace Go.Proofs.Ytobfabfoenldfaa.NW
set_option linter.unusedVariables false
set_option linter.unusedSimpArgs false
open Go Go.RowKit Go.Proofs.YtobfabfoenldfaaS Go.Proofs.YtobfabfoenldfaaS.Asn Go.Proofs.Ytobfabfoenldfaa.PA Go.Proofs.YtobfabfoenldfaaW.PrintWords Go.Proofs.YtobfabfoenldfaaW.PrintLast Go.Proofs.YtobfabfoenldfaaW.PrintMore


open Go.Proofs.Ytobfabfoenldfaa.BG
def ah : List Hs := [⟨1, 7, 0⟩, ⟨10, 7, 1⟩, ⟨11, 7, 2⟩]
def s5 : Sp := ⟨0, 0, 5, 9, 4⟩
def s6 : Sp := ⟨0, 0, 6, 9, 4⟩
def bq (i : Int) : Bx := ⟨0, 0, i, 9, 4, []⟩
theorem k4 (t : Int) (ht : 0 ≤ t ∧ t ≤ 255) : wrap64 (t.tmod 4) = 0 ∨ wrap64 (t.tmod 4) = 1 ∨ wrap64 (t.tmod 4) = 2 ∨ wrap64 (t.tmod 4) = 3 := by
  rw [Int.tmod_eq_emod_of_nonneg ht.1]
  unfold wrap64
  omega
theorem own_1 (i : Int) (h : i ≠ 6) : owned [5, 6] i (1 - 1) = false := by
  unfold owned
  simp [List.range_succ, ownB]
  exact fun e => h e.symm
theorem own_2 (i : Int) (h : i ≠ 5) : owned [5, 6] i (2 - 1) = false := by
  unfold owned
  simp [List.range_succ, ownB]
  exact fun e => h e.symm
theorem ins_no (i : Int) (h1 : i ≠ 1) (h2 : i ≠ 10) (h3 : i ≠ 11) : ah.any (ipH i) = false := by
  unfold ah
  simp [ipH]
  exact ⟨fun e => h1 e.symm, fun e => h2 e.symm, fun e => h3 e.symm⟩
set_option maxHeartbeats 4000000 in
set_option maxRecDepth 100000 in
theorem anew_walk (ip which : Int) (w : World) (hi : 0 ≤ ip ∧ ip ≤ 255) (hk : 0 ≤ which ∧ which ≤ 255) :
    Calls Try.prog 5 #[.int .u8 ip, .int .u8 which] w fun e w' => e = .returned (.bool true) ∧ Below w.heap.size w w' := by
  have HS := Aside0.mk (sep_start w)
  have hk4 : which % 4 = 0 ∨ which % 4 = 1 ∨ which % 4 = 2 ∨ which % 4 = 3 := by omega
  go_enter Try.func5, Try.ntmps5
  go_upto_region 4 with (go_at_call 9; (with_reducible refine Calls.mono (examples_walk _) ?_); rintro e w1 ⟨rfl, hb_⟩; have n_ := sep_below HS.out hb_; clear hb_; have n0_ := Aside0.mk n_; clear HS n_; have HS := n0_; clear n0_; skip)
  go_upto_region 5 with (go_at_call 10; have h1_ := sep_allocg HS.out #[.int .u32 1, .int .u16 7, .int .i64 0, .int .u32 10, .int .u16 7, .int .i64 1, .int .u32 11, .int .u16 7, .int .i64 2] 34 _ rfl; have h2_ := sep_allocg h1_ #[.int .i64 0, .int .i64 0, .int .u32 5, .int .u64 9, .int .i64 4, .int .i64 0, .int .i64 0, .int .u32 6, .int .u64 9, .int .i64 4] 38 _ (szS _ rfl); have hx_ := new_two _ _ 3 2 ah 3 9 _ s5 s6 rfl (by decide) (by decide) (⟨by decide, by decide, by decide, by decide, by decide⟩) (⟨by decide, by decide, by decide, by decide, by decide⟩) (by decide +kernel) (by decide +kernel) (lit_hos ah (sep_l1 h2_) (by decide) (fun j x hx => by rcases j with _ | _ | _ | j <;> first | (cases hx; exact ⟨rfl, rfl, rfl⟩) | simp [ah] at hx)) (lit_sp [s5, s6] h2_ (Nat.le_of_ble_eq_true rfl) (fun j x hx => by rcases j with _ | _ | j <;> first | (cases hx; exact ⟨rfl, rfl, rfl, rfl, rfl⟩) | simp at hx)); (with_reducible refine Calls.mono hx_ ?_); rintro e w1 ⟨p, pb, q, r, rfl, hm_⟩; have n_ := made3 (sep_drop (sep_drop h2_)) hm_; clear h1_ h2_ hx_ hm_; have n0_ := Aside0.mk n_; clear HS n_; have HS := n0_; clear n0_; skip)
  go_upto_region 9 with (fail)
  generalize which % 4 = k at hk4 ⊢
  generalize ip % 14 = i
  clear hi hk
  rcases hk4 with rfl | rfl | rfl | rfl
  · skip
    go_upto_region 10 with (go_at_call 13; obtain ⟨ok_, hp_, hk_⟩ := sep_use1 HS.out; have hx_ := none_A p pb ah [q, r] _ ok_ 0 i (by decide) (Nat.le_of_ble_eq_true rfl) rfl hp_; (with_reducible refine Calls.mono hx_ ?_); rintro e w1 ⟨rfl, hb_⟩; have n_ := sep_below HS.out hb_; clear hx_ hp_ hk_ hb_; have n0_ := Aside0.mk n_; clear HS n_; have HS := n0_; clear n0_; skip)
    go_upto_region 16 with (go_at_call 15; obtain ⟨ok_, hp_, hk_⟩ := sep_use1 HS.out; have hx_ := boxI p pb ah [q, r] _ ok_ 1 (some ⟨q, 0, none⟩) (by decide) (Nat.le_of_ble_eq_true rfl) rfl hp_; (with_reducible refine Calls.mono hx_ ?_); rintro e w1 ⟨rfl, hb_⟩; have n_ := sep_below HS.out hb_; clear hx_ hp_ hk_ hb_; have n0_ := Aside0.mk n_; clear HS n_; have HS := n0_; clear n0_; skip)
    go_upto_region 17 with (go_at_call 15; obtain ⟨ok_, hp_, hk_⟩ := sep_use1 HS.out; have hx_ := boxI p pb ah [q, r] _ ok_ 2 (some ⟨r, 0, none⟩) (by decide) (Nat.le_of_ble_eq_true rfl) rfl hp_; (with_reducible refine Calls.mono hx_ ?_); rintro e w1 ⟨rfl, hb_⟩; have n_ := sep_below HS.out hb_; clear hx_ hp_ hk_ hb_; have n0_ := Aside0.mk n_; clear HS n_; have HS := n0_; clear n0_; skip)
    go_wp2_with (first
      | (go_at_call 16; have hx_ := box_IP q 5 _ (box_cells (sep_l1 HS.out)).2.2.1; (with_reducible refine Calls.mono hx_ ?_); rintro e w1 ⟨rfl, hb_⟩; have n_ := sep_below HS.out hb_; clear hx_ hb_; have n0_ := Aside0.mk n_; clear HS n_; have HS := n0_; clear n0_)
      | (go_at_call 16; have hx_ := box_IP r 6 _ (box_cells (sep_l2 HS.out)).2.2.1; (with_reducible refine Calls.mono hx_ ?_); rintro e w1 ⟨rfl, hb_⟩; have n_ := sep_below HS.out hb_; clear hx_ hb_; have n0_ := Aside0.mk n_; clear HS n_; have HS := n0_; clear n0_)
      | fail)
    go_ret
    exact ⟨rfl, sep_below_of HS.out⟩
  · by_cases h0 : i = 0
    · skip
      subst h0
      go_upto_region 10 with (go_at_call 13; obtain ⟨ok_, hp_, hk_⟩ := sep_use3 HS.out; have hx_ := rebind_zero p pb 1 [q, r] [5, 6] ah q (bq 5) (boxA r (bq 6)) _ ok_ (by decide) (Nat.le_of_ble_eq_true rfl) rfl rfl rfl rfl (ips_two q r (bq 5) (bq 6)) hp_; (with_reducible refine Calls.mono hx_ ?_); rintro e w1 ⟨rfl, hq_⟩; have n_ := back3 hk_ hq_; clear hx_ hp_ hk_ hq_; have n0_ := Aside0.mk n_; clear HS n_; have HS := n0_; clear n0_; skip)
      go_upto_region 16 with (go_at_call 15; obtain ⟨ok_, hp_, hk_⟩ := sep_use1 HS.out; have hx_ := boxI p pb ah [q, r] _ ok_ 1 (some ⟨q, 0, none⟩) (by decide) (Nat.le_of_ble_eq_true rfl) rfl hp_; (with_reducible refine Calls.mono hx_ ?_); rintro e w1 ⟨rfl, hb_⟩; have n_ := sep_below HS.out hb_; clear hx_ hp_ hk_ hb_; have n0_ := Aside0.mk n_; clear HS n_; have HS := n0_; clear n0_; skip)
      go_upto_region 17 with (go_at_call 15; obtain ⟨ok_, hp_, hk_⟩ := sep_use1 HS.out; have hx_ := boxI p pb ah [q, r] _ ok_ 2 (some ⟨r, 0, none⟩) (by decide) (Nat.le_of_ble_eq_true rfl) rfl hp_; (with_reducible refine Calls.mono hx_ ?_); rintro e w1 ⟨rfl, hb_⟩; have n_ := sep_below HS.out hb_; clear hx_ hp_ hk_ hb_; have n0_ := Aside0.mk n_; clear HS n_; have HS := n0_; clear n0_; skip)
      go_wp2_with (first
        | (go_at_call 16; have hx_ := box_IP q 5 _ (box_cells (sep_l1 HS.out)).2.2.1; (with_reducible refine Calls.mono hx_ ?_); rintro e w1 ⟨rfl, hb_⟩; have n_ := sep_below HS.out hb_; clear hx_ hb_; have n0_ := Aside0.mk n_; clear HS n_; have HS := n0_; clear n0_)
        | (go_at_call 16; have hx_ := box_IP r 6 _ (box_cells (sep_l2 HS.out)).2.2.1; (with_reducible refine Calls.mono hx_ ?_); rintro e w1 ⟨rfl, hb_⟩; have n_ := sep_below HS.out hb_; clear hx_ hb_; have n0_ := Aside0.mk n_; clear HS n_; have HS := n0_; clear n0_)
        | fail)
      go_ret
      exact ⟨rfl, sep_below_of HS.out⟩
    by_cases h1 : i = 1
    · skip
      subst h1
      go_upto_region 10 with (go_at_call 13; obtain ⟨ok_, hp_, hk_⟩ := sep_use2 (sep_l1 (sep_fold (sep_l2 (sep_l2 HS.out)))); have hx_ := taken_A p pb ah [q, r] _ ok_ 1 1 [5, 6] q (boxA q (bq 5) ⋆ boxA r (bq 6)) (by decide) (Nat.le_of_ble_eq_true rfl) rfl rfl (by decide +kernel) (ips_two q r (bq 5) (bq 6)) hp_; (with_reducible refine Calls.mono hx_ ?_); rintro e w1 ⟨rfl, hb_⟩; have n_ := sep_below HS.out hb_; clear hx_ hp_ hk_ hb_; have n0_ := Aside0.mk n_; clear HS n_; have HS := n0_; clear n0_; skip)
      go_upto_region 16 with (go_at_call 15; obtain ⟨ok_, hp_, hk_⟩ := sep_use1 HS.out; have hx_ := boxI p pb ah [q, r] _ ok_ 1 (some ⟨q, 0, none⟩) (by decide) (Nat.le_of_ble_eq_true rfl) rfl hp_; (with_reducible refine Calls.mono hx_ ?_); rintro e w1 ⟨rfl, hb_⟩; have n_ := sep_below HS.out hb_; clear hx_ hp_ hk_ hb_; have n0_ := Aside0.mk n_; clear HS n_; have HS := n0_; clear n0_; skip)
      go_upto_region 17 with (go_at_call 15; obtain ⟨ok_, hp_, hk_⟩ := sep_use1 HS.out; have hx_ := boxI p pb ah [q, r] _ ok_ 2 (some ⟨r, 0, none⟩) (by decide) (Nat.le_of_ble_eq_true rfl) rfl hp_; (with_reducible refine Calls.mono hx_ ?_); rintro e w1 ⟨rfl, hb_⟩; have n_ := sep_below HS.out hb_; clear hx_ hp_ hk_ hb_; have n0_ := Aside0.mk n_; clear HS n_; have HS := n0_; clear n0_; skip)
      go_wp2_with (first
        | (go_at_call 16; have hx_ := box_IP q 5 _ (box_cells (sep_l1 HS.out)).2.2.1; (with_reducible refine Calls.mono hx_ ?_); rintro e w1 ⟨rfl, hb_⟩; have n_ := sep_below HS.out hb_; clear hx_ hb_; have n0_ := Aside0.mk n_; clear HS n_; have HS := n0_; clear n0_)
        | (go_at_call 16; have hx_ := box_IP r 6 _ (box_cells (sep_l2 HS.out)).2.2.1; (with_reducible refine Calls.mono hx_ ?_); rintro e w1 ⟨rfl, hb_⟩; have n_ := sep_below HS.out hb_; clear hx_ hb_; have n0_ := Aside0.mk n_; clear HS n_; have HS := n0_; clear n0_)
        | fail)
      go_ret
      exact ⟨rfl, sep_below_of HS.out⟩
    by_cases h10 : i = 10
    · skip
      subst h10
      go_upto_region 10 with (go_at_call 13; obtain ⟨ok_, hp_, hk_⟩ := sep_use2 (sep_l1 (sep_fold (sep_l2 (sep_l2 HS.out)))); have hx_ := taken_A p pb ah [q, r] _ ok_ 1 10 [5, 6] q (boxA q (bq 5) ⋆ boxA r (bq 6)) (by decide) (Nat.le_of_ble_eq_true rfl) rfl rfl (by decide +kernel) (ips_two q r (bq 5) (bq 6)) hp_; (with_reducible refine Calls.mono hx_ ?_); rintro e w1 ⟨rfl, hb_⟩; have n_ := sep_below HS.out hb_; clear hx_ hp_ hk_ hb_; have n0_ := Aside0.mk n_; clear HS n_; have HS := n0_; clear n0_; skip)
      go_upto_region 16 with (go_at_call 15; obtain ⟨ok_, hp_, hk_⟩ := sep_use1 HS.out; have hx_ := boxI p pb ah [q, r] _ ok_ 1 (some ⟨q, 0, none⟩) (by decide) (Nat.le_of_ble_eq_true rfl) rfl hp_; (with_reducible refine Calls.mono hx_ ?_); rintro e w1 ⟨rfl, hb_⟩; have n_ := sep_below HS.out hb_; clear hx_ hp_ hk_ hb_; have n0_ := Aside0.mk n_; clear HS n_; have HS := n0_; clear n0_; skip)
      go_upto_region 17 with (go_at_call 15; obtain ⟨ok_, hp_, hk_⟩ := sep_use1 HS.out; have hx_ := boxI p pb ah [q, r] _ ok_ 2 (some ⟨r, 0, none⟩) (by decide) (Nat.le_of_ble_eq_true rfl) rfl hp_; (with_reducible refine Calls.mono hx_ ?_); rintro e w1 ⟨rfl, hb_⟩; have n_ := sep_below HS.out hb_; clear hx_ hp_ hk_ hb_; have n0_ := Aside0.mk n_; clear HS n_; have HS := n0_; clear n0_; skip)
      go_wp2_with (first
        | (go_at_call 16; have hx_ := box_IP q 5 _ (box_cells (sep_l1 HS.out)).2.2.1; (with_reducible refine Calls.mono hx_ ?_); rintro e w1 ⟨rfl, hb_⟩; have n_ := sep_below HS.out hb_; clear hx_ hb_; have n0_ := Aside0.mk n_; clear HS n_; have HS := n0_; clear n0_)
        | (go_at_call 16; have hx_ := box_IP r 6 _ (box_cells (sep_l2 HS.out)).2.2.1; (with_reducible refine Calls.mono hx_ ?_); rintro e w1 ⟨rfl, hb_⟩; have n_ := sep_below HS.out hb_; clear hx_ hb_; have n0_ := Aside0.mk n_; clear HS n_; have HS := n0_; clear n0_)
        | fail)
      go_ret
      exact ⟨rfl, sep_below_of HS.out⟩
    by_cases h11 : i = 11
    · skip
      subst h11
      go_upto_region 10 with (go_at_call 13; obtain ⟨ok_, hp_, hk_⟩ := sep_use2 (sep_l1 (sep_fold (sep_l2 (sep_l2 HS.out)))); have hx_ := taken_A p pb ah [q, r] _ ok_ 1 11 [5, 6] q (boxA q (bq 5) ⋆ boxA r (bq 6)) (by decide) (Nat.le_of_ble_eq_true rfl) rfl rfl (by decide +kernel) (ips_two q r (bq 5) (bq 6)) hp_; (with_reducible refine Calls.mono hx_ ?_); rintro e w1 ⟨rfl, hb_⟩; have n_ := sep_below HS.out hb_; clear hx_ hp_ hk_ hb_; have n0_ := Aside0.mk n_; clear HS n_; have HS := n0_; clear n0_; skip)
      go_upto_region 16 with (go_at_call 15; obtain ⟨ok_, hp_, hk_⟩ := sep_use1 HS.out; have hx_ := boxI p pb ah [q, r] _ ok_ 1 (some ⟨q, 0, none⟩) (by decide) (Nat.le_of_ble_eq_true rfl) rfl hp_; (with_reducible refine Calls.mono hx_ ?_); rintro e w1 ⟨rfl, hb_⟩; have n_ := sep_below HS.out hb_; clear hx_ hp_ hk_ hb_; have n0_ := Aside0.mk n_; clear HS n_; have HS := n0_; clear n0_; skip)
      go_upto_region 17 with (go_at_call 15; obtain ⟨ok_, hp_, hk_⟩ := sep_use1 HS.out; have hx_ := boxI p pb ah [q, r] _ ok_ 2 (some ⟨r, 0, none⟩) (by decide) (Nat.le_of_ble_eq_true rfl) rfl hp_; (with_reducible refine Calls.mono hx_ ?_); rintro e w1 ⟨rfl, hb_⟩; have n_ := sep_below HS.out hb_; clear hx_ hp_ hk_ hb_; have n0_ := Aside0.mk n_; clear HS n_; have HS := n0_; clear n0_; skip)
      go_wp2_with (first
        | (go_at_call 16; have hx_ := box_IP q 5 _ (box_cells (sep_l1 HS.out)).2.2.1; (with_reducible refine Calls.mono hx_ ?_); rintro e w1 ⟨rfl, hb_⟩; have n_ := sep_below HS.out hb_; clear hx_ hb_; have n0_ := Aside0.mk n_; clear HS n_; have HS := n0_; clear n0_)
        | (go_at_call 16; have hx_ := box_IP r 6 _ (box_cells (sep_l2 HS.out)).2.2.1; (with_reducible refine Calls.mono hx_ ?_); rintro e w1 ⟨rfl, hb_⟩; have n_ := sep_below HS.out hb_; clear hx_ hb_; have n0_ := Aside0.mk n_; clear HS n_; have HS := n0_; clear n0_)
        | fail)
      go_ret
      exact ⟨rfl, sep_below_of HS.out⟩
    by_cases h6 : i = 6
    · skip
      subst h6
      go_upto_region 10 with (go_at_call 13; obtain ⟨ok_, hp_, hk_⟩ := sep_use2 (sep_l1 (sep_fold (sep_l2 (sep_l2 HS.out)))); have hx_ := taken_A p pb ah [q, r] _ ok_ 1 6 [5, 6] q (boxA q (bq 5) ⋆ boxA r (bq 6)) (by decide) (Nat.le_of_ble_eq_true rfl) rfl rfl (by decide +kernel) (ips_two q r (bq 5) (bq 6)) hp_; (with_reducible refine Calls.mono hx_ ?_); rintro e w1 ⟨rfl, hb_⟩; have n_ := sep_below HS.out hb_; clear hx_ hp_ hk_ hb_; have n0_ := Aside0.mk n_; clear HS n_; have HS := n0_; clear n0_; skip)
      go_upto_region 16 with (go_at_call 15; obtain ⟨ok_, hp_, hk_⟩ := sep_use1 HS.out; have hx_ := boxI p pb ah [q, r] _ ok_ 1 (some ⟨q, 0, none⟩) (by decide) (Nat.le_of_ble_eq_true rfl) rfl hp_; (with_reducible refine Calls.mono hx_ ?_); rintro e w1 ⟨rfl, hb_⟩; have n_ := sep_below HS.out hb_; clear hx_ hp_ hk_ hb_; have n0_ := Aside0.mk n_; clear HS n_; have HS := n0_; clear n0_; skip)
      go_upto_region 17 with (go_at_call 15; obtain ⟨ok_, hp_, hk_⟩ := sep_use1 HS.out; have hx_ := boxI p pb ah [q, r] _ ok_ 2 (some ⟨r, 0, none⟩) (by decide) (Nat.le_of_ble_eq_true rfl) rfl hp_; (with_reducible refine Calls.mono hx_ ?_); rintro e w1 ⟨rfl, hb_⟩; have n_ := sep_below HS.out hb_; clear hx_ hp_ hk_ hb_; have n0_ := Aside0.mk n_; clear HS n_; have HS := n0_; clear n0_; skip)
      go_wp2_with (first
        | (go_at_call 16; have hx_ := box_IP q 5 _ (box_cells (sep_l1 HS.out)).2.2.1; (with_reducible refine Calls.mono hx_ ?_); rintro e w1 ⟨rfl, hb_⟩; have n_ := sep_below HS.out hb_; clear hx_ hb_; have n0_ := Aside0.mk n_; clear HS n_; have HS := n0_; clear n0_)
        | (go_at_call 16; have hx_ := box_IP r 6 _ (box_cells (sep_l2 HS.out)).2.2.1; (with_reducible refine Calls.mono hx_ ?_); rintro e w1 ⟨rfl, hb_⟩; have n_ := sep_below HS.out hb_; clear hx_ hb_; have n0_ := Aside0.mk n_; clear HS n_; have HS := n0_; clear n0_)
        | fail)
      go_ret
      exact ⟨rfl, sep_below_of HS.out⟩
    by_cases h5 : i = 5
    · subst h5
      go_upto_region 10 with (go_at_call 13; obtain ⟨ok_, hp_, hk_⟩ := sep_use3 HS.out; have hx_ := rebind_ok p pb 1 5 [q, r] [5, 6] ah q (bq 5) (boxA r (bq 6)) _ ok_ (by decide) (Nat.le_of_ble_eq_true rfl) rfl rfl (own_1 5 (by decide)) (ins_no 5 (by decide) (by decide) (by decide)) (by decide) (ips_two q r (bq 5) (bq 6)) hp_; (with_reducible refine Calls.mono hx_ ?_); rintro e w1 ⟨rfl, hq_⟩; have n_ := back3 hk_ hq_; clear hx_ hp_ hk_ hq_; have n0_ := Aside0.mk n_; clear HS n_; have HS := n0_; clear n0_; skip)
      go_upto_region 16 with (go_at_call 15; obtain ⟨ok_, hp_, hk_⟩ := sep_use1 HS.out; have hx_ := boxI p pb ah [q, r] _ ok_ 1 (some ⟨q, 0, none⟩) (by decide) (Nat.le_of_ble_eq_true rfl) rfl hp_; (with_reducible refine Calls.mono hx_ ?_); rintro e w1 ⟨rfl, hb_⟩; have n_ := sep_below HS.out hb_; clear hx_ hp_ hk_ hb_; have n0_ := Aside0.mk n_; clear HS n_; have HS := n0_; clear n0_; skip)
      go_upto_region 17 with (go_at_call 15; obtain ⟨ok_, hp_, hk_⟩ := sep_use1 HS.out; have hx_ := boxI p pb ah [q, r] _ ok_ 2 (some ⟨r, 0, none⟩) (by decide) (Nat.le_of_ble_eq_true rfl) rfl hp_; (with_reducible refine Calls.mono hx_ ?_); rintro e w1 ⟨rfl, hb_⟩; have n_ := sep_below HS.out hb_; clear hx_ hp_ hk_ hb_; have n0_ := Aside0.mk n_; clear HS n_; have HS := n0_; clear n0_; skip)
      go_wp2_with (first
        | (go_at_call 16; have hx_ := box_IP q 5 _ (box_cells (sep_l1 HS.out)).2.2.1; (with_reducible refine Calls.mono hx_ ?_); rintro e w1 ⟨rfl, hb_⟩; have n_ := sep_below HS.out hb_; clear hx_ hb_; have n0_ := Aside0.mk n_; clear HS n_; have HS := n0_; clear n0_)
        | (go_at_call 16; have hx_ := box_IP r 6 _ (box_cells (sep_l2 HS.out)).2.2.1; (with_reducible refine Calls.mono hx_ ?_); rintro e w1 ⟨rfl, hb_⟩; have n_ := sep_below HS.out hb_; clear hx_ hb_; have n0_ := Aside0.mk n_; clear HS n_; have HS := n0_; clear n0_)
        | fail)
      go_ret
      exact ⟨rfl, sep_below_of HS.out⟩
    have HN := Aside0.mk (And.intro (own_1 i h6) (And.intro (ins_no i h1 h10 h11) h0))
    have e0 : (i == 0) = false := beq_eq_false_iff_ne.2 h0; have e0' := eq_false h0
    have e1 : (i == 1) = false := beq_eq_false_iff_ne.2 h1; have e1' := eq_false h1
    have e10 : (i == 10) = false := beq_eq_false_iff_ne.2 h10; have e10' := eq_false h10
    have e11 : (i == 11) = false := beq_eq_false_iff_ne.2 h11; have e11' := eq_false h11
    have e6 : (i == 6) = false := beq_eq_false_iff_ne.2 h6; have e6' := eq_false h6
    have e5 : (i == 5) = false := beq_eq_false_iff_ne.2 h5; have e5' := eq_false h5
    clear h0 h1 h10 h11 h6 h5
    go_upto_region 10 with (go_at_call 13; obtain ⟨ok_, hp_, hk_⟩ := sep_use3 HS.out; have hx_ := rebind_ok p pb 1 i [q, r] [5, 6] ah q (bq 5) (boxA r (bq 6)) _ ok_ (by decide) (Nat.le_of_ble_eq_true rfl) rfl rfl HN.out.1 HN.out.2.1 HN.out.2.2 (ips_two q r (bq 5) (bq 6)) hp_; (with_reducible refine Calls.mono hx_ ?_); rintro e w1 ⟨rfl, hq_⟩; have n_ := back3 hk_ hq_; clear hx_ hp_ hk_ hq_; have n0_ := Aside0.mk n_; clear HS n_; have HS := n0_; clear n0_; skip)
    go_upto_region 16 with (go_at_call 15; obtain ⟨ok_, hp_, hk_⟩ := sep_use1 HS.out; have hx_ := boxI p pb ah [q, r] _ ok_ 1 (some ⟨q, 0, none⟩) (by decide) (Nat.le_of_ble_eq_true rfl) rfl hp_; (with_reducible refine Calls.mono hx_ ?_); rintro e w1 ⟨rfl, hb_⟩; have n_ := sep_below HS.out hb_; clear hx_ hp_ hk_ hb_; have n0_ := Aside0.mk n_; clear HS n_; have HS := n0_; clear n0_; skip)
    go_upto_region 17 with (go_at_call 15; obtain ⟨ok_, hp_, hk_⟩ := sep_use1 HS.out; have hx_ := boxI p pb ah [q, r] _ ok_ 2 (some ⟨r, 0, none⟩) (by decide) (Nat.le_of_ble_eq_true rfl) rfl hp_; (with_reducible refine Calls.mono hx_ ?_); rintro e w1 ⟨rfl, hb_⟩; have n_ := sep_below HS.out hb_; clear hx_ hp_ hk_ hb_; have n0_ := Aside0.mk n_; clear HS n_; have HS := n0_; clear n0_; skip)
    go_wp2_with (first
      | (go_at_call 16; have hx_ := box_IP q i _ (box_cells (sep_l1 HS.out)).2.2.1; (with_reducible refine Calls.mono hx_ ?_); rintro e w1 ⟨rfl, hb_⟩; have n_ := sep_below HS.out hb_; clear hx_ hb_; have n0_ := Aside0.mk n_; clear HS n_; have HS := n0_; clear n0_)
      | (go_at_call 16; have hx_ := box_IP r 6 _ (box_cells (sep_l2 HS.out)).2.2.1; (with_reducible refine Calls.mono hx_ ?_); rintro e w1 ⟨rfl, hb_⟩; have n_ := sep_below HS.out hb_; clear hx_ hb_; have n0_ := Aside0.mk n_; clear HS n_; have HS := n0_; clear n0_)
      | fail)
    go_ret
    exact ⟨rfl, sep_below_of HS.out⟩
  · by_cases h0 : i = 0
    · skip
      subst h0
      have n_ := sep_l1 (sep_l2 HS.out)
      have n0_ := Aside0.mk n_; clear HS n_; have HS := n0_; clear n0_
      go_upto_region 10 with (go_at_call 13; obtain ⟨ok_, hp_, hk_⟩ := sep_use3 HS.out; have hx_ := rebind_zero p pb 2 [q, r] [5, 6] ah r (bq 6) (boxA q (bq 5)) _ ok_ (by decide) (Nat.le_of_ble_eq_true rfl) rfl rfl rfl rfl (ips_two' q r (bq 5) (bq 6)) hp_; (with_reducible refine Calls.mono hx_ ?_); rintro e w1 ⟨rfl, hq_⟩; have n_ := back3 hk_ hq_; clear hx_ hp_ hk_ hq_; have n0_ := Aside0.mk n_; clear HS n_; have HS := n0_; clear n0_; skip)
      have n_ := sep_l1 (sep_l2 HS.out)
      have n0_ := Aside0.mk n_; clear HS n_; have HS := n0_; clear n0_
      go_upto_region 16 with (go_at_call 15; obtain ⟨ok_, hp_, hk_⟩ := sep_use1 HS.out; have hx_ := boxI p pb ah [q, r] _ ok_ 1 (some ⟨q, 0, none⟩) (by decide) (Nat.le_of_ble_eq_true rfl) rfl hp_; (with_reducible refine Calls.mono hx_ ?_); rintro e w1 ⟨rfl, hb_⟩; have n_ := sep_below HS.out hb_; clear hx_ hp_ hk_ hb_; have n0_ := Aside0.mk n_; clear HS n_; have HS := n0_; clear n0_; skip)
      go_upto_region 17 with (go_at_call 15; obtain ⟨ok_, hp_, hk_⟩ := sep_use1 HS.out; have hx_ := boxI p pb ah [q, r] _ ok_ 2 (some ⟨r, 0, none⟩) (by decide) (Nat.le_of_ble_eq_true rfl) rfl hp_; (with_reducible refine Calls.mono hx_ ?_); rintro e w1 ⟨rfl, hb_⟩; have n_ := sep_below HS.out hb_; clear hx_ hp_ hk_ hb_; have n0_ := Aside0.mk n_; clear HS n_; have HS := n0_; clear n0_; skip)
      go_wp2_with (first
        | (go_at_call 16; have hx_ := box_IP q 5 _ (box_cells (sep_l1 HS.out)).2.2.1; (with_reducible refine Calls.mono hx_ ?_); rintro e w1 ⟨rfl, hb_⟩; have n_ := sep_below HS.out hb_; clear hx_ hb_; have n0_ := Aside0.mk n_; clear HS n_; have HS := n0_; clear n0_)
        | (go_at_call 16; have hx_ := box_IP r 6 _ (box_cells (sep_l2 HS.out)).2.2.1; (with_reducible refine Calls.mono hx_ ?_); rintro e w1 ⟨rfl, hb_⟩; have n_ := sep_below HS.out hb_; clear hx_ hb_; have n0_ := Aside0.mk n_; clear HS n_; have HS := n0_; clear n0_)
        | fail)
      go_ret
      exact ⟨rfl, sep_below_of HS.out⟩
    by_cases h1 : i = 1
    · skip
      subst h1
      go_upto_region 10 with (go_at_call 13; obtain ⟨ok_, hp_, hk_⟩ := sep_use2 (sep_l1 (sep_fold (sep_l2 (sep_l2 HS.out)))); have hx_ := taken_A p pb ah [q, r] _ ok_ 2 1 [5, 6] r (boxA q (bq 5) ⋆ boxA r (bq 6)) (by decide) (Nat.le_of_ble_eq_true rfl) rfl rfl (by decide +kernel) (ips_two q r (bq 5) (bq 6)) hp_; (with_reducible refine Calls.mono hx_ ?_); rintro e w1 ⟨rfl, hb_⟩; have n_ := sep_below HS.out hb_; clear hx_ hp_ hk_ hb_; have n0_ := Aside0.mk n_; clear HS n_; have HS := n0_; clear n0_; skip)
      go_upto_region 16 with (go_at_call 15; obtain ⟨ok_, hp_, hk_⟩ := sep_use1 HS.out; have hx_ := boxI p pb ah [q, r] _ ok_ 1 (some ⟨q, 0, none⟩) (by decide) (Nat.le_of_ble_eq_true rfl) rfl hp_; (with_reducible refine Calls.mono hx_ ?_); rintro e w1 ⟨rfl, hb_⟩; have n_ := sep_below HS.out hb_; clear hx_ hp_ hk_ hb_; have n0_ := Aside0.mk n_; clear HS n_; have HS := n0_; clear n0_; skip)
      go_upto_region 17 with (go_at_call 15; obtain ⟨ok_, hp_, hk_⟩ := sep_use1 HS.out; have hx_ := boxI p pb ah [q, r] _ ok_ 2 (some ⟨r, 0, none⟩) (by decide) (Nat.le_of_ble_eq_true rfl) rfl hp_; (with_reducible refine Calls.mono hx_ ?_); rintro e w1 ⟨rfl, hb_⟩; have n_ := sep_below HS.out hb_; clear hx_ hp_ hk_ hb_; have n0_ := Aside0.mk n_; clear HS n_; have HS := n0_; clear n0_; skip)
      go_wp2_with (first
        | (go_at_call 16; have hx_ := box_IP q 5 _ (box_cells (sep_l1 HS.out)).2.2.1; (with_reducible refine Calls.mono hx_ ?_); rintro e w1 ⟨rfl, hb_⟩; have n_ := sep_below HS.out hb_; clear hx_ hb_; have n0_ := Aside0.mk n_; clear HS n_; have HS := n0_; clear n0_)
        | (go_at_call 16; have hx_ := box_IP r 6 _ (box_cells (sep_l2 HS.out)).2.2.1; (with_reducible refine Calls.mono hx_ ?_); rintro e w1 ⟨rfl, hb_⟩; have n_ := sep_below HS.out hb_; clear hx_ hb_; have n0_ := Aside0.mk n_; clear HS n_; have HS := n0_; clear n0_)
        | fail)
      go_ret
      exact ⟨rfl, sep_below_of HS.out⟩
    by_cases h10 : i = 10
    · skip
      subst h10
      go_upto_region 10 with (go_at_call 13; obtain ⟨ok_, hp_, hk_⟩ := sep_use2 (sep_l1 (sep_fold (sep_l2 (sep_l2 HS.out)))); have hx_ := taken_A p pb ah [q, r] _ ok_ 2 10 [5, 6] r (boxA q (bq 5) ⋆ boxA r (bq 6)) (by decide) (Nat.le_of_ble_eq_true rfl) rfl rfl (by decide +kernel) (ips_two q r (bq 5) (bq 6)) hp_; (with_reducible refine Calls.mono hx_ ?_); rintro e w1 ⟨rfl, hb_⟩; have n_ := sep_below HS.out hb_; clear hx_ hp_ hk_ hb_; have n0_ := Aside0.mk n_; clear HS n_; have HS := n0_; clear n0_; skip)
      go_upto_region 16 with (go_at_call 15; obtain ⟨ok_, hp_, hk_⟩ := sep_use1 HS.out; have hx_ := boxI p pb ah [q, r] _ ok_ 1 (some ⟨q, 0, none⟩) (by decide) (Nat.le_of_ble_eq_true rfl) rfl hp_; (with_reducible refine Calls.mono hx_ ?_); rintro e w1 ⟨rfl, hb_⟩; have n_ := sep_below HS.out hb_; clear hx_ hp_ hk_ hb_; have n0_ := Aside0.mk n_; clear HS n_; have HS := n0_; clear n0_; skip)
      go_upto_region 17 with (go_at_call 15; obtain ⟨ok_, hp_, hk_⟩ := sep_use1 HS.out; have hx_ := boxI p pb ah [q, r] _ ok_ 2 (some ⟨r, 0, none⟩) (by decide) (Nat.le_of_ble_eq_true rfl) rfl hp_; (with_reducible refine Calls.mono hx_ ?_); rintro e w1 ⟨rfl, hb_⟩; have n_ := sep_below HS.out hb_; clear hx_ hp_ hk_ hb_; have n0_ := Aside0.mk n_; clear HS n_; have HS := n0_; clear n0_; skip)
      go_wp2_with (first
        | (go_at_call 16; have hx_ := box_IP q 5 _ (box_cells (sep_l1 HS.out)).2.2.1; (with_reducible refine Calls.mono hx_ ?_); rintro e w1 ⟨rfl, hb_⟩; have n_ := sep_below HS.out hb_; clear hx_ hb_; have n0_ := Aside0.mk n_; clear HS n_; have HS := n0_; clear n0_)
        | (go_at_call 16; have hx_ := box_IP r 6 _ (box_cells (sep_l2 HS.out)).2.2.1; (with_reducible refine Calls.mono hx_ ?_); rintro e w1 ⟨rfl, hb_⟩; have n_ := sep_below HS.out hb_; clear hx_ hb_; have n0_ := Aside0.mk n_; clear HS n_; have HS := n0_; clear n0_)
        | fail)
      go_ret
      exact ⟨rfl, sep_below_of HS.out⟩
    by_cases h11 : i = 11
    · skip
      subst h11
      go_upto_region 10 with (go_at_call 13; obtain ⟨ok_, hp_, hk_⟩ := sep_use2 (sep_l1 (sep_fold (sep_l2 (sep_l2 HS.out)))); have hx_ := taken_A p pb ah [q, r] _ ok_ 2 11 [5, 6] r (boxA q (bq 5) ⋆ boxA r (bq 6)) (by decide) (Nat.le_of_ble_eq_true rfl) rfl rfl (by decide +kernel) (ips_two q r (bq 5) (bq 6)) hp_; (with_reducible refine Calls.mono hx_ ?_); rintro e w1 ⟨rfl, hb_⟩; have n_ := sep_below HS.out hb_; clear hx_ hp_ hk_ hb_; have n0_ := Aside0.mk n_; clear HS n_; have HS := n0_; clear n0_; skip)
      go_upto_region 16 with (go_at_call 15; obtain ⟨ok_, hp_, hk_⟩ := sep_use1 HS.out; have hx_ := boxI p pb ah [q, r] _ ok_ 1 (some ⟨q, 0, none⟩) (by decide) (Nat.le_of_ble_eq_true rfl) rfl hp_; (with_reducible refine Calls.mono hx_ ?_); rintro e w1 ⟨rfl, hb_⟩; have n_ := sep_below HS.out hb_; clear hx_ hp_ hk_ hb_; have n0_ := Aside0.mk n_; clear HS n_; have HS := n0_; clear n0_; skip)
      go_upto_region 17 with (go_at_call 15; obtain ⟨ok_, hp_, hk_⟩ := sep_use1 HS.out; have hx_ := boxI p pb ah [q, r] _ ok_ 2 (some ⟨r, 0, none⟩) (by decide) (Nat.le_of_ble_eq_true rfl) rfl hp_; (with_reducible refine Calls.mono hx_ ?_); rintro e w1 ⟨rfl, hb_⟩; have n_ := sep_below HS.out hb_; clear hx_ hp_ hk_ hb_; have n0_ := Aside0.mk n_; clear HS n_; have HS := n0_; clear n0_; skip)
      go_wp2_with (first
        | (go_at_call 16; have hx_ := box_IP q 5 _ (box_cells (sep_l1 HS.out)).2.2.1; (with_reducible refine Calls.mono hx_ ?_); rintro e w1 ⟨rfl, hb_⟩; have n_ := sep_below HS.out hb_; clear hx_ hb_; have n0_ := Aside0.mk n_; clear HS n_; have HS := n0_; clear n0_)
        | (go_at_call 16; have hx_ := box_IP r 6 _ (box_cells (sep_l2 HS.out)).2.2.1; (with_reducible refine Calls.mono hx_ ?_); rintro e w1 ⟨rfl, hb_⟩; have n_ := sep_below HS.out hb_; clear hx_ hb_; have n0_ := Aside0.mk n_; clear HS n_; have HS := n0_; clear n0_)
        | fail)
      go_ret
      exact ⟨rfl, sep_below_of HS.out⟩
    by_cases h5 : i = 5
    · skip
      subst h5
      go_upto_region 10 with (go_at_call 13; obtain ⟨ok_, hp_, hk_⟩ := sep_use2 (sep_l1 (sep_fold (sep_l2 (sep_l2 HS.out)))); have hx_ := taken_A p pb ah [q, r] _ ok_ 2 5 [5, 6] r (boxA q (bq 5) ⋆ boxA r (bq 6)) (by decide) (Nat.le_of_ble_eq_true rfl) rfl rfl (by decide +kernel) (ips_two q r (bq 5) (bq 6)) hp_; (with_reducible refine Calls.mono hx_ ?_); rintro e w1 ⟨rfl, hb_⟩; have n_ := sep_below HS.out hb_; clear hx_ hp_ hk_ hb_; have n0_ := Aside0.mk n_; clear HS n_; have HS := n0_; clear n0_; skip)
      go_upto_region 16 with (go_at_call 15; obtain ⟨ok_, hp_, hk_⟩ := sep_use1 HS.out; have hx_ := boxI p pb ah [q, r] _ ok_ 1 (some ⟨q, 0, none⟩) (by decide) (Nat.le_of_ble_eq_true rfl) rfl hp_; (with_reducible refine Calls.mono hx_ ?_); rintro e w1 ⟨rfl, hb_⟩; have n_ := sep_below HS.out hb_; clear hx_ hp_ hk_ hb_; have n0_ := Aside0.mk n_; clear HS n_; have HS := n0_; clear n0_; skip)
      go_upto_region 17 with (go_at_call 15; obtain ⟨ok_, hp_, hk_⟩ := sep_use1 HS.out; have hx_ := boxI p pb ah [q, r] _ ok_ 2 (some ⟨r, 0, none⟩) (by decide) (Nat.le_of_ble_eq_true rfl) rfl hp_; (with_reducible refine Calls.mono hx_ ?_); rintro e w1 ⟨rfl, hb_⟩; have n_ := sep_below HS.out hb_; clear hx_ hp_ hk_ hb_; have n0_ := Aside0.mk n_; clear HS n_; have HS := n0_; clear n0_; skip)
      go_wp2_with (first
        | (go_at_call 16; have hx_ := box_IP q 5 _ (box_cells (sep_l1 HS.out)).2.2.1; (with_reducible refine Calls.mono hx_ ?_); rintro e w1 ⟨rfl, hb_⟩; have n_ := sep_below HS.out hb_; clear hx_ hb_; have n0_ := Aside0.mk n_; clear HS n_; have HS := n0_; clear n0_)
        | (go_at_call 16; have hx_ := box_IP r 6 _ (box_cells (sep_l2 HS.out)).2.2.1; (with_reducible refine Calls.mono hx_ ?_); rintro e w1 ⟨rfl, hb_⟩; have n_ := sep_below HS.out hb_; clear hx_ hb_; have n0_ := Aside0.mk n_; clear HS n_; have HS := n0_; clear n0_)
        | fail)
      go_ret
      exact ⟨rfl, sep_below_of HS.out⟩
    by_cases h6 : i = 6
    · subst h6
      have n_ := sep_l1 (sep_l2 HS.out)
      have n0_ := Aside0.mk n_; clear HS n_; have HS := n0_; clear n0_
      go_upto_region 10 with (go_at_call 13; obtain ⟨ok_, hp_, hk_⟩ := sep_use3 HS.out; have hx_ := rebind_ok p pb 2 6 [q, r] [5, 6] ah r (bq 6) (boxA q (bq 5)) _ ok_ (by decide) (Nat.le_of_ble_eq_true rfl) rfl rfl (own_2 6 (by decide)) (ins_no 6 (by decide) (by decide) (by decide)) (by decide) (ips_two' q r (bq 5) (bq 6)) hp_; (with_reducible refine Calls.mono hx_ ?_); rintro e w1 ⟨rfl, hq_⟩; have n_ := back3 hk_ hq_; clear hx_ hp_ hk_ hq_; have n0_ := Aside0.mk n_; clear HS n_; have HS := n0_; clear n0_; skip)
      have n_ := sep_l1 (sep_l2 HS.out)
      have n0_ := Aside0.mk n_; clear HS n_; have HS := n0_; clear n0_
      go_upto_region 16 with (go_at_call 15; obtain ⟨ok_, hp_, hk_⟩ := sep_use1 HS.out; have hx_ := boxI p pb ah [q, r] _ ok_ 1 (some ⟨q, 0, none⟩) (by decide) (Nat.le_of_ble_eq_true rfl) rfl hp_; (with_reducible refine Calls.mono hx_ ?_); rintro e w1 ⟨rfl, hb_⟩; have n_ := sep_below HS.out hb_; clear hx_ hp_ hk_ hb_; have n0_ := Aside0.mk n_; clear HS n_; have HS := n0_; clear n0_; skip)
      go_upto_region 17 with (go_at_call 15; obtain ⟨ok_, hp_, hk_⟩ := sep_use1 HS.out; have hx_ := boxI p pb ah [q, r] _ ok_ 2 (some ⟨r, 0, none⟩) (by decide) (Nat.le_of_ble_eq_true rfl) rfl hp_; (with_reducible refine Calls.mono hx_ ?_); rintro e w1 ⟨rfl, hb_⟩; have n_ := sep_below HS.out hb_; clear hx_ hp_ hk_ hb_; have n0_ := Aside0.mk n_; clear HS n_; have HS := n0_; clear n0_; skip)
      go_wp2_with (first
        | (go_at_call 16; have hx_ := box_IP q 5 _ (box_cells (sep_l1 HS.out)).2.2.1; (with_reducible refine Calls.mono hx_ ?_); rintro e w1 ⟨rfl, hb_⟩; have n_ := sep_below HS.out hb_; clear hx_ hb_; have n0_ := Aside0.mk n_; clear HS n_; have HS := n0_; clear n0_)
        | (go_at_call 16; have hx_ := box_IP r 6 _ (box_cells (sep_l2 HS.out)).2.2.1; (with_reducible refine Calls.mono hx_ ?_); rintro e w1 ⟨rfl, hb_⟩; have n_ := sep_below HS.out hb_; clear hx_ hb_; have n0_ := Aside0.mk n_; clear HS n_; have HS := n0_; clear n0_)
        | fail)
      go_ret
      exact ⟨rfl, sep_below_of HS.out⟩
    have HN := Aside0.mk (And.intro (own_2 i h5) (And.intro (ins_no i h1 h10 h11) h0))
    have e0 : (i == 0) = false := beq_eq_false_iff_ne.2 h0; have e0' := eq_false h0
    have e1 : (i == 1) = false := beq_eq_false_iff_ne.2 h1; have e1' := eq_false h1
    have e10 : (i == 10) = false := beq_eq_false_iff_ne.2 h10; have e10' := eq_false h10
    have e11 : (i == 11) = false := beq_eq_false_iff_ne.2 h11; have e11' := eq_false h11
    have e6 : (i == 6) = false := beq_eq_false_iff_ne.2 h6; have e6' := eq_false h6
    have e5 : (i == 5) = false := beq_eq_false_iff_ne.2 h5; have e5' := eq_false h5
    clear h0 h1 h10 h11 h6 h5
    have n_ := sep_l1 (sep_l2 HS.out)
    have n0_ := Aside0.mk n_; clear HS n_; have HS := n0_; clear n0_
    go_upto_region 10 with (go_at_call 13; obtain ⟨ok_, hp_, hk_⟩ := sep_use3 HS.out; have hx_ := rebind_ok p pb 2 i [q, r] [5, 6] ah r (bq 6) (boxA q (bq 5)) _ ok_ (by decide) (Nat.le_of_ble_eq_true rfl) rfl rfl HN.out.1 HN.out.2.1 HN.out.2.2 (ips_two' q r (bq 5) (bq 6)) hp_; (with_reducible refine Calls.mono hx_ ?_); rintro e w1 ⟨rfl, hq_⟩; have n_ := back3 hk_ hq_; clear hx_ hp_ hk_ hq_; have n0_ := Aside0.mk n_; clear HS n_; have HS := n0_; clear n0_; skip)
    have n_ := sep_l1 (sep_l2 HS.out)
    have n0_ := Aside0.mk n_; clear HS n_; have HS := n0_; clear n0_
    go_upto_region 16 with (go_at_call 15; obtain ⟨ok_, hp_, hk_⟩ := sep_use1 HS.out; have hx_ := boxI p pb ah [q, r] _ ok_ 1 (some ⟨q, 0, none⟩) (by decide) (Nat.le_of_ble_eq_true rfl) rfl hp_; (with_reducible refine Calls.mono hx_ ?_); rintro e w1 ⟨rfl, hb_⟩; have n_ := sep_below HS.out hb_; clear hx_ hp_ hk_ hb_; have n0_ := Aside0.mk n_; clear HS n_; have HS := n0_; clear n0_; skip)
    go_upto_region 17 with (go_at_call 15; obtain ⟨ok_, hp_, hk_⟩ := sep_use1 HS.out; have hx_ := boxI p pb ah [q, r] _ ok_ 2 (some ⟨r, 0, none⟩) (by decide) (Nat.le_of_ble_eq_true rfl) rfl hp_; (with_reducible refine Calls.mono hx_ ?_); rintro e w1 ⟨rfl, hb_⟩; have n_ := sep_below HS.out hb_; clear hx_ hp_ hk_ hb_; have n0_ := Aside0.mk n_; clear HS n_; have HS := n0_; clear n0_; skip)
    go_wp2_with (first
      | (go_at_call 16; have hx_ := box_IP q 5 _ (box_cells (sep_l1 HS.out)).2.2.1; (with_reducible refine Calls.mono hx_ ?_); rintro e w1 ⟨rfl, hb_⟩; have n_ := sep_below HS.out hb_; clear hx_ hb_; have n0_ := Aside0.mk n_; clear HS n_; have HS := n0_; clear n0_)
      | (go_at_call 16; have hx_ := box_IP r i _ (box_cells (sep_l2 HS.out)).2.2.1; (with_reducible refine Calls.mono hx_ ?_); rintro e w1 ⟨rfl, hb_⟩; have n_ := sep_below HS.out hb_; clear hx_ hb_; have n0_ := Aside0.mk n_; clear HS n_; have HS := n0_; clear n0_)
      | fail)
    go_ret
    exact ⟨rfl, sep_below_of HS.out⟩
  · skip
    go_upto_region 10 with (go_at_call 13; obtain ⟨ok_, hp_, hk_⟩ := sep_use1 HS.out; have hx_ := none_A p pb ah [q, r] _ ok_ 3 i (by decide) (Nat.le_of_ble_eq_true rfl) rfl hp_; (with_reducible refine Calls.mono hx_ ?_); rintro e w1 ⟨rfl, hb_⟩; have n_ := sep_below HS.out hb_; clear hx_ hp_ hk_ hb_; have n0_ := Aside0.mk n_; clear HS n_; have HS := n0_; clear n0_; skip)
    go_upto_region 16 with (go_at_call 15; obtain ⟨ok_, hp_, hk_⟩ := sep_use1 HS.out; have hx_ := boxI p pb ah [q, r] _ ok_ 1 (some ⟨q, 0, none⟩) (by decide) (Nat.le_of_ble_eq_true rfl) rfl hp_; (with_reducible refine Calls.mono hx_ ?_); rintro e w1 ⟨rfl, hb_⟩; have n_ := sep_below HS.out hb_; clear hx_ hp_ hk_ hb_; have n0_ := Aside0.mk n_; clear HS n_; have HS := n0_; clear n0_; skip)
    go_upto_region 17 with (go_at_call 15; obtain ⟨ok_, hp_, hk_⟩ := sep_use1 HS.out; have hx_ := boxI p pb ah [q, r] _ ok_ 2 (some ⟨r, 0, none⟩) (by decide) (Nat.le_of_ble_eq_true rfl) rfl hp_; (with_reducible refine Calls.mono hx_ ?_); rintro e w1 ⟨rfl, hb_⟩; have n_ := sep_below HS.out hb_; clear hx_ hp_ hk_ hb_; have n0_ := Aside0.mk n_; clear HS n_; have HS := n0_; clear n0_; skip)
    go_wp2_with (first
      | (go_at_call 16; have hx_ := box_IP q 5 _ (box_cells (sep_l1 HS.out)).2.2.1; (with_reducible refine Calls.mono hx_ ?_); rintro e w1 ⟨rfl, hb_⟩; have n_ := sep_below HS.out hb_; clear hx_ hb_; have n0_ := Aside0.mk n_; clear HS n_; have HS := n0_; clear n0_)
      | (go_at_call 16; have hx_ := box_IP r 6 _ (box_cells (sep_l2 HS.out)).2.2.1; (with_reducible refine Calls.mono hx_ ?_); rintro e w1 ⟨rfl, hb_⟩; have n_ := sep_below HS.out hb_; clear hx_ hb_; have n0_ := Aside0.mk n_; clear HS n_; have HS := n0_; clear n0_)
      | fail)
    go_ret
    exact ⟨rfl, sep_below_of HS.out⟩
end Go.Proofs.Ytobfabfoenldfaa.NW
