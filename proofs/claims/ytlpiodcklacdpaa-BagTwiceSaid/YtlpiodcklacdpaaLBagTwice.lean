/- BagTwice, walked. Conditions: those that the theorem names. -/
import Derived.Test.YtlpiodcklacdpaaLX
namespace Go.Proofs.Ytlpiodcklacdpaa.BG
set_option linter.unusedVariables false
set_option linter.unusedSimpArgs false
open Go Go.RowKit Go.Proofs.YtlpiodcklacdpaaS Go.Proofs.YtlpiodcklacdpaaS.Asn Go.Proofs.Ytlpiodcklacdpaa.PA Go.Proofs.YtlpiodcklacdpaaW.PrintWords Go.Proofs.YtlpiodcklacdpaaW.PrintLast Go.Proofs.YtlpiodcklacdpaaW.PrintMore
theorem tw_find {t : Int} (h : t ≤ 18446744073709551615) : findE [im bm t] 18446744073709551615 0 = (0, 0) := by
  have h1 : rdy [im bm t] 18446744073709551615 = 1 := rdy1 h
  rw [find_one (by decide) (by omega), h1]
  rw [show Int.toNat 0 % 1 = 0 from rfl, pos0 h]
  rfl
theorem tw1 {t : Int} (h : t ≤ 18446744073709551615) : twiceE 3 [im bm t] 0 = 0 := by
  unfold twiceE
  rw [tw_find h, if_pos rfl]
  exact (put_ok (by decide) (by decide) (show (1 : Int) < 3 by decide)).1
theorem tw1L {t : Int} (h : t ≤ 18446744073709551615) : twiceL 3 [im bm t] 0 = [im bm t, im bm t] := by
  unfold twiceL
  rw [tw_find h, if_pos rfl]
  exact (put_ok (by decide) (by decide) (show (1 : Int) < 3 by decide)).2
theorem tw_find2 {t : Int} (h : t ≤ 18446744073709551615) : findE [im bm t, im bm t] 18446744073709551615 1 = (1, 0) := by
  have h1 : rdy [im bm t, im bm t] 18446744073709551615 = 2 := rdy2 h h
  rw [find_one (by decide) (by omega), h1]
  rw [show Int.toNat 1 % 2 = 1 from rfl, pos1 h h]
  rfl
theorem tw2 {t : Int} (h : t ≤ 18446744073709551615) : delayE [im bm t, im bm t] 1 = 0 := by unfold delayE; rw [tw_find2 h]
theorem tw2L {t b : Int} (h : t < 65536) (hb0 : 0 ≤ b) (hb : b < 65536) : delayL [im bm t, im bm t] 1 b = [im bm t, im bm (t + b)] := by
  unfold delayL
  rw [tw_find2 (by omega), if_pos rfl]
  show [im bm t, (im bm t).later b] = _
  have : (im bm t).later b = im bm (t + b) := by
    show im bm (BG.later t b) = _
    have : BG.later t b = t + b := by unfold BG.later latest; omega
    rw [this]
  rw [this]
theorem tw3 {t t' : Int} (h : t ≤ 18446744073709551615) (h' : t' ≤ 18446744073709551615) : awayE [im bm t, im bm t'] 18446744073709551615 0 = (im bm t, 0, [im bm t']) := by
  have h1 : rdy [im bm t, im bm t'] 18446744073709551615 = 2 := rdy2 h h'
  have h2 : findE [im bm t, im bm t'] 18446744073709551615 0 = (0, 0) := by
    rw [find_one (by decide) (by omega), h1, show Int.toNat 0 % 2 = 0 from rfl, pos0 h]
    rfl
  unfold awayE
  rw [h2]
  rfl
set_option maxHeartbeats 4000000 in
theorem twice_walk (a0 a1 : Int) (b2 : Bool) (w : World) (h0 : 0 ≤ a0) (h0' : a0 < 65536) (h1 : 0 ≤ a1) (h1' : a1 < 65536) :
    Calls Try.prog 7 #[.int .u16 a0, .int .u16 a1, .bool b2] w fun e w' => e = .returned (.bool true) ∧ Below w.heap.size w w' := by
  have HS := Aside0.mk (sep_start w)
  have HA := Aside0.mk (And.intro h0 (And.intro h0' (And.intro h1 h1')))
  have E1 := put_ok (room := 3) (l := []) (b := bm) (t := a0) (by decide) (by decide) (by decide)
  have E2 := Aside0.mk (And.intro (tw1 (t := a0) (by omega)) (tw1L (t := a0) (by omega)))
  have E3 := Aside0.mk (And.intro (tw2 (t := a0) (by omega)) (tw2L (t := a0) (b := a1) (by omega) h1 h1'))
  have E4 := Aside0.mk (tw3 (t := a0) (t' := a0 + a1) (by omega) (by omega))
  have H1 := Aside0.mk E1
  have W0 : IntKind.u64.wrap a0 = a0 := by rw [IntKind.wrap_u64]; omega
  have W1 : IntKind.u64.wrap a1 = a1 := by rw [IntKind.wrap_u64]; omega
  have W2 : IntKind.u64.wrap (a0 + a1) = a0 + a1 := by rw [IntKind.wrap_u64]; omega
  clear E1 h0 h0' h1 h1'
  go_enter Try.func7, Try.ntmps7
  go_upto_region 7 with (first | (go_at_call 9; (with_reducible refine Calls.mono (examples_walk _) ?_); rintro e w1 ⟨rfl, hb_⟩; have n_ := sep_below HS.out hb_; clear hb_; have n0_ := Aside0.mk n_; clear HS n_; have HS := n0_; clear n0_) | (go_at_call 10; (with_reducible refine Calls.mono (bag_New 3 _ (by decide) (by decide)) ?_); rintro e w2 ⟨p, rfl, hm_⟩; have n_ := sep_made_of HS.out (sep_only hm_); clear hm_; have n0_ := Aside0.mk n_; clear HS n_; have HS := n0_; clear n0_))
  go_upto_region 8 with (fail)
  have n_ := sep_l1 (sep_alloc HS.out #[.int .u32 1, .int .u16 1, .int .u32 2, .int .u16 2, .string ⟨#[109]⟩, .int .u64 a0] 35)
  have n0_ := Aside0.mk n_; clear HS n_; have HS := n0_; clear n0_
  generalize w2.alloc (.cells #[.int .u32 1, .int .u16 1, .int .u32 2, .int .u16 2, .string ⟨#[109]⟩, .int .u64 a0] 35) = wa at HS ⊢
  generalize w2.heap.size = g10 at HS ⊢
  obtain ⟨k1, k2, k3, k4, k5, k6⟩ := facts6 (sep_l1 HS.out)
  go_upto_region 9 with (go_at_call 11; obtain ⟨ok_, hp_, hk_⟩ := sep_use1 HS.out; have hx_ := bag_PutE p [] 3 (im bm a0) _ ok_ (by decide) hp_; rw [H1.out.1, H1.out.2, bm_val, List.nil_append] at hx_; (with_reducible refine Calls.mono hx_ ?_); rintro e w1 ⟨rfl, hq_⟩; have n_ := back1 hk_ hq_; clear hx_ hp_ hk_ hq_; have n0_ := Aside0.mk n_; clear HS n_; have HS := n0_; clear n0_; clear k1 k2 k3 k4 k5 k6; obtain ⟨k1, k2, k3, k4, k5, k6⟩ := facts6 (sep_l1 HS.out))
  go_upto_region 10 with (go_at_call 22; obtain ⟨ok_, hp_, hk_⟩ := sep_use1 HS.out; have hx_ := bag_Twice p [im bm a0] 3 0 _ ok_ (by decide) (by decide) hp_; rw [E2.out.1, E2.out.2] at hx_; (with_reducible refine Calls.mono hx_ ?_); rintro e w1 ⟨rfl, hq_⟩; have n_ := back1 hk_ hq_; clear hx_ hp_ hk_ hq_; have n0_ := Aside0.mk n_; clear HS n_; have HS := n0_; clear n0_; clear k1 k2 k3 k4 k5 k6; obtain ⟨k1, k2, k3, k4, k5, k6⟩ := facts6 (sep_l1 HS.out))
  go_upto_region 11 with (go_at_call 15; obtain ⟨ok_, hp_, hk_⟩ := sep_use1 HS.out; have hx_ := bag_Delay p [im bm a0, im bm a0] 3 1 a1 _ ok_ (by decide) HA.out.2.2.1 (by intro x hx; simp at hx; subst hx; exact HA.out.1) hp_; rw [E3.out.1, E3.out.2] at hx_; (with_reducible refine Calls.mono hx_ ?_); rintro e w1 ⟨rfl, hq_⟩; have n_ := back1 hk_ hq_; clear hx_ hp_ hk_ hq_; have n0_ := Aside0.mk n_; clear HS n_; have HS := n0_; clear n0_; clear k1 k2 k3 k4 k5 k6; obtain ⟨k1, k2, k3, k4, k5, k6⟩ := facts6 (sep_l1 HS.out))
  have E5 := Aside0.mk (rdy2 (x := im bm a0) (y := im bm (a0 + a1)) (u := a0 + a1) (by have := HA.out; show a0 ≤ a0 + a1; omega) (Int.le_refl _))
  have E6 := Aside0.mk (rdy1 (x := im bm (a0 + a1)) (u := a0 + a1) (Int.le_refl _))
  by_cases hb : a1 = 0
  · obtain ⟨u1, hu1⟩ : ∃ u, IntKind.u64.wrap (a0 + a1 - 1) = u := ⟨_, rfl⟩
    have t1 : decide (a1 = 0) = true := decide_eq_true hb
    have t2 : (a1 == 0) = true := by simpa using hb
    have t3 := eq_true hb
    clear hb
    go_upto_region 13 with (go_at_call 12; obtain ⟨ok_, hp_, hk_⟩ := sep_use1 HS.out; have hx_ := bag_Ready p [im bm a0, im bm (a0 + a1)] 3 u1 _ ok_ hp_; (try rw [E7] at hx_); (with_reducible refine Calls.mono hx_ ?_); rintro e w1 ⟨rfl, hq_⟩; have n_ := back1 hk_ hq_; clear hx_ hp_ hk_ hq_; have n0_ := Aside0.mk n_; clear HS n_; have HS := n0_; clear n0_; clear k1 k2 k3 k4 k5 k6; obtain ⟨k1, k2, k3, k4, k5, k6⟩ := facts6 (sep_l1 HS.out))
    cases b2 with
    | true =>
      go_upto_region 18 with (go_at_call 20; obtain ⟨ok_, hp_, hk_⟩ := sep_use1 HS.out; have hx_ := bag_Drop p [im bm a0, im bm (a0 + a1)] 3 0 _ ok_ (by decide) hp_; rw [E4.out] at hx_; dsimp only at hx_; rw [bm_val] at hx_; (with_reducible refine Calls.mono hx_ ?_); rintro e w1 ⟨rfl, hq_⟩; have n_ := back1 hk_ hq_; clear hx_ hp_ hk_ hq_; have n0_ := Aside0.mk n_; clear HS n_; have HS := n0_; clear n0_; clear k1 k2 k3 k4 k5 k6; obtain ⟨k1, k2, k3, k4, k5, k6⟩ := facts6 (sep_l1 HS.out))
      have n_ := sep_l2 (sep_l2 (sep_alloc HS.out #[.int .u32 1, .int .u16 1, .int .u32 2, .int .u16 2, .string ⟨#[109]⟩, .int .u64 a0] 35))
      have n0_ := Aside0.mk n_; clear HS n_; have HS := n0_; clear n0_
      generalize w1.alloc (.cells #[.int .u32 1, .int .u16 1, .int .u32 2, .int .u16 2, .string ⟨#[109]⟩, .int .u64 a0] 35) = wz at HS ⊢
      generalize w1.heap.size = g17 at HS ⊢
      clear k1 k2 k3 k4 k5 k6; obtain ⟨k1, k2, k3, k4, k5, k6⟩ := facts6 (sep_l1 HS.out)
      obtain ⟨m1, m2, m3, m4, m5, m6⟩ := facts6 (sep_l2 HS.out)
      go_upto_region 20 with (fail)
      clear m1 m2 m3 m4 m5 m6
      go_wp2_with (first | (go_at_call 12; obtain ⟨ok_, hp_, hk_⟩ := sep_use1 HS.out; have hx_ := bag_Ready p [im bm (a0 + a1)] 3 (a0 + a1) _ ok_ hp_; rw [E6.out] at hx_; (with_reducible refine Calls.mono hx_ ?_); rintro e w1 ⟨rfl, hq_⟩; have n_ := back1 hk_ hq_; clear hx_ hp_ hk_ hq_; have n0_ := Aside0.mk n_; clear HS n_; have HS := n0_; clear n0_; clear k1 k2 k3 k4 k5 k6; obtain ⟨k1, k2, k3, k4, k5, k6⟩ := facts6 (sep_l1 HS.out)) | (go_at_call 14; obtain ⟨ok_, hp_, hk_⟩ := sep_use1 HS.out; have hx_ := bag_Len p [im bm (a0 + a1)] 3 _ ok_ hp_; skip; (with_reducible refine Calls.mono hx_ ?_); rintro e w1 ⟨rfl, hq_⟩; have n_ := back1 hk_ hq_; clear hx_ hp_ hk_ hq_; have n0_ := Aside0.mk n_; clear HS n_; have HS := n0_; clear n0_; clear k1 k2 k3 k4 k5 k6; obtain ⟨k1, k2, k3, k4, k5, k6⟩ := facts6 (sep_l1 HS.out)))
      go_ret
      exact ⟨rfl, sep_below_of HS.out⟩
    | false =>
      go_wp2_with (first | (go_at_call 12; obtain ⟨ok_, hp_, hk_⟩ := sep_use1 HS.out; have hx_ := bag_Ready p [im bm a0, im bm (a0 + a1)] 3 (a0 + a1) _ ok_ hp_; rw [E5.out] at hx_; (with_reducible refine Calls.mono hx_ ?_); rintro e w1 ⟨rfl, hq_⟩; have n_ := back1 hk_ hq_; clear hx_ hp_ hk_ hq_; have n0_ := Aside0.mk n_; clear HS n_; have HS := n0_; clear n0_; clear k1 k2 k3 k4 k5 k6; obtain ⟨k1, k2, k3, k4, k5, k6⟩ := facts6 (sep_l1 HS.out)) | (go_at_call 14; obtain ⟨ok_, hp_, hk_⟩ := sep_use1 HS.out; have hx_ := bag_Len p [im bm a0, im bm (a0 + a1)] 3 _ ok_ hp_; skip; (with_reducible refine Calls.mono hx_ ?_); rintro e w1 ⟨rfl, hq_⟩; have n_ := back1 hk_ hq_; clear hx_ hp_ hk_ hq_; have n0_ := Aside0.mk n_; clear HS n_; have HS := n0_; clear n0_; clear k1 k2 k3 k4 k5 k6; obtain ⟨k1, k2, k3, k4, k5, k6⟩ := facts6 (sep_l1 HS.out)))
      go_ret
      exact ⟨rfl, sep_below_of HS.out⟩
  · obtain ⟨u1, hu1⟩ : ∃ u, IntKind.u64.wrap (a0 + a1 - 1) = u := ⟨_, rfl⟩
    have E7 : rdy [im bm a0, im bm (a0 + a1)] u1 = 1 := by
      have := HA.out
      have hu : u1 = a0 + a1 - 1 := by rw [← hu1, IntKind.wrap_u64]; omega
      exact rdy21 (show a0 ≤ u1 by omega) (show ¬ (a0 + a1 ≤ u1) by omega)
    have t1 : decide (a1 = 0) = false := decide_eq_false hb
    have t2 : (a1 == 0) = false := by simpa using hb
    have t3 := eq_false hb
    clear hb
    go_upto_region 13 with (go_at_call 12; obtain ⟨ok_, hp_, hk_⟩ := sep_use1 HS.out; have hx_ := bag_Ready p [im bm a0, im bm (a0 + a1)] 3 u1 _ ok_ hp_; (try rw [E7] at hx_); (with_reducible refine Calls.mono hx_ ?_); rintro e w1 ⟨rfl, hq_⟩; have n_ := back1 hk_ hq_; clear hx_ hp_ hk_ hq_; have n0_ := Aside0.mk n_; clear HS n_; have HS := n0_; clear n0_; clear k1 k2 k3 k4 k5 k6; obtain ⟨k1, k2, k3, k4, k5, k6⟩ := facts6 (sep_l1 HS.out))
    cases b2 with
    | true =>
      go_upto_region 18 with (go_at_call 20; obtain ⟨ok_, hp_, hk_⟩ := sep_use1 HS.out; have hx_ := bag_Drop p [im bm a0, im bm (a0 + a1)] 3 0 _ ok_ (by decide) hp_; rw [E4.out] at hx_; dsimp only at hx_; rw [bm_val] at hx_; (with_reducible refine Calls.mono hx_ ?_); rintro e w1 ⟨rfl, hq_⟩; have n_ := back1 hk_ hq_; clear hx_ hp_ hk_ hq_; have n0_ := Aside0.mk n_; clear HS n_; have HS := n0_; clear n0_; clear k1 k2 k3 k4 k5 k6; obtain ⟨k1, k2, k3, k4, k5, k6⟩ := facts6 (sep_l1 HS.out))
      have n_ := sep_l2 (sep_l2 (sep_alloc HS.out #[.int .u32 1, .int .u16 1, .int .u32 2, .int .u16 2, .string ⟨#[109]⟩, .int .u64 a0] 35))
      have n0_ := Aside0.mk n_; clear HS n_; have HS := n0_; clear n0_
      generalize w1.alloc (.cells #[.int .u32 1, .int .u16 1, .int .u32 2, .int .u16 2, .string ⟨#[109]⟩, .int .u64 a0] 35) = wz at HS ⊢
      generalize w1.heap.size = g17 at HS ⊢
      clear k1 k2 k3 k4 k5 k6; obtain ⟨k1, k2, k3, k4, k5, k6⟩ := facts6 (sep_l1 HS.out)
      obtain ⟨m1, m2, m3, m4, m5, m6⟩ := facts6 (sep_l2 HS.out)
      go_upto_region 20 with (fail)
      clear m1 m2 m3 m4 m5 m6
      go_wp2_with (first | (go_at_call 12; obtain ⟨ok_, hp_, hk_⟩ := sep_use1 HS.out; have hx_ := bag_Ready p [im bm (a0 + a1)] 3 (a0 + a1) _ ok_ hp_; rw [E6.out] at hx_; (with_reducible refine Calls.mono hx_ ?_); rintro e w1 ⟨rfl, hq_⟩; have n_ := back1 hk_ hq_; clear hx_ hp_ hk_ hq_; have n0_ := Aside0.mk n_; clear HS n_; have HS := n0_; clear n0_; clear k1 k2 k3 k4 k5 k6; obtain ⟨k1, k2, k3, k4, k5, k6⟩ := facts6 (sep_l1 HS.out)) | (go_at_call 14; obtain ⟨ok_, hp_, hk_⟩ := sep_use1 HS.out; have hx_ := bag_Len p [im bm (a0 + a1)] 3 _ ok_ hp_; skip; (with_reducible refine Calls.mono hx_ ?_); rintro e w1 ⟨rfl, hq_⟩; have n_ := back1 hk_ hq_; clear hx_ hp_ hk_ hq_; have n0_ := Aside0.mk n_; clear HS n_; have HS := n0_; clear n0_; clear k1 k2 k3 k4 k5 k6; obtain ⟨k1, k2, k3, k4, k5, k6⟩ := facts6 (sep_l1 HS.out)))
      go_ret
      exact ⟨rfl, sep_below_of HS.out⟩
    | false =>
      go_wp2_with (first | (go_at_call 12; obtain ⟨ok_, hp_, hk_⟩ := sep_use1 HS.out; have hx_ := bag_Ready p [im bm a0, im bm (a0 + a1)] 3 (a0 + a1) _ ok_ hp_; rw [E5.out] at hx_; (with_reducible refine Calls.mono hx_ ?_); rintro e w1 ⟨rfl, hq_⟩; have n_ := back1 hk_ hq_; clear hx_ hp_ hk_ hq_; have n0_ := Aside0.mk n_; clear HS n_; have HS := n0_; clear n0_; clear k1 k2 k3 k4 k5 k6; obtain ⟨k1, k2, k3, k4, k5, k6⟩ := facts6 (sep_l1 HS.out)) | (go_at_call 14; obtain ⟨ok_, hp_, hk_⟩ := sep_use1 HS.out; have hx_ := bag_Len p [im bm a0, im bm (a0 + a1)] 3 _ ok_ hp_; skip; (with_reducible refine Calls.mono hx_ ?_); rintro e w1 ⟨rfl, hq_⟩; have n_ := back1 hk_ hq_; clear hx_ hp_ hk_ hq_; have n0_ := Aside0.mk n_; clear HS n_; have HS := n0_; clear n0_; clear k1 k2 k3 k4 k5 k6; obtain ⟨k1, k2, k3, k4, k5, k6⟩ := facts6 (sep_l1 HS.out)))
      go_ret
      exact ⟨rfl, sep_below_of HS.out⟩
end Go.Proofs.Ytlpiodcklacdpaa.BG
