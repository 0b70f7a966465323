/- BagLater, walked. Conditions: those that the theorem names. -/
import Derived.Test.YtlpiodcklacdpaaLX
namespace Go.Proofs.Ytlpiodcklacdpaa.BG
set_option linter.unusedVariables false
set_option linter.unusedSimpArgs false
open Go Go.RowKit Go.Proofs.YtlpiodcklacdpaaS Go.Proofs.YtlpiodcklacdpaaS.Asn Go.Proofs.Ytlpiodcklacdpaa.PA Go.Proofs.YtlpiodcklacdpaaW.PrintWords Go.Proofs.YtlpiodcklacdpaaW.PrintLast Go.Proofs.YtlpiodcklacdpaaW.PrintMore
theorem la_find {t k : Int} (hk : 0 ≤ k) (h : t ≤ 18446744073709551615) : findE [im bm t] 18446744073709551615 k = (0, 0) := by
  have h1 : rdy [im bm t] 18446744073709551615 = 1 := rdy1 h
  rw [find_one hk (by omega), h1, Nat.mod_one, pos0 h]
  rfl
theorem la_del {t b k : Int} (hk : 0 ≤ k) (h : t ≤ 18446744073709551615) : delayE [im bm t] k = 0 ∧ delayL [im bm t] k b = [im bm (BG.later t b)] := by
  unfold delayE delayL
  rw [la_find hk h]
  exact ⟨rfl, rfl⟩
theorem la_neg {t b k : Int} (hk : k < 0) : delayE [im bm t] k = 1 ∧ delayL [im bm t] k b = [im bm t] := by
  unfold delayE delayL findE
  rw [if_pos hk]
  exact ⟨rfl, rfl⟩
theorem rd0 {w0 w : World} {ok0 : Nat → Prop} {F : Asn} {A : Option Addr} {c : Nat} {t : Int} (h : Sep w0 ok0 (row itK 35 (.slice A 1 c) [im bm t] ⋆ F) w) :
    ∃ ad, A = some ad ∧ w.cell? ⟨ad.block, ad.off + 4, none⟩ = some (.string ⟨#[109]⟩) ∧ w.cell? ⟨ad.block, ad.off + 5, none⟩ = some (.int .u64 t) := by
  obtain ⟨ad, hA, h0, h1, h2, h3, h4, h5⟩ := it_at (sep_row' h).2.2 0 (im bm t) rfl
  exact ⟨ad, hA, h4, h5⟩
set_option maxHeartbeats 4000000 in
theorem later_walk (a0 a1 a2 : Int) (w : World) (h0 : 0 ≤ a0) (h1 : 0 ≤ a1) (h2 : a2 ≤ 9223372036854775807) :
    Calls Try.prog 5 #[.int .u64 a0, .int .u64 a1, .int .i64 a2] w fun e w' => e = .returned (.bool true) ∧ Below w.heap.size w w' := by
  have HS := Aside0.mk (sep_start w)
  obtain ⟨x, rfl⟩ := Int.eq_ofNat_of_zero_le h0
  obtain ⟨y, rfl⟩ := Int.eq_ofNat_of_zero_le h1
  obtain ⟨t, ht⟩ : ∃ t : Int, (x : Int) % 2305843009213693952 = t := ⟨_, rfl⟩
  obtain ⟨b, hb⟩ : ∃ b : Int, (y : Int) % 2305843009213693952 = b := ⟨_, rfl⟩
  have HA : Aside0 (0 ≤ t ∧ t < 2305843009213693952 ∧ 0 ≤ b ∧ b < 2305843009213693952) := ⟨by omega⟩
  have E1 := Aside0.mk (put_ok (room := 2) (l := []) (b := bm) (t := t) (by decide) (by decide) (by decide))
  have H2 := Aside0.mk h2
  clear h0 h1 h2
  go_enter Try.func5, Try.ntmps5
  go_upto_region 7 with (first | (go_at_call 9; (with_reducible refine Calls.mono (examples_walk _) ?_); rintro e w1 ⟨rfl, hb_⟩; have n_ := sep_below HS.out hb_; clear hb_; have n0_ := Aside0.mk n_; clear HS n_; have HS := n0_; clear n0_) | (go_at_call 10; (with_reducible refine Calls.mono (bag_New 2 _ (by decide) (by decide)) ?_); rintro e w2 ⟨p, rfl, hm_⟩; have n_ := sep_made_of HS.out (sep_only hm_); clear hm_; have n0_ := Aside0.mk n_; clear HS n_; have HS := n0_; clear n0_))
  go_upto_region 8 with (fail)
  have n_ := sep_l1 (sep_alloc HS.out #[.int .u32 1, .int .u16 1, .int .u32 2, .int .u16 2, .string ⟨#[109]⟩, .int .u64 t] 35)
  have n0_ := Aside0.mk n_; clear HS n_; have HS := n0_; clear n0_
  generalize w2.alloc (.cells #[.int .u32 1, .int .u16 1, .int .u32 2, .int .u16 2, .string ⟨#[109]⟩, .int .u64 t] 35) = wa at HS ⊢
  generalize w2.heap.size = g10 at HS ⊢
  obtain ⟨k1, k2, k3, k4, k5, k6⟩ := facts6 (sep_l1 HS.out)
  go_upto_region 9 with (go_at_call 11; obtain ⟨ok_, hp_, hk_⟩ := sep_use1 HS.out; have hx_ := bag_PutE p [] 2 (im bm t) _ ok_ (by decide) hp_; rw [E1.out.1, E1.out.2, bm_val, List.nil_append] at hx_; (with_reducible refine Calls.mono hx_ ?_); rintro e w1 ⟨rfl, hq_⟩; have n_ := back1 hk_ hq_; clear hx_ hp_ hk_ hq_; have n0_ := Aside0.mk n_; clear HS n_; have HS := n0_; clear n0_; clear k1 k2 k3 k4 k5 k6; obtain ⟨k1, k2, k3, k4, k5, k6⟩ := facts6 (sep_l1 HS.out))
  by_cases hn : a2 < 0
  · have t1 : decide (0 ≤ a2) = false := decide_eq_false (by omega)
    have t2 : (0 ≤ a2) = False := eq_false (by omega)
    have E2 := Aside0.mk (la_neg (t := t) (b := b) hn)
    have E3 := Aside0.mk (la_del (t := t) (b := 9223372036854775808) (k := 0) (by decide) (by have := HA.out; omega))
    have hl : BG.later t 9223372036854775808 = 4611686018427387904 := by have := HA.out; unfold BG.later latest; omega
    rw [hl] at E3
    have H3 := Aside0.mk (And.intro HA.out.1 HA.out.2.1)
    clear hn hl
    go_upto_region 13 with (go_at_call 15; obtain ⟨ok_, hp_, hk_⟩ := sep_use1 HS.out; have hx_ := bag_Delay p [im bm t] 2 a2 b _ ok_ H2.out HA.out.2.2.1 (by intro x hx; simp at hx; subst hx; exact HA.out.1) hp_; rw [E2.out.1, E2.out.2] at hx_; (with_reducible refine Calls.mono hx_ ?_); rintro e w1 ⟨rfl, hq_⟩; have n_ := back1 hk_ hq_; clear hx_ hp_ hk_ hq_; have n0_ := Aside0.mk n_; clear HS n_; have HS := n0_; clear n0_; clear k1 k2 k3 k4 k5 k6; obtain ⟨k1, k2, k3, k4, k5, k6⟩ := facts6 (sep_l1 HS.out))
    go_upto_region 14 with (go_at_call 16; obtain ⟨ok_, hp_, hk_⟩ := sep_use1 HS.out; have hx_ := bag_Items p [im bm t] 2 _ ok_ (show 1 ≤ 1000000 by decide) hp_; (with_reducible refine Calls.mono hx_ ?_); rintro e w1 ⟨v_, rfl, hq_⟩; have n_ := back2 hk_ hq_; clear hx_ hp_ hk_ hq_; obtain ⟨A1, q1, rfl, -, -⟩ := sep_row n_; replace n_ := sep_l2 (sep_l1 n_); replace n_ := sep_l1 n_; have n0_ := Aside0.mk n_; clear HS n_; have HS := n0_; clear n0_; clear k1 k2 k3 k4 k5 k6)
    go_upto_region 15 with (go_at_call 15; obtain ⟨ok_, hp_, hk_⟩ := sep_use1 HS.out; have hx_ := bag_Delay p [im bm t] 2 0 9223372036854775808 _ ok_ (by decide) (by decide) (by intro x hx; simp at hx; subst hx; have := HA.out; show 0 ≤ t; omega) hp_; rw [E3.out.1, E3.out.2] at hx_; (with_reducible refine Calls.mono hx_ ?_); rintro e w1 ⟨rfl, hq_⟩; have n_ := back1 hk_ hq_; clear hx_ hp_ hk_ hq_; have n0_ := Aside0.mk n_; clear HS n_; have HS := n0_; clear n0_)
    go_upto_region 16 with (go_at_call 16; obtain ⟨ok_, hp_, hk_⟩ := sep_use1 HS.out; have hx_ := bag_Items p [im bm 4611686018427387904] 2 _ ok_ (show 1 ≤ 1000000 by decide) hp_; (with_reducible refine Calls.mono hx_ ?_); rintro e w1 ⟨v_, rfl, hq_⟩; have n_ := back2 hk_ hq_; clear hx_ hp_ hk_ hq_; obtain ⟨A2, q2, rfl, -, -⟩ := sep_row n_; have n0_ := Aside0.mk n_; clear HS n_; have HS := n0_; clear n0_)
    obtain ⟨ad1, hA1, m1, m2⟩ := rd0 (sep_l3 HS.out)
    obtain ⟨ad2, hA2, m3, m4⟩ := rd0 HS.out
    subst hA1
    subst hA2
    trace_state
    go_wp2
    go_ret
    exact ⟨rfl, sep_below_of HS.out⟩
  · have t1 : decide (0 ≤ a2) = true := decide_eq_true (by omega)
    have t2 : (0 ≤ a2) = True := eq_true (by omega)
    have E2 := Aside0.mk (la_del (t := t) (b := b) (k := a2) (by omega) (by have := HA.out; omega))
    have hl' : BG.later t b = t + b := by have := HA.out; unfold BG.later latest; omega
    rw [hl'] at E2
    have E3 := Aside0.mk (la_del (t := t + b) (b := 9223372036854775808) (k := 0) (by decide) (by have := HA.out; omega))
    have hl : BG.later (t + b) 9223372036854775808 = 4611686018427387904 := by have := HA.out; unfold BG.later latest; omega
    rw [hl] at E3
    have W1 : IntKind.u64.wrap (t + b) = t + b := by have := HA.out; rw [IntKind.wrap_u64]; omega
    clear hn hl hl'
    go_upto_region 13 with (go_at_call 15; obtain ⟨ok_, hp_, hk_⟩ := sep_use1 HS.out; have hx_ := bag_Delay p [im bm t] 2 a2 b _ ok_ H2.out HA.out.2.2.1 (by intro x hx; simp at hx; subst hx; exact HA.out.1) hp_; rw [E2.out.1, E2.out.2] at hx_; (with_reducible refine Calls.mono hx_ ?_); rintro e w1 ⟨rfl, hq_⟩; have n_ := back1 hk_ hq_; clear hx_ hp_ hk_ hq_; have n0_ := Aside0.mk n_; clear HS n_; have HS := n0_; clear n0_; clear k1 k2 k3 k4 k5 k6; obtain ⟨k1, k2, k3, k4, k5, k6⟩ := facts6 (sep_l1 HS.out))
    go_upto_region 14 with (go_at_call 16; obtain ⟨ok_, hp_, hk_⟩ := sep_use1 HS.out; have hx_ := bag_Items p [im bm (t + b)] 2 _ ok_ (show 1 ≤ 1000000 by decide) hp_; (with_reducible refine Calls.mono hx_ ?_); rintro e w1 ⟨v_, rfl, hq_⟩; have n_ := back2 hk_ hq_; clear hx_ hp_ hk_ hq_; obtain ⟨A1, q1, rfl, -, -⟩ := sep_row n_; replace n_ := sep_l2 (sep_l1 n_); replace n_ := sep_l1 n_; have n0_ := Aside0.mk n_; clear HS n_; have HS := n0_; clear n0_; clear k1 k2 k3 k4 k5 k6)
    go_upto_region 15 with (go_at_call 15; obtain ⟨ok_, hp_, hk_⟩ := sep_use1 HS.out; have hx_ := bag_Delay p [im bm (t + b)] 2 0 9223372036854775808 _ ok_ (by decide) (by decide) (by intro x hx; simp at hx; subst hx; have := HA.out; show 0 ≤ (t + b); omega) hp_; rw [E3.out.1, E3.out.2] at hx_; (with_reducible refine Calls.mono hx_ ?_); rintro e w1 ⟨rfl, hq_⟩; have n_ := back1 hk_ hq_; clear hx_ hp_ hk_ hq_; have n0_ := Aside0.mk n_; clear HS n_; have HS := n0_; clear n0_)
    go_upto_region 16 with (go_at_call 16; obtain ⟨ok_, hp_, hk_⟩ := sep_use1 HS.out; have hx_ := bag_Items p [im bm 4611686018427387904] 2 _ ok_ (show 1 ≤ 1000000 by decide) hp_; (with_reducible refine Calls.mono hx_ ?_); rintro e w1 ⟨v_, rfl, hq_⟩; have n_ := back2 hk_ hq_; clear hx_ hp_ hk_ hq_; obtain ⟨A2, q2, rfl, -, -⟩ := sep_row n_; have n0_ := Aside0.mk n_; clear HS n_; have HS := n0_; clear n0_)
    obtain ⟨ad1, hA1, m1, m2⟩ := rd0 (sep_l3 HS.out)
    obtain ⟨ad2, hA2, m3, m4⟩ := rd0 HS.out
    subst hA1
    subst hA2
    trace_state
    go_wp2
    go_ret
    exact ⟨rfl, sep_below_of HS.out⟩
end Go.Proofs.Ytlpiodcklacdpaa.BG
