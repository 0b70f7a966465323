/- DoubtWrong, walked. Conditions: those that the theorem names. -/
import Derived.Test.YthoppcefadopeaaDX
import Derived.Test.YthoppcefadopeaaDQ
namespace Go.Proofs.Ythoppcefadopeaa.DW
set_option linter.unusedVariables false
set_option linter.unusedSimpArgs false
open Go Go.RowKit Go.Proofs.YthoppcefadopeaaS Go.Proofs.YthoppcefadopeaaS.Asn Go.Proofs.Ythoppcefadopeaa.PA Go.Proofs.YthoppcefadopeaaW.PrintWords Go.Proofs.YthoppcefadopeaaW.PrintLast Go.Proofs.YthoppcefadopeaaW.PrintMore
theorem may_no (id now hold : Int) (h : id < 1 ∨ 32 < id ∨ 4611686018427387904 < now ∨ hold < 1 ∨ 1000000 < hold) (hh : 0 ≤ hold) : mayBegin id now hold = false := by
  rcases h with h | h | h | h | h
  · exact mayB_no id now hold (.inl (node_out (.inl h)))
  · exact mayB_no id now hold (.inl (node_out (.inr h)))
  · exact mayB_no id now hold (.inr (.inl h))
  · exact mayB_no id now hold (.inr (.inr (.inl (by omega))))
  · exact mayB_no id now hold (.inr (.inr (.inr h)))
set_option maxHeartbeats 4000000 in
set_option maxRecDepth 100000 in
theorem wrong_walk (id who now hold : Int) (w : World) (_i0 : -9223372036854775808 ≤ id) (_i1 : id ≤ 9223372036854775807) (_w0 : -9223372036854775808 ≤ who) (_w1 : who ≤ 9223372036854775807) (hn : 0 ≤ now) (_n1 : now < 18446744073709551616) (hh : 0 ≤ hold) (_h1 : hold < 18446744073709551616) :
    Calls Try.prog 7 #[.int .i64 id, .int .i64 who, .int .u64 now, .int .u64 hold] w fun e w' => e = .returned (.bool true) ∧ Below w.heap.size w w' := by
  have HN := Aside0.mk (And.intro hn hh)
  clear _i0 _i1 _w0 _w1 _n1 _h1
  by_cases q1 : id < 1
  · have d1 : decide (id ≥ 1) = false := decide_eq_false (by omega)
    have d2 : decide (1 ≤ id) = false := decide_eq_false (by omega)
    have hm : mayBegin id now hold = false := by exact may_no id now hold (.inl q1) hh
    by_cases v1 : who < 1
    · have e1 : decide (who < 1) = true := decide_eq_true v1
      have hwr := wr_not_bad id who now hold hm (.inl (node_out (.inl v1)))
      clear v1 hm
      obtain ⟨S1, S2, S3, u, hE, hF, hG, hU, hg1, hg2, hg3⟩ := hwr
      have HE := Aside0.mk hE
      have HF := Aside0.mk hF
      have HG := Aside0.mk hG
      have HU := Aside0.mk hU
      have HG1 := Aside0.mk hg1
      have HG2 := Aside0.mk hg2
      have HG3 := Aside0.mk hg3
      clear hE hF hG hU hg1 hg2 hg3 HN
      have HS := Aside0.mk (sep_start w)
      go_enter Try.func7, Try.ntmps7
      go_upto_region 7 with (first | (go_at_call 9; (with_reducible refine Calls.mono (examples_walk _) ?_); rintro e w1 ⟨rfl, hb_⟩; have n_ := sep_below HS.out hb_; clear hb_; have n0_ := Aside0.mk n_; clear HS n_; have HS := n0_; clear n0_) | (go_at_call 10; (with_reducible refine Calls.mono (dt_New _) ?_); rintro e w2 ⟨p, rfl, hm_⟩; have n_ := sep_made_of HS.out (sep_only hm_); clear hm_; have n0_ := Aside0.mk n_; clear HS n_; have HS := n0_; clear n0_))
      go_upto_region 9 with (go_at_call 18; obtain ⟨ok_, hp_, hk_⟩ := sep_use1 HS.out; have hx_ := dt_Begin p (new) (id) (1) (now) (hold) _ ok_ hp_; rw [HE.out] at hx_; dsimp only at hx_; (with_reducible refine Calls.mono hx_ ?_); rintro e w1 ⟨rfl, hq_⟩; have n_ := back1 hk_ hq_; clear hx_ hp_ hk_ hq_; have n0_ := Aside0.mk n_; clear HS n_; have HS := n0_; clear n0_)
      go_upto_region 10 with (go_at_call 11; obtain ⟨ok_, hp_, hk_⟩ := sep_use1 HS.out; have hx_ := dt_Confirm p (S1) (id) (1) (who) _ ok_ (HG1.out) hp_; rw [HF.out] at hx_; dsimp only at hx_; (with_reducible refine Calls.mono hx_ ?_); rintro e w1 ⟨rfl, hq_⟩; have n_ := back1 hk_ hq_; clear hx_ hp_ hk_ hq_; have n0_ := Aside0.mk n_; clear HS n_; have HS := n0_; clear n0_)
      go_upto_region 11 with (go_at_call 11; obtain ⟨ok_, hp_, hk_⟩ := sep_use1 HS.out; have hx_ := dt_Confirm p (S2) (id) (1) (who) _ ok_ (HG2.out) hp_; rw [HG.out] at hx_; dsimp only at hx_; (with_reducible refine Calls.mono hx_ ?_); rintro e w1 ⟨rfl, hq_⟩; have n_ := back1 hk_ hq_; clear hx_ hp_ hk_ hq_; have n0_ := Aside0.mk n_; clear HS n_; have HS := n0_; clear n0_)
      go_wp2_with (go_at_call 20; obtain ⟨ok_, hp_, hk_⟩ := sep_use1 HS.out; have hx_ := dt_Until p (S3) (id) _ ok_ (HG3.out) hp_; rw [HU.out] at hx_; dsimp only at hx_; (with_reducible refine Calls.mono hx_ ?_); rintro e w1 ⟨rfl, hq_⟩; have n_ := back1 hk_ hq_; clear hx_ hp_ hk_ hq_; have n0_ := Aside0.mk n_; clear HS n_; have HS := n0_; clear n0_)
      go_ret
      exact ⟨rfl, sep_below_of HS.out⟩
    · have e1 : decide (who < 1) = false := decide_eq_false v1
      by_cases v2 : 32 < who
      · have e2 : decide (32 < who) = true := decide_eq_true v2
        have e3 : decide (who > 32) = true := decide_eq_true v2
        have hwr := wr_not_bad id who now hold hm (.inl (node_out (.inr v2)))
        clear v1 v2 hm
        obtain ⟨S1, S2, S3, u, hE, hF, hG, hU, hg1, hg2, hg3⟩ := hwr
        have HE := Aside0.mk hE
        have HF := Aside0.mk hF
        have HG := Aside0.mk hG
        have HU := Aside0.mk hU
        have HG1 := Aside0.mk hg1
        have HG2 := Aside0.mk hg2
        have HG3 := Aside0.mk hg3
        clear hE hF hG hU hg1 hg2 hg3 HN
        have HS := Aside0.mk (sep_start w)
        go_enter Try.func7, Try.ntmps7
        go_upto_region 7 with (first | (go_at_call 9; (with_reducible refine Calls.mono (examples_walk _) ?_); rintro e w1 ⟨rfl, hb_⟩; have n_ := sep_below HS.out hb_; clear hb_; have n0_ := Aside0.mk n_; clear HS n_; have HS := n0_; clear n0_) | (go_at_call 10; (with_reducible refine Calls.mono (dt_New _) ?_); rintro e w2 ⟨p, rfl, hm_⟩; have n_ := sep_made_of HS.out (sep_only hm_); clear hm_; have n0_ := Aside0.mk n_; clear HS n_; have HS := n0_; clear n0_))
        go_upto_region 9 with (go_at_call 18; obtain ⟨ok_, hp_, hk_⟩ := sep_use1 HS.out; have hx_ := dt_Begin p (new) (id) (1) (now) (hold) _ ok_ hp_; rw [HE.out] at hx_; dsimp only at hx_; (with_reducible refine Calls.mono hx_ ?_); rintro e w1 ⟨rfl, hq_⟩; have n_ := back1 hk_ hq_; clear hx_ hp_ hk_ hq_; have n0_ := Aside0.mk n_; clear HS n_; have HS := n0_; clear n0_)
        go_upto_region 10 with (go_at_call 11; obtain ⟨ok_, hp_, hk_⟩ := sep_use1 HS.out; have hx_ := dt_Confirm p (S1) (id) (1) (who) _ ok_ (HG1.out) hp_; rw [HF.out] at hx_; dsimp only at hx_; (with_reducible refine Calls.mono hx_ ?_); rintro e w1 ⟨rfl, hq_⟩; have n_ := back1 hk_ hq_; clear hx_ hp_ hk_ hq_; have n0_ := Aside0.mk n_; clear HS n_; have HS := n0_; clear n0_)
        go_upto_region 11 with (go_at_call 11; obtain ⟨ok_, hp_, hk_⟩ := sep_use1 HS.out; have hx_ := dt_Confirm p (S2) (id) (1) (who) _ ok_ (HG2.out) hp_; rw [HG.out] at hx_; dsimp only at hx_; (with_reducible refine Calls.mono hx_ ?_); rintro e w1 ⟨rfl, hq_⟩; have n_ := back1 hk_ hq_; clear hx_ hp_ hk_ hq_; have n0_ := Aside0.mk n_; clear HS n_; have HS := n0_; clear n0_)
        go_wp2_with (go_at_call 20; obtain ⟨ok_, hp_, hk_⟩ := sep_use1 HS.out; have hx_ := dt_Until p (S3) (id) _ ok_ (HG3.out) hp_; rw [HU.out] at hx_; dsimp only at hx_; (with_reducible refine Calls.mono hx_ ?_); rintro e w1 ⟨rfl, hq_⟩; have n_ := back1 hk_ hq_; clear hx_ hp_ hk_ hq_; have n0_ := Aside0.mk n_; clear HS n_; have HS := n0_; clear n0_)
        go_ret
        exact ⟨rfl, sep_below_of HS.out⟩
      · have e2 : decide (32 < who) = false := decide_eq_false v2
        have e3 : decide (who > 32) = false := decide_eq_false v2
        by_cases v3 : who = id
        · have e4 : (who == id) = true := by simpa using v3
          have hwr := wr_not_bad id who now hold hm (.inr v3)
          clear v1 v2 hm v3
          obtain ⟨S1, S2, S3, u, hE, hF, hG, hU, hg1, hg2, hg3⟩ := hwr
          have HE := Aside0.mk hE
          have HF := Aside0.mk hF
          have HG := Aside0.mk hG
          have HU := Aside0.mk hU
          have HG1 := Aside0.mk hg1
          have HG2 := Aside0.mk hg2
          have HG3 := Aside0.mk hg3
          clear hE hF hG hU hg1 hg2 hg3 HN
          have HS := Aside0.mk (sep_start w)
          go_enter Try.func7, Try.ntmps7
          go_upto_region 7 with (first | (go_at_call 9; (with_reducible refine Calls.mono (examples_walk _) ?_); rintro e w1 ⟨rfl, hb_⟩; have n_ := sep_below HS.out hb_; clear hb_; have n0_ := Aside0.mk n_; clear HS n_; have HS := n0_; clear n0_) | (go_at_call 10; (with_reducible refine Calls.mono (dt_New _) ?_); rintro e w2 ⟨p, rfl, hm_⟩; have n_ := sep_made_of HS.out (sep_only hm_); clear hm_; have n0_ := Aside0.mk n_; clear HS n_; have HS := n0_; clear n0_))
          go_upto_region 9 with (go_at_call 18; obtain ⟨ok_, hp_, hk_⟩ := sep_use1 HS.out; have hx_ := dt_Begin p (new) (id) (1) (now) (hold) _ ok_ hp_; rw [HE.out] at hx_; dsimp only at hx_; (with_reducible refine Calls.mono hx_ ?_); rintro e w1 ⟨rfl, hq_⟩; have n_ := back1 hk_ hq_; clear hx_ hp_ hk_ hq_; have n0_ := Aside0.mk n_; clear HS n_; have HS := n0_; clear n0_)
          go_upto_region 10 with (go_at_call 11; obtain ⟨ok_, hp_, hk_⟩ := sep_use1 HS.out; have hx_ := dt_Confirm p (S1) (id) (1) (who) _ ok_ (HG1.out) hp_; rw [HF.out] at hx_; dsimp only at hx_; (with_reducible refine Calls.mono hx_ ?_); rintro e w1 ⟨rfl, hq_⟩; have n_ := back1 hk_ hq_; clear hx_ hp_ hk_ hq_; have n0_ := Aside0.mk n_; clear HS n_; have HS := n0_; clear n0_)
          go_upto_region 11 with (go_at_call 11; obtain ⟨ok_, hp_, hk_⟩ := sep_use1 HS.out; have hx_ := dt_Confirm p (S2) (id) (1) (who) _ ok_ (HG2.out) hp_; rw [HG.out] at hx_; dsimp only at hx_; (with_reducible refine Calls.mono hx_ ?_); rintro e w1 ⟨rfl, hq_⟩; have n_ := back1 hk_ hq_; clear hx_ hp_ hk_ hq_; have n0_ := Aside0.mk n_; clear HS n_; have HS := n0_; clear n0_)
          go_wp2_with (go_at_call 20; obtain ⟨ok_, hp_, hk_⟩ := sep_use1 HS.out; have hx_ := dt_Until p (S3) (id) _ ok_ (HG3.out) hp_; rw [HU.out] at hx_; dsimp only at hx_; (with_reducible refine Calls.mono hx_ ?_); rintro e w1 ⟨rfl, hq_⟩; have n_ := back1 hk_ hq_; clear hx_ hp_ hk_ hq_; have n0_ := Aside0.mk n_; clear HS n_; have HS := n0_; clear n0_)
          go_ret
          exact ⟨rfl, sep_below_of HS.out⟩
        · have e4 : (who == id) = false := by simpa using v3
          have e5 := eq_false v3
          have hwr := wr_not_ok id who now hold hm (node_in (by omega) (by omega)) v3
          clear v1 v2 hm v3
          obtain ⟨S1, S2, S3, u, hE, hF, hG, hU, hg1, hg2, hg3⟩ := hwr
          have HE := Aside0.mk hE
          have HF := Aside0.mk hF
          have HG := Aside0.mk hG
          have HU := Aside0.mk hU
          have HG1 := Aside0.mk hg1
          have HG2 := Aside0.mk hg2
          have HG3 := Aside0.mk hg3
          clear hE hF hG hU hg1 hg2 hg3 HN
          have HS := Aside0.mk (sep_start w)
          go_enter Try.func7, Try.ntmps7
          go_upto_region 7 with (first | (go_at_call 9; (with_reducible refine Calls.mono (examples_walk _) ?_); rintro e w1 ⟨rfl, hb_⟩; have n_ := sep_below HS.out hb_; clear hb_; have n0_ := Aside0.mk n_; clear HS n_; have HS := n0_; clear n0_) | (go_at_call 10; (with_reducible refine Calls.mono (dt_New _) ?_); rintro e w2 ⟨p, rfl, hm_⟩; have n_ := sep_made_of HS.out (sep_only hm_); clear hm_; have n0_ := Aside0.mk n_; clear HS n_; have HS := n0_; clear n0_))
          go_upto_region 9 with (go_at_call 18; obtain ⟨ok_, hp_, hk_⟩ := sep_use1 HS.out; have hx_ := dt_Begin p (new) (id) (1) (now) (hold) _ ok_ hp_; rw [HE.out] at hx_; dsimp only at hx_; (with_reducible refine Calls.mono hx_ ?_); rintro e w1 ⟨rfl, hq_⟩; have n_ := back1 hk_ hq_; clear hx_ hp_ hk_ hq_; have n0_ := Aside0.mk n_; clear HS n_; have HS := n0_; clear n0_)
          go_upto_region 10 with (go_at_call 11; obtain ⟨ok_, hp_, hk_⟩ := sep_use1 HS.out; have hx_ := dt_Confirm p (S1) (id) (1) (who) _ ok_ (HG1.out) hp_; rw [HF.out] at hx_; dsimp only at hx_; (with_reducible refine Calls.mono hx_ ?_); rintro e w1 ⟨rfl, hq_⟩; have n_ := back1 hk_ hq_; clear hx_ hp_ hk_ hq_; have n0_ := Aside0.mk n_; clear HS n_; have HS := n0_; clear n0_)
          go_upto_region 11 with (go_at_call 11; obtain ⟨ok_, hp_, hk_⟩ := sep_use1 HS.out; have hx_ := dt_Confirm p (S2) (id) (1) (who) _ ok_ (HG2.out) hp_; rw [HG.out] at hx_; dsimp only at hx_; (with_reducible refine Calls.mono hx_ ?_); rintro e w1 ⟨rfl, hq_⟩; have n_ := back1 hk_ hq_; clear hx_ hp_ hk_ hq_; have n0_ := Aside0.mk n_; clear HS n_; have HS := n0_; clear n0_)
          go_wp2_with (go_at_call 20; obtain ⟨ok_, hp_, hk_⟩ := sep_use1 HS.out; have hx_ := dt_Until p (S3) (id) _ ok_ (HG3.out) hp_; rw [HU.out] at hx_; dsimp only at hx_; (with_reducible refine Calls.mono hx_ ?_); rintro e w1 ⟨rfl, hq_⟩; have n_ := back1 hk_ hq_; clear hx_ hp_ hk_ hq_; have n0_ := Aside0.mk n_; clear HS n_; have HS := n0_; clear n0_)
          go_ret
          exact ⟨rfl, sep_below_of HS.out⟩
  · have d1 : decide (id ≥ 1) = true := decide_eq_true (by omega)
    have d2 : decide (1 ≤ id) = true := decide_eq_true (by omega)
    by_cases q2 : 32 < id
    · have d3 : decide (id ≤ 32) = false := decide_eq_false (by omega)
      have hm : mayBegin id now hold = false := by exact may_no id now hold (.inr (.inl q2)) hh
      by_cases v1 : who < 1
      · have e1 : decide (who < 1) = true := decide_eq_true v1
        have hwr := wr_not_bad id who now hold hm (.inl (node_out (.inl v1)))
        clear v1 hm
        obtain ⟨S1, S2, S3, u, hE, hF, hG, hU, hg1, hg2, hg3⟩ := hwr
        have HE := Aside0.mk hE
        have HF := Aside0.mk hF
        have HG := Aside0.mk hG
        have HU := Aside0.mk hU
        have HG1 := Aside0.mk hg1
        have HG2 := Aside0.mk hg2
        have HG3 := Aside0.mk hg3
        clear hE hF hG hU hg1 hg2 hg3 HN
        have HS := Aside0.mk (sep_start w)
        go_enter Try.func7, Try.ntmps7
        go_upto_region 7 with (first | (go_at_call 9; (with_reducible refine Calls.mono (examples_walk _) ?_); rintro e w1 ⟨rfl, hb_⟩; have n_ := sep_below HS.out hb_; clear hb_; have n0_ := Aside0.mk n_; clear HS n_; have HS := n0_; clear n0_) | (go_at_call 10; (with_reducible refine Calls.mono (dt_New _) ?_); rintro e w2 ⟨p, rfl, hm_⟩; have n_ := sep_made_of HS.out (sep_only hm_); clear hm_; have n0_ := Aside0.mk n_; clear HS n_; have HS := n0_; clear n0_))
        go_upto_region 9 with (go_at_call 18; obtain ⟨ok_, hp_, hk_⟩ := sep_use1 HS.out; have hx_ := dt_Begin p (new) (id) (1) (now) (hold) _ ok_ hp_; rw [HE.out] at hx_; dsimp only at hx_; (with_reducible refine Calls.mono hx_ ?_); rintro e w1 ⟨rfl, hq_⟩; have n_ := back1 hk_ hq_; clear hx_ hp_ hk_ hq_; have n0_ := Aside0.mk n_; clear HS n_; have HS := n0_; clear n0_)
        go_upto_region 10 with (go_at_call 11; obtain ⟨ok_, hp_, hk_⟩ := sep_use1 HS.out; have hx_ := dt_Confirm p (S1) (id) (1) (who) _ ok_ (HG1.out) hp_; rw [HF.out] at hx_; dsimp only at hx_; (with_reducible refine Calls.mono hx_ ?_); rintro e w1 ⟨rfl, hq_⟩; have n_ := back1 hk_ hq_; clear hx_ hp_ hk_ hq_; have n0_ := Aside0.mk n_; clear HS n_; have HS := n0_; clear n0_)
        go_upto_region 11 with (go_at_call 11; obtain ⟨ok_, hp_, hk_⟩ := sep_use1 HS.out; have hx_ := dt_Confirm p (S2) (id) (1) (who) _ ok_ (HG2.out) hp_; rw [HG.out] at hx_; dsimp only at hx_; (with_reducible refine Calls.mono hx_ ?_); rintro e w1 ⟨rfl, hq_⟩; have n_ := back1 hk_ hq_; clear hx_ hp_ hk_ hq_; have n0_ := Aside0.mk n_; clear HS n_; have HS := n0_; clear n0_)
        go_wp2_with (go_at_call 20; obtain ⟨ok_, hp_, hk_⟩ := sep_use1 HS.out; have hx_ := dt_Until p (S3) (id) _ ok_ (HG3.out) hp_; rw [HU.out] at hx_; dsimp only at hx_; (with_reducible refine Calls.mono hx_ ?_); rintro e w1 ⟨rfl, hq_⟩; have n_ := back1 hk_ hq_; clear hx_ hp_ hk_ hq_; have n0_ := Aside0.mk n_; clear HS n_; have HS := n0_; clear n0_)
        go_ret
        exact ⟨rfl, sep_below_of HS.out⟩
      · have e1 : decide (who < 1) = false := decide_eq_false v1
        by_cases v2 : 32 < who
        · have e2 : decide (32 < who) = true := decide_eq_true v2
          have e3 : decide (who > 32) = true := decide_eq_true v2
          have hwr := wr_not_bad id who now hold hm (.inl (node_out (.inr v2)))
          clear v1 v2 hm
          obtain ⟨S1, S2, S3, u, hE, hF, hG, hU, hg1, hg2, hg3⟩ := hwr
          have HE := Aside0.mk hE
          have HF := Aside0.mk hF
          have HG := Aside0.mk hG
          have HU := Aside0.mk hU
          have HG1 := Aside0.mk hg1
          have HG2 := Aside0.mk hg2
          have HG3 := Aside0.mk hg3
          clear hE hF hG hU hg1 hg2 hg3 HN
          have HS := Aside0.mk (sep_start w)
          go_enter Try.func7, Try.ntmps7
          go_upto_region 7 with (first | (go_at_call 9; (with_reducible refine Calls.mono (examples_walk _) ?_); rintro e w1 ⟨rfl, hb_⟩; have n_ := sep_below HS.out hb_; clear hb_; have n0_ := Aside0.mk n_; clear HS n_; have HS := n0_; clear n0_) | (go_at_call 10; (with_reducible refine Calls.mono (dt_New _) ?_); rintro e w2 ⟨p, rfl, hm_⟩; have n_ := sep_made_of HS.out (sep_only hm_); clear hm_; have n0_ := Aside0.mk n_; clear HS n_; have HS := n0_; clear n0_))
          go_upto_region 9 with (go_at_call 18; obtain ⟨ok_, hp_, hk_⟩ := sep_use1 HS.out; have hx_ := dt_Begin p (new) (id) (1) (now) (hold) _ ok_ hp_; rw [HE.out] at hx_; dsimp only at hx_; (with_reducible refine Calls.mono hx_ ?_); rintro e w1 ⟨rfl, hq_⟩; have n_ := back1 hk_ hq_; clear hx_ hp_ hk_ hq_; have n0_ := Aside0.mk n_; clear HS n_; have HS := n0_; clear n0_)
          go_upto_region 10 with (go_at_call 11; obtain ⟨ok_, hp_, hk_⟩ := sep_use1 HS.out; have hx_ := dt_Confirm p (S1) (id) (1) (who) _ ok_ (HG1.out) hp_; rw [HF.out] at hx_; dsimp only at hx_; (with_reducible refine Calls.mono hx_ ?_); rintro e w1 ⟨rfl, hq_⟩; have n_ := back1 hk_ hq_; clear hx_ hp_ hk_ hq_; have n0_ := Aside0.mk n_; clear HS n_; have HS := n0_; clear n0_)
          go_upto_region 11 with (go_at_call 11; obtain ⟨ok_, hp_, hk_⟩ := sep_use1 HS.out; have hx_ := dt_Confirm p (S2) (id) (1) (who) _ ok_ (HG2.out) hp_; rw [HG.out] at hx_; dsimp only at hx_; (with_reducible refine Calls.mono hx_ ?_); rintro e w1 ⟨rfl, hq_⟩; have n_ := back1 hk_ hq_; clear hx_ hp_ hk_ hq_; have n0_ := Aside0.mk n_; clear HS n_; have HS := n0_; clear n0_)
          go_wp2_with (go_at_call 20; obtain ⟨ok_, hp_, hk_⟩ := sep_use1 HS.out; have hx_ := dt_Until p (S3) (id) _ ok_ (HG3.out) hp_; rw [HU.out] at hx_; dsimp only at hx_; (with_reducible refine Calls.mono hx_ ?_); rintro e w1 ⟨rfl, hq_⟩; have n_ := back1 hk_ hq_; clear hx_ hp_ hk_ hq_; have n0_ := Aside0.mk n_; clear HS n_; have HS := n0_; clear n0_)
          go_ret
          exact ⟨rfl, sep_below_of HS.out⟩
        · have e2 : decide (32 < who) = false := decide_eq_false v2
          have e3 : decide (who > 32) = false := decide_eq_false v2
          by_cases v3 : who = id
          · have e4 : (who == id) = true := by simpa using v3
            have hwr := wr_not_bad id who now hold hm (.inr v3)
            clear v1 v2 hm v3
            obtain ⟨S1, S2, S3, u, hE, hF, hG, hU, hg1, hg2, hg3⟩ := hwr
            have HE := Aside0.mk hE
            have HF := Aside0.mk hF
            have HG := Aside0.mk hG
            have HU := Aside0.mk hU
            have HG1 := Aside0.mk hg1
            have HG2 := Aside0.mk hg2
            have HG3 := Aside0.mk hg3
            clear hE hF hG hU hg1 hg2 hg3 HN
            have HS := Aside0.mk (sep_start w)
            go_enter Try.func7, Try.ntmps7
            go_upto_region 7 with (first | (go_at_call 9; (with_reducible refine Calls.mono (examples_walk _) ?_); rintro e w1 ⟨rfl, hb_⟩; have n_ := sep_below HS.out hb_; clear hb_; have n0_ := Aside0.mk n_; clear HS n_; have HS := n0_; clear n0_) | (go_at_call 10; (with_reducible refine Calls.mono (dt_New _) ?_); rintro e w2 ⟨p, rfl, hm_⟩; have n_ := sep_made_of HS.out (sep_only hm_); clear hm_; have n0_ := Aside0.mk n_; clear HS n_; have HS := n0_; clear n0_))
            go_upto_region 9 with (go_at_call 18; obtain ⟨ok_, hp_, hk_⟩ := sep_use1 HS.out; have hx_ := dt_Begin p (new) (id) (1) (now) (hold) _ ok_ hp_; rw [HE.out] at hx_; dsimp only at hx_; (with_reducible refine Calls.mono hx_ ?_); rintro e w1 ⟨rfl, hq_⟩; have n_ := back1 hk_ hq_; clear hx_ hp_ hk_ hq_; have n0_ := Aside0.mk n_; clear HS n_; have HS := n0_; clear n0_)
            go_upto_region 10 with (go_at_call 11; obtain ⟨ok_, hp_, hk_⟩ := sep_use1 HS.out; have hx_ := dt_Confirm p (S1) (id) (1) (who) _ ok_ (HG1.out) hp_; rw [HF.out] at hx_; dsimp only at hx_; (with_reducible refine Calls.mono hx_ ?_); rintro e w1 ⟨rfl, hq_⟩; have n_ := back1 hk_ hq_; clear hx_ hp_ hk_ hq_; have n0_ := Aside0.mk n_; clear HS n_; have HS := n0_; clear n0_)
            go_upto_region 11 with (go_at_call 11; obtain ⟨ok_, hp_, hk_⟩ := sep_use1 HS.out; have hx_ := dt_Confirm p (S2) (id) (1) (who) _ ok_ (HG2.out) hp_; rw [HG.out] at hx_; dsimp only at hx_; (with_reducible refine Calls.mono hx_ ?_); rintro e w1 ⟨rfl, hq_⟩; have n_ := back1 hk_ hq_; clear hx_ hp_ hk_ hq_; have n0_ := Aside0.mk n_; clear HS n_; have HS := n0_; clear n0_)
            go_wp2_with (go_at_call 20; obtain ⟨ok_, hp_, hk_⟩ := sep_use1 HS.out; have hx_ := dt_Until p (S3) (id) _ ok_ (HG3.out) hp_; rw [HU.out] at hx_; dsimp only at hx_; (with_reducible refine Calls.mono hx_ ?_); rintro e w1 ⟨rfl, hq_⟩; have n_ := back1 hk_ hq_; clear hx_ hp_ hk_ hq_; have n0_ := Aside0.mk n_; clear HS n_; have HS := n0_; clear n0_)
            go_ret
            exact ⟨rfl, sep_below_of HS.out⟩
          · have e4 : (who == id) = false := by simpa using v3
            have e5 := eq_false v3
            have hwr := wr_not_ok id who now hold hm (node_in (by omega) (by omega)) v3
            clear v1 v2 hm v3
            obtain ⟨S1, S2, S3, u, hE, hF, hG, hU, hg1, hg2, hg3⟩ := hwr
            have HE := Aside0.mk hE
            have HF := Aside0.mk hF
            have HG := Aside0.mk hG
            have HU := Aside0.mk hU
            have HG1 := Aside0.mk hg1
            have HG2 := Aside0.mk hg2
            have HG3 := Aside0.mk hg3
            clear hE hF hG hU hg1 hg2 hg3 HN
            have HS := Aside0.mk (sep_start w)
            go_enter Try.func7, Try.ntmps7
            go_upto_region 7 with (first | (go_at_call 9; (with_reducible refine Calls.mono (examples_walk _) ?_); rintro e w1 ⟨rfl, hb_⟩; have n_ := sep_below HS.out hb_; clear hb_; have n0_ := Aside0.mk n_; clear HS n_; have HS := n0_; clear n0_) | (go_at_call 10; (with_reducible refine Calls.mono (dt_New _) ?_); rintro e w2 ⟨p, rfl, hm_⟩; have n_ := sep_made_of HS.out (sep_only hm_); clear hm_; have n0_ := Aside0.mk n_; clear HS n_; have HS := n0_; clear n0_))
            go_upto_region 9 with (go_at_call 18; obtain ⟨ok_, hp_, hk_⟩ := sep_use1 HS.out; have hx_ := dt_Begin p (new) (id) (1) (now) (hold) _ ok_ hp_; rw [HE.out] at hx_; dsimp only at hx_; (with_reducible refine Calls.mono hx_ ?_); rintro e w1 ⟨rfl, hq_⟩; have n_ := back1 hk_ hq_; clear hx_ hp_ hk_ hq_; have n0_ := Aside0.mk n_; clear HS n_; have HS := n0_; clear n0_)
            go_upto_region 10 with (go_at_call 11; obtain ⟨ok_, hp_, hk_⟩ := sep_use1 HS.out; have hx_ := dt_Confirm p (S1) (id) (1) (who) _ ok_ (HG1.out) hp_; rw [HF.out] at hx_; dsimp only at hx_; (with_reducible refine Calls.mono hx_ ?_); rintro e w1 ⟨rfl, hq_⟩; have n_ := back1 hk_ hq_; clear hx_ hp_ hk_ hq_; have n0_ := Aside0.mk n_; clear HS n_; have HS := n0_; clear n0_)
            go_upto_region 11 with (go_at_call 11; obtain ⟨ok_, hp_, hk_⟩ := sep_use1 HS.out; have hx_ := dt_Confirm p (S2) (id) (1) (who) _ ok_ (HG2.out) hp_; rw [HG.out] at hx_; dsimp only at hx_; (with_reducible refine Calls.mono hx_ ?_); rintro e w1 ⟨rfl, hq_⟩; have n_ := back1 hk_ hq_; clear hx_ hp_ hk_ hq_; have n0_ := Aside0.mk n_; clear HS n_; have HS := n0_; clear n0_)
            go_wp2_with (go_at_call 20; obtain ⟨ok_, hp_, hk_⟩ := sep_use1 HS.out; have hx_ := dt_Until p (S3) (id) _ ok_ (HG3.out) hp_; rw [HU.out] at hx_; dsimp only at hx_; (with_reducible refine Calls.mono hx_ ?_); rintro e w1 ⟨rfl, hq_⟩; have n_ := back1 hk_ hq_; clear hx_ hp_ hk_ hq_; have n0_ := Aside0.mk n_; clear HS n_; have HS := n0_; clear n0_)
            go_ret
            exact ⟨rfl, sep_below_of HS.out⟩
    · have d3 : decide (id ≤ 32) = true := decide_eq_true (by omega)
      by_cases q3 : 4611686018427387904 < now
      · have d4 : decide (now ≤ 4611686018427387904) = false := decide_eq_false (by omega)
        have hm : mayBegin id now hold = false := by exact may_no id now hold (.inr (.inr (.inl q3))) hh
        by_cases v1 : who < 1
        · have e1 : decide (who < 1) = true := decide_eq_true v1
          have hwr := wr_not_bad id who now hold hm (.inl (node_out (.inl v1)))
          clear v1 hm
          obtain ⟨S1, S2, S3, u, hE, hF, hG, hU, hg1, hg2, hg3⟩ := hwr
          have HE := Aside0.mk hE
          have HF := Aside0.mk hF
          have HG := Aside0.mk hG
          have HU := Aside0.mk hU
          have HG1 := Aside0.mk hg1
          have HG2 := Aside0.mk hg2
          have HG3 := Aside0.mk hg3
          clear hE hF hG hU hg1 hg2 hg3 HN
          have HS := Aside0.mk (sep_start w)
          go_enter Try.func7, Try.ntmps7
          go_upto_region 7 with (first | (go_at_call 9; (with_reducible refine Calls.mono (examples_walk _) ?_); rintro e w1 ⟨rfl, hb_⟩; have n_ := sep_below HS.out hb_; clear hb_; have n0_ := Aside0.mk n_; clear HS n_; have HS := n0_; clear n0_) | (go_at_call 10; (with_reducible refine Calls.mono (dt_New _) ?_); rintro e w2 ⟨p, rfl, hm_⟩; have n_ := sep_made_of HS.out (sep_only hm_); clear hm_; have n0_ := Aside0.mk n_; clear HS n_; have HS := n0_; clear n0_))
          go_upto_region 9 with (go_at_call 18; obtain ⟨ok_, hp_, hk_⟩ := sep_use1 HS.out; have hx_ := dt_Begin p (new) (id) (1) (now) (hold) _ ok_ hp_; rw [HE.out] at hx_; dsimp only at hx_; (with_reducible refine Calls.mono hx_ ?_); rintro e w1 ⟨rfl, hq_⟩; have n_ := back1 hk_ hq_; clear hx_ hp_ hk_ hq_; have n0_ := Aside0.mk n_; clear HS n_; have HS := n0_; clear n0_)
          go_upto_region 10 with (go_at_call 11; obtain ⟨ok_, hp_, hk_⟩ := sep_use1 HS.out; have hx_ := dt_Confirm p (S1) (id) (1) (who) _ ok_ (HG1.out) hp_; rw [HF.out] at hx_; dsimp only at hx_; (with_reducible refine Calls.mono hx_ ?_); rintro e w1 ⟨rfl, hq_⟩; have n_ := back1 hk_ hq_; clear hx_ hp_ hk_ hq_; have n0_ := Aside0.mk n_; clear HS n_; have HS := n0_; clear n0_)
          go_upto_region 11 with (go_at_call 11; obtain ⟨ok_, hp_, hk_⟩ := sep_use1 HS.out; have hx_ := dt_Confirm p (S2) (id) (1) (who) _ ok_ (HG2.out) hp_; rw [HG.out] at hx_; dsimp only at hx_; (with_reducible refine Calls.mono hx_ ?_); rintro e w1 ⟨rfl, hq_⟩; have n_ := back1 hk_ hq_; clear hx_ hp_ hk_ hq_; have n0_ := Aside0.mk n_; clear HS n_; have HS := n0_; clear n0_)
          go_wp2_with (go_at_call 20; obtain ⟨ok_, hp_, hk_⟩ := sep_use1 HS.out; have hx_ := dt_Until p (S3) (id) _ ok_ (HG3.out) hp_; rw [HU.out] at hx_; dsimp only at hx_; (with_reducible refine Calls.mono hx_ ?_); rintro e w1 ⟨rfl, hq_⟩; have n_ := back1 hk_ hq_; clear hx_ hp_ hk_ hq_; have n0_ := Aside0.mk n_; clear HS n_; have HS := n0_; clear n0_)
          go_ret
          exact ⟨rfl, sep_below_of HS.out⟩
        · have e1 : decide (who < 1) = false := decide_eq_false v1
          by_cases v2 : 32 < who
          · have e2 : decide (32 < who) = true := decide_eq_true v2
            have e3 : decide (who > 32) = true := decide_eq_true v2
            have hwr := wr_not_bad id who now hold hm (.inl (node_out (.inr v2)))
            clear v1 v2 hm
            obtain ⟨S1, S2, S3, u, hE, hF, hG, hU, hg1, hg2, hg3⟩ := hwr
            have HE := Aside0.mk hE
            have HF := Aside0.mk hF
            have HG := Aside0.mk hG
            have HU := Aside0.mk hU
            have HG1 := Aside0.mk hg1
            have HG2 := Aside0.mk hg2
            have HG3 := Aside0.mk hg3
            clear hE hF hG hU hg1 hg2 hg3 HN
            have HS := Aside0.mk (sep_start w)
            go_enter Try.func7, Try.ntmps7
            go_upto_region 7 with (first | (go_at_call 9; (with_reducible refine Calls.mono (examples_walk _) ?_); rintro e w1 ⟨rfl, hb_⟩; have n_ := sep_below HS.out hb_; clear hb_; have n0_ := Aside0.mk n_; clear HS n_; have HS := n0_; clear n0_) | (go_at_call 10; (with_reducible refine Calls.mono (dt_New _) ?_); rintro e w2 ⟨p, rfl, hm_⟩; have n_ := sep_made_of HS.out (sep_only hm_); clear hm_; have n0_ := Aside0.mk n_; clear HS n_; have HS := n0_; clear n0_))
            go_upto_region 9 with (go_at_call 18; obtain ⟨ok_, hp_, hk_⟩ := sep_use1 HS.out; have hx_ := dt_Begin p (new) (id) (1) (now) (hold) _ ok_ hp_; rw [HE.out] at hx_; dsimp only at hx_; (with_reducible refine Calls.mono hx_ ?_); rintro e w1 ⟨rfl, hq_⟩; have n_ := back1 hk_ hq_; clear hx_ hp_ hk_ hq_; have n0_ := Aside0.mk n_; clear HS n_; have HS := n0_; clear n0_)
            go_upto_region 10 with (go_at_call 11; obtain ⟨ok_, hp_, hk_⟩ := sep_use1 HS.out; have hx_ := dt_Confirm p (S1) (id) (1) (who) _ ok_ (HG1.out) hp_; rw [HF.out] at hx_; dsimp only at hx_; (with_reducible refine Calls.mono hx_ ?_); rintro e w1 ⟨rfl, hq_⟩; have n_ := back1 hk_ hq_; clear hx_ hp_ hk_ hq_; have n0_ := Aside0.mk n_; clear HS n_; have HS := n0_; clear n0_)
            go_upto_region 11 with (go_at_call 11; obtain ⟨ok_, hp_, hk_⟩ := sep_use1 HS.out; have hx_ := dt_Confirm p (S2) (id) (1) (who) _ ok_ (HG2.out) hp_; rw [HG.out] at hx_; dsimp only at hx_; (with_reducible refine Calls.mono hx_ ?_); rintro e w1 ⟨rfl, hq_⟩; have n_ := back1 hk_ hq_; clear hx_ hp_ hk_ hq_; have n0_ := Aside0.mk n_; clear HS n_; have HS := n0_; clear n0_)
            go_wp2_with (go_at_call 20; obtain ⟨ok_, hp_, hk_⟩ := sep_use1 HS.out; have hx_ := dt_Until p (S3) (id) _ ok_ (HG3.out) hp_; rw [HU.out] at hx_; dsimp only at hx_; (with_reducible refine Calls.mono hx_ ?_); rintro e w1 ⟨rfl, hq_⟩; have n_ := back1 hk_ hq_; clear hx_ hp_ hk_ hq_; have n0_ := Aside0.mk n_; clear HS n_; have HS := n0_; clear n0_)
            go_ret
            exact ⟨rfl, sep_below_of HS.out⟩
          · have e2 : decide (32 < who) = false := decide_eq_false v2
            have e3 : decide (who > 32) = false := decide_eq_false v2
            by_cases v3 : who = id
            · have e4 : (who == id) = true := by simpa using v3
              have hwr := wr_not_bad id who now hold hm (.inr v3)
              clear v1 v2 hm v3
              obtain ⟨S1, S2, S3, u, hE, hF, hG, hU, hg1, hg2, hg3⟩ := hwr
              have HE := Aside0.mk hE
              have HF := Aside0.mk hF
              have HG := Aside0.mk hG
              have HU := Aside0.mk hU
              have HG1 := Aside0.mk hg1
              have HG2 := Aside0.mk hg2
              have HG3 := Aside0.mk hg3
              clear hE hF hG hU hg1 hg2 hg3 HN
              have HS := Aside0.mk (sep_start w)
              go_enter Try.func7, Try.ntmps7
              go_upto_region 7 with (first | (go_at_call 9; (with_reducible refine Calls.mono (examples_walk _) ?_); rintro e w1 ⟨rfl, hb_⟩; have n_ := sep_below HS.out hb_; clear hb_; have n0_ := Aside0.mk n_; clear HS n_; have HS := n0_; clear n0_) | (go_at_call 10; (with_reducible refine Calls.mono (dt_New _) ?_); rintro e w2 ⟨p, rfl, hm_⟩; have n_ := sep_made_of HS.out (sep_only hm_); clear hm_; have n0_ := Aside0.mk n_; clear HS n_; have HS := n0_; clear n0_))
              go_upto_region 9 with (go_at_call 18; obtain ⟨ok_, hp_, hk_⟩ := sep_use1 HS.out; have hx_ := dt_Begin p (new) (id) (1) (now) (hold) _ ok_ hp_; rw [HE.out] at hx_; dsimp only at hx_; (with_reducible refine Calls.mono hx_ ?_); rintro e w1 ⟨rfl, hq_⟩; have n_ := back1 hk_ hq_; clear hx_ hp_ hk_ hq_; have n0_ := Aside0.mk n_; clear HS n_; have HS := n0_; clear n0_)
              go_upto_region 10 with (go_at_call 11; obtain ⟨ok_, hp_, hk_⟩ := sep_use1 HS.out; have hx_ := dt_Confirm p (S1) (id) (1) (who) _ ok_ (HG1.out) hp_; rw [HF.out] at hx_; dsimp only at hx_; (with_reducible refine Calls.mono hx_ ?_); rintro e w1 ⟨rfl, hq_⟩; have n_ := back1 hk_ hq_; clear hx_ hp_ hk_ hq_; have n0_ := Aside0.mk n_; clear HS n_; have HS := n0_; clear n0_)
              go_upto_region 11 with (go_at_call 11; obtain ⟨ok_, hp_, hk_⟩ := sep_use1 HS.out; have hx_ := dt_Confirm p (S2) (id) (1) (who) _ ok_ (HG2.out) hp_; rw [HG.out] at hx_; dsimp only at hx_; (with_reducible refine Calls.mono hx_ ?_); rintro e w1 ⟨rfl, hq_⟩; have n_ := back1 hk_ hq_; clear hx_ hp_ hk_ hq_; have n0_ := Aside0.mk n_; clear HS n_; have HS := n0_; clear n0_)
              go_wp2_with (go_at_call 20; obtain ⟨ok_, hp_, hk_⟩ := sep_use1 HS.out; have hx_ := dt_Until p (S3) (id) _ ok_ (HG3.out) hp_; rw [HU.out] at hx_; dsimp only at hx_; (with_reducible refine Calls.mono hx_ ?_); rintro e w1 ⟨rfl, hq_⟩; have n_ := back1 hk_ hq_; clear hx_ hp_ hk_ hq_; have n0_ := Aside0.mk n_; clear HS n_; have HS := n0_; clear n0_)
              go_ret
              exact ⟨rfl, sep_below_of HS.out⟩
            · have e4 : (who == id) = false := by simpa using v3
              have e5 := eq_false v3
              have hwr := wr_not_ok id who now hold hm (node_in (by omega) (by omega)) v3
              clear v1 v2 hm v3
              obtain ⟨S1, S2, S3, u, hE, hF, hG, hU, hg1, hg2, hg3⟩ := hwr
              have HE := Aside0.mk hE
              have HF := Aside0.mk hF
              have HG := Aside0.mk hG
              have HU := Aside0.mk hU
              have HG1 := Aside0.mk hg1
              have HG2 := Aside0.mk hg2
              have HG3 := Aside0.mk hg3
              clear hE hF hG hU hg1 hg2 hg3 HN
              have HS := Aside0.mk (sep_start w)
              go_enter Try.func7, Try.ntmps7
              go_upto_region 7 with (first | (go_at_call 9; (with_reducible refine Calls.mono (examples_walk _) ?_); rintro e w1 ⟨rfl, hb_⟩; have n_ := sep_below HS.out hb_; clear hb_; have n0_ := Aside0.mk n_; clear HS n_; have HS := n0_; clear n0_) | (go_at_call 10; (with_reducible refine Calls.mono (dt_New _) ?_); rintro e w2 ⟨p, rfl, hm_⟩; have n_ := sep_made_of HS.out (sep_only hm_); clear hm_; have n0_ := Aside0.mk n_; clear HS n_; have HS := n0_; clear n0_))
              go_upto_region 9 with (go_at_call 18; obtain ⟨ok_, hp_, hk_⟩ := sep_use1 HS.out; have hx_ := dt_Begin p (new) (id) (1) (now) (hold) _ ok_ hp_; rw [HE.out] at hx_; dsimp only at hx_; (with_reducible refine Calls.mono hx_ ?_); rintro e w1 ⟨rfl, hq_⟩; have n_ := back1 hk_ hq_; clear hx_ hp_ hk_ hq_; have n0_ := Aside0.mk n_; clear HS n_; have HS := n0_; clear n0_)
              go_upto_region 10 with (go_at_call 11; obtain ⟨ok_, hp_, hk_⟩ := sep_use1 HS.out; have hx_ := dt_Confirm p (S1) (id) (1) (who) _ ok_ (HG1.out) hp_; rw [HF.out] at hx_; dsimp only at hx_; (with_reducible refine Calls.mono hx_ ?_); rintro e w1 ⟨rfl, hq_⟩; have n_ := back1 hk_ hq_; clear hx_ hp_ hk_ hq_; have n0_ := Aside0.mk n_; clear HS n_; have HS := n0_; clear n0_)
              go_upto_region 11 with (go_at_call 11; obtain ⟨ok_, hp_, hk_⟩ := sep_use1 HS.out; have hx_ := dt_Confirm p (S2) (id) (1) (who) _ ok_ (HG2.out) hp_; rw [HG.out] at hx_; dsimp only at hx_; (with_reducible refine Calls.mono hx_ ?_); rintro e w1 ⟨rfl, hq_⟩; have n_ := back1 hk_ hq_; clear hx_ hp_ hk_ hq_; have n0_ := Aside0.mk n_; clear HS n_; have HS := n0_; clear n0_)
              go_wp2_with (go_at_call 20; obtain ⟨ok_, hp_, hk_⟩ := sep_use1 HS.out; have hx_ := dt_Until p (S3) (id) _ ok_ (HG3.out) hp_; rw [HU.out] at hx_; dsimp only at hx_; (with_reducible refine Calls.mono hx_ ?_); rintro e w1 ⟨rfl, hq_⟩; have n_ := back1 hk_ hq_; clear hx_ hp_ hk_ hq_; have n0_ := Aside0.mk n_; clear HS n_; have HS := n0_; clear n0_)
              go_ret
              exact ⟨rfl, sep_below_of HS.out⟩
      · have d4 : decide (now ≤ 4611686018427387904) = true := decide_eq_true (by omega)
        by_cases q4 : hold < 1
        · have d5 : decide (hold ≥ 1) = false := decide_eq_false (by omega)
          have d6 : decide (1 ≤ hold) = false := decide_eq_false (by omega)
          have hm : mayBegin id now hold = false := by exact may_no id now hold (.inr (.inr (.inr (.inl q4)))) hh
          by_cases v1 : who < 1
          · have e1 : decide (who < 1) = true := decide_eq_true v1
            have hwr := wr_not_bad id who now hold hm (.inl (node_out (.inl v1)))
            clear v1 hm
            obtain ⟨S1, S2, S3, u, hE, hF, hG, hU, hg1, hg2, hg3⟩ := hwr
            have HE := Aside0.mk hE
            have HF := Aside0.mk hF
            have HG := Aside0.mk hG
            have HU := Aside0.mk hU
            have HG1 := Aside0.mk hg1
            have HG2 := Aside0.mk hg2
            have HG3 := Aside0.mk hg3
            clear hE hF hG hU hg1 hg2 hg3 HN
            have HS := Aside0.mk (sep_start w)
            go_enter Try.func7, Try.ntmps7
            go_upto_region 7 with (first | (go_at_call 9; (with_reducible refine Calls.mono (examples_walk _) ?_); rintro e w1 ⟨rfl, hb_⟩; have n_ := sep_below HS.out hb_; clear hb_; have n0_ := Aside0.mk n_; clear HS n_; have HS := n0_; clear n0_) | (go_at_call 10; (with_reducible refine Calls.mono (dt_New _) ?_); rintro e w2 ⟨p, rfl, hm_⟩; have n_ := sep_made_of HS.out (sep_only hm_); clear hm_; have n0_ := Aside0.mk n_; clear HS n_; have HS := n0_; clear n0_))
            go_upto_region 9 with (go_at_call 18; obtain ⟨ok_, hp_, hk_⟩ := sep_use1 HS.out; have hx_ := dt_Begin p (new) (id) (1) (now) (hold) _ ok_ hp_; rw [HE.out] at hx_; dsimp only at hx_; (with_reducible refine Calls.mono hx_ ?_); rintro e w1 ⟨rfl, hq_⟩; have n_ := back1 hk_ hq_; clear hx_ hp_ hk_ hq_; have n0_ := Aside0.mk n_; clear HS n_; have HS := n0_; clear n0_)
            go_upto_region 10 with (go_at_call 11; obtain ⟨ok_, hp_, hk_⟩ := sep_use1 HS.out; have hx_ := dt_Confirm p (S1) (id) (1) (who) _ ok_ (HG1.out) hp_; rw [HF.out] at hx_; dsimp only at hx_; (with_reducible refine Calls.mono hx_ ?_); rintro e w1 ⟨rfl, hq_⟩; have n_ := back1 hk_ hq_; clear hx_ hp_ hk_ hq_; have n0_ := Aside0.mk n_; clear HS n_; have HS := n0_; clear n0_)
            go_upto_region 11 with (go_at_call 11; obtain ⟨ok_, hp_, hk_⟩ := sep_use1 HS.out; have hx_ := dt_Confirm p (S2) (id) (1) (who) _ ok_ (HG2.out) hp_; rw [HG.out] at hx_; dsimp only at hx_; (with_reducible refine Calls.mono hx_ ?_); rintro e w1 ⟨rfl, hq_⟩; have n_ := back1 hk_ hq_; clear hx_ hp_ hk_ hq_; have n0_ := Aside0.mk n_; clear HS n_; have HS := n0_; clear n0_)
            go_wp2_with (go_at_call 20; obtain ⟨ok_, hp_, hk_⟩ := sep_use1 HS.out; have hx_ := dt_Until p (S3) (id) _ ok_ (HG3.out) hp_; rw [HU.out] at hx_; dsimp only at hx_; (with_reducible refine Calls.mono hx_ ?_); rintro e w1 ⟨rfl, hq_⟩; have n_ := back1 hk_ hq_; clear hx_ hp_ hk_ hq_; have n0_ := Aside0.mk n_; clear HS n_; have HS := n0_; clear n0_)
            go_ret
            exact ⟨rfl, sep_below_of HS.out⟩
          · have e1 : decide (who < 1) = false := decide_eq_false v1
            by_cases v2 : 32 < who
            · have e2 : decide (32 < who) = true := decide_eq_true v2
              have e3 : decide (who > 32) = true := decide_eq_true v2
              have hwr := wr_not_bad id who now hold hm (.inl (node_out (.inr v2)))
              clear v1 v2 hm
              obtain ⟨S1, S2, S3, u, hE, hF, hG, hU, hg1, hg2, hg3⟩ := hwr
              have HE := Aside0.mk hE
              have HF := Aside0.mk hF
              have HG := Aside0.mk hG
              have HU := Aside0.mk hU
              have HG1 := Aside0.mk hg1
              have HG2 := Aside0.mk hg2
              have HG3 := Aside0.mk hg3
              clear hE hF hG hU hg1 hg2 hg3 HN
              have HS := Aside0.mk (sep_start w)
              go_enter Try.func7, Try.ntmps7
              go_upto_region 7 with (first | (go_at_call 9; (with_reducible refine Calls.mono (examples_walk _) ?_); rintro e w1 ⟨rfl, hb_⟩; have n_ := sep_below HS.out hb_; clear hb_; have n0_ := Aside0.mk n_; clear HS n_; have HS := n0_; clear n0_) | (go_at_call 10; (with_reducible refine Calls.mono (dt_New _) ?_); rintro e w2 ⟨p, rfl, hm_⟩; have n_ := sep_made_of HS.out (sep_only hm_); clear hm_; have n0_ := Aside0.mk n_; clear HS n_; have HS := n0_; clear n0_))
              go_upto_region 9 with (go_at_call 18; obtain ⟨ok_, hp_, hk_⟩ := sep_use1 HS.out; have hx_ := dt_Begin p (new) (id) (1) (now) (hold) _ ok_ hp_; rw [HE.out] at hx_; dsimp only at hx_; (with_reducible refine Calls.mono hx_ ?_); rintro e w1 ⟨rfl, hq_⟩; have n_ := back1 hk_ hq_; clear hx_ hp_ hk_ hq_; have n0_ := Aside0.mk n_; clear HS n_; have HS := n0_; clear n0_)
              go_upto_region 10 with (go_at_call 11; obtain ⟨ok_, hp_, hk_⟩ := sep_use1 HS.out; have hx_ := dt_Confirm p (S1) (id) (1) (who) _ ok_ (HG1.out) hp_; rw [HF.out] at hx_; dsimp only at hx_; (with_reducible refine Calls.mono hx_ ?_); rintro e w1 ⟨rfl, hq_⟩; have n_ := back1 hk_ hq_; clear hx_ hp_ hk_ hq_; have n0_ := Aside0.mk n_; clear HS n_; have HS := n0_; clear n0_)
              go_upto_region 11 with (go_at_call 11; obtain ⟨ok_, hp_, hk_⟩ := sep_use1 HS.out; have hx_ := dt_Confirm p (S2) (id) (1) (who) _ ok_ (HG2.out) hp_; rw [HG.out] at hx_; dsimp only at hx_; (with_reducible refine Calls.mono hx_ ?_); rintro e w1 ⟨rfl, hq_⟩; have n_ := back1 hk_ hq_; clear hx_ hp_ hk_ hq_; have n0_ := Aside0.mk n_; clear HS n_; have HS := n0_; clear n0_)
              go_wp2_with (go_at_call 20; obtain ⟨ok_, hp_, hk_⟩ := sep_use1 HS.out; have hx_ := dt_Until p (S3) (id) _ ok_ (HG3.out) hp_; rw [HU.out] at hx_; dsimp only at hx_; (with_reducible refine Calls.mono hx_ ?_); rintro e w1 ⟨rfl, hq_⟩; have n_ := back1 hk_ hq_; clear hx_ hp_ hk_ hq_; have n0_ := Aside0.mk n_; clear HS n_; have HS := n0_; clear n0_)
              go_ret
              exact ⟨rfl, sep_below_of HS.out⟩
            · have e2 : decide (32 < who) = false := decide_eq_false v2
              have e3 : decide (who > 32) = false := decide_eq_false v2
              by_cases v3 : who = id
              · have e4 : (who == id) = true := by simpa using v3
                have hwr := wr_not_bad id who now hold hm (.inr v3)
                clear v1 v2 hm v3
                obtain ⟨S1, S2, S3, u, hE, hF, hG, hU, hg1, hg2, hg3⟩ := hwr
                have HE := Aside0.mk hE
                have HF := Aside0.mk hF
                have HG := Aside0.mk hG
                have HU := Aside0.mk hU
                have HG1 := Aside0.mk hg1
                have HG2 := Aside0.mk hg2
                have HG3 := Aside0.mk hg3
                clear hE hF hG hU hg1 hg2 hg3 HN
                have HS := Aside0.mk (sep_start w)
                go_enter Try.func7, Try.ntmps7
                go_upto_region 7 with (first | (go_at_call 9; (with_reducible refine Calls.mono (examples_walk _) ?_); rintro e w1 ⟨rfl, hb_⟩; have n_ := sep_below HS.out hb_; clear hb_; have n0_ := Aside0.mk n_; clear HS n_; have HS := n0_; clear n0_) | (go_at_call 10; (with_reducible refine Calls.mono (dt_New _) ?_); rintro e w2 ⟨p, rfl, hm_⟩; have n_ := sep_made_of HS.out (sep_only hm_); clear hm_; have n0_ := Aside0.mk n_; clear HS n_; have HS := n0_; clear n0_))
                go_upto_region 9 with (go_at_call 18; obtain ⟨ok_, hp_, hk_⟩ := sep_use1 HS.out; have hx_ := dt_Begin p (new) (id) (1) (now) (hold) _ ok_ hp_; rw [HE.out] at hx_; dsimp only at hx_; (with_reducible refine Calls.mono hx_ ?_); rintro e w1 ⟨rfl, hq_⟩; have n_ := back1 hk_ hq_; clear hx_ hp_ hk_ hq_; have n0_ := Aside0.mk n_; clear HS n_; have HS := n0_; clear n0_)
                go_upto_region 10 with (go_at_call 11; obtain ⟨ok_, hp_, hk_⟩ := sep_use1 HS.out; have hx_ := dt_Confirm p (S1) (id) (1) (who) _ ok_ (HG1.out) hp_; rw [HF.out] at hx_; dsimp only at hx_; (with_reducible refine Calls.mono hx_ ?_); rintro e w1 ⟨rfl, hq_⟩; have n_ := back1 hk_ hq_; clear hx_ hp_ hk_ hq_; have n0_ := Aside0.mk n_; clear HS n_; have HS := n0_; clear n0_)
                go_upto_region 11 with (go_at_call 11; obtain ⟨ok_, hp_, hk_⟩ := sep_use1 HS.out; have hx_ := dt_Confirm p (S2) (id) (1) (who) _ ok_ (HG2.out) hp_; rw [HG.out] at hx_; dsimp only at hx_; (with_reducible refine Calls.mono hx_ ?_); rintro e w1 ⟨rfl, hq_⟩; have n_ := back1 hk_ hq_; clear hx_ hp_ hk_ hq_; have n0_ := Aside0.mk n_; clear HS n_; have HS := n0_; clear n0_)
                go_wp2_with (go_at_call 20; obtain ⟨ok_, hp_, hk_⟩ := sep_use1 HS.out; have hx_ := dt_Until p (S3) (id) _ ok_ (HG3.out) hp_; rw [HU.out] at hx_; dsimp only at hx_; (with_reducible refine Calls.mono hx_ ?_); rintro e w1 ⟨rfl, hq_⟩; have n_ := back1 hk_ hq_; clear hx_ hp_ hk_ hq_; have n0_ := Aside0.mk n_; clear HS n_; have HS := n0_; clear n0_)
                go_ret
                exact ⟨rfl, sep_below_of HS.out⟩
              · have e4 : (who == id) = false := by simpa using v3
                have e5 := eq_false v3
                have hwr := wr_not_ok id who now hold hm (node_in (by omega) (by omega)) v3
                clear v1 v2 hm v3
                obtain ⟨S1, S2, S3, u, hE, hF, hG, hU, hg1, hg2, hg3⟩ := hwr
                have HE := Aside0.mk hE
                have HF := Aside0.mk hF
                have HG := Aside0.mk hG
                have HU := Aside0.mk hU
                have HG1 := Aside0.mk hg1
                have HG2 := Aside0.mk hg2
                have HG3 := Aside0.mk hg3
                clear hE hF hG hU hg1 hg2 hg3 HN
                have HS := Aside0.mk (sep_start w)
                go_enter Try.func7, Try.ntmps7
                go_upto_region 7 with (first | (go_at_call 9; (with_reducible refine Calls.mono (examples_walk _) ?_); rintro e w1 ⟨rfl, hb_⟩; have n_ := sep_below HS.out hb_; clear hb_; have n0_ := Aside0.mk n_; clear HS n_; have HS := n0_; clear n0_) | (go_at_call 10; (with_reducible refine Calls.mono (dt_New _) ?_); rintro e w2 ⟨p, rfl, hm_⟩; have n_ := sep_made_of HS.out (sep_only hm_); clear hm_; have n0_ := Aside0.mk n_; clear HS n_; have HS := n0_; clear n0_))
                go_upto_region 9 with (go_at_call 18; obtain ⟨ok_, hp_, hk_⟩ := sep_use1 HS.out; have hx_ := dt_Begin p (new) (id) (1) (now) (hold) _ ok_ hp_; rw [HE.out] at hx_; dsimp only at hx_; (with_reducible refine Calls.mono hx_ ?_); rintro e w1 ⟨rfl, hq_⟩; have n_ := back1 hk_ hq_; clear hx_ hp_ hk_ hq_; have n0_ := Aside0.mk n_; clear HS n_; have HS := n0_; clear n0_)
                go_upto_region 10 with (go_at_call 11; obtain ⟨ok_, hp_, hk_⟩ := sep_use1 HS.out; have hx_ := dt_Confirm p (S1) (id) (1) (who) _ ok_ (HG1.out) hp_; rw [HF.out] at hx_; dsimp only at hx_; (with_reducible refine Calls.mono hx_ ?_); rintro e w1 ⟨rfl, hq_⟩; have n_ := back1 hk_ hq_; clear hx_ hp_ hk_ hq_; have n0_ := Aside0.mk n_; clear HS n_; have HS := n0_; clear n0_)
                go_upto_region 11 with (go_at_call 11; obtain ⟨ok_, hp_, hk_⟩ := sep_use1 HS.out; have hx_ := dt_Confirm p (S2) (id) (1) (who) _ ok_ (HG2.out) hp_; rw [HG.out] at hx_; dsimp only at hx_; (with_reducible refine Calls.mono hx_ ?_); rintro e w1 ⟨rfl, hq_⟩; have n_ := back1 hk_ hq_; clear hx_ hp_ hk_ hq_; have n0_ := Aside0.mk n_; clear HS n_; have HS := n0_; clear n0_)
                go_wp2_with (go_at_call 20; obtain ⟨ok_, hp_, hk_⟩ := sep_use1 HS.out; have hx_ := dt_Until p (S3) (id) _ ok_ (HG3.out) hp_; rw [HU.out] at hx_; dsimp only at hx_; (with_reducible refine Calls.mono hx_ ?_); rintro e w1 ⟨rfl, hq_⟩; have n_ := back1 hk_ hq_; clear hx_ hp_ hk_ hq_; have n0_ := Aside0.mk n_; clear HS n_; have HS := n0_; clear n0_)
                go_ret
                exact ⟨rfl, sep_below_of HS.out⟩
        · have d5 : decide (hold ≥ 1) = true := decide_eq_true (by omega)
          have d6 : decide (1 ≤ hold) = true := decide_eq_true (by omega)
          by_cases q5 : 1000000 < hold
          · have d7 : decide (hold ≤ 1000000) = false := decide_eq_false (by omega)
            have hm : mayBegin id now hold = false := by exact may_no id now hold (.inr (.inr (.inr (.inr q5)))) hh
            by_cases v1 : who < 1
            · have e1 : decide (who < 1) = true := decide_eq_true v1
              have hwr := wr_not_bad id who now hold hm (.inl (node_out (.inl v1)))
              clear v1 hm
              obtain ⟨S1, S2, S3, u, hE, hF, hG, hU, hg1, hg2, hg3⟩ := hwr
              have HE := Aside0.mk hE
              have HF := Aside0.mk hF
              have HG := Aside0.mk hG
              have HU := Aside0.mk hU
              have HG1 := Aside0.mk hg1
              have HG2 := Aside0.mk hg2
              have HG3 := Aside0.mk hg3
              clear hE hF hG hU hg1 hg2 hg3 HN
              have HS := Aside0.mk (sep_start w)
              go_enter Try.func7, Try.ntmps7
              go_upto_region 7 with (first | (go_at_call 9; (with_reducible refine Calls.mono (examples_walk _) ?_); rintro e w1 ⟨rfl, hb_⟩; have n_ := sep_below HS.out hb_; clear hb_; have n0_ := Aside0.mk n_; clear HS n_; have HS := n0_; clear n0_) | (go_at_call 10; (with_reducible refine Calls.mono (dt_New _) ?_); rintro e w2 ⟨p, rfl, hm_⟩; have n_ := sep_made_of HS.out (sep_only hm_); clear hm_; have n0_ := Aside0.mk n_; clear HS n_; have HS := n0_; clear n0_))
              go_upto_region 9 with (go_at_call 18; obtain ⟨ok_, hp_, hk_⟩ := sep_use1 HS.out; have hx_ := dt_Begin p (new) (id) (1) (now) (hold) _ ok_ hp_; rw [HE.out] at hx_; dsimp only at hx_; (with_reducible refine Calls.mono hx_ ?_); rintro e w1 ⟨rfl, hq_⟩; have n_ := back1 hk_ hq_; clear hx_ hp_ hk_ hq_; have n0_ := Aside0.mk n_; clear HS n_; have HS := n0_; clear n0_)
              go_upto_region 10 with (go_at_call 11; obtain ⟨ok_, hp_, hk_⟩ := sep_use1 HS.out; have hx_ := dt_Confirm p (S1) (id) (1) (who) _ ok_ (HG1.out) hp_; rw [HF.out] at hx_; dsimp only at hx_; (with_reducible refine Calls.mono hx_ ?_); rintro e w1 ⟨rfl, hq_⟩; have n_ := back1 hk_ hq_; clear hx_ hp_ hk_ hq_; have n0_ := Aside0.mk n_; clear HS n_; have HS := n0_; clear n0_)
              go_upto_region 11 with (go_at_call 11; obtain ⟨ok_, hp_, hk_⟩ := sep_use1 HS.out; have hx_ := dt_Confirm p (S2) (id) (1) (who) _ ok_ (HG2.out) hp_; rw [HG.out] at hx_; dsimp only at hx_; (with_reducible refine Calls.mono hx_ ?_); rintro e w1 ⟨rfl, hq_⟩; have n_ := back1 hk_ hq_; clear hx_ hp_ hk_ hq_; have n0_ := Aside0.mk n_; clear HS n_; have HS := n0_; clear n0_)
              go_wp2_with (go_at_call 20; obtain ⟨ok_, hp_, hk_⟩ := sep_use1 HS.out; have hx_ := dt_Until p (S3) (id) _ ok_ (HG3.out) hp_; rw [HU.out] at hx_; dsimp only at hx_; (with_reducible refine Calls.mono hx_ ?_); rintro e w1 ⟨rfl, hq_⟩; have n_ := back1 hk_ hq_; clear hx_ hp_ hk_ hq_; have n0_ := Aside0.mk n_; clear HS n_; have HS := n0_; clear n0_)
              go_ret
              exact ⟨rfl, sep_below_of HS.out⟩
            · have e1 : decide (who < 1) = false := decide_eq_false v1
              by_cases v2 : 32 < who
              · have e2 : decide (32 < who) = true := decide_eq_true v2
                have e3 : decide (who > 32) = true := decide_eq_true v2
                have hwr := wr_not_bad id who now hold hm (.inl (node_out (.inr v2)))
                clear v1 v2 hm
                obtain ⟨S1, S2, S3, u, hE, hF, hG, hU, hg1, hg2, hg3⟩ := hwr
                have HE := Aside0.mk hE
                have HF := Aside0.mk hF
                have HG := Aside0.mk hG
                have HU := Aside0.mk hU
                have HG1 := Aside0.mk hg1
                have HG2 := Aside0.mk hg2
                have HG3 := Aside0.mk hg3
                clear hE hF hG hU hg1 hg2 hg3 HN
                have HS := Aside0.mk (sep_start w)
                go_enter Try.func7, Try.ntmps7
                go_upto_region 7 with (first | (go_at_call 9; (with_reducible refine Calls.mono (examples_walk _) ?_); rintro e w1 ⟨rfl, hb_⟩; have n_ := sep_below HS.out hb_; clear hb_; have n0_ := Aside0.mk n_; clear HS n_; have HS := n0_; clear n0_) | (go_at_call 10; (with_reducible refine Calls.mono (dt_New _) ?_); rintro e w2 ⟨p, rfl, hm_⟩; have n_ := sep_made_of HS.out (sep_only hm_); clear hm_; have n0_ := Aside0.mk n_; clear HS n_; have HS := n0_; clear n0_))
                go_upto_region 9 with (go_at_call 18; obtain ⟨ok_, hp_, hk_⟩ := sep_use1 HS.out; have hx_ := dt_Begin p (new) (id) (1) (now) (hold) _ ok_ hp_; rw [HE.out] at hx_; dsimp only at hx_; (with_reducible refine Calls.mono hx_ ?_); rintro e w1 ⟨rfl, hq_⟩; have n_ := back1 hk_ hq_; clear hx_ hp_ hk_ hq_; have n0_ := Aside0.mk n_; clear HS n_; have HS := n0_; clear n0_)
                go_upto_region 10 with (go_at_call 11; obtain ⟨ok_, hp_, hk_⟩ := sep_use1 HS.out; have hx_ := dt_Confirm p (S1) (id) (1) (who) _ ok_ (HG1.out) hp_; rw [HF.out] at hx_; dsimp only at hx_; (with_reducible refine Calls.mono hx_ ?_); rintro e w1 ⟨rfl, hq_⟩; have n_ := back1 hk_ hq_; clear hx_ hp_ hk_ hq_; have n0_ := Aside0.mk n_; clear HS n_; have HS := n0_; clear n0_)
                go_upto_region 11 with (go_at_call 11; obtain ⟨ok_, hp_, hk_⟩ := sep_use1 HS.out; have hx_ := dt_Confirm p (S2) (id) (1) (who) _ ok_ (HG2.out) hp_; rw [HG.out] at hx_; dsimp only at hx_; (with_reducible refine Calls.mono hx_ ?_); rintro e w1 ⟨rfl, hq_⟩; have n_ := back1 hk_ hq_; clear hx_ hp_ hk_ hq_; have n0_ := Aside0.mk n_; clear HS n_; have HS := n0_; clear n0_)
                go_wp2_with (go_at_call 20; obtain ⟨ok_, hp_, hk_⟩ := sep_use1 HS.out; have hx_ := dt_Until p (S3) (id) _ ok_ (HG3.out) hp_; rw [HU.out] at hx_; dsimp only at hx_; (with_reducible refine Calls.mono hx_ ?_); rintro e w1 ⟨rfl, hq_⟩; have n_ := back1 hk_ hq_; clear hx_ hp_ hk_ hq_; have n0_ := Aside0.mk n_; clear HS n_; have HS := n0_; clear n0_)
                go_ret
                exact ⟨rfl, sep_below_of HS.out⟩
              · have e2 : decide (32 < who) = false := decide_eq_false v2
                have e3 : decide (who > 32) = false := decide_eq_false v2
                by_cases v3 : who = id
                · have e4 : (who == id) = true := by simpa using v3
                  have hwr := wr_not_bad id who now hold hm (.inr v3)
                  clear v1 v2 hm v3
                  obtain ⟨S1, S2, S3, u, hE, hF, hG, hU, hg1, hg2, hg3⟩ := hwr
                  have HE := Aside0.mk hE
                  have HF := Aside0.mk hF
                  have HG := Aside0.mk hG
                  have HU := Aside0.mk hU
                  have HG1 := Aside0.mk hg1
                  have HG2 := Aside0.mk hg2
                  have HG3 := Aside0.mk hg3
                  clear hE hF hG hU hg1 hg2 hg3 HN
                  have HS := Aside0.mk (sep_start w)
                  go_enter Try.func7, Try.ntmps7
                  go_upto_region 7 with (first | (go_at_call 9; (with_reducible refine Calls.mono (examples_walk _) ?_); rintro e w1 ⟨rfl, hb_⟩; have n_ := sep_below HS.out hb_; clear hb_; have n0_ := Aside0.mk n_; clear HS n_; have HS := n0_; clear n0_) | (go_at_call 10; (with_reducible refine Calls.mono (dt_New _) ?_); rintro e w2 ⟨p, rfl, hm_⟩; have n_ := sep_made_of HS.out (sep_only hm_); clear hm_; have n0_ := Aside0.mk n_; clear HS n_; have HS := n0_; clear n0_))
                  go_upto_region 9 with (go_at_call 18; obtain ⟨ok_, hp_, hk_⟩ := sep_use1 HS.out; have hx_ := dt_Begin p (new) (id) (1) (now) (hold) _ ok_ hp_; rw [HE.out] at hx_; dsimp only at hx_; (with_reducible refine Calls.mono hx_ ?_); rintro e w1 ⟨rfl, hq_⟩; have n_ := back1 hk_ hq_; clear hx_ hp_ hk_ hq_; have n0_ := Aside0.mk n_; clear HS n_; have HS := n0_; clear n0_)
                  go_upto_region 10 with (go_at_call 11; obtain ⟨ok_, hp_, hk_⟩ := sep_use1 HS.out; have hx_ := dt_Confirm p (S1) (id) (1) (who) _ ok_ (HG1.out) hp_; rw [HF.out] at hx_; dsimp only at hx_; (with_reducible refine Calls.mono hx_ ?_); rintro e w1 ⟨rfl, hq_⟩; have n_ := back1 hk_ hq_; clear hx_ hp_ hk_ hq_; have n0_ := Aside0.mk n_; clear HS n_; have HS := n0_; clear n0_)
                  go_upto_region 11 with (go_at_call 11; obtain ⟨ok_, hp_, hk_⟩ := sep_use1 HS.out; have hx_ := dt_Confirm p (S2) (id) (1) (who) _ ok_ (HG2.out) hp_; rw [HG.out] at hx_; dsimp only at hx_; (with_reducible refine Calls.mono hx_ ?_); rintro e w1 ⟨rfl, hq_⟩; have n_ := back1 hk_ hq_; clear hx_ hp_ hk_ hq_; have n0_ := Aside0.mk n_; clear HS n_; have HS := n0_; clear n0_)
                  go_wp2_with (go_at_call 20; obtain ⟨ok_, hp_, hk_⟩ := sep_use1 HS.out; have hx_ := dt_Until p (S3) (id) _ ok_ (HG3.out) hp_; rw [HU.out] at hx_; dsimp only at hx_; (with_reducible refine Calls.mono hx_ ?_); rintro e w1 ⟨rfl, hq_⟩; have n_ := back1 hk_ hq_; clear hx_ hp_ hk_ hq_; have n0_ := Aside0.mk n_; clear HS n_; have HS := n0_; clear n0_)
                  go_ret
                  exact ⟨rfl, sep_below_of HS.out⟩
                · have e4 : (who == id) = false := by simpa using v3
                  have e5 := eq_false v3
                  have hwr := wr_not_ok id who now hold hm (node_in (by omega) (by omega)) v3
                  clear v1 v2 hm v3
                  obtain ⟨S1, S2, S3, u, hE, hF, hG, hU, hg1, hg2, hg3⟩ := hwr
                  have HE := Aside0.mk hE
                  have HF := Aside0.mk hF
                  have HG := Aside0.mk hG
                  have HU := Aside0.mk hU
                  have HG1 := Aside0.mk hg1
                  have HG2 := Aside0.mk hg2
                  have HG3 := Aside0.mk hg3
                  clear hE hF hG hU hg1 hg2 hg3 HN
                  have HS := Aside0.mk (sep_start w)
                  go_enter Try.func7, Try.ntmps7
                  go_upto_region 7 with (first | (go_at_call 9; (with_reducible refine Calls.mono (examples_walk _) ?_); rintro e w1 ⟨rfl, hb_⟩; have n_ := sep_below HS.out hb_; clear hb_; have n0_ := Aside0.mk n_; clear HS n_; have HS := n0_; clear n0_) | (go_at_call 10; (with_reducible refine Calls.mono (dt_New _) ?_); rintro e w2 ⟨p, rfl, hm_⟩; have n_ := sep_made_of HS.out (sep_only hm_); clear hm_; have n0_ := Aside0.mk n_; clear HS n_; have HS := n0_; clear n0_))
                  go_upto_region 9 with (go_at_call 18; obtain ⟨ok_, hp_, hk_⟩ := sep_use1 HS.out; have hx_ := dt_Begin p (new) (id) (1) (now) (hold) _ ok_ hp_; rw [HE.out] at hx_; dsimp only at hx_; (with_reducible refine Calls.mono hx_ ?_); rintro e w1 ⟨rfl, hq_⟩; have n_ := back1 hk_ hq_; clear hx_ hp_ hk_ hq_; have n0_ := Aside0.mk n_; clear HS n_; have HS := n0_; clear n0_)
                  go_upto_region 10 with (go_at_call 11; obtain ⟨ok_, hp_, hk_⟩ := sep_use1 HS.out; have hx_ := dt_Confirm p (S1) (id) (1) (who) _ ok_ (HG1.out) hp_; rw [HF.out] at hx_; dsimp only at hx_; (with_reducible refine Calls.mono hx_ ?_); rintro e w1 ⟨rfl, hq_⟩; have n_ := back1 hk_ hq_; clear hx_ hp_ hk_ hq_; have n0_ := Aside0.mk n_; clear HS n_; have HS := n0_; clear n0_)
                  go_upto_region 11 with (go_at_call 11; obtain ⟨ok_, hp_, hk_⟩ := sep_use1 HS.out; have hx_ := dt_Confirm p (S2) (id) (1) (who) _ ok_ (HG2.out) hp_; rw [HG.out] at hx_; dsimp only at hx_; (with_reducible refine Calls.mono hx_ ?_); rintro e w1 ⟨rfl, hq_⟩; have n_ := back1 hk_ hq_; clear hx_ hp_ hk_ hq_; have n0_ := Aside0.mk n_; clear HS n_; have HS := n0_; clear n0_)
                  go_wp2_with (go_at_call 20; obtain ⟨ok_, hp_, hk_⟩ := sep_use1 HS.out; have hx_ := dt_Until p (S3) (id) _ ok_ (HG3.out) hp_; rw [HU.out] at hx_; dsimp only at hx_; (with_reducible refine Calls.mono hx_ ?_); rintro e w1 ⟨rfl, hq_⟩; have n_ := back1 hk_ hq_; clear hx_ hp_ hk_ hq_; have n0_ := Aside0.mk n_; clear HS n_; have HS := n0_; clear n0_)
                  go_ret
                  exact ⟨rfl, sep_below_of HS.out⟩
          · have d7 : decide (hold ≤ 1000000) = true := decide_eq_true (by omega)
            have hm : mayBegin id now hold = true := mayB id now hold (node_in (by omega) (by omega)) (by omega) (by omega) (by omega)
            by_cases v1 : who < 1
            · have e1 : decide (who < 1) = true := decide_eq_true v1
              have hwr := wr_may_bad id who now hold hm hn hh (.inl (node_out (.inl v1)))
              clear v1 hm
              obtain ⟨S1, S2, S3, u, hE, hF, hG, hU, hg1, hg2, hg3⟩ := hwr
              have HE := Aside0.mk hE
              have HF := Aside0.mk hF
              have HG := Aside0.mk hG
              have HU := Aside0.mk hU
              have HG1 := Aside0.mk hg1
              have HG2 := Aside0.mk hg2
              have HG3 := Aside0.mk hg3
              clear hE hF hG hU hg1 hg2 hg3 HN
              have HS := Aside0.mk (sep_start w)
              go_enter Try.func7, Try.ntmps7
              go_upto_region 7 with (first | (go_at_call 9; (with_reducible refine Calls.mono (examples_walk _) ?_); rintro e w1 ⟨rfl, hb_⟩; have n_ := sep_below HS.out hb_; clear hb_; have n0_ := Aside0.mk n_; clear HS n_; have HS := n0_; clear n0_) | (go_at_call 10; (with_reducible refine Calls.mono (dt_New _) ?_); rintro e w2 ⟨p, rfl, hm_⟩; have n_ := sep_made_of HS.out (sep_only hm_); clear hm_; have n0_ := Aside0.mk n_; clear HS n_; have HS := n0_; clear n0_))
              go_upto_region 9 with (go_at_call 18; obtain ⟨ok_, hp_, hk_⟩ := sep_use1 HS.out; have hx_ := dt_Begin p (new) (id) (1) (now) (hold) _ ok_ hp_; rw [HE.out] at hx_; dsimp only at hx_; (with_reducible refine Calls.mono hx_ ?_); rintro e w1 ⟨rfl, hq_⟩; have n_ := back1 hk_ hq_; clear hx_ hp_ hk_ hq_; have n0_ := Aside0.mk n_; clear HS n_; have HS := n0_; clear n0_)
              go_upto_region 10 with (go_at_call 11; obtain ⟨ok_, hp_, hk_⟩ := sep_use1 HS.out; have hx_ := dt_Confirm p (S1) (id) (1) (who) _ ok_ (HG1.out) hp_; rw [HF.out] at hx_; dsimp only at hx_; (with_reducible refine Calls.mono hx_ ?_); rintro e w1 ⟨rfl, hq_⟩; have n_ := back1 hk_ hq_; clear hx_ hp_ hk_ hq_; have n0_ := Aside0.mk n_; clear HS n_; have HS := n0_; clear n0_)
              go_upto_region 11 with (go_at_call 11; obtain ⟨ok_, hp_, hk_⟩ := sep_use1 HS.out; have hx_ := dt_Confirm p (S2) (id) (1) (who) _ ok_ (HG2.out) hp_; rw [HG.out] at hx_; dsimp only at hx_; (with_reducible refine Calls.mono hx_ ?_); rintro e w1 ⟨rfl, hq_⟩; have n_ := back1 hk_ hq_; clear hx_ hp_ hk_ hq_; have n0_ := Aside0.mk n_; clear HS n_; have HS := n0_; clear n0_)
              go_wp2_with (go_at_call 20; obtain ⟨ok_, hp_, hk_⟩ := sep_use1 HS.out; have hx_ := dt_Until p (S3) (id) _ ok_ (HG3.out) hp_; rw [HU.out] at hx_; dsimp only at hx_; (with_reducible refine Calls.mono hx_ ?_); rintro e w1 ⟨rfl, hq_⟩; have n_ := back1 hk_ hq_; clear hx_ hp_ hk_ hq_; have n0_ := Aside0.mk n_; clear HS n_; have HS := n0_; clear n0_)
              go_ret
              exact ⟨rfl, sep_below_of HS.out⟩
            · have e1 : decide (who < 1) = false := decide_eq_false v1
              by_cases v2 : 32 < who
              · have e2 : decide (32 < who) = true := decide_eq_true v2
                have e3 : decide (who > 32) = true := decide_eq_true v2
                have hwr := wr_may_bad id who now hold hm hn hh (.inl (node_out (.inr v2)))
                clear v1 v2 hm
                obtain ⟨S1, S2, S3, u, hE, hF, hG, hU, hg1, hg2, hg3⟩ := hwr
                have HE := Aside0.mk hE
                have HF := Aside0.mk hF
                have HG := Aside0.mk hG
                have HU := Aside0.mk hU
                have HG1 := Aside0.mk hg1
                have HG2 := Aside0.mk hg2
                have HG3 := Aside0.mk hg3
                clear hE hF hG hU hg1 hg2 hg3 HN
                have HS := Aside0.mk (sep_start w)
                go_enter Try.func7, Try.ntmps7
                go_upto_region 7 with (first | (go_at_call 9; (with_reducible refine Calls.mono (examples_walk _) ?_); rintro e w1 ⟨rfl, hb_⟩; have n_ := sep_below HS.out hb_; clear hb_; have n0_ := Aside0.mk n_; clear HS n_; have HS := n0_; clear n0_) | (go_at_call 10; (with_reducible refine Calls.mono (dt_New _) ?_); rintro e w2 ⟨p, rfl, hm_⟩; have n_ := sep_made_of HS.out (sep_only hm_); clear hm_; have n0_ := Aside0.mk n_; clear HS n_; have HS := n0_; clear n0_))
                go_upto_region 9 with (go_at_call 18; obtain ⟨ok_, hp_, hk_⟩ := sep_use1 HS.out; have hx_ := dt_Begin p (new) (id) (1) (now) (hold) _ ok_ hp_; rw [HE.out] at hx_; dsimp only at hx_; (with_reducible refine Calls.mono hx_ ?_); rintro e w1 ⟨rfl, hq_⟩; have n_ := back1 hk_ hq_; clear hx_ hp_ hk_ hq_; have n0_ := Aside0.mk n_; clear HS n_; have HS := n0_; clear n0_)
                go_upto_region 10 with (go_at_call 11; obtain ⟨ok_, hp_, hk_⟩ := sep_use1 HS.out; have hx_ := dt_Confirm p (S1) (id) (1) (who) _ ok_ (HG1.out) hp_; rw [HF.out] at hx_; dsimp only at hx_; (with_reducible refine Calls.mono hx_ ?_); rintro e w1 ⟨rfl, hq_⟩; have n_ := back1 hk_ hq_; clear hx_ hp_ hk_ hq_; have n0_ := Aside0.mk n_; clear HS n_; have HS := n0_; clear n0_)
                go_upto_region 11 with (go_at_call 11; obtain ⟨ok_, hp_, hk_⟩ := sep_use1 HS.out; have hx_ := dt_Confirm p (S2) (id) (1) (who) _ ok_ (HG2.out) hp_; rw [HG.out] at hx_; dsimp only at hx_; (with_reducible refine Calls.mono hx_ ?_); rintro e w1 ⟨rfl, hq_⟩; have n_ := back1 hk_ hq_; clear hx_ hp_ hk_ hq_; have n0_ := Aside0.mk n_; clear HS n_; have HS := n0_; clear n0_)
                go_wp2_with (go_at_call 20; obtain ⟨ok_, hp_, hk_⟩ := sep_use1 HS.out; have hx_ := dt_Until p (S3) (id) _ ok_ (HG3.out) hp_; rw [HU.out] at hx_; dsimp only at hx_; (with_reducible refine Calls.mono hx_ ?_); rintro e w1 ⟨rfl, hq_⟩; have n_ := back1 hk_ hq_; clear hx_ hp_ hk_ hq_; have n0_ := Aside0.mk n_; clear HS n_; have HS := n0_; clear n0_)
                go_ret
                exact ⟨rfl, sep_below_of HS.out⟩
              · have e2 : decide (32 < who) = false := decide_eq_false v2
                have e3 : decide (who > 32) = false := decide_eq_false v2
                by_cases v3 : who = id
                · have e4 : (who == id) = true := by simpa using v3
                  have hwr := wr_may_bad id who now hold hm hn hh (.inr v3)
                  clear v1 v2 hm v3
                  obtain ⟨S1, S2, S3, u, hE, hF, hG, hU, hg1, hg2, hg3⟩ := hwr
                  have HE := Aside0.mk hE
                  have HF := Aside0.mk hF
                  have HG := Aside0.mk hG
                  have HU := Aside0.mk hU
                  have HG1 := Aside0.mk hg1
                  have HG2 := Aside0.mk hg2
                  have HG3 := Aside0.mk hg3
                  clear hE hF hG hU hg1 hg2 hg3 HN
                  have HS := Aside0.mk (sep_start w)
                  go_enter Try.func7, Try.ntmps7
                  go_upto_region 7 with (first | (go_at_call 9; (with_reducible refine Calls.mono (examples_walk _) ?_); rintro e w1 ⟨rfl, hb_⟩; have n_ := sep_below HS.out hb_; clear hb_; have n0_ := Aside0.mk n_; clear HS n_; have HS := n0_; clear n0_) | (go_at_call 10; (with_reducible refine Calls.mono (dt_New _) ?_); rintro e w2 ⟨p, rfl, hm_⟩; have n_ := sep_made_of HS.out (sep_only hm_); clear hm_; have n0_ := Aside0.mk n_; clear HS n_; have HS := n0_; clear n0_))
                  go_upto_region 9 with (go_at_call 18; obtain ⟨ok_, hp_, hk_⟩ := sep_use1 HS.out; have hx_ := dt_Begin p (new) (id) (1) (now) (hold) _ ok_ hp_; rw [HE.out] at hx_; dsimp only at hx_; (with_reducible refine Calls.mono hx_ ?_); rintro e w1 ⟨rfl, hq_⟩; have n_ := back1 hk_ hq_; clear hx_ hp_ hk_ hq_; have n0_ := Aside0.mk n_; clear HS n_; have HS := n0_; clear n0_)
                  go_upto_region 10 with (go_at_call 11; obtain ⟨ok_, hp_, hk_⟩ := sep_use1 HS.out; have hx_ := dt_Confirm p (S1) (id) (1) (who) _ ok_ (HG1.out) hp_; rw [HF.out] at hx_; dsimp only at hx_; (with_reducible refine Calls.mono hx_ ?_); rintro e w1 ⟨rfl, hq_⟩; have n_ := back1 hk_ hq_; clear hx_ hp_ hk_ hq_; have n0_ := Aside0.mk n_; clear HS n_; have HS := n0_; clear n0_)
                  go_upto_region 11 with (go_at_call 11; obtain ⟨ok_, hp_, hk_⟩ := sep_use1 HS.out; have hx_ := dt_Confirm p (S2) (id) (1) (who) _ ok_ (HG2.out) hp_; rw [HG.out] at hx_; dsimp only at hx_; (with_reducible refine Calls.mono hx_ ?_); rintro e w1 ⟨rfl, hq_⟩; have n_ := back1 hk_ hq_; clear hx_ hp_ hk_ hq_; have n0_ := Aside0.mk n_; clear HS n_; have HS := n0_; clear n0_)
                  go_wp2_with (go_at_call 20; obtain ⟨ok_, hp_, hk_⟩ := sep_use1 HS.out; have hx_ := dt_Until p (S3) (id) _ ok_ (HG3.out) hp_; rw [HU.out] at hx_; dsimp only at hx_; (with_reducible refine Calls.mono hx_ ?_); rintro e w1 ⟨rfl, hq_⟩; have n_ := back1 hk_ hq_; clear hx_ hp_ hk_ hq_; have n0_ := Aside0.mk n_; clear HS n_; have HS := n0_; clear n0_)
                  go_ret
                  exact ⟨rfl, sep_below_of HS.out⟩
                · have e4 : (who == id) = false := by simpa using v3
                  have e5 := eq_false v3
                  have hwr := wr_may_ok id who now hold hm hn hh (node_in (by omega) (by omega)) v3
                  clear v1 v2 hm v3
                  obtain ⟨S1, S2, S3, u, hE, hF, hG, hU, hg1, hg2, hg3⟩ := hwr
                  have HE := Aside0.mk hE
                  have HF := Aside0.mk hF
                  have HG := Aside0.mk hG
                  have HU := Aside0.mk hU
                  have HG1 := Aside0.mk hg1
                  have HG2 := Aside0.mk hg2
                  have HG3 := Aside0.mk hg3
                  clear hE hF hG hU hg1 hg2 hg3 HN
                  have HS := Aside0.mk (sep_start w)
                  go_enter Try.func7, Try.ntmps7
                  go_upto_region 7 with (first | (go_at_call 9; (with_reducible refine Calls.mono (examples_walk _) ?_); rintro e w1 ⟨rfl, hb_⟩; have n_ := sep_below HS.out hb_; clear hb_; have n0_ := Aside0.mk n_; clear HS n_; have HS := n0_; clear n0_) | (go_at_call 10; (with_reducible refine Calls.mono (dt_New _) ?_); rintro e w2 ⟨p, rfl, hm_⟩; have n_ := sep_made_of HS.out (sep_only hm_); clear hm_; have n0_ := Aside0.mk n_; clear HS n_; have HS := n0_; clear n0_))
                  go_upto_region 9 with (go_at_call 18; obtain ⟨ok_, hp_, hk_⟩ := sep_use1 HS.out; have hx_ := dt_Begin p (new) (id) (1) (now) (hold) _ ok_ hp_; rw [HE.out] at hx_; dsimp only at hx_; (with_reducible refine Calls.mono hx_ ?_); rintro e w1 ⟨rfl, hq_⟩; have n_ := back1 hk_ hq_; clear hx_ hp_ hk_ hq_; have n0_ := Aside0.mk n_; clear HS n_; have HS := n0_; clear n0_)
                  go_upto_region 10 with (go_at_call 11; obtain ⟨ok_, hp_, hk_⟩ := sep_use1 HS.out; have hx_ := dt_Confirm p (S1) (id) (1) (who) _ ok_ (HG1.out) hp_; rw [HF.out] at hx_; dsimp only at hx_; (with_reducible refine Calls.mono hx_ ?_); rintro e w1 ⟨rfl, hq_⟩; have n_ := back1 hk_ hq_; clear hx_ hp_ hk_ hq_; have n0_ := Aside0.mk n_; clear HS n_; have HS := n0_; clear n0_)
                  go_upto_region 11 with (go_at_call 11; obtain ⟨ok_, hp_, hk_⟩ := sep_use1 HS.out; have hx_ := dt_Confirm p (S2) (id) (1) (who) _ ok_ (HG2.out) hp_; rw [HG.out] at hx_; dsimp only at hx_; (with_reducible refine Calls.mono hx_ ?_); rintro e w1 ⟨rfl, hq_⟩; have n_ := back1 hk_ hq_; clear hx_ hp_ hk_ hq_; have n0_ := Aside0.mk n_; clear HS n_; have HS := n0_; clear n0_)
                  go_wp2_with (go_at_call 20; obtain ⟨ok_, hp_, hk_⟩ := sep_use1 HS.out; have hx_ := dt_Until p (S3) (id) _ ok_ (HG3.out) hp_; rw [HU.out] at hx_; dsimp only at hx_; (with_reducible refine Calls.mono hx_ ?_); rintro e w1 ⟨rfl, hq_⟩; have n_ := back1 hk_ hq_; clear hx_ hp_ hk_ hq_; have n0_ := Aside0.mk n_; clear HS n_; have HS := n0_; clear n0_)
                  go_ret
                  exact ⟨rfl, sep_below_of HS.out⟩
end Go.Proofs.Ythoppcefadopeaa.DW
