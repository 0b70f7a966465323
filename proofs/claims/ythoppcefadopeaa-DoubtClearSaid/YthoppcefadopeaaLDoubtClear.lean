/- DoubtClear, walked. Conditions: those that the theorem names. -/
import Derived.Test.YthoppcefadopeaaDX
import Derived.Test.YthoppcefadopeaaDQ
namespace Go.Proofs.Ythoppcefadopeaa.DW
set_option linter.unusedVariables false
set_option linter.unusedSimpArgs false
open Go Go.RowKit Go.Proofs.YthoppcefadopeaaS Go.Proofs.YthoppcefadopeaaS.Asn Go.Proofs.Ythoppcefadopeaa.PA Go.Proofs.YthoppcefadopeaaW.PrintWords Go.Proofs.YthoppcefadopeaaW.PrintLast Go.Proofs.YthoppcefadopeaaW.PrintMore
theorem cl1 (a : Int) : beginE new 2 a 0 10 = (0, upd new 2 (cx a 0 [])) := begin_may new 2 a 0 10 (may2 0 (by decide)) (there_new 2)
theorem cl2 (a : Int) : confirmE (upd new 2 (cx a 0 [])) 2 a 7 = (0, upd new 2 (cx a 0 [7])) := confirm_new new 2 a 7 (cx a 0 []) (by decide) (by decide) (by show (2 : Int) ≠ 0; decide) rfl (by decide) (by decide) rfl
theorem cl3 (a b : Int) (h : a < b) : beginE (upd new 2 (cx a 0 [7])) 2 b 1 10 = (0, upd new 2 (cx b 1 [])) := begin_over new 2 b 1 10 (cx a 0 [7]) (by decide) (by decide) (by show (2 : Int) ≠ 0; decide) (may2 1 (by decide)) h
theorem cl4 (a b : Int) (h : b ≤ a) : beginE (upd new 2 (cx a 0 [7])) 2 b 1 10 = (6, upd new 2 (cx a 0 [7])) := begin_old new 2 b 1 10 (cx a 0 [7]) (by decide) (by decide) (by show (2 : Int) ≠ 0; decide) (may2 1 (by decide)) h
theorem cl5 (i s c : Int) (l : List Int) (h : i < c) : clearE (upd new 2 (cx i s l)) 2 c = (true, upd new 2 It.zero) := clear_over new 2 c (cx i s l) (by decide) (by decide) (by show (2 : Int) ≠ 0; decide) h
theorem cl6 (i s c : Int) (l : List Int) (h : c ≤ i) : clearE (upd new 2 (cx i s l)) 2 c = (false, upd new 2 (cx i s l)) := clear_not new 2 c (cx i s l) h
set_option maxHeartbeats 4000000 in
set_option maxRecDepth 100000 in
theorem clear_walk (a b c : Int) (w : World) (ha0 : 0 ≤ a) (ha1 : a < 4294967296) (hb0 : 0 ≤ b) (hb1 : b < 4294967296) (hc0 : 0 ≤ c) (hc1 : c < 4294967296) :
    Calls Try.prog 5 #[.int .u32 a, .int .u32 b, .int .u32 c] w fun e w' => e = .returned (.bool true) ∧ Below w.heap.size w w' := by
  have HS := Aside0.mk (sep_start w)
  have E1 := Aside0.mk (cl1 a)
  have E2 := Aside0.mk (cl2 a)
  have G1 : Aside0 (Good (upd new 2 (cx a 0 []))) := ⟨by have := Good_begin Good_new 2 a 0 10 (by decide) (by decide); rw [E1.out] at this; exact this⟩
  have G2 : Aside0 (Good (upd new 2 (cx a 0 [7]))) := ⟨by have := Good_confirm G1.out 2 a 7; rw [E2.out] at this; exact this⟩
  clear ha0 ha1 hb0 hb1 hc0 hc1
  by_cases hab : a < b
  · have E3 := Aside0.mk (cl3 a b hab)
    have HG3 : Aside0 (Good (upd new 2 (cx b 1 []))) := ⟨by have := Good_begin G2.out 2 b 1 10 (by decide) (by decide); rw [E3.out] at this; exact this⟩
    have d1 : decide (b > a) = true := decide_eq_true hab
    have d2 : decide (a < b) = true := decide_eq_true hab
    have d3 : decide (b ≤ a) = false := decide_eq_false (by omega)
    have d4 := eq_true hab
    have x1 : (if a < b then b else a) = b := if_pos hab
    have x2 : (if b < a then a else b) = b := if_neg (by omega)
    have x3 : max a b = b := by omega
    have x4 : (if a ≤ b then b else a) = b := if_pos (by omega)
    clear hab
    go_enter Try.func5, Try.ntmps5
    go_upto_region 7 with (first | (go_at_call 9; (with_reducible refine Calls.mono (examples_walk _) ?_); rintro e w1 ⟨rfl, hb_⟩; have n_ := sep_below HS.out hb_; clear hb_; have n0_ := Aside0.mk n_; clear HS n_; have HS := n0_; clear n0_) | (go_at_call 10; (with_reducible refine Calls.mono (dt_New _) ?_); rintro e w2 ⟨p, rfl, hm_⟩; have n_ := sep_made_of HS.out (sep_only hm_); clear hm_; have n0_ := Aside0.mk n_; clear HS n_; have HS := n0_; clear n0_))
    go_upto_region 8 with (go_at_call 18; obtain ⟨ok_, hp_, hk_⟩ := sep_use1 HS.out; have hx_ := dt_Begin p (new) (2) (a) (0) (10) _ ok_ hp_; rw [E1.out] at hx_; dsimp only at hx_; (with_reducible refine Calls.mono hx_ ?_); rintro e w1 ⟨rfl, hq_⟩; have n_ := back1 hk_ hq_; clear hx_ hp_ hk_ hq_; have n0_ := Aside0.mk n_; clear HS n_; have HS := n0_; clear n0_)
    go_upto_region 9 with (go_at_call 11; obtain ⟨ok_, hp_, hk_⟩ := sep_use1 HS.out; have hx_ := dt_Confirm p (upd new 2 (cx a 0 [])) (2) (a) (7) _ ok_ (G1.out) hp_; rw [E2.out] at hx_; dsimp only at hx_; (with_reducible refine Calls.mono hx_ ?_); rintro e w1 ⟨rfl, hq_⟩; have n_ := back1 hk_ hq_; clear hx_ hp_ hk_ hq_; have n0_ := Aside0.mk n_; clear HS n_; have HS := n0_; clear n0_)
    go_upto_region 10 with (go_at_call 18; obtain ⟨ok_, hp_, hk_⟩ := sep_use1 HS.out; have hx_ := dt_Begin p (upd new 2 (cx a 0 [7])) (2) (b) (1) (10) _ ok_ hp_; rw [E3.out] at hx_; dsimp only at hx_; (with_reducible refine Calls.mono hx_ ?_); rintro e w1 ⟨rfl, hq_⟩; have n_ := back1 hk_ hq_; clear hx_ hp_ hk_ hq_; have n0_ := Aside0.mk n_; clear HS n_; have HS := n0_; clear n0_)
    go_upto_region 11 with (go_at_call 22; obtain ⟨ok_, hp_, hk_⟩ := sep_use1 (id HS.out); have hx_ := dt_Items p (upd new 2 (cx b 1 [])) _ ok_ (HG3.out) hp_; rw [cl_items b 1 []] at hx_; (with_reducible refine Calls.mono hx_ ?_); rintro e w1 ⟨v_, rfl, hq_⟩; have n_ := back2 hk_ hq_; clear hx_ hp_ hk_ hq_; have n0_ := Aside0.mk n_; clear HS n_; have HS := n0_; clear n0_)
    obtain ⟨gl, cl, Al, ml, dl, rfl, n_, hml⟩ := items_one HS.out
    rw [show (cx b 1 []).who.length = 0 from rfl] at hml
    subst hml
    dsimp only [cx] at n_
    have n0_ := Aside0.mk n_; clear HS n_; have HS := n0_; clear n0_
    obtain ⟨k1, k2, k3, k4, k5⟩ := rit_cells HS.out 0 _ rfl
    simp only [Nat.zero_mul, Nat.zero_add] at k1 k2 k3 k4 k5
    clear k1 k3 k4
    go_upto_region 16 with (fail)
    clear k2 k5
    by_cases hc : b < c
    · have HC := Aside0.mk (cl5 b 1 c [] hc)
      have t1 : decide (c > b) = true := decide_eq_true hc
      have t2 : decide (b < c) = true := decide_eq_true hc
      have HD := Aside0.mk cl_due0
      have HG4 : Aside0 (Good (upd new 2 It.zero)) := ⟨Good_upd Good_new 2 _ good_zero⟩
      clear hc
      go_upto_region 17 with (go_at_call 13; obtain ⟨ok_, hp_, hk_⟩ := sep_use1 (sep_l2 HS.out); have hx_ := dt_Clear p (upd new 2 (cx b 1 [])) (2) (c) _ ok_ hp_; rw [HC.out] at hx_; dsimp only at hx_; (with_reducible refine Calls.mono hx_ ?_); rintro e w1 ⟨rfl, hq_⟩; have n_ := back1 hk_ hq_; clear hx_ hp_ hk_ hq_; have n0_ := Aside0.mk n_; clear HS n_; have HS := n0_; clear n0_)
      go_upto_region 18 with (go_at_call 16; obtain ⟨ok_, hp_, hk_⟩ := sep_use1 (id HS.out); have hx_ := dt_Due p (upd new 2 It.zero) (1000) _ ok_ (HG4.out) hp_; rw [HD.out] at hx_; dsimp only at hx_; (with_reducible refine Calls.mono hx_ ?_); rintro e w1 ⟨v_, rfl, hq_⟩; have n_ := back2 hk_ hq_; clear hx_ hp_ hk_ hq_; have n0_ := Aside0.mk n_; clear HS n_; have HS := n0_; clear n0_)
      obtain ⟨Az, cz, rfl, -⟩ := items_none HS.out
      go_wp2
      go_ret
      exact ⟨rfl, sep_below_of HS.out⟩
    · have HC := Aside0.mk (cl6 b 1 c [] (by omega))
      have t1 : decide (c > b) = false := decide_eq_false hc
      have t2 : decide (b < c) = false := decide_eq_false hc
      have HD := Aside0.mk (cl_due2 b)
      clear hc
      go_upto_region 17 with (go_at_call 13; obtain ⟨ok_, hp_, hk_⟩ := sep_use1 (sep_l2 HS.out); have hx_ := dt_Clear p (upd new 2 (cx b 1 [])) (2) (c) _ ok_ hp_; rw [HC.out] at hx_; dsimp only at hx_; (with_reducible refine Calls.mono hx_ ?_); rintro e w1 ⟨rfl, hq_⟩; have n_ := back1 hk_ hq_; clear hx_ hp_ hk_ hq_; have n0_ := Aside0.mk n_; clear HS n_; have HS := n0_; clear n0_)
      go_upto_region 18 with (go_at_call 16; obtain ⟨ok_, hp_, hk_⟩ := sep_use1 (id HS.out); have hx_ := dt_Due p (upd new 2 (cx b 1 [])) (1000) _ ok_ (HG3.out) hp_; rw [HD.out] at hx_; dsimp only at hx_; (with_reducible refine Calls.mono hx_ ?_); rintro e w1 ⟨v_, rfl, hq_⟩; have n_ := back2 hk_ hq_; clear hx_ hp_ hk_ hq_; have n0_ := Aside0.mk n_; clear HS n_; have HS := n0_; clear n0_)
      obtain ⟨Az, cz, hz⟩ := items_len HS.out
      subst hz
      go_wp2
      go_ret
      exact ⟨rfl, sep_below_of HS.out⟩
  · have E3 := Aside0.mk (cl4 a b (by omega))
    have HG3 := G2
    have d1 : decide (b > a) = false := decide_eq_false hab
    have d2 : decide (a < b) = false := decide_eq_false hab
    have d3 : decide (b ≤ a) = true := decide_eq_true (by omega)
    have d4 := eq_false hab
    have x1 : (if a < b then b else a) = a := if_neg hab
    have x2 : (if b < a then a else b) = a := by split <;> omega
    have x3 : max a b = a := by omega
    have x4 : (if a ≤ b then b else a) = a := by split <;> omega
    clear hab
    go_enter Try.func5, Try.ntmps5
    go_upto_region 7 with (first | (go_at_call 9; (with_reducible refine Calls.mono (examples_walk _) ?_); rintro e w1 ⟨rfl, hb_⟩; have n_ := sep_below HS.out hb_; clear hb_; have n0_ := Aside0.mk n_; clear HS n_; have HS := n0_; clear n0_) | (go_at_call 10; (with_reducible refine Calls.mono (dt_New _) ?_); rintro e w2 ⟨p, rfl, hm_⟩; have n_ := sep_made_of HS.out (sep_only hm_); clear hm_; have n0_ := Aside0.mk n_; clear HS n_; have HS := n0_; clear n0_))
    go_upto_region 8 with (go_at_call 18; obtain ⟨ok_, hp_, hk_⟩ := sep_use1 HS.out; have hx_ := dt_Begin p (new) (2) (a) (0) (10) _ ok_ hp_; rw [E1.out] at hx_; dsimp only at hx_; (with_reducible refine Calls.mono hx_ ?_); rintro e w1 ⟨rfl, hq_⟩; have n_ := back1 hk_ hq_; clear hx_ hp_ hk_ hq_; have n0_ := Aside0.mk n_; clear HS n_; have HS := n0_; clear n0_)
    go_upto_region 9 with (go_at_call 11; obtain ⟨ok_, hp_, hk_⟩ := sep_use1 HS.out; have hx_ := dt_Confirm p (upd new 2 (cx a 0 [])) (2) (a) (7) _ ok_ (G1.out) hp_; rw [E2.out] at hx_; dsimp only at hx_; (with_reducible refine Calls.mono hx_ ?_); rintro e w1 ⟨rfl, hq_⟩; have n_ := back1 hk_ hq_; clear hx_ hp_ hk_ hq_; have n0_ := Aside0.mk n_; clear HS n_; have HS := n0_; clear n0_)
    go_upto_region 10 with (go_at_call 18; obtain ⟨ok_, hp_, hk_⟩ := sep_use1 HS.out; have hx_ := dt_Begin p (upd new 2 (cx a 0 [7])) (2) (b) (1) (10) _ ok_ hp_; rw [E3.out] at hx_; dsimp only at hx_; (with_reducible refine Calls.mono hx_ ?_); rintro e w1 ⟨rfl, hq_⟩; have n_ := back1 hk_ hq_; clear hx_ hp_ hk_ hq_; have n0_ := Aside0.mk n_; clear HS n_; have HS := n0_; clear n0_)
    go_upto_region 11 with (go_at_call 22; obtain ⟨ok_, hp_, hk_⟩ := sep_use1 (id HS.out); have hx_ := dt_Items p (upd new 2 (cx a 0 [7])) _ ok_ (HG3.out) hp_; rw [cl_items a 0 [7]] at hx_; (with_reducible refine Calls.mono hx_ ?_); rintro e w1 ⟨v_, rfl, hq_⟩; have n_ := back2 hk_ hq_; clear hx_ hp_ hk_ hq_; have n0_ := Aside0.mk n_; clear HS n_; have HS := n0_; clear n0_)
    obtain ⟨gl, cl, Al, ml, dl, rfl, n_, hml⟩ := items_one HS.out
    rw [show (cx a 0 [7]).who.length = 1 from rfl] at hml
    subst hml
    dsimp only [cx] at n_
    have n0_ := Aside0.mk n_; clear HS n_; have HS := n0_; clear n0_
    obtain ⟨k1, k2, k3, k4, k5⟩ := rit_cells HS.out 0 _ rfl
    simp only [Nat.zero_mul, Nat.zero_add] at k1 k2 k3 k4 k5
    clear k1 k3 k4
    go_upto_region 16 with (fail)
    clear k2 k5
    by_cases hc : a < c
    · have HC := Aside0.mk (cl5 a 0 c [7] hc)
      have t1 : decide (c > a) = true := decide_eq_true hc
      have t2 : decide (a < c) = true := decide_eq_true hc
      have HD := Aside0.mk cl_due0
      have HG4 : Aside0 (Good (upd new 2 It.zero)) := ⟨Good_upd Good_new 2 _ good_zero⟩
      clear hc
      go_upto_region 17 with (go_at_call 13; obtain ⟨ok_, hp_, hk_⟩ := sep_use1 (sep_l2 HS.out); have hx_ := dt_Clear p (upd new 2 (cx a 0 [7])) (2) (c) _ ok_ hp_; rw [HC.out] at hx_; dsimp only at hx_; (with_reducible refine Calls.mono hx_ ?_); rintro e w1 ⟨rfl, hq_⟩; have n_ := back1 hk_ hq_; clear hx_ hp_ hk_ hq_; have n0_ := Aside0.mk n_; clear HS n_; have HS := n0_; clear n0_)
      go_upto_region 18 with (go_at_call 16; obtain ⟨ok_, hp_, hk_⟩ := sep_use1 (id HS.out); have hx_ := dt_Due p (upd new 2 It.zero) (1000) _ ok_ (HG4.out) hp_; rw [HD.out] at hx_; dsimp only at hx_; (with_reducible refine Calls.mono hx_ ?_); rintro e w1 ⟨v_, rfl, hq_⟩; have n_ := back2 hk_ hq_; clear hx_ hp_ hk_ hq_; have n0_ := Aside0.mk n_; clear HS n_; have HS := n0_; clear n0_)
      obtain ⟨Az, cz, rfl, -⟩ := items_none HS.out
      go_wp2
      go_ret
      exact ⟨rfl, sep_below_of HS.out⟩
    · have HC := Aside0.mk (cl6 a 0 c [7] (by omega))
      have t1 : decide (c > a) = false := decide_eq_false hc
      have t2 : decide (a < c) = false := decide_eq_false hc
      have HD := Aside0.mk (cl_due1 a)
      clear hc
      go_upto_region 17 with (go_at_call 13; obtain ⟨ok_, hp_, hk_⟩ := sep_use1 (sep_l2 HS.out); have hx_ := dt_Clear p (upd new 2 (cx a 0 [7])) (2) (c) _ ok_ hp_; rw [HC.out] at hx_; dsimp only at hx_; (with_reducible refine Calls.mono hx_ ?_); rintro e w1 ⟨rfl, hq_⟩; have n_ := back1 hk_ hq_; clear hx_ hp_ hk_ hq_; have n0_ := Aside0.mk n_; clear HS n_; have HS := n0_; clear n0_)
      go_upto_region 18 with (go_at_call 16; obtain ⟨ok_, hp_, hk_⟩ := sep_use1 (id HS.out); have hx_ := dt_Due p (upd new 2 (cx a 0 [7])) (1000) _ ok_ (HG3.out) hp_; rw [HD.out] at hx_; dsimp only at hx_; (with_reducible refine Calls.mono hx_ ?_); rintro e w1 ⟨v_, rfl, hq_⟩; have n_ := back2 hk_ hq_; clear hx_ hp_ hk_ hq_; have n0_ := Aside0.mk n_; clear HS n_; have HS := n0_; clear n0_)
      obtain ⟨Az, cz, hz⟩ := items_len HS.out
      subst hz
      go_wp2
      go_ret
      exact ⟨rfl, sep_below_of HS.out⟩
end Go.Proofs.Ythoppcefadopeaa.DW
