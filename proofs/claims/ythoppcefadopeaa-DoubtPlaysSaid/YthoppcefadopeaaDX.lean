/- Chapter 15's examples: they are so. No condition. -/
import Derived.Test.YthoppcefadopeaaDF
namespace Go.Proofs.Ythoppcefadopeaa.DW
set_option linter.unusedVariables false
set_option linter.unusedSimpArgs false
open Go Go.RowKit Go.Proofs.YthoppcefadopeaaS Go.Proofs.YthoppcefadopeaaS.Asn Go.Proofs.Ythoppcefadopeaa.PA Go.Proofs.YthoppcefadopeaaW.PrintWords Go.Proofs.YthoppcefadopeaaW.PrintLast Go.Proofs.YthoppcefadopeaaW.PrintMore
theorem add_f (a : Addr) (i j : Nat) (h : j ≠ 0) : (⟨(a.add i).block, (a.add i).off + j, none⟩ : Addr) = a.add (i + j) := by
  rw [← Go.Proofs.YthoppcefadopeaaW.PrintWords.add_add]
  generalize a.add i = b
  unfold Addr.add
  rw [if_neg h]
theorem rit_at {w : World} {A : Option Addr} {l : List RIt} (h : ritK.C w A l.length l) (i : Nat) (x : RIt) (hx : l[i]? = some x) :
    ∃ ad, A = some ad ∧ w.cell? (ad.add (i * 5)) = some (.int .i64 x.id) ∧ w.cell? ⟨(ad.add (i * 5)).block, (ad.add (i * 5)).off + 1, none⟩ = some (.int .u32 x.inc) ∧ w.cell? ⟨(ad.add (i * 5)).block, (ad.add (i * 5)).off + 2, none⟩ = some (.int .u64 x.since) ∧ w.cell? ⟨(ad.add (i * 5)).block, (ad.add (i * 5)).off + 3, none⟩ = some (.int .u64 x.hold) ∧ w.cell? ⟨(ad.add (i * 5)).block, (ad.add (i * 5)).off + 4, none⟩ = some (.slice x.A x.n x.c) := by
  obtain ⟨hi, he⟩ := List.getElem?_eq_some_iff.1 hx
  obtain ⟨h0, h1, h2⟩ := h
  obtain ⟨ad, rfl, hc⟩ := h2 (by omega)
  obtain ⟨c, hl, hk, hcell⟩ := hc i x hx
  rw [ritK_open hk] at hcell
  refine ⟨ad, rfl, hcell 0 _ rfl, ?_, ?_, ?_, ?_⟩
  · rw [add_f _ _ _ (by decide)]; exact hcell 1 _ rfl
  · rw [add_f _ _ _ (by decide)]; exact hcell 2 _ rfl
  · rw [add_f _ _ _ (by decide)]; exact hcell 3 _ rfl
  · rw [add_f _ _ _ (by decide)]; exact hcell 4 _ rfl
theorem rit_cells {w0 w : World} {ok0 : Nat → Prop} {F : Asn} {g n c : Nat} {l : List RIt} (h : Sep w0 ok0 (row ritK 53 (.slice (some ⟨g, 0, none⟩) n c) l ⋆ F) w) (i : Nat) (x : RIt) (hx : l[i]? = some x) :
    w.cell? ⟨g, i * 5, none⟩ = some (.int .i64 x.id) ∧ w.cell? ⟨g, i * 5 + 1, none⟩ = some (.int .u32 x.inc) ∧ w.cell? ⟨g, i * 5 + 2, none⟩ = some (.int .u64 x.since) ∧ w.cell? ⟨g, i * 5 + 3, none⟩ = some (.int .u64 x.hold) ∧ w.cell? ⟨g, i * 5 + 4, none⟩ = some (.slice x.A x.n x.c) := by
  obtain ⟨_, h0, h1, h2, h3, h4, h5⟩ := rit_at (sep_row' h).2.2 i x hx
  cases h0
  rw [add_at] at h1 h2 h3 h4 h5
  exact ⟨h1, h2, h3, h4, h5⟩
/-- A list of one item. -/
theorem items_one {w0 w : World} {ok0 : Nat → Prop} {F : Asn} {v : Value} {x : It} (h : Sep w0 ok0 (itemsA v [x] ⋆ F) w) :
    ∃ g c A m d, v = .slice (some ⟨g, 0, none⟩) 1 c ∧ Sep w0 ok0 (row ritK 53 (.slice (some ⟨g, 0, none⟩) 1 c) [⟨x.id, x.inc, x.since, x.hold, A, m, d⟩] ⋆ pool (Kd.int .i64) [(A, x.who)] ⋆ F) w ∧ m = x.who.length := by
  obtain ⟨R, hm, h⟩ := items_open h
  obtain ⟨hl, hm⟩ := hm
  match R, hl with
  | [r], _ =>
    obtain ⟨h1, h2, h3, h4, h5, h6⟩ := hm 0 r x rfl rfl
    obtain ⟨id, inc, since, hold, A, m, d⟩ := r
    dsimp only at h1 h2 h3 h4 h5 h6
    subst h1 h2 h3 h4
    obtain ⟨A0, c0, rfl, -, -⟩ := sep_row h
    obtain ⟨g, rfl⟩ := row_addr h (by simp)
    exact ⟨g, c0, A, m, d, rfl, h, h5⟩
theorem items_none {w0 w : World} {ok0 : Nat → Prop} {F : Asn} {v : Value} (h : Sep w0 ok0 (itemsA v [] ⋆ F) w) : ∃ A c, v = .slice A 0 c ∧ Sep w0 ok0 F w := by
  obtain ⟨R, hm, h⟩ := items_open h
  obtain ⟨A, c, rfl, -, -⟩ := sep_row h
  refine ⟨A, c, ?_, sep_drop (sep_drop h)⟩
  have h0 : R.length = 0 := hm.1
  rw [h0]
theorem items_len {w0 w : World} {ok0 : Nat → Prop} {F : Asn} {v : Value} {L : List It} (h : Sep w0 ok0 (itemsA v L ⋆ F) w) : ∃ A c, v = .slice A L.length c := by
  obtain ⟨R, hm, h⟩ := items_open h
  obtain ⟨A, c, rfl, -, -⟩ := sep_row h
  exact ⟨A, c, by rw [hm.1]⟩
def X1 : Nat → It := (beginE new 2 1 10 9).2
def X2 : Nat → It := (confirmE X1 2 1 3).2
def xi : It := ⟨2, 1, 10, 9, [3]⟩
def X3 : Nat → It := (dueE X2 15).2
theorem ex1 : beginE new 0 0 0 1 = (1, new) := by kernel_rfl
theorem ex2 : beginE new 2 1 10 9 = (0, X1) := by kernel_rfl
theorem ex3 : beginE X1 2 1 10 9 = (6, X1) := by kernel_rfl
theorem ex4 : confirmE X1 2 1 3 = (0, X2) := by kernel_rfl
theorem ex5 : confirmE X2 2 1 3 = (6, X2) := by kernel_rfl
theorem ex6 : confirmE X2 2 1 2 = (1, X2) := by kernel_rfl
theorem ex7 : confirmE X2 3 1 2 = (5, X2) := by kernel_rfl
theorem ex8 : untilE X2 2 = (15, true) := by kernel_rfl
theorem ex9 : itemsE X2 = [xi] := by kernel_rfl
theorem ex10 : clearE X2 2 1 = (false, X2) := by kernel_rfl
theorem ex11 : dueE X2 15 = ([xi], X3) := by kernel_rfl
theorem ex12 : itemsE X3 = [] := by kernel_rfl
theorem gx1 : Good X1 := Good_begin Good_new 2 1 10 9 (by decide) (by decide)
theorem gx2 : Good X2 := Good_confirm gx1 2 1 3
theorem gx3 : Good X3 := Good_rest gx2 _ _
set_option maxHeartbeats 4000000 in
set_option maxRecDepth 100000 in
theorem examples_walk (w : World) : Calls Try.prog 9 #[] w fun e w' => e = .returned (.bool true) ∧ Below w.heap.size w w' := by
  have HS := Aside0.mk (sep_start w)
  go_enter Try.func9, Try.ntmps9
  go_upto_region 4 with (go_at_call 10; (with_reducible refine Calls.mono (dt_New _) ?_); rintro e w2 ⟨p, rfl, hm_⟩; have n_ := sep_made_of HS.out (sep_only hm_); clear hm_; have n0_ := Aside0.mk n_; clear HS n_; have HS := n0_; clear n0_)
  go_upto_region 5 with (go_at_call 18; obtain ⟨ok_, hp_, hk_⟩ := sep_use1 HS.out; have hx_ := dt_Begin p (new) (0) (0) (0) (1) _ ok_ hp_; rw [ex1] at hx_; dsimp only at hx_; (with_reducible refine Calls.mono hx_ ?_); rintro e w1 ⟨rfl, hq_⟩; have n_ := back1 hk_ hq_; clear hx_ hp_ hk_ hq_; have n0_ := Aside0.mk n_; clear HS n_; have HS := n0_; clear n0_)
  go_upto_region 6 with (go_at_call 18; obtain ⟨ok_, hp_, hk_⟩ := sep_use1 HS.out; have hx_ := dt_Begin p (new) (2) (1) (10) (9) _ ok_ hp_; rw [ex2] at hx_; dsimp only at hx_; (with_reducible refine Calls.mono hx_ ?_); rintro e w1 ⟨rfl, hq_⟩; have n_ := back1 hk_ hq_; clear hx_ hp_ hk_ hq_; have n0_ := Aside0.mk n_; clear HS n_; have HS := n0_; clear n0_)
  go_upto_region 7 with (go_at_call 18; obtain ⟨ok_, hp_, hk_⟩ := sep_use1 HS.out; have hx_ := dt_Begin p (X1) (2) (1) (10) (9) _ ok_ hp_; rw [ex3] at hx_; dsimp only at hx_; (with_reducible refine Calls.mono hx_ ?_); rintro e w1 ⟨rfl, hq_⟩; have n_ := back1 hk_ hq_; clear hx_ hp_ hk_ hq_; have n0_ := Aside0.mk n_; clear HS n_; have HS := n0_; clear n0_)
  go_upto_region 8 with (go_at_call 11; obtain ⟨ok_, hp_, hk_⟩ := sep_use1 HS.out; have hx_ := dt_Confirm p (X1) (2) (1) (3) _ ok_ (gx1) hp_; rw [ex4] at hx_; dsimp only at hx_; (with_reducible refine Calls.mono hx_ ?_); rintro e w1 ⟨rfl, hq_⟩; have n_ := back1 hk_ hq_; clear hx_ hp_ hk_ hq_; have n0_ := Aside0.mk n_; clear HS n_; have HS := n0_; clear n0_)
  go_upto_region 9 with (go_at_call 11; obtain ⟨ok_, hp_, hk_⟩ := sep_use1 HS.out; have hx_ := dt_Confirm p (X2) (2) (1) (3) _ ok_ (gx2) hp_; rw [ex5] at hx_; dsimp only at hx_; (with_reducible refine Calls.mono hx_ ?_); rintro e w1 ⟨rfl, hq_⟩; have n_ := back1 hk_ hq_; clear hx_ hp_ hk_ hq_; have n0_ := Aside0.mk n_; clear HS n_; have HS := n0_; clear n0_)
  go_upto_region 10 with (go_at_call 11; obtain ⟨ok_, hp_, hk_⟩ := sep_use1 HS.out; have hx_ := dt_Confirm p (X2) (2) (1) (2) _ ok_ (gx2) hp_; rw [ex6] at hx_; dsimp only at hx_; (with_reducible refine Calls.mono hx_ ?_); rintro e w1 ⟨rfl, hq_⟩; have n_ := back1 hk_ hq_; clear hx_ hp_ hk_ hq_; have n0_ := Aside0.mk n_; clear HS n_; have HS := n0_; clear n0_)
  go_upto_region 11 with (go_at_call 11; obtain ⟨ok_, hp_, hk_⟩ := sep_use1 HS.out; have hx_ := dt_Confirm p (X2) (3) (1) (2) _ ok_ (gx2) hp_; rw [ex7] at hx_; dsimp only at hx_; (with_reducible refine Calls.mono hx_ ?_); rintro e w1 ⟨rfl, hq_⟩; have n_ := back1 hk_ hq_; clear hx_ hp_ hk_ hq_; have n0_ := Aside0.mk n_; clear HS n_; have HS := n0_; clear n0_)
  go_upto_region 12 with (go_at_call 20; obtain ⟨ok_, hp_, hk_⟩ := sep_use1 HS.out; have hx_ := dt_Until p (X2) (2) _ ok_ (gx2) hp_; rw [ex8] at hx_; dsimp only at hx_; (with_reducible refine Calls.mono hx_ ?_); rintro e w1 ⟨rfl, hq_⟩; have n_ := back1 hk_ hq_; clear hx_ hp_ hk_ hq_; have n0_ := Aside0.mk n_; clear HS n_; have HS := n0_; clear n0_)
  go_upto_region 13 with (go_at_call 22; obtain ⟨ok_, hp_, hk_⟩ := sep_use1 (id HS.out); have hx_ := dt_Items p (X2) _ ok_ (gx2) hp_; rw [ex9] at hx_; (with_reducible refine Calls.mono hx_ ?_); rintro e w1 ⟨v_, rfl, hq_⟩; have n_ := back2 hk_ hq_; clear hx_ hp_ hk_ hq_; have n0_ := Aside0.mk n_; clear HS n_; have HS := n0_; clear n0_)
  obtain ⟨gl, cl, Al, ml, dl, rfl, n_, hml⟩ := items_one HS.out
  obtain rfl : ml = 1 := hml
  have n0_ := Aside0.mk n_; clear HS n_; have HS := n0_; clear n0_
  go_upto_region 14 with (go_at_call 13; obtain ⟨ok_, hp_, hk_⟩ := sep_use1 (sep_l2 HS.out); have hx_ := dt_Clear p (X2) (2) (1) _ ok_ hp_; rw [ex10] at hx_; dsimp only at hx_; (with_reducible refine Calls.mono hx_ ?_); rintro e w1 ⟨rfl, hq_⟩; have n_ := back1 hk_ hq_; clear hx_ hp_ hk_ hq_; have n0_ := Aside0.mk n_; clear HS n_; have HS := n0_; clear n0_)
  go_upto_region 15 with (go_at_call 16; obtain ⟨ok_, hp_, hk_⟩ := sep_use1 (id HS.out); have hx_ := dt_Due p (X2) (15) _ ok_ (gx2) hp_; rw [ex11] at hx_; dsimp only at hx_; (with_reducible refine Calls.mono hx_ ?_); rintro e w1 ⟨v_, rfl, hq_⟩; have n_ := back2 hk_ hq_; clear hx_ hp_ hk_ hq_; have n0_ := Aside0.mk n_; clear HS n_; have HS := n0_; clear n0_)
  obtain ⟨gm, cm, Am, mm, dm, rfl, n_, hmm⟩ := items_one HS.out
  have n0_ := Aside0.mk n_; clear HS n_; have HS := n0_; clear n0_
  obtain ⟨k1, k2, k3, k4, k5⟩ := rit_cells HS.out 0 _ rfl
  obtain ⟨m1, m2, m3, m4, m5⟩ := rit_cells (sep_l3 HS.out) 0 _ rfl
  simp only [Nat.zero_mul, Nat.zero_add] at k1 m5
  dsimp only [xi] at k1 m5
  clear k2 k3 k4 k5 m1 m2 m3 m4
  clear hmm
  go_wp2_with ((go_at_call 22; obtain ⟨ok_, hp_, hk_⟩ := sep_use1 (sep_l2 HS.out); have hx_ := dt_Items p (X3) _ ok_ (gx3) hp_; rw [ex12] at hx_; (with_reducible refine Calls.mono hx_ ?_); rintro e w1 ⟨v_, rfl, hq_⟩; have n_ := back2 hk_ hq_; clear hx_ hp_ hk_ hq_; have n0_ := Aside0.mk n_; clear HS n_; have HS := n0_; clear n0_); obtain ⟨Az, cz, rfl, -⟩ := items_none HS.out)
  go_ret
  exact ⟨rfl, sep_below_of HS.out⟩
end Go.Proofs.Ythoppcefadopeaa.DW
