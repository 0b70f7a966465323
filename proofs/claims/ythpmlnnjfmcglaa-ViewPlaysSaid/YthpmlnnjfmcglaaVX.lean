/- Chapter 11's examples: they are so. No condition. -/
import Derived.Test.YthpmlnnjfmcglaaVF
namespace Go.Proofs.Ythpmlnnjfmcglaa.VW
set_option linter.unusedVariables false
set_option linter.unusedSimpArgs false
open Go Go.RowKit Go.Proofs.YthpmlnnjfmcglaaS Go.Proofs.YthpmlnnjfmcglaaS.Asn Go.Proofs.Ythpmlnnjfmcglaa.PA Go.Proofs.YthpmlnnjfmcglaaW.PrintWords Go.Proofs.YthpmlnnjfmcglaaW.PrintLast Go.Proofs.YthpmlnnjfmcglaaW.PrintMore
def xa : Rec := ⟨2, 0, 1, 1, 1⟩
def xb : Rec := ⟨2, 2, 1, 1, 1⟩
def X1 : VS := (takeE VS.new xa).2.2
def X2 : VS := (takeE X1 xb).2.2
theorem ex1 : takeE VS.new Rec.zero = (false, 1, VS.new) := by kernel_rfl
theorem ex2 : takeE VS.new xa = (true, 0, X1) := by kernel_rfl
theorem ex3 : takeE X1 xa = (false, 0, X1) := by kernel_rfl
theorem ex4 : takeE X1 xb = (true, 0, X2) := by kernel_rfl
theorem ex5 : ofE X2 2 = (xb, true) := by kernel_rfl
theorem ex6 : X2.E = [⟨2, -1, 0, 1⟩, ⟨2, 0, 2, 1⟩] := by kernel_rfl
theorem ex7 : liveE X2 = [] := by kernel_rfl
theorem ex8 : members X2 = [xb] := by kernel_rfl
theorem ex9 : X2.seen = 2 := by kernel_rfl
theorem ex0 : X1.E.length ≤ 128 ∧ X1.seen ≤ 1000000000 := by decide +kernel
theorem add_f (a : Addr) (i j : Nat) (h : j ≠ 0) : (⟨(a.add i).block, (a.add i).off + j, none⟩ : Addr) = a.add (i + j) := by
  rw [← Go.Proofs.YthpmlnnjfmcglaaW.PrintWords.add_add]
  generalize a.add i = b
  unfold Addr.add
  rw [if_neg h]
theorem ev_at {w : World} {A : Option Addr} {l : List Ev} (h : evK.C w A l.length l) (i : Nat) (x : Ev) (hx : l[i]? = some x) :
    ∃ ad, A = some ad ∧ w.cell? (ad.add (i * 4)) = some (.int .i64 x.id) ∧ w.cell? ⟨(ad.add (i * 4)).block, (ad.add (i * 4)).off + 1, none⟩ = some (.int .i64 x.was) ∧ w.cell? ⟨(ad.add (i * 4)).block, (ad.add (i * 4)).off + 2, none⟩ = some (.int .i64 x.is_) ∧ w.cell? ⟨(ad.add (i * 4)).block, (ad.add (i * 4)).off + 3, none⟩ = some (.int .u32 x.inc) := by
  obtain ⟨hi, he⟩ := List.getElem?_eq_some_iff.1 hx
  obtain ⟨ad, c, rfl, hc, hk, hcell⟩ := Kd.C_get h x (i : Int) (Int.natCast_nonneg i) (Int.ofNat_lt.2 hi)
  rw [Int.toNat_natCast, List.getD_eq_getElem?_getD, hx, Option.getD_some] at hk
  rw [evK_open hk, Int.toNat_natCast] at hcell
  refine ⟨ad, rfl, hcell 0 _ rfl, ?_, ?_, ?_⟩
  · rw [add_f _ _ _ (by decide)]; exact hcell 1 _ rfl
  · rw [add_f _ _ _ (by decide)]; exact hcell 2 _ rfl
  · rw [add_f _ _ _ (by decide)]; exact hcell 3 _ rfl
theorem row_addr {α : Type} {d : Kd α} {e : Nat} {w0 w : World} {ok0 : Nat → Prop} {F : Asn} {A : Option Addr} {n c : Nat} {xs : List α} (h : Sep w0 ok0 (row d e (.slice A n c) xs ⋆ F) w) (hp : 0 < xs.length) : ∃ g, A = some ⟨g, 0, none⟩ := by
  obtain ⟨_, _, ⟨_, _, hr, _⟩, _⟩ := h
  obtain ⟨g, cap, he, -⟩ := Kd.R_form hr (by omega)
  cases he
  exact ⟨g, rfl⟩
theorem add_at (g i : Nat) : (⟨g, 0, none⟩ : Addr).add i = ⟨g, i, none⟩ := by rw [Addr.add_mid, Nat.zero_add]
theorem ev_cells {w0 w : World} {ok0 : Nat → Prop} {F : Asn} {g n c : Nat} {l : List Ev} (h : Sep w0 ok0 (row evK 46 (.slice (some ⟨g, 0, none⟩) n c) l ⋆ F) w) (i : Nat) (x : Ev) (hx : l[i]? = some x) :
    w.cell? ⟨g, i * 4, none⟩ = some (.int .i64 x.id) ∧ w.cell? ⟨g, i * 4 + 1, none⟩ = some (.int .i64 x.was) ∧ w.cell? ⟨g, i * 4 + 2, none⟩ = some (.int .i64 x.is_) ∧ w.cell? ⟨g, i * 4 + 3, none⟩ = some (.int .u32 x.inc) := by
  obtain ⟨_, h0, h1, h2, h3, h4⟩ := ev_at (sep_row' h).2.2 i x hx
  cases h0
  rw [add_at] at h1 h2 h3 h4
  exact ⟨h1, h2, h3, h4⟩
set_option maxHeartbeats 4000000 in
set_option maxRecDepth 100000 in
theorem examples_walk (w : World) : Calls Try.prog 9 #[] w fun e w' => e = .returned (.bool true) ∧ Below w.heap.size w w' := by
  have HS := Aside0.mk (sep_start w)
  go_enter Try.func9, Try.ntmps9
  go_upto_region 4 with (go_at_call 10; (with_reducible refine Calls.mono (view_New _) ?_); rintro e w2 ⟨p, rfl, hm_⟩; have n_ := sep_made_of HS.out (sep_only hm_); clear hm_; have n0_ := Aside0.mk n_; clear HS n_; have HS := n0_; clear n0_)
  go_upto_region 5 with (fail)
  have n_ := sep_l1 (sep_alloc HS.out #[.int .i64 2, .int .i64 0, .int .u32 1, .int .u32 1, .int .u16 1] 31)
  have n0_ := Aside0.mk n_; clear HS n_; have HS := n0_; clear n0_
  generalize w2.alloc (.cells #[.int .i64 2, .int .i64 0, .int .u32 1, .int .u32 1, .int .u16 1] 31) = wa at HS ⊢
  generalize w2.heap.size = g2 at HS ⊢
  obtain ⟨m1, m2, m3, m4, m5⟩ := facts5 (sep_l1 HS.out)
  go_upto_region 6 with (fail)
  have n_ := sep_l1 (sep_alloc HS.out #[.int .i64 2, .int .i64 0, .int .u32 1, .int .u32 1, .int .u16 1] 31)
  have n0_ := Aside0.mk n_; clear HS n_; have HS := n0_; clear n0_
  generalize wa.alloc (.cells #[.int .i64 2, .int .i64 0, .int .u32 1, .int .u32 1, .int .u16 1] 31) = wb at HS ⊢
  generalize wa.heap.size = g3 at HS ⊢
  (try clear m1 m2 m3 m4 m5 k1 k2 k3 k4 k5); obtain ⟨m1, m2, m3, m4, m5⟩ := facts5 (sep_l1 HS.out); obtain ⟨k1, k2, k3, k4, k5⟩ := facts5 (sep_l2 HS.out)
  have q1 := sep_frozen (sep_l1 HS.out) 1
  go_upto_region 7 with (fail)
  clear q1
  have n_ := sep_l1 (sep_set (sep_l1 HS.out) 1 (.int .i64 2))
  rw [show (#[.int .i64 2, .int .i64 0, .int .u32 1, .int .u32 1, .int .u16 1] : Array Value).setIfInBounds 1 (.int .i64 2) = #[.int .i64 2, .int .i64 2, .int .u32 1, .int .u32 1, .int .u16 1] from rfl] at n_
  have n0_ := Aside0.mk n_; clear HS n_; have HS := n0_; clear n0_
  generalize wb.setCell ⟨g3, 1, none⟩ (.int .i64 2) = wc at HS ⊢
  (try clear m1 m2 m3 m4 m5 k1 k2 k3 k4 k5); obtain ⟨m1, m2, m3, m4, m5⟩ := facts5 (sep_l1 HS.out); obtain ⟨k1, k2, k3, k4, k5⟩ := facts5 (sep_l2 HS.out)
  go_upto_region 8 with (go_at_call 14; obtain ⟨ok_, hp_, hk_⟩ := sep_use1 HS.out; have hx_ := view_Take p VS.new Rec.zero _ ok_ (by decide) (by decide) hp_; rw [ex1] at hx_; dsimp only [Rec.zero, xa, xb] at hx_; (with_reducible refine Calls.mono hx_ ?_); rintro e w1 ⟨rfl, hq_⟩; have n_ := back1 hk_ hq_; clear hx_ hp_ hk_ hq_; have n0_ := Aside0.mk n_; clear HS n_; have HS := n0_; clear n0_; (try clear m1 m2 m3 m4 m5 k1 k2 k3 k4 k5); obtain ⟨m1, m2, m3, m4, m5⟩ := facts5 (sep_l1 HS.out); obtain ⟨k1, k2, k3, k4, k5⟩ := facts5 (sep_l2 HS.out))
  go_upto_region 9 with (go_at_call 14; obtain ⟨ok_, hp_, hk_⟩ := sep_use1 HS.out; have hx_ := view_Take p VS.new xa _ ok_ (by decide) (by decide) hp_; rw [ex2] at hx_; dsimp only [Rec.zero, xa, xb] at hx_; (with_reducible refine Calls.mono hx_ ?_); rintro e w1 ⟨rfl, hq_⟩; have n_ := back1 hk_ hq_; clear hx_ hp_ hk_ hq_; have n0_ := Aside0.mk n_; clear HS n_; have HS := n0_; clear n0_; (try clear m1 m2 m3 m4 m5 k1 k2 k3 k4 k5); obtain ⟨m1, m2, m3, m4, m5⟩ := facts5 (sep_l1 HS.out); obtain ⟨k1, k2, k3, k4, k5⟩ := facts5 (sep_l2 HS.out))
  go_upto_region 10 with (go_at_call 14; obtain ⟨ok_, hp_, hk_⟩ := sep_use1 HS.out; have hx_ := view_Take p X1 xa _ ok_ ex0.1 ex0.2 hp_; rw [ex3] at hx_; dsimp only [Rec.zero, xa, xb] at hx_; (with_reducible refine Calls.mono hx_ ?_); rintro e w1 ⟨rfl, hq_⟩; have n_ := back1 hk_ hq_; clear hx_ hp_ hk_ hq_; have n0_ := Aside0.mk n_; clear HS n_; have HS := n0_; clear n0_; (try clear m1 m2 m3 m4 m5 k1 k2 k3 k4 k5); obtain ⟨m1, m2, m3, m4, m5⟩ := facts5 (sep_l1 HS.out); obtain ⟨k1, k2, k3, k4, k5⟩ := facts5 (sep_l2 HS.out))
  go_upto_region 11 with (go_at_call 14; obtain ⟨ok_, hp_, hk_⟩ := sep_use1 HS.out; have hx_ := view_Take p X1 xb _ ok_ ex0.1 ex0.2 hp_; rw [ex4] at hx_; dsimp only [Rec.zero, xa, xb] at hx_; (with_reducible refine Calls.mono hx_ ?_); rintro e w1 ⟨rfl, hq_⟩; have n_ := back1 hk_ hq_; clear hx_ hp_ hk_ hq_; have n0_ := Aside0.mk n_; clear HS n_; have HS := n0_; clear n0_; (try clear m1 m2 m3 m4 m5 k1 k2 k3 k4 k5); obtain ⟨m1, m2, m3, m4, m5⟩ := facts5 (sep_l1 HS.out); obtain ⟨k1, k2, k3, k4, k5⟩ := facts5 (sep_l2 HS.out))
  go_upto_region 12 with (go_at_call 12; obtain ⟨ok_, hp_, hk_⟩ := sep_use1 HS.out; have hx_ := view_Of p X2 2 _ ok_ hp_; rw [ex5] at hx_; dsimp only [xb] at hx_; (with_reducible refine Calls.mono hx_ ?_); rintro e w1 ⟨rfl, hq_⟩; have n_ := back1 hk_ hq_; clear hx_ hp_ hk_ hq_; have n0_ := Aside0.mk n_; clear HS n_; have HS := n0_; clear n0_; (try clear m1 m2 m3 m4 m5 k1 k2 k3 k4 k5); obtain ⟨m1, m2, m3, m4, m5⟩ := facts5 (sep_l1 HS.out); obtain ⟨k1, k2, k3, k4, k5⟩ := facts5 (sep_l2 HS.out))
  have n_ := sep_l1 (sep_alloc HS.out #[.int .i64 2, .int .i64 2, .int .u32 1, .int .u32 1, .int .u16 1] 31)
  have n0_ := Aside0.mk n_; clear HS n_; have HS := n0_; clear n0_
  generalize w1.alloc (.cells #[.int .i64 2, .int .i64 2, .int .u32 1, .int .u32 1, .int .u16 1] 31) = wd at HS ⊢
  generalize w1.heap.size = g12 at HS ⊢
  (try clear m1 m2 m3 m4 m5 k1 k2 k3 k4 k5); obtain ⟨m1, m2, m3, m4, m5⟩ := facts5 (sep_l1 HS.out); obtain ⟨k1, k2, k3, k4, k5⟩ := facts5 (sep_l2 HS.out)
  go_upto_region 13 with (go_at_call 16; obtain ⟨ok_, hp_, hk_⟩ := sep_use1 HS.out; have hx_ := view_Events p X2 _ ok_ (by rw [ex6]; decide) hp_; rw [ex6] at hx_; (with_reducible refine Calls.mono hx_ ?_); rintro e w1 ⟨v_, rfl, hq_⟩; have n_ := back2 hk_ hq_; clear hx_ hp_ hk_ hq_; obtain ⟨Ae, ce, rfl, -, -⟩ := sep_row n_; have n0_ := Aside0.mk n_; clear HS n_; have HS := n0_; clear n0_)
  obtain ⟨ge, rfl⟩ := row_addr HS.out (by decide)
  obtain ⟨-, e01, -, -⟩ := ev_cells HS.out 0 _ rfl
  obtain ⟨-, -, e12, -⟩ := ev_cells HS.out 1 _ rfl
  simp only [Nat.zero_mul, Nat.one_mul, Nat.zero_add, Nat.reduceAdd] at e01 e12
  clear m1 m2 m3 m4 m5 k1 k2 k3 k4 k5
  obtain ⟨m1, m2, m3, m4, m5⟩ := facts5 (sep_l2 HS.out)
  obtain ⟨k1, k2, k3, k4, k5⟩ := facts5 (sep_l3 HS.out)
  go_wp2_with (first | (go_at_call 19; obtain ⟨ok_, hp_, hk_⟩ := sep_use1 (sep_l1 HS.out); have hx_ := view_Live p X2 _ ok_ hp_; rw [ex7] at hx_; (with_reducible refine Calls.mono hx_ ?_); rintro e w1 ⟨v_, rfl, hq_⟩; have n_ := back2 hk_ hq_; clear hx_ hp_ hk_ hq_; obtain ⟨Av, cv, rfl, -, -⟩ := sep_row n_; replace n_ := sep_l1 (sep_drop n_); have n0_ := Aside0.mk n_; clear HS n_; have HS := n0_; clear n0_; skip) | (go_at_call 17; obtain ⟨ok_, hp_, hk_⟩ := sep_use1 (sep_l1 HS.out); have hx_ := view_Members p X2 _ ok_ hp_; rw [ex8] at hx_; (with_reducible refine Calls.mono hx_ ?_); rintro e w1 ⟨v_, rfl, hq_⟩; have n_ := back2 hk_ hq_; clear hx_ hp_ hk_ hq_; obtain ⟨Am, cm, rfl, -, -⟩ := sep_row n_; replace n_ := sep_l1 (sep_drop n_); have n0_ := Aside0.mk n_; clear HS n_; have HS := n0_; clear n0_; skip) | (go_at_call 13; obtain ⟨ok_, hp_, hk_⟩ := sep_use1 (sep_l1 HS.out); have hx_ := view_Seen p X2 _ ok_ hp_; rw [ex9] at hx_; (with_reducible refine Calls.mono hx_ ?_); rintro e w1 ⟨rfl, hq_⟩; have n_ := back1 hk_ hq_; clear hx_ hp_ hk_ hq_; replace n_ := sep_l1 n_; have n0_ := Aside0.mk n_; clear HS n_; have HS := n0_; clear n0_; skip))
  go_ret
  exact ⟨rfl, sep_below_of HS.out⟩
end Go.Proofs.Ythpmlnnjfmcglaa.VW
