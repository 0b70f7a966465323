/- DoubtLonger, walked. Conditions: those that the theorem names. -/
import Derived.Test.YthoppcefadopeaaDX
import Derived.Test.YthoppcefadopeaaDQ
namespace Go.Proofs.Ythoppcefadopeaa.DW
set_option linter.unusedVariables false
set_option linter.unusedSimpArgs false
open Go Go.RowKit Go.Proofs.YthoppcefadopeaaS Go.Proofs.YthoppcefadopeaaS.Asn Go.Proofs.Ythoppcefadopeaa.PA Go.Proofs.YthoppcefadopeaaW.PrintWords Go.Proofs.YthoppcefadopeaaW.PrintLast Go.Proofs.YthoppcefadopeaaW.PrintMore
set_option maxHeartbeats 4000000 in
set_option maxRecDepth 100000 in
theorem longer_walk (x0 : Int) (w : World) (hx0 : 0 ≤ x0) (hx1 : x0 < 65536) :
    Calls Try.prog 8 #[.int .u16 x0] w fun e w' => e = .returned (.bool true) ∧ Below w.heap.size w w' := by
  obtain ⟨x, rfl⟩ := Int.eq_ofNat_of_zero_le hx0
  have hx : x < 65536 := by omega
  clear hx0 hx1
  have HS := Aside0.mk (sep_start w)
  obtain ⟨H, hH⟩ : ∃ H, 1 + x = H := ⟨_, rfl⟩
  have HH : Aside0 (1 ≤ H ∧ H ≤ 65536) := ⟨by omega⟩
  have w1_ : IntKind.u64.wrap (x : Int) = (x : Int) := by rw [IntKind.wrap_u64]; omega
  have w2_ : IntKind.u64.wrap (1 + (x : Int)) = (H : Int) := by rw [IntKind.wrap_u64]; omega
  have E1 := Aside0.mk (lo1 H HH.out.1 HH.out.2)
  have E2 := Aside0.mk (lo2 H)
  have E3 := Aside0.mk (lo3 H)
  have U1 := Aside0.mk (lu H [])
  have U2 := Aside0.mk (lu H [1])
  have U3 := Aside0.mk (lu H [1, 2])
  have G1 : Aside0 (Good (upd new 9 (lx H []))) := ⟨by have := Good_begin Good_new 9 0 100 (H : Int) (by decide) (Int.natCast_nonneg H); rw [E1.out] at this; exact this⟩
  have G2 : Aside0 (Good (upd new 9 (lx H [1]))) := ⟨by have := Good_confirm G1.out 9 0 1; rw [E2.out] at this; exact this⟩
  have G3 : Aside0 (Good (upd new 9 (lx H [1, 2]))) := ⟨by have := Good_confirm G2.out 9 0 2; rw [E3.out] at this; exact this⟩
  obtain ⟨a, ha⟩ : ∃ a, (H + ([] : List Int).length) / (([] : List Int).length + 1) = a := ⟨_, rfl⟩
  obtain ⟨b, hb⟩ : ∃ b, (H + [(1 : Int)].length) / ([(1 : Int)].length + 1) = b := ⟨_, rfl⟩
  obtain ⟨c, hc⟩ : ∃ c, (H + [(1 : Int), 2].length) / ([(1 : Int), 2].length + 1) = c := ⟨_, rfl⟩
  rw [ha] at U1
  rw [hb] at U2
  rw [hc] at U3
  have ha' : a = H := by rw [← ha]; show (H + 0) / (0 + 1) = H; omega
  have hb' : b = (H + 1) / 2 := hb.symm
  have hc' : c = (H + 2) / 3 := hc.symm
  subst ha'
  clear ha hb hc hH hx
  go_enter Try.func8, Try.ntmps8
  go_upto_region 7 with (first | (go_at_call 9; (with_reducible refine Calls.mono (examples_walk _) ?_); rintro e w1 ⟨rfl, hb_⟩; have n_ := sep_below HS.out hb_; clear hb_; have n0_ := Aside0.mk n_; clear HS n_; have HS := n0_; clear n0_) | (go_at_call 10; (with_reducible refine Calls.mono (dt_New _) ?_); rintro e w2 ⟨p, rfl, hm_⟩; have n_ := sep_made_of HS.out (sep_only hm_); clear hm_; have n0_ := Aside0.mk n_; clear HS n_; have HS := n0_; clear n0_))
  go_upto_region 8 with (fail)
  clear w1_ w2_
  go_upto_region 9 with (go_loud ((go_at_call 18; obtain ⟨ok_, hp_, hk_⟩ := sep_use1 HS.out; have hx_ := dt_Begin p (new) (9) (0) (100) ((a : Int)) _ ok_ hp_; rw [E1.out] at hx_; dsimp only at hx_; (with_reducible refine Calls.mono hx_ ?_); rintro e w1 ⟨rfl, hq_⟩; have n_ := back1 hk_ hq_; clear hx_ hp_ hk_ hq_; have n0_ := Aside0.mk n_; clear HS n_; have HS := n0_; clear n0_)))
  go_upto_region 10 with (go_loud ((go_at_call 20; obtain ⟨ok_, hp_, hk_⟩ := sep_use1 HS.out; have hx_ := dt_Until p (upd new 9 (lx a [])) (9) _ ok_ (G1.out) hp_; rw [U1.out] at hx_; dsimp only at hx_; (with_reducible refine Calls.mono hx_ ?_); rintro e w1 ⟨rfl, hq_⟩; have n_ := back1 hk_ hq_; clear hx_ hp_ hk_ hq_; have n0_ := Aside0.mk n_; clear HS n_; have HS := n0_; clear n0_)))
  go_upto_region 11 with (go_at_call 11; obtain ⟨ok_, hp_, hk_⟩ := sep_use1 HS.out; have hx_ := dt_Confirm p (upd new 9 (lx a [])) (9) (0) (1) _ ok_ (G1.out) hp_; rw [E2.out] at hx_; dsimp only at hx_; (with_reducible refine Calls.mono hx_ ?_); rintro e w1 ⟨rfl, hq_⟩; have n_ := back1 hk_ hq_; clear hx_ hp_ hk_ hq_; have n0_ := Aside0.mk n_; clear HS n_; have HS := n0_; clear n0_)
  go_upto_region 12 with (go_at_call 20; obtain ⟨ok_, hp_, hk_⟩ := sep_use1 HS.out; have hx_ := dt_Until p (upd new 9 (lx a [1])) (9) _ ok_ (G2.out) hp_; rw [U2.out] at hx_; dsimp only at hx_; (with_reducible refine Calls.mono hx_ ?_); rintro e w1 ⟨rfl, hq_⟩; have n_ := back1 hk_ hq_; clear hx_ hp_ hk_ hq_; have n0_ := Aside0.mk n_; clear HS n_; have HS := n0_; clear n0_)
  go_upto_region 13 with (go_at_call 11; obtain ⟨ok_, hp_, hk_⟩ := sep_use1 HS.out; have hx_ := dt_Confirm p (upd new 9 (lx a [1])) (9) (0) (2) _ ok_ (G2.out) hp_; rw [E3.out] at hx_; dsimp only at hx_; (with_reducible refine Calls.mono hx_ ?_); rintro e w1 ⟨rfl, hq_⟩; have n_ := back1 hk_ hq_; clear hx_ hp_ hk_ hq_; have n0_ := Aside0.mk n_; clear HS n_; have HS := n0_; clear n0_)
  go_upto_region 14 with (go_at_call 20; obtain ⟨ok_, hp_, hk_⟩ := sep_use1 HS.out; have hx_ := dt_Until p (upd new 9 (lx a [1, 2])) (9) _ ok_ (G3.out) hp_; rw [U3.out] at hx_; dsimp only at hx_; (with_reducible refine Calls.mono hx_ ?_); rintro e w1 ⟨rfl, hq_⟩; have n_ := back1 hk_ hq_; clear hx_ hp_ hk_ hq_; have n0_ := Aside0.mk n_; clear HS n_; have HS := n0_; clear n0_)
  have z1 : IntKind.u64.wrap (100 + (a : Int)) = 100 + (a : Int) := by have := HH.out; rw [IntKind.wrap_u64]; omega
  have z2 : IntKind.u64.wrap ((a : Int) + 1) = (a : Int) + 1 := by have := HH.out; rw [IntKind.wrap_u64]; omega
  have z3 : Int.tdiv ((a : Int) + 1) 2 = (b : Int) := by rw [Int.tdiv_eq_ediv_of_nonneg (by omega)]; omega
  have z4 : IntKind.u64.wrap (b : Int) = (b : Int) := by have := HH.out; rw [IntKind.wrap_u64]; omega
  have z5 : IntKind.u64.wrap (100 + (b : Int)) = 100 + (b : Int) := by have := HH.out; rw [IntKind.wrap_u64]; omega
  have z6 : IntKind.u64.wrap ((a : Int) + 2) = (a : Int) + 2 := by have := HH.out; rw [IntKind.wrap_u64]; omega
  have z7 : Int.tdiv ((a : Int) + 2) 3 = (c : Int) := by rw [Int.tdiv_eq_ediv_of_nonneg (by omega)]; omega
  have z8 : IntKind.u64.wrap (c : Int) = (c : Int) := by have := HH.out; rw [IntKind.wrap_u64]; omega
  have z9 : IntKind.u64.wrap (100 + (c : Int)) = 100 + (c : Int) := by have := HH.out; rw [IntKind.wrap_u64]; omega
  have d1 : decide (100 + (a : Int) ≥ 100 + (b : Int)) = true := decide_eq_true (by have := HH.out; omega)
  have d2 : decide (100 + (b : Int) ≥ 100 + (c : Int)) = true := decide_eq_true (by have := HH.out; omega)
  have d3 : decide (100 + (c : Int) > 100) = true := decide_eq_true (by have := HH.out; omega)
  have d4 : ((b : Int) ≤ (a : Int)) = True := eq_true (by have := HH.out; omega)
  have d5 : ((c : Int) ≤ (b : Int)) = True := eq_true (by have := HH.out; omega)
  have d6 : (0 < (c : Int)) = True := eq_true (by have := HH.out; omega)
  have d7 : (b ≤ a) = True := eq_true (by have := HH.out; omega)
  have d8 : (c ≤ b) = True := eq_true (by have := HH.out; omega)
  have d9 : (0 < c) = True := eq_true (by have := HH.out; omega)
  clear hb' hc'
  go_wp2
  go_ret
  exact ⟨rfl, sep_below_of HS.out⟩
end Go.Proofs.Ythoppcefadopeaa.DW
