/- DoubtDue, walked. Conditions: those that the theorem names. -/
import Derived.Test.YthoppcefadopeaaDX
import Derived.Test.YthoppcefadopeaaDR
import Derived.Test.YthoppcefadopeaaXI
namespace Go.Proofs.Ythoppcefadopeaa.DW
set_option linter.unusedVariables false
set_option linter.unusedSimpArgs false
open Go Go.RowKit Go.Proofs.YthoppcefadopeaaS Go.Proofs.YthoppcefadopeaaS.Asn Go.Proofs.Ythoppcefadopeaa.PA Go.Proofs.YthoppcefadopeaaW.PrintWords Go.Proofs.YthoppcefadopeaaW.PrintLast Go.Proofs.YthoppcefadopeaaW.PrintMore
set_option maxHeartbeats 4000000 in
set_option maxRecDepth 100000 in
theorem due_walk (t0 h0 : Int) (A1 : Option Addr) (c1 : Nat) (l : List Int) (w : World) (ht0 : 0 ≤ t0) (ht1 : t0 < 65536) (hh0 : 0 ≤ h0) (hh1 : h0 < 65536) (hr1 : Kd.C (Kd.int .u8) w A1 l.length l) (hc1 : l.length ≤ c1) (hok : ∀ x ∈ l, 0 ≤ x ∧ x < 256) :
    Calls Try.prog 4 #[.int .u16 t0, .int .u16 h0, .slice A1 l.length c1] w fun e w' => e = .returned (.bool true) ∧ Below w.heap.size w w' := by
  obtain ⟨T, rfl⟩ := Int.eq_ofNat_of_zero_le ht0
  obtain ⟨h, rfl⟩ := Int.eq_ofNat_of_zero_le hh0
  have HS := Aside0.mk (sep_start w)
  have HR1 := Aside0.mk hr1
  have HOK := Aside0.mk hok
  obtain ⟨H, hH⟩ : ∃ H, 1 + h = H := ⟨_, rfl⟩
  have HB : Aside0 (T < 65536 ∧ 1 ≤ H ∧ H ≤ 65536) := ⟨by omega⟩
  have w1_ : IntKind.u64.wrap (T : Int) = (T : Int) := by rw [IntKind.wrap_u64]; omega
  have w2_ : IntKind.u64.wrap (h : Int) = (h : Int) := by rw [IntKind.wrap_u64]; omega
  have w3_ : IntKind.u64.wrap (1 + (h : Int)) = (H : Int) := by rw [IntKind.wrap_u64]; omega
  have E1 := Aside0.mk (dd_begin T H HB.out.1 HB.out.2.1 HB.out.2.2)
  have hU := dd_until T H []
  obtain ⟨Fh, hFh⟩ : ∃ Fh, uD T H ([] : List Int).length = Fh := ⟨_, rfl⟩
  rw [hFh] at hU
  have HFH : Aside0 (Fh = T + H) := ⟨by rw [← hFh]; unfold uD; show T + (H + 0) / (0 + 1) = T + H; omega⟩
  have HFE := Aside0.mk hFh
  have U1 := Aside0.mk hU
  have G1 : Aside0 (Good (upd new 5 (dx T H []))) := ⟨by have := Good_begin Good_new 5 3 (T : Int) (H : Int) (by omega) (by omega); rw [E1.out] at this; exact this⟩
  clear ht0 ht1 hh0 hh1 hr1 hc1 hok hH hU hFh
  go_enter Try.func4, Try.ntmps4
  go_upto_region 9 with (first | (go_at_call 9; (with_reducible refine Calls.mono (examples_walk _) ?_); rintro e w1 ⟨rfl, hb_⟩; have n_ := sep_below HS.out hb_; clear hb_; have n0_ := Aside0.mk n_; clear HS n_; have HS := n0_; clear n0_) | (go_at_call 10; (with_reducible refine Calls.mono (dt_New _) ?_); rintro e w2 ⟨p, rfl, hm_⟩; have n_ := sep_made_of HS.out (sep_only hm_); clear hm_; have n0_ := Aside0.mk n_; clear HS n_; have HS := n0_; clear n0_))
  clear w1_ w2_ w3_
  go_upto_region 10 with (go_at_call 18; obtain ⟨ok_, hp_, hk_⟩ := sep_use1 HS.out; have hx_ := dt_Begin p (new) (5) (3) ((T : Int)) ((H : Int)) _ ok_ hp_; rw [E1.out] at hx_; dsimp only at hx_; (with_reducible refine Calls.mono hx_ ?_); rintro e w1 ⟨rfl, hq_⟩; have n_ := back1 hk_ hq_; clear hx_ hp_ hk_ hq_; have n0_ := Aside0.mk n_; clear HS n_; have HS := n0_; clear n0_)
  go_upto_region 14 with (go_at_call 20; obtain ⟨ok_, hp_, hk_⟩ := sep_use1 HS.out; have hx_ := dt_Until p (upd new 5 (dx T H [])) (5) _ ok_ (G1.out) hp_; rw [U1.out] at hx_; dsimp only at hx_; (with_reducible refine Calls.mono hx_ ?_); rintro e w1 ⟨rfl, hq_⟩; have n_ := back1 hk_ hq_; clear hx_ hp_ hk_ hq_; have n0_ := Aside0.mk n_; clear HS n_; have HS := n0_; clear n0_)
  go_loopg [12, 15, 16] 20 (fun gg v12 v15 v16 wr => ∃ i : Nat, i ≤ l.length ∧ i ≤ 20 ∧ 20 - i ≤ gg ∧ v16 = .int .i64 (i : Int) ∧ ∃ wl : List Int, Aside0 (Good (upd new 5 (dx T H wl))) ∧ v12 = .int .u64 ((uD T H wl.length : Nat) : Int) ∧ v15 = .int .u64 ((wl.length + 1 : Nat) : Int) ∧ Aside0 (Sep w (fun _ => False) (doubtA p (upd new 5 (dx T H wl)) ⋆ emp) wr))
  case atStart => exact ⟨0, Nat.zero_le _, by omega, by omega, rfl, [], G1, congrArg (fun n : Nat => Value.int .u64 (n : Int)) HFE.out.symm, rfl, HS⟩
  case round =>
    clear HS
    obtain ⟨i, hi, hi20, hgi, rfl, wl, HG, rfl, rfl, HS⟩ := hrel
    by_cases hlt : i < l.length
    · have c1b : decide ((i : Int) < (l.length : Int)) = true := decide_eq_true (Int.ofNat_lt.2 hlt); have c1n : decide (i < l.length) = true := decide_eq_true hlt; have c1q : (i < l.length) = True := eq_true hlt; have p0_ := eq_true (Int.natCast_nonneg i)
      by_cases h20 : i < 20
      · have c2b : decide ((i : Int) < 20) = true := decide_eq_true (by omega)
        have c2q : ((i : Int) < 20) = True := eq_true (by omega)
        have c2n := eq_true h20
        have HI := Aside0.mk (And.intro hlt (And.intro h20 hgi))
        obtain ⟨y, hy⟩ : ∃ y : Nat, rd l (i : Int) = (y : Int) := by
          have := HOK.out (l.getD i 0) (by rw [List.getD_eq_getElem?_getD, List.getElem?_eq_getElem hlt]; exact List.getElem_mem hlt)
          exact ⟨(l.getD i 0).toNat, by unfold rd; rw [Int.toNat_natCast]; omega⟩
        obtain ⟨q, hq⟩ : ∃ q : Nat, y % 40 = q := ⟨_, rfl⟩
        have r2 : ((y : Int) % 40) = (q : Int) := by omega
        have r1 : Int.tmod (y : Int) 40 = (q : Int) := by rw [Int.tmod_eq_emod_of_nonneg (by omega)]; exact r2
        obtain ⟨ad, hA, kw⟩ := Kd.at_int HR1.out (i : Int) (Int.natCast_nonneg i) (Int.ofNat_lt.2 hlt)
        subst hA
        rw [Int.toNat_natCast, hy] at kw
        have ka := ((sep_below_of HS.out).cell (World.block_lt_of_cell? w _ kw)).trans kw
        have hg := HG.out 5 (by decide)
        rw [upd_same] at hg
        have hfew : wl.length ≤ 64 := hg.few
        have hu1 := uD_over T H wl.length HB.out.2.1
        have hcd := dd_confirm T H wl (q : Int)
        obtain ⟨u, hu⟩ : ∃ u, uD T H wl.length = u := ⟨_, rfl⟩
        rw [hu] at hu1
        have HU := Aside0.mk hu
        clear hi hi20 hgi hlt h20 hy hq kw hg
        rcases hcd with ⟨f, hf, hE⟩ | hE
        · have HE := Aside0.mk hE
          have f1 : (f == 0) = false := by rw [beq_eq_false_iff_ne]; exact hf
          have f2 := eq_false hf
          have HUU := Aside0.mk (dd_until T H wl)
          rw [hu] at HUU ⊢
          have d1 : decide ((u : Int) > (u : Int)) = false := decide_eq_false (by omega)
          have d2 : decide ((u : Int) < (u : Int)) = false := decide_eq_false (by omega)
          have d3 : decide ((u : Int) ≤ (T : Int)) = false := decide_eq_false (by omega)
          have d4 : ((u : Int) ≤ (T : Int)) = False := eq_false (by omega)
          have d5 : (u ≤ T) = False := eq_false (by omega)
          clear hE hf hu1 hfew hu
          go_upto_region 17 with (go_at_call 11; obtain ⟨ok_, hp_, hk_⟩ := sep_use1 HS.out; have hx_ := dt_Confirm p (upd new 5 (dx T H wl)) (5) (3) ((q : Int)) _ ok_ (HG.out) hp_; rw [HE.out] at hx_; dsimp only at hx_; (with_reducible refine Calls.mono hx_ ?_); rintro e w1 ⟨rfl, hq_⟩; have n_ := back1 hk_ hq_; clear hx_ hp_ hk_ hq_; have n0_ := Aside0.mk n_; clear HS n_; have HS := n0_; clear n0_)
          go_upto_region 18 with (go_at_call 20; obtain ⟨ok_, hp_, hk_⟩ := sep_use1 HS.out; have hx_ := dt_Until p (upd new 5 (dx T H wl)) (5) _ ok_ (HG.out) hp_; rw [HUU.out] at hx_; dsimp only at hx_; (with_reducible refine Calls.mono hx_ ?_); rintro e w1 ⟨rfl, hq_⟩; have n_ := back1 hk_ hq_; clear hx_ hp_ hk_ hq_; have n0_ := Aside0.mk n_; clear HS n_; have HS := n0_; clear n0_)
          go_wp2
          rw [← HU.out]
          go_roundg (20 - (i + 1))
          case measure => have := HI.out; omega
          case rel => exact ⟨i + 1, HI.out.1, HI.out.2.1, Nat.le_refl _, congrArg (Value.int .i64) (by have := HI.out; unfold wrap64; omega), wl, ⟨HG.out⟩, rfl, rfl, HS⟩
        · have HE := Aside0.mk hE
          have HUU := Aside0.mk (dd_until T H (ins wl (q : Int)))
          have hG2 := Good_confirm HG.out 5 3 (q : Int)
          rw [hE] at hG2
          have HG2 := Aside0.mk hG2
          have hlen := ins_length wl (q : Int)
          have hdn := uD_down T H wl.length HB.out.2.1
          have hu3 := uD_over T H (wl.length + 1) HB.out.2.1
          rw [← hlen] at hdn hu3
          obtain ⟨u2, hu2⟩ : ∃ u2, uD T H (ins wl (q : Int)).length = u2 := ⟨_, rfl⟩
          rw [hu2] at hdn hu3 HUU
          rw [hu] at hdn ⊢
          have HU2 := Aside0.mk hu2
          have HLEN := Aside0.mk hlen
          have d1 : decide ((u2 : Int) > (u : Int)) = false := decide_eq_false (by omega)
          have d2 : decide ((u : Int) < (u2 : Int)) = false := decide_eq_false (by omega)
          have d6 : ((u : Int) < (u2 : Int)) = False := eq_false (by omega)
          have d7 : (u < u2) = False := eq_false (by omega)
          have d3 : decide ((u2 : Int) ≤ (T : Int)) = false := decide_eq_false (by omega)
          have d4 : ((u2 : Int) ≤ (T : Int)) = False := eq_false (by omega)
          have d5 : (u2 ≤ T) = False := eq_false (by omega)
          obtain ⟨m, hm⟩ : ∃ m, wl.length + 1 = m := ⟨_, rfl⟩
          have w1_ : IntKind.u64.wrap ((m : Int) + 1) = (m : Int) + 1 := by rw [IntKind.wrap_u64]; omega
          rw [hm]
          have HM := Aside0.mk hm
          clear hE hu1 hfew hu hG2 hlen hdn hu3 hu2 hm
          go_upto_region 17 with (go_at_call 11; obtain ⟨ok_, hp_, hk_⟩ := sep_use1 HS.out; have hx_ := dt_Confirm p (upd new 5 (dx T H wl)) (5) (3) ((q : Int)) _ ok_ (HG.out) hp_; rw [HE.out] at hx_; dsimp only at hx_; (with_reducible refine Calls.mono hx_ ?_); rintro e w1 ⟨rfl, hq_⟩; have n_ := back1 hk_ hq_; clear hx_ hp_ hk_ hq_; have n0_ := Aside0.mk n_; clear HS n_; have HS := n0_; clear n0_)
          go_upto_region 18 with (go_at_call 20; obtain ⟨ok_, hp_, hk_⟩ := sep_use1 HS.out; have hx_ := dt_Until p (upd new 5 (dx T H (ins wl (q : Int)))) (5) _ ok_ (HG2.out) hp_; rw [HUU.out] at hx_; dsimp only at hx_; (with_reducible refine Calls.mono hx_ ?_); rintro e w1 ⟨rfl, hq_⟩; have n_ := back1 hk_ hq_; clear hx_ hp_ hk_ hq_; have n0_ := Aside0.mk n_; clear HS n_; have HS := n0_; clear n0_)
          go_wp2
          rw [← HU2.out]
          go_roundg (20 - (i + 1))
          case measure => have := HI.out; omega
          case rel => exact ⟨i + 1, HI.out.1, HI.out.2.1, Nat.le_refl _, congrArg (Value.int .i64) (by have := HI.out; unfold wrap64; omega), ins wl (q : Int), ⟨HG2.out⟩, rfl, congrArg (Value.int .u64) (by rw [HLEN.out, HM.out]; rfl), HS⟩
      · have c2b : decide ((i : Int) < 20) = false := decide_eq_false (by omega)
        have c2q : ((i : Int) < 20) = False := eq_false (by omega)
        have c2n := eq_false h20
        clear hi hi20 hgi hlt h20
        have hg := HG.out 5 (by decide)
        rw [upd_same] at hg
        have hfew := hg.few
        obtain ⟨n, hn⟩ : ∃ n, wl.length = n := ⟨_, rfl⟩
        have hfew' : n ≤ 64 := by rw [← hn]; exact hfew
        have HN := Aside0.mk hn
        obtain ⟨m, hm⟩ : ∃ m, n + 1 = m := ⟨_, rfl⟩
        obtain ⟨u, hu⟩ : ∃ u, uD T H n = u := ⟨_, rfl⟩
        have hu1 := uD_over T H n HB.out.2.1
        have hu2 := uD_lt T H n HB.out.1 HB.out.2.2 hfew'
        obtain ⟨q, hq⟩ : ∃ q, (H + n) / (n + 1) = q := ⟨_, rfl⟩
        have huq : u = T + q := by rw [← hu, ← hq]; rfl
        have hq2 : q ≤ H + n := by rw [← hq]; exact Nat.div_le_self _ _
        rw [hu] at hu1 hu2
        rw [hn, hu, hm]
        have hxu : untilI (dx T H wl) = (u : Int) := by rw [dx_until, hn, hu]
        have HD1 := Aside0.mk (due_not 5 (dx T H wl) ((u : Int) - 1) (by decide) (by decide) (.inr (by rw [hxu]; omega)))
        have HD2 := Aside0.mk (due_yes 5 (dx T H wl) (u : Int) (by decide) (by decide) (by show (5 : Int) ≠ 0; decide) (by rw [hxu]; exact Int.le_refl _))
        have HD3 := Aside0.mk (due_not 5 It.zero (u : Int) (by decide) (by decide) (.inl rfl))
        have HGZ : Aside0 (Good (upd new 5 It.zero)) := ⟨Good_upd Good_new 5 _ good_zero⟩
        have hb := HB.out
        have w1_ : IntKind.u64.wrap ((u : Int) - 1) = (u : Int) - 1 := by rw [IntKind.wrap_u64]; omega
        have z1 : IntKind.u64.wrap ((T : Int) + (H : Int)) = (Fh : Int) := by have := HFH.out; rw [IntKind.wrap_u64]; omega
        have z2 : IntKind.u64.wrap ((H : Int) + (m : Int)) = (H : Int) + (m : Int) := by rw [IntKind.wrap_u64]; omega
        have z3 : IntKind.u64.wrap ((H : Int) + (m : Int) - 1) = ((H + n : Nat) : Int) := by rw [IntKind.wrap_u64]; omega
        have z4 : Int.tdiv (((H + n : Nat) : Int)) (m : Int) = (q : Int) := by rw [Int.tdiv_eq_ediv_of_nonneg (by omega), ← hm, ← hq]; rfl
        have z5 : IntKind.u64.wrap (q : Int) = (q : Int) := by rw [IntKind.wrap_u64]; omega
        have z6 : IntKind.u64.wrap ((T : Int) + (q : Int)) = (u : Int) := by rw [IntKind.wrap_u64]; omega
        have z7 : IntKind.u64.wrap ((m : Int) - 1) = (n : Int) := by rw [IntKind.wrap_u64]; omega
        have z8 : IntKind.u64.wrap (n : Int) = (n : Int) := by rw [IntKind.wrap_u64]; omega
        have z9 : ((m : Int) == 0) = false := by rw [beq_eq_false_iff_ne]; omega
        have z10 : ((m : Int) = 0) = False := eq_false (by omega)
        have z11 : (m = 0) = False := eq_false (by omega)
        generalize ((H + n : Nat) : Int) = hn_ at z3 z4
        clear hg hfew hfew' hn hm hu hu1 hu2 hq huq hq2 hxu hb
        go_upto_region 24 with (go_at_call 16; obtain ⟨ok_, hp_, hk_⟩ := sep_use1 (id HS.out); have hx_ := dt_Due p (upd new 5 (dx T H wl)) ((u : Int) - 1) _ ok_ (HG.out) hp_; rw [HD1.out] at hx_; dsimp only at hx_; (with_reducible refine Calls.mono hx_ ?_); rintro e w1 ⟨v_, rfl, hq_⟩; have n_ := back2 hk_ hq_; clear hx_ hp_ hk_ hq_; have n0_ := Aside0.mk n_; clear HS n_; have HS := n0_; clear n0_)
        obtain ⟨A1_, c1_, rfl, n_⟩ := items_none HS.out
        have n0_ := Aside0.mk n_; clear HS n_; have HS := n0_; clear n0_
        go_upto_region 25 with (go_at_call 16; obtain ⟨ok_, hp_, hk_⟩ := sep_use1 (id HS.out); have hx_ := dt_Due p (upd new 5 (dx T H wl)) ((u : Int)) _ ok_ (HG.out) hp_; rw [HD2.out] at hx_; dsimp only at hx_; (with_reducible refine Calls.mono hx_ ?_); rintro e w1 ⟨v_, rfl, hq_⟩; have n_ := back2 hk_ hq_; clear hx_ hp_ hk_ hq_; have n0_ := Aside0.mk n_; clear HS n_; have HS := n0_; clear n0_)
        obtain ⟨gl, cl, Al, ml, dl, rfl, n_, hml⟩ := items_one HS.out
        have hml' : ml = n := hml.trans HN.out
        clear hml
        subst hml'
        have n0_ := Aside0.mk n_; clear HS n_; have HS := n0_; clear n0_
        go_upto_region 26 with (go_at_call 16; obtain ⟨ok_, hp_, hk_⟩ := sep_use1 (sep_l2 HS.out); have hx_ := dt_Due p (upd new 5 It.zero) ((u : Int)) _ ok_ (HGZ.out) hp_; rw [HD3.out] at hx_; dsimp only at hx_; (with_reducible refine Calls.mono hx_ ?_); rintro e w1 ⟨v_, rfl, hq_⟩; have n_ := back2 hk_ hq_; clear hx_ hp_ hk_ hq_; have n0_ := Aside0.mk n_; clear HS n_; have HS := n0_; clear n0_)
        obtain ⟨A3_, c3_, rfl, n_⟩ := items_none HS.out
        have n0_ := Aside0.mk n_; clear HS n_; have HS := n0_; clear n0_
        obtain ⟨k1, k2, k3, k4, k5⟩ := rit_cells (sep_l1 HS.out) 0 _ rfl
        simp only [Nat.zero_mul, Nat.zero_add] at k1 k5
        dsimp only [dx] at k1 k5
        clear k2 k3 k4
        go_wp2
        go_ret
        exact ⟨rfl, sep_below_of HS.out⟩
    · obtain rfl : i = l.length := by omega
      have c2b : decide ((l.length : Int) < (l.length : Int)) = false := decide_eq_false (by omega)
      clear hi hi20 hgi hlt
      have hg := HG.out 5 (by decide)
      rw [upd_same] at hg
      have hfew := hg.few
      obtain ⟨n, hn⟩ : ∃ n, wl.length = n := ⟨_, rfl⟩
      have hfew' : n ≤ 64 := by rw [← hn]; exact hfew
      have HN := Aside0.mk hn
      obtain ⟨m, hm⟩ : ∃ m, n + 1 = m := ⟨_, rfl⟩
      obtain ⟨u, hu⟩ : ∃ u, uD T H n = u := ⟨_, rfl⟩
      have hu1 := uD_over T H n HB.out.2.1
      have hu2 := uD_lt T H n HB.out.1 HB.out.2.2 hfew'
      obtain ⟨q, hq⟩ : ∃ q, (H + n) / (n + 1) = q := ⟨_, rfl⟩
      have huq : u = T + q := by rw [← hu, ← hq]; rfl
      have hq2 : q ≤ H + n := by rw [← hq]; exact Nat.div_le_self _ _
      rw [hu] at hu1 hu2
      rw [hn, hu, hm]
      have hxu : untilI (dx T H wl) = (u : Int) := by rw [dx_until, hn, hu]
      have HD1 := Aside0.mk (due_not 5 (dx T H wl) ((u : Int) - 1) (by decide) (by decide) (.inr (by rw [hxu]; omega)))
      have HD2 := Aside0.mk (due_yes 5 (dx T H wl) (u : Int) (by decide) (by decide) (by show (5 : Int) ≠ 0; decide) (by rw [hxu]; exact Int.le_refl _))
      have HD3 := Aside0.mk (due_not 5 It.zero (u : Int) (by decide) (by decide) (.inl rfl))
      have HGZ : Aside0 (Good (upd new 5 It.zero)) := ⟨Good_upd Good_new 5 _ good_zero⟩
      have hb := HB.out
      have w1_ : IntKind.u64.wrap ((u : Int) - 1) = (u : Int) - 1 := by rw [IntKind.wrap_u64]; omega
      have z1 : IntKind.u64.wrap ((T : Int) + (H : Int)) = (Fh : Int) := by have := HFH.out; rw [IntKind.wrap_u64]; omega
      have z2 : IntKind.u64.wrap ((H : Int) + (m : Int)) = (H : Int) + (m : Int) := by rw [IntKind.wrap_u64]; omega
      have z3 : IntKind.u64.wrap ((H : Int) + (m : Int) - 1) = ((H + n : Nat) : Int) := by rw [IntKind.wrap_u64]; omega
      have z4 : Int.tdiv (((H + n : Nat) : Int)) (m : Int) = (q : Int) := by rw [Int.tdiv_eq_ediv_of_nonneg (by omega), ← hm, ← hq]; rfl
      have z5 : IntKind.u64.wrap (q : Int) = (q : Int) := by rw [IntKind.wrap_u64]; omega
      have z6 : IntKind.u64.wrap ((T : Int) + (q : Int)) = (u : Int) := by rw [IntKind.wrap_u64]; omega
      have z7 : IntKind.u64.wrap ((m : Int) - 1) = (n : Int) := by rw [IntKind.wrap_u64]; omega
      have z8 : IntKind.u64.wrap (n : Int) = (n : Int) := by rw [IntKind.wrap_u64]; omega
      have z9 : ((m : Int) == 0) = false := by rw [beq_eq_false_iff_ne]; omega
      have z10 : ((m : Int) = 0) = False := eq_false (by omega)
      have z11 : (m = 0) = False := eq_false (by omega)
      generalize ((H + n : Nat) : Int) = hn_ at z3 z4
      clear hg hfew hfew' hn hm hu hu1 hu2 hq huq hq2 hxu hb
      go_upto_region 24 with (go_at_call 16; obtain ⟨ok_, hp_, hk_⟩ := sep_use1 (id HS.out); have hx_ := dt_Due p (upd new 5 (dx T H wl)) ((u : Int) - 1) _ ok_ (HG.out) hp_; rw [HD1.out] at hx_; dsimp only at hx_; (with_reducible refine Calls.mono hx_ ?_); rintro e w1 ⟨v_, rfl, hq_⟩; have n_ := back2 hk_ hq_; clear hx_ hp_ hk_ hq_; have n0_ := Aside0.mk n_; clear HS n_; have HS := n0_; clear n0_)
      obtain ⟨A1_, c1_, rfl, n_⟩ := items_none HS.out
      have n0_ := Aside0.mk n_; clear HS n_; have HS := n0_; clear n0_
      go_upto_region 25 with (go_at_call 16; obtain ⟨ok_, hp_, hk_⟩ := sep_use1 (id HS.out); have hx_ := dt_Due p (upd new 5 (dx T H wl)) ((u : Int)) _ ok_ (HG.out) hp_; rw [HD2.out] at hx_; dsimp only at hx_; (with_reducible refine Calls.mono hx_ ?_); rintro e w1 ⟨v_, rfl, hq_⟩; have n_ := back2 hk_ hq_; clear hx_ hp_ hk_ hq_; have n0_ := Aside0.mk n_; clear HS n_; have HS := n0_; clear n0_)
      obtain ⟨gl, cl, Al, ml, dl, rfl, n_, hml⟩ := items_one HS.out
      have hml' : ml = n := hml.trans HN.out
      clear hml
      subst hml'
      have n0_ := Aside0.mk n_; clear HS n_; have HS := n0_; clear n0_
      go_upto_region 26 with (go_at_call 16; obtain ⟨ok_, hp_, hk_⟩ := sep_use1 (sep_l2 HS.out); have hx_ := dt_Due p (upd new 5 It.zero) ((u : Int)) _ ok_ (HGZ.out) hp_; rw [HD3.out] at hx_; dsimp only at hx_; (with_reducible refine Calls.mono hx_ ?_); rintro e w1 ⟨v_, rfl, hq_⟩; have n_ := back2 hk_ hq_; clear hx_ hp_ hk_ hq_; have n0_ := Aside0.mk n_; clear HS n_; have HS := n0_; clear n0_)
      obtain ⟨A3_, c3_, rfl, n_⟩ := items_none HS.out
      have n0_ := Aside0.mk n_; clear HS n_; have HS := n0_; clear n0_
      obtain ⟨k1, k2, k3, k4, k5⟩ := rit_cells (sep_l1 HS.out) 0 _ rfl
      simp only [Nat.zero_mul, Nat.zero_add] at k1 k5
      dsimp only [dx] at k1 k5
      clear k2 k3 k4
      go_wp2
      go_ret
      exact ⟨rfl, sep_below_of HS.out⟩
end Go.Proofs.Ythoppcefadopeaa.DW
