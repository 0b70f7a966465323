/- BagPicks, walked. Conditions: those that the theorem names. -/
import Derived.Test.YtlpiodcklacdpaaPK
import Derived.Deep.RegionHeld3
import Derived.Deep.RegionWith
namespace Go.Proofs.Ytlpiodcklacdpaa.BG
set_option linter.unusedVariables false
set_option linter.unusedSimpArgs false
open Go Go.RowKit Go.Proofs.YtlpiodcklacdpaaS Go.Proofs.YtlpiodcklacdpaaS.Asn Go.Proofs.Ytlpiodcklacdpaa.PA Go.Proofs.YtlpiodcklacdpaaW.PrintWords Go.Proofs.YtlpiodcklacdpaaW.PrintLast Go.Proofs.YtlpiodcklacdpaaW.PrintMore
/-- string([]byte{..}). -/
theorem conv_lit (n : Nat) (W : World) : (Go.convert 22 9 (.slice (some ⟨W.heap.size, 0, none⟩) 1 1)).run Try.prog (W.alloc (.cells #[.int .u8 (n : Int)] 5)) = .ok (.string (bs n)) (W.alloc (.cells #[.int .u8 (n : Int)] 5)) := by
  have h := sep_lit (enc := Value.int .u8) (h1 := fun _ => rfl) (sep_start W) 5 [(n : Int)] (show 1 ≤ 9223372036854775807 by decide)
  exact Kd.C_string (src := 22) (dst := 9) (c := 1) Try.underlying22 Try.underlying5 Try.underlying9 (sep_row' h).2.2
theorem info3 : (Try.prog.info? 3).map (fun i => (i.zero, i.size, i.bytes)) = some (some (.int .i64 0), 1, 8) := by kernel_rfl
set_option maxHeartbeats 4000000 in
set_option maxRecDepth 100000 in
theorem picks_walk (A1 : Option Addr) (c1 : Nat) (l : List Int) (a1 : Nat) (a2 : Int) (w : World) (hr1 : Kd.C (Kd.int .u8) w A1 l.length l) (hc1 : l.length ≤ c1) (hb : ∀ x ∈ l, 0 ≤ x ∧ x < 256) (h1 : a1 < 256) (h2 : a2 ≤ 9223372036854775807) :
    Calls Try.prog 4 #[.slice A1 l.length c1, .int .u8 (a1 : Int), .int .i64 a2] w fun e w' => e = .returned (.bool true) ∧ Below w.heap.size w w' := by
  have HS := Aside0.mk (sep_start w)
  have HR1 := Aside0.mk hr1
  have HC1 := Aside0.mk hc1
  have HB1 := Aside0.mk hb
  have H2 := Aside0.mk h2
  have HLN := Aside0.mk hr1.2.1
  obtain ⟨t, ht⟩ : ∃ t : Nat, a1 % 5 = t := ⟨_, rfl⟩
  have r1 : ((a1 : Int) % 5) = (t : Int) := by omega
  have HT : Aside0 (t < 5) := ⟨by omega⟩
  clear hr1 hc1 hb h1 h2 ht
  go_enter Try.func4, Try.ntmps4
  go_upto_region 7 with (first | (go_at_call 9; (with_reducible refine Calls.mono (examples_walk _) ?_); rintro e w1 ⟨rfl, hb_⟩; have n_ := sep_below HS.out hb_; clear hb_; have n0_ := Aside0.mk n_; clear HS n_; have HS := n0_; clear n0_) | (go_at_call 10; (with_reducible refine Calls.mono (bag_New 12 _ (by decide) (by decide)) ?_); rintro e w2 ⟨p, rfl, hm_⟩; have n_ := sep_made_of HS.out (sep_only hm_); clear hm_; have n0_ := Aside0.mk n_; clear HS n_; have HS := n0_; clear n0_))
  go_upto_region 10 with (fail)
  have n_ := sep_l1 (sep_row_nil (d := Kd.int .i64) (e := 3) HS.out)
  have n0_ := Aside0.mk n_; clear HS n_; have HS := n0_; clear n0_
  rw [r1]
  clear r1
  go_loopg [10, 12] 12 (fun gg v10 v12 wr => ∃ i : Nat, i ≤ l.length ∧ i ≤ 12 ∧ 12 - i ≤ gg ∧ v12 = .int .i64 (i : Int) ∧ Aside0 (Sep w (fun _ => False) (bagA p (its 4 l i) 12 ⋆ row (Kd.int .i64) 3 v10 (rs 4 l t i) ⋆ emp) wr))
  case atStart => exact ⟨0, Nat.zero_le _, by omega, by omega, rfl, HS⟩
  case round =>
    clear HS
    obtain ⟨i, hi, hi12, hgi, rfl, HS⟩ := hrel
    by_cases hlt : i < l.length ∧ i < 12
    · obtain ⟨hlt, h12⟩ := hlt
      have c1b : decide ((i : Int) < (l.length : Int)) = true := decide_eq_true (Int.ofNat_lt.2 hlt); have c1n : decide (i < l.length) = true := decide_eq_true hlt; have c1q : (i < l.length) = True := eq_true hlt; have p0_ := eq_true (Int.natCast_nonneg i)
      have c2b : decide ((i : Int) < 12) = true := decide_eq_true (by omega)
      have c2n : decide (i < 12) = true := decide_eq_true h12
      have c2q := eq_true h12
      obtain ⟨y, hy⟩ : ∃ y : Nat, rd l (i : Int) = (y : Int) := by
        have := HB1.out (l.getD i 0) (by rw [List.getD_eq_getElem?_getD, List.getElem?_eq_getElem hlt]; exact List.getElem_mem hlt)
        exact ⟨(l.getD i 0).toNat, by unfold rd; rw [Int.toNat_natCast]; omega⟩
      have hq : tm 4 l i = y % 4 := by
        have : l.getD i 0 = (y : Int) := by rw [← hy]; unfold rd; rw [Int.toNat_natCast]
        unfold tm
        rw [this]
        rfl
      obtain ⟨q, hqq⟩ : ∃ q : Nat, y % 4 = q := ⟨_, rfl⟩
      have r2 : ((y : Int) % 4) = (q : Int) := by omega
      have r4 : Int.tmod (y : Int) 4 = (q : Int) := by rw [Int.tmod_eq_emod_of_nonneg (by omega)]; omega
      have r5 : IntKind.u64.wrap (q : Int) = (q : Int) := by rw [IntKind.wrap_u64]; omega
      rw [hqq] at hq
      obtain ⟨ad, hA, kw⟩ := Kd.at_int HR1.out (i : Int) (Int.natCast_nonneg i) (Int.ofNat_lt.2 hlt)
      rw [Int.toNat_natCast, hy] at kw
      have ka := ((sep_below_of HS.out).cell (World.block_lt_of_cell? w _ kw)).trans kw
      subst hA
      have HI := Aside0.mk (And.intro hlt (And.intro h12 hgi))
      have HQ := Aside0.mk hq
      have w8 : IntKind.u8.wrap (i : Int) = (i : Int) := by rw [IntKind.wrap_u8]; omega
      have HQ4 : Aside0 (q < 4) := ⟨by omega⟩
      clear hlt h12 hi hi12 hgi hq hqq hy
      go_upto_region 12 with (fail)
      have n_ := sep_drew (sep_skip HS.out (.cells #[.int .u8 (i : Int)] 5))
      have ka0 : wr.drew.cell? (ad.add i) = some (.int .u8 (y : Int)) := ka
      have ka1 : (wr.alloc (.cells #[.int .u8 (i : Int)] 5)).drew.cell? (ad.add i) = some (.int .u8 (y : Int)) := ((below_alloc (Below.refl _ _) (.cells #[.int .u8 (i : Int)] 5)).cell (World.block_lt_of_cell? _ _ ka)).trans ka
      have hcv : (Go.convert 22 9 (.slice (some ⟨wr.heap.size, 0, none⟩) 1 1)).run Try.prog ((wr.alloc (.cells #[.int .u8 (i : Int)] 5)).drew) = .ok (.string (bs i)) ((wr.alloc (.cells #[.int .u8 (i : Int)] 5)).drew) := conv_lit i wr.drew
      clear ka
      have n0_ := Aside0.mk n_; clear HS n_; have HS := n0_; clear n0_
      have E1 := Aside0.mk (put_its (m := 4) (l := l) (n := i) (r := 12) (by have := HI.out; omega))
      rw [HQ.out] at E1
      go_region_with (first | (go_at_call 11; obtain ⟨ok_, hp_, hk_⟩ := sep_use1 HS.out; have hx_ := bag_PutE p (its 4 l i) 12 (im (bs i) q) _ ok_ (by decide) hp_; rw [E1.out.1, E1.out.2, im_val] at hx_; (with_reducible refine Calls.mono hx_ ?_); rintro e w1 ⟨rfl, hq_⟩; have n_ := back1 hk_ hq_; have ka2 := ((sep_below_of n_).cell (World.block_lt_of_cell? w _ kw)).trans kw; clear hx_ hp_ hk_ hq_ ka0 ka1 hcv; have n0_ := Aside0.mk n_; clear HS n_; have HS := n0_; clear n0_))
      all_goals clear E1
      all_goals by_cases hqt : (q : Int) ≤ (t : Int)
      all_goals first
        | (have d1 : decide ((q : Int) ≤ (t : Int)) = true := decide_eq_true hqt
           have d2 : decide (q ≤ t) = true := decide_eq_true (by omega)
           have d3 : (q ≤ t) = True := eq_true (by omega)
           have HNX := Aside0.mk (rs_yes (m := 4) (l := l) (t := t) (n := i) (by rw [HQ.out]; exact hqt))
           have HRL := Aside0.mk (rs_len 4 l t i)
           clear hqt
           go_wp2_with ((with_reducible refine gate_builtin (b := .append) (xs := #[.tmp 65, .tmp 67]) rfl ?_); at_builtin; refine wp_append (Kd.int .i64) rfl (.tmp 65) (.tmp 67) 42 3 (.int .i64 0) 8 rfl Try.underlying42 info3 rfl (by decide) (by omega) _ (rs 4 l t i) (i : Int) [.int .i64 (i : Int)] (by rfl) (by rfl) rfl (sep_l1 HS.out) (by have := HRL.out; have := HI.out; omega) ?_; intro v1_ w4 n_; rw [← HNX.out] at n_; replace n_ := sep_l1 n_; clear ka2; have n0_ := Aside0.mk n_; clear HS n_; have HS := n0_; clear n0_)
           go_roundg (12 - (i + 1))
           case measure => have := HI.out; omega
           case rel => exact ⟨i + 1, HI.out.1, HI.out.2.1, Nat.le_refl _, congrArg (Value.int .i64) (by have := HI.out; unfold wrap64; omega), HS⟩)
        | (have d1 : decide ((q : Int) ≤ (t : Int)) = false := decide_eq_false hqt
           have d2 : decide (q ≤ t) = false := decide_eq_false (by omega)
           have d3 : (q ≤ t) = False := eq_false (by omega)
           have HNX := Aside0.mk (rs_no (m := 4) (l := l) (t := t) (n := i) (by rw [HQ.out]; exact hqt))
           clear hqt
           go_wp2
           go_roundg (12 - (i + 1))
           case measure => have := HI.out; omega
           case rel => exact ⟨i + 1, HI.out.1, HI.out.2.1, Nat.le_refl _, congrArg (Value.int .i64) (by have := HI.out; unfold wrap64; omega), ⟨by rw [HNX.out]; exact HS.out⟩⟩)
    · have HRL := Aside0.mk (rs_len 4 l t i)
      by_cases hl : i < l.length
      · obtain rfl : i = 12 := by omega
        have c1b : decide ((12 : Int) < (l.length : Int)) = true := decide_eq_true (Int.ofNat_lt.2 hl); have c1n : decide (12 < l.length) = true := decide_eq_true hl; have c1q : (12 < l.length) = True := eq_true hl; have p0_ := eq_true (Int.natCast_nonneg 12)
        have c2b : decide ((12 : Int) < 12) = false := by decide
        clear hlt hi hi12 hgi hl
        obtain ⟨A, c, rfl, hcc, -⟩ := sep_row (sep_l1 HS.out)
        have HCC := Aside0.mk hcc
        clear hcc
        obtain ⟨N, hN⟩ : ∃ N, (rs 4 l t 12).length = N := ⟨_, rfl⟩
        go_upto_region 16 with (go_at_call 12; obtain ⟨ok_, hp_, hk_⟩ := sep_use1 HS.out; have hx_ := bag_Ready p (its 4 l 12) 12 t _ ok_ hp_; rw [rdy_its, hN] at hx_; (with_reducible refine Calls.mono hx_ ?_); rintro e w1 ⟨rfl, hq_⟩; have n_ := back1 hk_ hq_; clear hx_ hp_ hk_ hq_; have n0_ := Aside0.mk n_; clear HS n_; have HS := n0_; clear n0_)
        by_cases hn : a2 < 0
        · have E := Aside0.mk (take_neg (l := its 4 l 12) (u := (t : Int)) hn)
          have t1 : decide (a2 < 0) = true := decide_eq_true hn
          have t2 := eq_true hn
          clear hn
          go_upto_region 17 with (go_at_call 13; obtain ⟨ok_, hp_, hk_⟩ := sep_use1 HS.out; have hx_ := bag_Take p (its 4 l 12) 12 t a2 _ ok_ H2.out hp_; rw [E.out] at hx_; dsimp only [It.val, It.zero] at hx_; (with_reducible refine Calls.mono hx_ ?_); rintro e w1 ⟨rfl, hq_⟩; have n_ := back1 hk_ hq_; clear hx_ hp_ hk_ hq_; have n0_ := Aside0.mk n_; clear HS n_; have HS := n0_; clear n0_)
          have n_ := sep_skip HS.out (.cells #[.int .u32 0, .int .u16 0, .int .u32 0, .int .u16 0, .string ⟨#[]⟩, .int .u64 0] 35)
          have n0_ := Aside0.mk n_; clear HS n_; have HS := n0_; clear n0_
          go_wp2_with (go_at_call 12; obtain ⟨ok_, hp_, hk_⟩ := sep_use1 HS.out; have hx_ := bag_Ready p (its 4 l 12) 12 t _ ok_ hp_; rw [rdy_its, hN] at hx_; (with_reducible refine Calls.mono hx_ ?_); rintro e w1 ⟨rfl, hq_⟩; have n_ := back1 hk_ hq_; clear hx_ hp_ hk_ hq_; have n0_ := Aside0.mk n_; clear HS n_; have HS := n0_; clear n0_)
          go_ret
          exact ⟨rfl, sep_below_of HS.out⟩
        · have t1 : decide (a2 < 0) = false := decide_eq_false hn
          have t2 := eq_false hn
          obtain ⟨K, rfl⟩ : ∃ K : Nat, a2 = (K : Int) := ⟨a2.toNat, by omega⟩
          by_cases h0 : N = 0
          · subst h0
            have E := Aside0.mk (take_none (l := its 4 l 12) (u := (t : Int)) (pick := (K : Int)) (by omega) (by rw [rdy_its]; exact hN))
            clear hn
            go_upto_region 17 with (go_at_call 13; obtain ⟨ok_, hp_, hk_⟩ := sep_use1 HS.out; have hx_ := bag_Take p (its 4 l 12) 12 t K _ ok_ H2.out hp_; rw [E.out] at hx_; dsimp only [It.val, It.zero] at hx_; (with_reducible refine Calls.mono hx_ ?_); rintro e w1 ⟨rfl, hq_⟩; have n_ := back1 hk_ hq_; clear hx_ hp_ hk_ hq_; have n0_ := Aside0.mk n_; clear HS n_; have HS := n0_; clear n0_)
            have n_ := sep_skip HS.out (.cells #[.int .u32 0, .int .u16 0, .int .u32 0, .int .u16 0, .string ⟨#[]⟩, .int .u64 0] 35)
            have n0_ := Aside0.mk n_; clear HS n_; have HS := n0_; clear n0_
            go_wp2
            go_ret
            exact ⟨rfl, sep_below_of HS.out⟩
          · obtain ⟨j, L2, hj, hget, E_, hL2⟩ := take_its (m := 4) (l := l) (t := (t : Int)) (n := 12) (k := K) (by omega)
            rw [hN] at hget hL2
            have E := Aside0.mk E_
            obtain ⟨q9, hq9⟩ : ∃ q9 : Int, (tm 4 l j : Int) = q9 := ⟨_, rfl⟩
            rw [hq9] at E
            have hkl := Nat.mod_lt K (Nat.pos_of_ne_zero h0)
            obtain ⟨kk, hkk⟩ : ∃ kk, K % N = kk := ⟨_, rfl⟩
            rw [hkk] at hget hkl
            obtain ⟨n2, hn2⟩ : ∃ n2, rdy L2 t = n2 := ⟨_, rfl⟩
            rw [hn2] at hL2
            have s1 : ((N : Int) == 0) = false := by simp; omega
            have s2 : decide ((N : Int) = 0) = false := decide_eq_false (by omega)
            have s3 := eq_false h0
            have w1_ : Int.tmod (K : Int) (N : Int) = (kk : Int) := by rw [Int.tmod_eq_emod_of_nonneg (by omega), ← hkk]; rfl
            have w2_ : ((K : Int) % (N : Int)) = (kk : Int) := by rw [← hkk]; rfl
            have HJ := Aside0.mk (And.intro hj (And.intro hget (And.intro hkl hL2)))
            clear hn E_ hq9 hj hget hkl hL2 h0 hkk
            go_upto_region 17 with (go_at_call 13; obtain ⟨ok_, hp_, hk_⟩ := sep_use1 HS.out; have hx_ := bag_Take p (its 4 l 12) 12 t K _ ok_ H2.out hp_; rw [E.out] at hx_; dsimp only at hx_; rw [im_val] at hx_; (with_reducible refine Calls.mono hx_ ?_); rintro e w1 ⟨rfl, hq_⟩; have n_ := back1 hk_ hq_; clear hx_ hp_ hk_ hq_; have n0_ := Aside0.mk n_; clear HS n_; have HS := n0_; clear n0_)
            have n_ := sep_l1 (sep_alloc HS.out #[.int .u32 1, .int .u16 1, .int .u32 2, .int .u16 2, .string (bs j), .int .u64 q9] 35)
            have n0_ := Aside0.mk n_; clear HS n_; have HS := n0_; clear n0_
            generalize w1.alloc (.cells #[.int .u32 1, .int .u16 1, .int .u32 2, .int .u16 2, .string (bs j), .int .u64 q9] 35) = wz at HS ⊢
            generalize w1.heap.size = g14 at HS ⊢
            go_upto_region 21 with (fail)
            obtain ⟨hj, hget, hkl, hL2⟩ := HJ.out
            have hrd : rd (rs 4 l t 12) (kk : Int) = (j : Int) := by unfold rd; rw [Int.toNat_natCast, List.getD_eq_getElem?_getD, hget]; rfl
            obtain ⟨ad, hA, kr⟩ := Kd.at_int (sep_row' (sep_l2 HS.out)).2.2 (kk : Int) (Int.natCast_nonneg kk) (by rw [hN]; exact Int.ofNat_lt.2 hkl)
            rw [Int.toNat_natCast, hrd] at kr
            subst hA
            have kr0 : wz.drew.cell? (ad.add kk) = some (.int .i64 (j : Int)) := kr
            have kx : wz.cell? ⟨g14, 4, none⟩ = some (.string (bs j)) := sep_cell (sep_l1 HS.out) 4
            have kx0 : wz.drew.cell? ⟨g14, 4, none⟩ = some (.string (bs j)) := kx
            have kx1 : (wz.alloc (.cells #[.int .u8 (j : Int)] 5)).drew.cell? ⟨g14, 4, none⟩ = some (.string (bs j)) := ((below_alloc (Below.refl _ _) (.cells #[.int .u8 (j : Int)] 5)).cell (World.block_lt_of_cell? _ _ kx)).trans kx
            have hcv : (Go.convert 22 9 (.slice (some ⟨wz.heap.size, 0, none⟩) 1 1)).run Try.prog ((wz.alloc (.cells #[.int .u8 (j : Int)] 5)).drew) = .ok (.string (bs j)) ((wz.alloc (.cells #[.int .u8 (j : Int)] 5)).drew) := conv_lit j wz.drew
            have w8 : IntKind.u8.wrap (j : Int) = (j : Int) := by rw [IntKind.wrap_u8]; omega
            have w9 : wrap64 ((N : Int) - 1) = (n2 : Int) := by have := HRL.out; rw [hN] at this; unfold wrap64; omega
            have w9' : IntKind.i64.wrap ((N : Int) - 1) = (n2 : Int) := by have := HRL.out; rw [hN] at this; rw [IntKind.wrap_i64]; omega
            have c1b : decide ((kk : Int) < (N : Int)) = true := decide_eq_true (Int.ofNat_lt.2 hkl); have c1n : decide (kk < N) = true := decide_eq_true hkl; have c1q : (kk < N) = True := eq_true hkl; have p0_ := eq_true (Int.natCast_nonneg kk)
            have n_ := sep_drew (sep_skip HS.out (.cells #[.int .u8 (j : Int)] 5))
            clear kr kx hj hget hkl hL2 hrd
            have n0_ := Aside0.mk n_; clear HS n_; have HS := n0_; clear n0_
            refine wp_region_any (by kernel_rfl) ?_
            change wpAny _ _ _ _ _ _ _ (World.drew _)
            (refine a_take 0 rfl (by kernel_rfl) (by kernel_rfl) (by kernel_rfl) (fun _ _ _ h => h) (by rfl) (by intro w; go_simp; all_goals (with_reducible rfl)) ?_; simp only [Act.put, List.setIfInBounds_toArray, List.set_cons_zero, List.set_cons_succ])
            (refine a_take 1 rfl (by kernel_rfl) (by kernel_rfl) (by kernel_rfl) (fun _ _ _ h => h) (by rfl) (by intro w; go_simp; all_goals (with_reducible rfl)) ?_; simp only [Act.put, List.setIfInBounds_toArray, List.set_cons_zero, List.set_cons_succ])
            (refine a_take 2 rfl (by kernel_rfl) (by kernel_rfl) (by kernel_rfl) (fun _ _ _ h => h) (by rfl) (by intro w; go_simp; all_goals (with_reducible rfl)) ?_; simp only [Act.put, List.setIfInBounds_toArray, List.set_cons_zero, List.set_cons_succ])
            (refine a_take 3 rfl (by kernel_rfl) (by kernel_rfl) (by kernel_rfl) (fun _ _ _ h => h) (by rfl) (by intro w; go_simp; all_goals (with_reducible rfl)) ?_; simp only [Act.put, List.setIfInBounds_toArray, List.set_cons_zero, List.set_cons_succ])
            (refine a_take 4 rfl (by kernel_rfl) (by kernel_rfl) (by kernel_rfl) (fun _ _ _ h => h) (by rfl) (by intro w; go_simp; all_goals (with_reducible rfl)) ?_; simp only [Act.put, List.setIfInBounds_toArray, List.set_cons_zero, List.set_cons_succ])
            (refine a_take 5 rfl (by kernel_rfl) (by kernel_rfl) (by kernel_rfl) (fun _ _ _ h => h) (by rfl) (by intro w; go_simp; all_goals (with_reducible rfl)) ?_; simp only [Act.put, List.setIfInBounds_toArray, List.set_cons_zero, List.set_cons_succ])
            (refine a_take 6 rfl (by kernel_rfl) (by kernel_rfl) (by kernel_rfl) (fun _ _ _ h => h) (by rfl) (by intro w; go_simp; all_goals (with_reducible rfl)) ?_; simp only [Act.put, List.setIfInBounds_toArray, List.set_cons_zero, List.set_cons_succ])
            (refine a_take 7 rfl (by kernel_rfl) (by kernel_rfl) (by kernel_rfl) (fun _ _ _ h => h) (by rfl) (by intro w; go_simp; all_goals (with_reducible rfl)) ?_; simp only [Act.put, List.setIfInBounds_toArray, List.set_cons_zero, List.set_cons_succ])
            (refine a_take 8 rfl (by kernel_rfl) (by kernel_rfl) (by kernel_rfl) (fun _ _ _ h => h) (by rfl) (by intro w; go_simp; all_goals (with_reducible rfl)) ?_; simp only [Act.put, List.setIfInBounds_toArray, List.set_cons_zero, List.set_cons_succ])
            (refine a_take 9 rfl (by kernel_rfl) (by kernel_rfl) (by kernel_rfl) (fun _ _ _ h => h) (by rfl) (by intro w; go_simp; all_goals (with_reducible rfl)) ?_; simp only [Act.put, List.setIfInBounds_toArray, List.set_cons_zero, List.set_cons_succ])
            (refine a_take 10 rfl (by kernel_rfl) (by kernel_rfl) (by kernel_rfl) (fun _ _ _ h => h) (by rfl) (by intro w; go_simp; all_goals (with_reducible rfl)) ?_; simp only [Act.put, List.setIfInBounds_toArray, List.set_cons_zero, List.set_cons_succ])
            (refine a_take 11 rfl (by kernel_rfl) (by kernel_rfl) (by kernel_rfl) (fun _ _ _ h => h) (by rfl) (by intro w; go_simp; all_goals (with_reducible rfl)) ?_; simp only [Act.put, List.setIfInBounds_toArray, List.set_cons_zero, List.set_cons_succ])
            (refine a_take 12 rfl (by kernel_rfl) (by kernel_rfl) (by kernel_rfl) (fun _ _ _ h => h) (by rfl) (by intro w; go_simp; all_goals (with_reducible rfl)) ?_; simp only [Act.put, List.setIfInBounds_toArray, List.set_cons_zero, List.set_cons_succ])
            (refine a_take 14 rfl (by kernel_rfl) (by kernel_rfl) (by kernel_rfl) (fun _ _ _ h => h) (by rfl) (by intro w; go_simp; all_goals (with_reducible rfl)) ?_; simp only [Act.put, List.setIfInBounds_toArray, List.set_cons_zero, List.set_cons_succ])
            (refine a_take 15 rfl (by kernel_rfl) (by kernel_rfl) (by kernel_rfl) (fun _ _ _ h => h) (by rfl) (by intro w; go_simp; all_goals (with_reducible rfl)) ?_; simp only [Act.put, List.setIfInBounds_toArray, List.set_cons_zero, List.set_cons_succ])
            (refine a_take 16 rfl (by kernel_rfl) (by kernel_rfl) (by kernel_rfl) (fun _ _ _ h => h) (by rfl) (by intro w; go_simp; all_goals (with_reducible rfl)) ?_; simp only [Act.put, List.setIfInBounds_toArray, List.set_cons_zero, List.set_cons_succ])
            (refine a_take 17 rfl (by kernel_rfl) (by kernel_rfl) (by kernel_rfl) (fun _ _ _ h => h) (by rfl) (by intro w; go_simp; all_goals (with_reducible rfl)) ?_; simp only [Act.put, List.setIfInBounds_toArray, List.set_cons_zero, List.set_cons_succ])
            (refine a_take 18 rfl (by kernel_rfl) (by kernel_rfl) (by kernel_rfl) (fun _ _ _ h => h) (by rfl) (by intro w; go_simp; all_goals (with_reducible rfl)) ?_; simp only [Act.put, List.setIfInBounds_toArray, List.set_cons_zero, List.set_cons_succ])
            (refine a_take 19 rfl (by kernel_rfl) (by kernel_rfl) (by kernel_rfl) (fun _ _ _ h => h) (by rfl) (by intro w; go_simp; all_goals (with_reducible rfl)) ?_; simp only [Act.put, List.setIfInBounds_toArray, List.set_cons_zero, List.set_cons_succ])
            refine a_two 13 20 (by kernel_rfl) rfl (by rfl) rfl (by rfl) (fun K hK => ?_) (fun K hK => ?_)
            · go_simp
              (refine hK.out _ _ ?_; clear hK K; (try simp only [Act.put, List.setIfInBounds_toArray, List.set_cons_zero, List.set_cons_succ]))
              (refine a_one 20 (by kernel_rfl) rfl (by rfl) (fun K hK => ?_); go_simp; (refine hK.out _ _ ?_; clear hK K; (try simp only [Act.put, List.setIfInBounds_toArray, List.set_cons_zero, List.set_cons_succ])))
              (refine a_take 21 rfl (by kernel_rfl) (by kernel_rfl) (by kernel_rfl) (fun _ _ _ h => h) (by rfl) (by intro w; go_simp; all_goals (with_reducible rfl)) ?_; simp only [Act.put, List.setIfInBounds_toArray, List.set_cons_zero, List.set_cons_succ])
              (refine a_one 22 (by kernel_rfl) rfl (by rfl) (fun K hK => ?_); go_simp; (refine hK.out _ _ ?_; clear hK K; (try simp only [Act.put, List.setIfInBounds_toArray, List.set_cons_zero, List.set_cons_succ])))
              (refine a_one 23 (by kernel_rfl) rfl (by rfl) (fun K hK => ?_); go_simp; (refine hK.out _ _ ?_; clear hK K; (try simp only [Act.put, List.setIfInBounds_toArray, List.set_cons_zero, List.set_cons_succ])))
              (refine a_take 24 rfl (by kernel_rfl) (by kernel_rfl) (by kernel_rfl) (fun _ _ _ h => h) (by rfl) (by intro w; go_simp; all_goals (with_reducible rfl)) ?_; simp only [Act.put, List.setIfInBounds_toArray, List.set_cons_zero, List.set_cons_succ])
              (refine a_take 25 rfl (by kernel_rfl) (by kernel_rfl) (by kernel_rfl) (fun _ _ _ h => h) (by rfl) (by intro w; go_simp; all_goals (with_reducible rfl)) ?_; simp only [Act.put, List.setIfInBounds_toArray, List.set_cons_zero, List.set_cons_succ])
              (refine a_take 26 rfl (by kernel_rfl) (by kernel_rfl) (by kernel_rfl) (fun _ _ _ h => h) (by rfl) (by intro w; go_simp; all_goals (with_reducible rfl)) ?_; simp only [Act.put, List.setIfInBounds_toArray, List.set_cons_zero, List.set_cons_succ])
              (refine a_take 27 rfl (by kernel_rfl) (by kernel_rfl) (by kernel_rfl) (fun _ _ _ h => h) (by rfl) (by intro w; go_simp; all_goals (with_reducible rfl)) ?_; simp only [Act.put, List.setIfInBounds_toArray, List.set_cons_zero, List.set_cons_succ])
              (refine a_take 28 rfl (by kernel_rfl) (by kernel_rfl) (by kernel_rfl) (fun _ _ _ h => h) (by rfl) (by intro w; go_simp; all_goals (with_reducible rfl)) ?_; simp only [Act.put, List.setIfInBounds_toArray, List.set_cons_zero, List.set_cons_succ])
              (refine a_take 30 rfl (by kernel_rfl) (by kernel_rfl) (by kernel_rfl) (fun _ _ _ h => h) (by rfl) (by intro w; go_simp; all_goals (with_reducible rfl)) ?_; simp only [Act.put, List.setIfInBounds_toArray, List.set_cons_zero, List.set_cons_succ])
              (refine a_take 31 rfl (by kernel_rfl) (by kernel_rfl) (by kernel_rfl) (fun _ _ _ h => h) (by rfl) (by intro w; go_simp; all_goals (with_reducible rfl)) ?_; simp only [Act.put, List.setIfInBounds_toArray, List.set_cons_zero, List.set_cons_succ])
              refine a_one 29 (by kernel_rfl) rfl (by rfl) (fun K hK => ?_)
              go_simp
              obtain ⟨ok_, hp_, hk_⟩ := sep_use1 HS.out
              have hx_ := bag_Ready p L2 12 t _ ok_ hp_
              rw [hn2] at hx_
              (with_reducible refine Calls.mono hx_ ?_)
              rintro e w1 ⟨rfl, hq_⟩
              have n_ := back1 hk_ hq_
              clear hx_ hp_ hk_ hq_
              have n0_ := Aside0.mk n_; clear HS n_; have HS := n0_; clear n0_
              (first | (refine hK.out _ _ ?_; clear hK K; (try simp only [Act.put, List.setIfInBounds_toArray, List.set_cons_zero, List.set_cons_succ])) | (go_wp2_with fail; (refine hK.out _ _ ?_; clear hK K; (try simp only [Act.put, List.setIfInBounds_toArray, List.set_cons_zero, List.set_cons_succ]))))
              (refine a_take 32 rfl (by kernel_rfl) (by kernel_rfl) (by kernel_rfl) (fun _ _ _ h => h) (by rfl) (by intro w; go_simp; all_goals (with_reducible rfl)) ?_; simp only [Act.put, List.setIfInBounds_toArray, List.set_cons_zero, List.set_cons_succ])
              (refine a_take 33 rfl (by kernel_rfl) (by kernel_rfl) (by kernel_rfl) (fun _ _ _ h => h) (by rfl) (by intro w; go_simp; all_goals (with_reducible rfl)) ?_; simp only [Act.put, List.setIfInBounds_toArray, List.set_cons_zero, List.set_cons_succ])
              (refine a_take 34 rfl (by kernel_rfl) (by kernel_rfl) (by kernel_rfl) (fun _ _ _ h => h) (by rfl) (by intro w; go_simp; all_goals (with_reducible rfl)) ?_; simp only [Act.put, List.setIfInBounds_toArray, List.set_cons_zero, List.set_cons_succ])
              refine wpAny_done (by kernel_rfl) ?_ _
              go_wp2
              go_ret
              exact ⟨rfl, sep_below_of HS.out⟩
            · go_simp
              (refine hK.out _ _ ?_; clear hK K; (try simp only [Act.put, List.setIfInBounds_toArray, List.set_cons_zero, List.set_cons_succ]))
              (refine a_take 21 rfl (by kernel_rfl) (by kernel_rfl) (by kernel_rfl) (fun _ _ _ h => h) (by rfl) (by intro w; go_simp; all_goals (with_reducible rfl)) ?_; simp only [Act.put, List.setIfInBounds_toArray, List.set_cons_zero, List.set_cons_succ])
              refine a_two 13 22 (by kernel_rfl) rfl (by rfl) rfl (by rfl) (fun K hK => ?_) (fun K hK => ?_)
              · go_simp
                (refine hK.out _ _ ?_; clear hK K; (try simp only [Act.put, List.setIfInBounds_toArray, List.set_cons_zero, List.set_cons_succ]))
                (refine a_one 22 (by kernel_rfl) rfl (by rfl) (fun K hK => ?_); go_simp; (refine hK.out _ _ ?_; clear hK K; (try simp only [Act.put, List.setIfInBounds_toArray, List.set_cons_zero, List.set_cons_succ])))
                (refine a_one 23 (by kernel_rfl) rfl (by rfl) (fun K hK => ?_); go_simp; (refine hK.out _ _ ?_; clear hK K; (try simp only [Act.put, List.setIfInBounds_toArray, List.set_cons_zero, List.set_cons_succ])))
                (refine a_take 24 rfl (by kernel_rfl) (by kernel_rfl) (by kernel_rfl) (fun _ _ _ h => h) (by rfl) (by intro w; go_simp; all_goals (with_reducible rfl)) ?_; simp only [Act.put, List.setIfInBounds_toArray, List.set_cons_zero, List.set_cons_succ])
                (refine a_take 25 rfl (by kernel_rfl) (by kernel_rfl) (by kernel_rfl) (fun _ _ _ h => h) (by rfl) (by intro w; go_simp; all_goals (with_reducible rfl)) ?_; simp only [Act.put, List.setIfInBounds_toArray, List.set_cons_zero, List.set_cons_succ])
                (refine a_take 26 rfl (by kernel_rfl) (by kernel_rfl) (by kernel_rfl) (fun _ _ _ h => h) (by rfl) (by intro w; go_simp; all_goals (with_reducible rfl)) ?_; simp only [Act.put, List.setIfInBounds_toArray, List.set_cons_zero, List.set_cons_succ])
                (refine a_take 27 rfl (by kernel_rfl) (by kernel_rfl) (by kernel_rfl) (fun _ _ _ h => h) (by rfl) (by intro w; go_simp; all_goals (with_reducible rfl)) ?_; simp only [Act.put, List.setIfInBounds_toArray, List.set_cons_zero, List.set_cons_succ])
                (refine a_take 28 rfl (by kernel_rfl) (by kernel_rfl) (by kernel_rfl) (fun _ _ _ h => h) (by rfl) (by intro w; go_simp; all_goals (with_reducible rfl)) ?_; simp only [Act.put, List.setIfInBounds_toArray, List.set_cons_zero, List.set_cons_succ])
                (refine a_take 30 rfl (by kernel_rfl) (by kernel_rfl) (by kernel_rfl) (fun _ _ _ h => h) (by rfl) (by intro w; go_simp; all_goals (with_reducible rfl)) ?_; simp only [Act.put, List.setIfInBounds_toArray, List.set_cons_zero, List.set_cons_succ])
                (refine a_take 31 rfl (by kernel_rfl) (by kernel_rfl) (by kernel_rfl) (fun _ _ _ h => h) (by rfl) (by intro w; go_simp; all_goals (with_reducible rfl)) ?_; simp only [Act.put, List.setIfInBounds_toArray, List.set_cons_zero, List.set_cons_succ])
                refine a_one 29 (by kernel_rfl) rfl (by rfl) (fun K hK => ?_)
                go_simp
                obtain ⟨ok_, hp_, hk_⟩ := sep_use1 HS.out
                have hx_ := bag_Ready p L2 12 t _ ok_ hp_
                rw [hn2] at hx_
                (with_reducible refine Calls.mono hx_ ?_)
                rintro e w1 ⟨rfl, hq_⟩
                have n_ := back1 hk_ hq_
                clear hx_ hp_ hk_ hq_
                have n0_ := Aside0.mk n_; clear HS n_; have HS := n0_; clear n0_
                (first | (refine hK.out _ _ ?_; clear hK K; (try simp only [Act.put, List.setIfInBounds_toArray, List.set_cons_zero, List.set_cons_succ])) | (go_wp2_with fail; (refine hK.out _ _ ?_; clear hK K; (try simp only [Act.put, List.setIfInBounds_toArray, List.set_cons_zero, List.set_cons_succ]))))
                (refine a_take 32 rfl (by kernel_rfl) (by kernel_rfl) (by kernel_rfl) (fun _ _ _ h => h) (by rfl) (by intro w; go_simp; all_goals (with_reducible rfl)) ?_; simp only [Act.put, List.setIfInBounds_toArray, List.set_cons_zero, List.set_cons_succ])
                (refine a_take 33 rfl (by kernel_rfl) (by kernel_rfl) (by kernel_rfl) (fun _ _ _ h => h) (by rfl) (by intro w; go_simp; all_goals (with_reducible rfl)) ?_; simp only [Act.put, List.setIfInBounds_toArray, List.set_cons_zero, List.set_cons_succ])
                (refine a_take 34 rfl (by kernel_rfl) (by kernel_rfl) (by kernel_rfl) (fun _ _ _ h => h) (by rfl) (by intro w; go_simp; all_goals (with_reducible rfl)) ?_; simp only [Act.put, List.setIfInBounds_toArray, List.set_cons_zero, List.set_cons_succ])
                refine wpAny_done (by kernel_rfl) ?_ _
                go_wp2
                go_ret
                exact ⟨rfl, sep_below_of HS.out⟩
              · go_simp
                (refine hK.out _ _ ?_; clear hK K; (try simp only [Act.put, List.setIfInBounds_toArray, List.set_cons_zero, List.set_cons_succ]))
                refine a_two 13 23 (by kernel_rfl) rfl (by rfl) rfl (by rfl) (fun K hK => ?_) (fun K hK => ?_)
                · go_simp
                  (refine hK.out _ _ ?_; clear hK K; (try simp only [Act.put, List.setIfInBounds_toArray, List.set_cons_zero, List.set_cons_succ]))
                  (refine a_one 23 (by kernel_rfl) rfl (by rfl) (fun K hK => ?_); go_simp; (refine hK.out _ _ ?_; clear hK K; (try simp only [Act.put, List.setIfInBounds_toArray, List.set_cons_zero, List.set_cons_succ])))
                  (refine a_take 24 rfl (by kernel_rfl) (by kernel_rfl) (by kernel_rfl) (fun _ _ _ h => h) (by rfl) (by intro w; go_simp; all_goals (with_reducible rfl)) ?_; simp only [Act.put, List.setIfInBounds_toArray, List.set_cons_zero, List.set_cons_succ])
                  (refine a_take 25 rfl (by kernel_rfl) (by kernel_rfl) (by kernel_rfl) (fun _ _ _ h => h) (by rfl) (by intro w; go_simp; all_goals (with_reducible rfl)) ?_; simp only [Act.put, List.setIfInBounds_toArray, List.set_cons_zero, List.set_cons_succ])
                  (refine a_take 26 rfl (by kernel_rfl) (by kernel_rfl) (by kernel_rfl) (fun _ _ _ h => h) (by rfl) (by intro w; go_simp; all_goals (with_reducible rfl)) ?_; simp only [Act.put, List.setIfInBounds_toArray, List.set_cons_zero, List.set_cons_succ])
                  (refine a_take 27 rfl (by kernel_rfl) (by kernel_rfl) (by kernel_rfl) (fun _ _ _ h => h) (by rfl) (by intro w; go_simp; all_goals (with_reducible rfl)) ?_; simp only [Act.put, List.setIfInBounds_toArray, List.set_cons_zero, List.set_cons_succ])
                  (refine a_take 28 rfl (by kernel_rfl) (by kernel_rfl) (by kernel_rfl) (fun _ _ _ h => h) (by rfl) (by intro w; go_simp; all_goals (with_reducible rfl)) ?_; simp only [Act.put, List.setIfInBounds_toArray, List.set_cons_zero, List.set_cons_succ])
                  (refine a_take 30 rfl (by kernel_rfl) (by kernel_rfl) (by kernel_rfl) (fun _ _ _ h => h) (by rfl) (by intro w; go_simp; all_goals (with_reducible rfl)) ?_; simp only [Act.put, List.setIfInBounds_toArray, List.set_cons_zero, List.set_cons_succ])
                  (refine a_take 31 rfl (by kernel_rfl) (by kernel_rfl) (by kernel_rfl) (fun _ _ _ h => h) (by rfl) (by intro w; go_simp; all_goals (with_reducible rfl)) ?_; simp only [Act.put, List.setIfInBounds_toArray, List.set_cons_zero, List.set_cons_succ])
                  refine a_one 29 (by kernel_rfl) rfl (by rfl) (fun K hK => ?_)
                  go_simp
                  obtain ⟨ok_, hp_, hk_⟩ := sep_use1 HS.out
                  have hx_ := bag_Ready p L2 12 t _ ok_ hp_
                  rw [hn2] at hx_
                  (with_reducible refine Calls.mono hx_ ?_)
                  rintro e w1 ⟨rfl, hq_⟩
                  have n_ := back1 hk_ hq_
                  clear hx_ hp_ hk_ hq_
                  have n0_ := Aside0.mk n_; clear HS n_; have HS := n0_; clear n0_
                  (first | (refine hK.out _ _ ?_; clear hK K; (try simp only [Act.put, List.setIfInBounds_toArray, List.set_cons_zero, List.set_cons_succ])) | (go_wp2_with fail; (refine hK.out _ _ ?_; clear hK K; (try simp only [Act.put, List.setIfInBounds_toArray, List.set_cons_zero, List.set_cons_succ]))))
                  (refine a_take 32 rfl (by kernel_rfl) (by kernel_rfl) (by kernel_rfl) (fun _ _ _ h => h) (by rfl) (by intro w; go_simp; all_goals (with_reducible rfl)) ?_; simp only [Act.put, List.setIfInBounds_toArray, List.set_cons_zero, List.set_cons_succ])
                  (refine a_take 33 rfl (by kernel_rfl) (by kernel_rfl) (by kernel_rfl) (fun _ _ _ h => h) (by rfl) (by intro w; go_simp; all_goals (with_reducible rfl)) ?_; simp only [Act.put, List.setIfInBounds_toArray, List.set_cons_zero, List.set_cons_succ])
                  (refine a_take 34 rfl (by kernel_rfl) (by kernel_rfl) (by kernel_rfl) (fun _ _ _ h => h) (by rfl) (by intro w; go_simp; all_goals (with_reducible rfl)) ?_; simp only [Act.put, List.setIfInBounds_toArray, List.set_cons_zero, List.set_cons_succ])
                  refine wpAny_done (by kernel_rfl) ?_ _
                  go_wp2
                  go_ret
                  exact ⟨rfl, sep_below_of HS.out⟩
                · go_simp
                  (refine hK.out _ _ ?_; clear hK K; (try simp only [Act.put, List.setIfInBounds_toArray, List.set_cons_zero, List.set_cons_succ]))
                  (refine a_one 13 (by kernel_rfl) rfl (by rfl) (fun K hK => ?_); go_simp; (refine hK.out _ _ ?_; clear hK K; (try simp only [Act.put, List.setIfInBounds_toArray, List.set_cons_zero, List.set_cons_succ])))
                  (refine a_take 24 rfl (by kernel_rfl) (by kernel_rfl) (by kernel_rfl) (fun _ _ _ h => h) (by rfl) (by intro w; go_simp; all_goals (with_reducible rfl)) ?_; simp only [Act.put, List.setIfInBounds_toArray, List.set_cons_zero, List.set_cons_succ])
                  (refine a_take 25 rfl (by kernel_rfl) (by kernel_rfl) (by kernel_rfl) (fun _ _ _ h => h) (by rfl) (by intro w; go_simp; all_goals (with_reducible rfl)) ?_; simp only [Act.put, List.setIfInBounds_toArray, List.set_cons_zero, List.set_cons_succ])
                  (refine a_take 26 rfl (by kernel_rfl) (by kernel_rfl) (by kernel_rfl) (fun _ _ _ h => h) (by rfl) (by intro w; go_simp; all_goals (with_reducible rfl)) ?_; simp only [Act.put, List.setIfInBounds_toArray, List.set_cons_zero, List.set_cons_succ])
                  (refine a_take 27 rfl (by kernel_rfl) (by kernel_rfl) (by kernel_rfl) (fun _ _ _ h => h) (by rfl) (by intro w; go_simp; all_goals (with_reducible rfl)) ?_; simp only [Act.put, List.setIfInBounds_toArray, List.set_cons_zero, List.set_cons_succ])
                  (refine a_take 28 rfl (by kernel_rfl) (by kernel_rfl) (by kernel_rfl) (fun _ _ _ h => h) (by rfl) (by intro w; go_simp; all_goals (with_reducible rfl)) ?_; simp only [Act.put, List.setIfInBounds_toArray, List.set_cons_zero, List.set_cons_succ])
                  (refine a_take 30 rfl (by kernel_rfl) (by kernel_rfl) (by kernel_rfl) (fun _ _ _ h => h) (by rfl) (by intro w; go_simp; all_goals (with_reducible rfl)) ?_; simp only [Act.put, List.setIfInBounds_toArray, List.set_cons_zero, List.set_cons_succ])
                  (refine a_take 31 rfl (by kernel_rfl) (by kernel_rfl) (by kernel_rfl) (fun _ _ _ h => h) (by rfl) (by intro w; go_simp; all_goals (with_reducible rfl)) ?_; simp only [Act.put, List.setIfInBounds_toArray, List.set_cons_zero, List.set_cons_succ])
                  refine a_one 29 (by kernel_rfl) rfl (by rfl) (fun K hK => ?_)
                  go_simp
                  obtain ⟨ok_, hp_, hk_⟩ := sep_use1 HS.out
                  have hx_ := bag_Ready p L2 12 t _ ok_ hp_
                  rw [hn2] at hx_
                  (with_reducible refine Calls.mono hx_ ?_)
                  rintro e w1 ⟨rfl, hq_⟩
                  have n_ := back1 hk_ hq_
                  clear hx_ hp_ hk_ hq_
                  have n0_ := Aside0.mk n_; clear HS n_; have HS := n0_; clear n0_
                  (first | (refine hK.out _ _ ?_; clear hK K; (try simp only [Act.put, List.setIfInBounds_toArray, List.set_cons_zero, List.set_cons_succ])) | (go_wp2_with fail; (refine hK.out _ _ ?_; clear hK K; (try simp only [Act.put, List.setIfInBounds_toArray, List.set_cons_zero, List.set_cons_succ]))))
                  (refine a_take 32 rfl (by kernel_rfl) (by kernel_rfl) (by kernel_rfl) (fun _ _ _ h => h) (by rfl) (by intro w; go_simp; all_goals (with_reducible rfl)) ?_; simp only [Act.put, List.setIfInBounds_toArray, List.set_cons_zero, List.set_cons_succ])
                  (refine a_take 33 rfl (by kernel_rfl) (by kernel_rfl) (by kernel_rfl) (fun _ _ _ h => h) (by rfl) (by intro w; go_simp; all_goals (with_reducible rfl)) ?_; simp only [Act.put, List.setIfInBounds_toArray, List.set_cons_zero, List.set_cons_succ])
                  (refine a_take 34 rfl (by kernel_rfl) (by kernel_rfl) (by kernel_rfl) (fun _ _ _ h => h) (by rfl) (by intro w; go_simp; all_goals (with_reducible rfl)) ?_; simp only [Act.put, List.setIfInBounds_toArray, List.set_cons_zero, List.set_cons_succ])
                  refine wpAny_done (by kernel_rfl) ?_ _
                  go_wp2
                  go_ret
                  exact ⟨rfl, sep_below_of HS.out⟩
      · have c1b : decide ((i : Int) < (l.length : Int)) = false := decide_eq_false (by omega)
        have c1n : decide (i < l.length) = false := decide_eq_false hl
        have c1q := eq_false hl
        clear hlt hi hgi hl
        obtain ⟨A, c, rfl, hcc, -⟩ := sep_row (sep_l1 HS.out)
        have HCC := Aside0.mk hcc
        clear hcc
        obtain ⟨N, hN⟩ : ∃ N, (rs 4 l t i).length = N := ⟨_, rfl⟩
        go_upto_region 16 with (go_at_call 12; obtain ⟨ok_, hp_, hk_⟩ := sep_use1 HS.out; have hx_ := bag_Ready p (its 4 l i) 12 t _ ok_ hp_; rw [rdy_its, hN] at hx_; (with_reducible refine Calls.mono hx_ ?_); rintro e w1 ⟨rfl, hq_⟩; have n_ := back1 hk_ hq_; clear hx_ hp_ hk_ hq_; have n0_ := Aside0.mk n_; clear HS n_; have HS := n0_; clear n0_)
        by_cases hn : a2 < 0
        · have E := Aside0.mk (take_neg (l := its 4 l i) (u := (t : Int)) hn)
          have t1 : decide (a2 < 0) = true := decide_eq_true hn
          have t2 := eq_true hn
          clear hn
          go_upto_region 17 with (go_at_call 13; obtain ⟨ok_, hp_, hk_⟩ := sep_use1 HS.out; have hx_ := bag_Take p (its 4 l i) 12 t a2 _ ok_ H2.out hp_; rw [E.out] at hx_; dsimp only [It.val, It.zero] at hx_; (with_reducible refine Calls.mono hx_ ?_); rintro e w1 ⟨rfl, hq_⟩; have n_ := back1 hk_ hq_; clear hx_ hp_ hk_ hq_; have n0_ := Aside0.mk n_; clear HS n_; have HS := n0_; clear n0_)
          have n_ := sep_skip HS.out (.cells #[.int .u32 0, .int .u16 0, .int .u32 0, .int .u16 0, .string ⟨#[]⟩, .int .u64 0] 35)
          have n0_ := Aside0.mk n_; clear HS n_; have HS := n0_; clear n0_
          go_wp2_with (go_at_call 12; obtain ⟨ok_, hp_, hk_⟩ := sep_use1 HS.out; have hx_ := bag_Ready p (its 4 l i) 12 t _ ok_ hp_; rw [rdy_its, hN] at hx_; (with_reducible refine Calls.mono hx_ ?_); rintro e w1 ⟨rfl, hq_⟩; have n_ := back1 hk_ hq_; clear hx_ hp_ hk_ hq_; have n0_ := Aside0.mk n_; clear HS n_; have HS := n0_; clear n0_)
          go_ret
          exact ⟨rfl, sep_below_of HS.out⟩
        · have t1 : decide (a2 < 0) = false := decide_eq_false hn
          have t2 := eq_false hn
          obtain ⟨K, rfl⟩ : ∃ K : Nat, a2 = (K : Int) := ⟨a2.toNat, by omega⟩
          by_cases h0 : N = 0
          · subst h0
            have E := Aside0.mk (take_none (l := its 4 l i) (u := (t : Int)) (pick := (K : Int)) (by omega) (by rw [rdy_its]; exact hN))
            clear hn
            go_upto_region 17 with (go_at_call 13; obtain ⟨ok_, hp_, hk_⟩ := sep_use1 HS.out; have hx_ := bag_Take p (its 4 l i) 12 t K _ ok_ H2.out hp_; rw [E.out] at hx_; dsimp only [It.val, It.zero] at hx_; (with_reducible refine Calls.mono hx_ ?_); rintro e w1 ⟨rfl, hq_⟩; have n_ := back1 hk_ hq_; clear hx_ hp_ hk_ hq_; have n0_ := Aside0.mk n_; clear HS n_; have HS := n0_; clear n0_)
            have n_ := sep_skip HS.out (.cells #[.int .u32 0, .int .u16 0, .int .u32 0, .int .u16 0, .string ⟨#[]⟩, .int .u64 0] 35)
            have n0_ := Aside0.mk n_; clear HS n_; have HS := n0_; clear n0_
            go_wp2
            go_ret
            exact ⟨rfl, sep_below_of HS.out⟩
          · obtain ⟨j, L2, hj, hget, E_, hL2⟩ := take_its (m := 4) (l := l) (t := (t : Int)) (n := i) (k := K) (by omega)
            rw [hN] at hget hL2
            have E := Aside0.mk E_
            obtain ⟨q9, hq9⟩ : ∃ q9 : Int, (tm 4 l j : Int) = q9 := ⟨_, rfl⟩
            rw [hq9] at E
            have hkl := Nat.mod_lt K (Nat.pos_of_ne_zero h0)
            obtain ⟨kk, hkk⟩ : ∃ kk, K % N = kk := ⟨_, rfl⟩
            rw [hkk] at hget hkl
            obtain ⟨n2, hn2⟩ : ∃ n2, rdy L2 t = n2 := ⟨_, rfl⟩
            rw [hn2] at hL2
            have s1 : ((N : Int) == 0) = false := by simp; omega
            have s2 : decide ((N : Int) = 0) = false := decide_eq_false (by omega)
            have s3 := eq_false h0
            have w1_ : Int.tmod (K : Int) (N : Int) = (kk : Int) := by rw [Int.tmod_eq_emod_of_nonneg (by omega), ← hkk]; rfl
            have w2_ : ((K : Int) % (N : Int)) = (kk : Int) := by rw [← hkk]; rfl
            have HJ := Aside0.mk (And.intro hj (And.intro hget (And.intro hkl hL2)))
            clear hn E_ hq9 hj hget hkl hL2 h0 hkk
            go_upto_region 17 with (go_at_call 13; obtain ⟨ok_, hp_, hk_⟩ := sep_use1 HS.out; have hx_ := bag_Take p (its 4 l i) 12 t K _ ok_ H2.out hp_; rw [E.out] at hx_; dsimp only at hx_; rw [im_val] at hx_; (with_reducible refine Calls.mono hx_ ?_); rintro e w1 ⟨rfl, hq_⟩; have n_ := back1 hk_ hq_; clear hx_ hp_ hk_ hq_; have n0_ := Aside0.mk n_; clear HS n_; have HS := n0_; clear n0_)
            have n_ := sep_l1 (sep_alloc HS.out #[.int .u32 1, .int .u16 1, .int .u32 2, .int .u16 2, .string (bs j), .int .u64 q9] 35)
            have n0_ := Aside0.mk n_; clear HS n_; have HS := n0_; clear n0_
            generalize w1.alloc (.cells #[.int .u32 1, .int .u16 1, .int .u32 2, .int .u16 2, .string (bs j), .int .u64 q9] 35) = wz at HS ⊢
            generalize w1.heap.size = g14 at HS ⊢
            go_upto_region 21 with (fail)
            obtain ⟨hj, hget, hkl, hL2⟩ := HJ.out
            have hrd : rd (rs 4 l t i) (kk : Int) = (j : Int) := by unfold rd; rw [Int.toNat_natCast, List.getD_eq_getElem?_getD, hget]; rfl
            obtain ⟨ad, hA, kr⟩ := Kd.at_int (sep_row' (sep_l2 HS.out)).2.2 (kk : Int) (Int.natCast_nonneg kk) (by rw [hN]; exact Int.ofNat_lt.2 hkl)
            rw [Int.toNat_natCast, hrd] at kr
            subst hA
            have kr0 : wz.drew.cell? (ad.add kk) = some (.int .i64 (j : Int)) := kr
            have kx : wz.cell? ⟨g14, 4, none⟩ = some (.string (bs j)) := sep_cell (sep_l1 HS.out) 4
            have kx0 : wz.drew.cell? ⟨g14, 4, none⟩ = some (.string (bs j)) := kx
            have kx1 : (wz.alloc (.cells #[.int .u8 (j : Int)] 5)).drew.cell? ⟨g14, 4, none⟩ = some (.string (bs j)) := ((below_alloc (Below.refl _ _) (.cells #[.int .u8 (j : Int)] 5)).cell (World.block_lt_of_cell? _ _ kx)).trans kx
            have hcv : (Go.convert 22 9 (.slice (some ⟨wz.heap.size, 0, none⟩) 1 1)).run Try.prog ((wz.alloc (.cells #[.int .u8 (j : Int)] 5)).drew) = .ok (.string (bs j)) ((wz.alloc (.cells #[.int .u8 (j : Int)] 5)).drew) := conv_lit j wz.drew
            have w8 : IntKind.u8.wrap (j : Int) = (j : Int) := by rw [IntKind.wrap_u8]; omega
            have w9 : wrap64 ((N : Int) - 1) = (n2 : Int) := by have := HRL.out; rw [hN] at this; unfold wrap64; omega
            have w9' : IntKind.i64.wrap ((N : Int) - 1) = (n2 : Int) := by have := HRL.out; rw [hN] at this; rw [IntKind.wrap_i64]; omega
            have c1b : decide ((kk : Int) < (N : Int)) = true := decide_eq_true (Int.ofNat_lt.2 hkl); have c1n : decide (kk < N) = true := decide_eq_true hkl; have c1q : (kk < N) = True := eq_true hkl; have p0_ := eq_true (Int.natCast_nonneg kk)
            have n_ := sep_drew (sep_skip HS.out (.cells #[.int .u8 (j : Int)] 5))
            clear kr kx hj hget hkl hL2 hrd
            have n0_ := Aside0.mk n_; clear HS n_; have HS := n0_; clear n0_
            refine wp_region_any (by kernel_rfl) ?_
            change wpAny _ _ _ _ _ _ _ (World.drew _)
            (refine a_take 0 rfl (by kernel_rfl) (by kernel_rfl) (by kernel_rfl) (fun _ _ _ h => h) (by rfl) (by intro w; go_simp; all_goals (with_reducible rfl)) ?_; simp only [Act.put, List.setIfInBounds_toArray, List.set_cons_zero, List.set_cons_succ])
            (refine a_take 1 rfl (by kernel_rfl) (by kernel_rfl) (by kernel_rfl) (fun _ _ _ h => h) (by rfl) (by intro w; go_simp; all_goals (with_reducible rfl)) ?_; simp only [Act.put, List.setIfInBounds_toArray, List.set_cons_zero, List.set_cons_succ])
            (refine a_take 2 rfl (by kernel_rfl) (by kernel_rfl) (by kernel_rfl) (fun _ _ _ h => h) (by rfl) (by intro w; go_simp; all_goals (with_reducible rfl)) ?_; simp only [Act.put, List.setIfInBounds_toArray, List.set_cons_zero, List.set_cons_succ])
            (refine a_take 3 rfl (by kernel_rfl) (by kernel_rfl) (by kernel_rfl) (fun _ _ _ h => h) (by rfl) (by intro w; go_simp; all_goals (with_reducible rfl)) ?_; simp only [Act.put, List.setIfInBounds_toArray, List.set_cons_zero, List.set_cons_succ])
            (refine a_take 4 rfl (by kernel_rfl) (by kernel_rfl) (by kernel_rfl) (fun _ _ _ h => h) (by rfl) (by intro w; go_simp; all_goals (with_reducible rfl)) ?_; simp only [Act.put, List.setIfInBounds_toArray, List.set_cons_zero, List.set_cons_succ])
            (refine a_take 5 rfl (by kernel_rfl) (by kernel_rfl) (by kernel_rfl) (fun _ _ _ h => h) (by rfl) (by intro w; go_simp; all_goals (with_reducible rfl)) ?_; simp only [Act.put, List.setIfInBounds_toArray, List.set_cons_zero, List.set_cons_succ])
            (refine a_take 6 rfl (by kernel_rfl) (by kernel_rfl) (by kernel_rfl) (fun _ _ _ h => h) (by rfl) (by intro w; go_simp; all_goals (with_reducible rfl)) ?_; simp only [Act.put, List.setIfInBounds_toArray, List.set_cons_zero, List.set_cons_succ])
            (refine a_take 7 rfl (by kernel_rfl) (by kernel_rfl) (by kernel_rfl) (fun _ _ _ h => h) (by rfl) (by intro w; go_simp; all_goals (with_reducible rfl)) ?_; simp only [Act.put, List.setIfInBounds_toArray, List.set_cons_zero, List.set_cons_succ])
            (refine a_take 8 rfl (by kernel_rfl) (by kernel_rfl) (by kernel_rfl) (fun _ _ _ h => h) (by rfl) (by intro w; go_simp; all_goals (with_reducible rfl)) ?_; simp only [Act.put, List.setIfInBounds_toArray, List.set_cons_zero, List.set_cons_succ])
            (refine a_take 9 rfl (by kernel_rfl) (by kernel_rfl) (by kernel_rfl) (fun _ _ _ h => h) (by rfl) (by intro w; go_simp; all_goals (with_reducible rfl)) ?_; simp only [Act.put, List.setIfInBounds_toArray, List.set_cons_zero, List.set_cons_succ])
            (refine a_take 10 rfl (by kernel_rfl) (by kernel_rfl) (by kernel_rfl) (fun _ _ _ h => h) (by rfl) (by intro w; go_simp; all_goals (with_reducible rfl)) ?_; simp only [Act.put, List.setIfInBounds_toArray, List.set_cons_zero, List.set_cons_succ])
            (refine a_take 11 rfl (by kernel_rfl) (by kernel_rfl) (by kernel_rfl) (fun _ _ _ h => h) (by rfl) (by intro w; go_simp; all_goals (with_reducible rfl)) ?_; simp only [Act.put, List.setIfInBounds_toArray, List.set_cons_zero, List.set_cons_succ])
            (refine a_take 12 rfl (by kernel_rfl) (by kernel_rfl) (by kernel_rfl) (fun _ _ _ h => h) (by rfl) (by intro w; go_simp; all_goals (with_reducible rfl)) ?_; simp only [Act.put, List.setIfInBounds_toArray, List.set_cons_zero, List.set_cons_succ])
            (refine a_take 14 rfl (by kernel_rfl) (by kernel_rfl) (by kernel_rfl) (fun _ _ _ h => h) (by rfl) (by intro w; go_simp; all_goals (with_reducible rfl)) ?_; simp only [Act.put, List.setIfInBounds_toArray, List.set_cons_zero, List.set_cons_succ])
            (refine a_take 15 rfl (by kernel_rfl) (by kernel_rfl) (by kernel_rfl) (fun _ _ _ h => h) (by rfl) (by intro w; go_simp; all_goals (with_reducible rfl)) ?_; simp only [Act.put, List.setIfInBounds_toArray, List.set_cons_zero, List.set_cons_succ])
            (refine a_take 16 rfl (by kernel_rfl) (by kernel_rfl) (by kernel_rfl) (fun _ _ _ h => h) (by rfl) (by intro w; go_simp; all_goals (with_reducible rfl)) ?_; simp only [Act.put, List.setIfInBounds_toArray, List.set_cons_zero, List.set_cons_succ])
            (refine a_take 17 rfl (by kernel_rfl) (by kernel_rfl) (by kernel_rfl) (fun _ _ _ h => h) (by rfl) (by intro w; go_simp; all_goals (with_reducible rfl)) ?_; simp only [Act.put, List.setIfInBounds_toArray, List.set_cons_zero, List.set_cons_succ])
            (refine a_take 18 rfl (by kernel_rfl) (by kernel_rfl) (by kernel_rfl) (fun _ _ _ h => h) (by rfl) (by intro w; go_simp; all_goals (with_reducible rfl)) ?_; simp only [Act.put, List.setIfInBounds_toArray, List.set_cons_zero, List.set_cons_succ])
            (refine a_take 19 rfl (by kernel_rfl) (by kernel_rfl) (by kernel_rfl) (fun _ _ _ h => h) (by rfl) (by intro w; go_simp; all_goals (with_reducible rfl)) ?_; simp only [Act.put, List.setIfInBounds_toArray, List.set_cons_zero, List.set_cons_succ])
            refine a_two 13 20 (by kernel_rfl) rfl (by rfl) rfl (by rfl) (fun K hK => ?_) (fun K hK => ?_)
            · go_simp
              (refine hK.out _ _ ?_; clear hK K; (try simp only [Act.put, List.setIfInBounds_toArray, List.set_cons_zero, List.set_cons_succ]))
              (refine a_one 20 (by kernel_rfl) rfl (by rfl) (fun K hK => ?_); go_simp; (refine hK.out _ _ ?_; clear hK K; (try simp only [Act.put, List.setIfInBounds_toArray, List.set_cons_zero, List.set_cons_succ])))
              (refine a_take 21 rfl (by kernel_rfl) (by kernel_rfl) (by kernel_rfl) (fun _ _ _ h => h) (by rfl) (by intro w; go_simp; all_goals (with_reducible rfl)) ?_; simp only [Act.put, List.setIfInBounds_toArray, List.set_cons_zero, List.set_cons_succ])
              (refine a_one 22 (by kernel_rfl) rfl (by rfl) (fun K hK => ?_); go_simp; (refine hK.out _ _ ?_; clear hK K; (try simp only [Act.put, List.setIfInBounds_toArray, List.set_cons_zero, List.set_cons_succ])))
              (refine a_one 23 (by kernel_rfl) rfl (by rfl) (fun K hK => ?_); go_simp; (refine hK.out _ _ ?_; clear hK K; (try simp only [Act.put, List.setIfInBounds_toArray, List.set_cons_zero, List.set_cons_succ])))
              (refine a_take 24 rfl (by kernel_rfl) (by kernel_rfl) (by kernel_rfl) (fun _ _ _ h => h) (by rfl) (by intro w; go_simp; all_goals (with_reducible rfl)) ?_; simp only [Act.put, List.setIfInBounds_toArray, List.set_cons_zero, List.set_cons_succ])
              (refine a_take 25 rfl (by kernel_rfl) (by kernel_rfl) (by kernel_rfl) (fun _ _ _ h => h) (by rfl) (by intro w; go_simp; all_goals (with_reducible rfl)) ?_; simp only [Act.put, List.setIfInBounds_toArray, List.set_cons_zero, List.set_cons_succ])
              (refine a_take 26 rfl (by kernel_rfl) (by kernel_rfl) (by kernel_rfl) (fun _ _ _ h => h) (by rfl) (by intro w; go_simp; all_goals (with_reducible rfl)) ?_; simp only [Act.put, List.setIfInBounds_toArray, List.set_cons_zero, List.set_cons_succ])
              (refine a_take 27 rfl (by kernel_rfl) (by kernel_rfl) (by kernel_rfl) (fun _ _ _ h => h) (by rfl) (by intro w; go_simp; all_goals (with_reducible rfl)) ?_; simp only [Act.put, List.setIfInBounds_toArray, List.set_cons_zero, List.set_cons_succ])
              (refine a_take 28 rfl (by kernel_rfl) (by kernel_rfl) (by kernel_rfl) (fun _ _ _ h => h) (by rfl) (by intro w; go_simp; all_goals (with_reducible rfl)) ?_; simp only [Act.put, List.setIfInBounds_toArray, List.set_cons_zero, List.set_cons_succ])
              (refine a_take 30 rfl (by kernel_rfl) (by kernel_rfl) (by kernel_rfl) (fun _ _ _ h => h) (by rfl) (by intro w; go_simp; all_goals (with_reducible rfl)) ?_; simp only [Act.put, List.setIfInBounds_toArray, List.set_cons_zero, List.set_cons_succ])
              (refine a_take 31 rfl (by kernel_rfl) (by kernel_rfl) (by kernel_rfl) (fun _ _ _ h => h) (by rfl) (by intro w; go_simp; all_goals (with_reducible rfl)) ?_; simp only [Act.put, List.setIfInBounds_toArray, List.set_cons_zero, List.set_cons_succ])
              refine a_one 29 (by kernel_rfl) rfl (by rfl) (fun K hK => ?_)
              go_simp
              obtain ⟨ok_, hp_, hk_⟩ := sep_use1 HS.out
              have hx_ := bag_Ready p L2 12 t _ ok_ hp_
              rw [hn2] at hx_
              (with_reducible refine Calls.mono hx_ ?_)
              rintro e w1 ⟨rfl, hq_⟩
              have n_ := back1 hk_ hq_
              clear hx_ hp_ hk_ hq_
              have n0_ := Aside0.mk n_; clear HS n_; have HS := n0_; clear n0_
              (first | (refine hK.out _ _ ?_; clear hK K; (try simp only [Act.put, List.setIfInBounds_toArray, List.set_cons_zero, List.set_cons_succ])) | (go_wp2_with fail; (refine hK.out _ _ ?_; clear hK K; (try simp only [Act.put, List.setIfInBounds_toArray, List.set_cons_zero, List.set_cons_succ]))))
              (refine a_take 32 rfl (by kernel_rfl) (by kernel_rfl) (by kernel_rfl) (fun _ _ _ h => h) (by rfl) (by intro w; go_simp; all_goals (with_reducible rfl)) ?_; simp only [Act.put, List.setIfInBounds_toArray, List.set_cons_zero, List.set_cons_succ])
              (refine a_take 33 rfl (by kernel_rfl) (by kernel_rfl) (by kernel_rfl) (fun _ _ _ h => h) (by rfl) (by intro w; go_simp; all_goals (with_reducible rfl)) ?_; simp only [Act.put, List.setIfInBounds_toArray, List.set_cons_zero, List.set_cons_succ])
              (refine a_take 34 rfl (by kernel_rfl) (by kernel_rfl) (by kernel_rfl) (fun _ _ _ h => h) (by rfl) (by intro w; go_simp; all_goals (with_reducible rfl)) ?_; simp only [Act.put, List.setIfInBounds_toArray, List.set_cons_zero, List.set_cons_succ])
              refine wpAny_done (by kernel_rfl) ?_ _
              go_wp2
              go_ret
              exact ⟨rfl, sep_below_of HS.out⟩
            · go_simp
              (refine hK.out _ _ ?_; clear hK K; (try simp only [Act.put, List.setIfInBounds_toArray, List.set_cons_zero, List.set_cons_succ]))
              (refine a_take 21 rfl (by kernel_rfl) (by kernel_rfl) (by kernel_rfl) (fun _ _ _ h => h) (by rfl) (by intro w; go_simp; all_goals (with_reducible rfl)) ?_; simp only [Act.put, List.setIfInBounds_toArray, List.set_cons_zero, List.set_cons_succ])
              refine a_two 13 22 (by kernel_rfl) rfl (by rfl) rfl (by rfl) (fun K hK => ?_) (fun K hK => ?_)
              · go_simp
                (refine hK.out _ _ ?_; clear hK K; (try simp only [Act.put, List.setIfInBounds_toArray, List.set_cons_zero, List.set_cons_succ]))
                (refine a_one 22 (by kernel_rfl) rfl (by rfl) (fun K hK => ?_); go_simp; (refine hK.out _ _ ?_; clear hK K; (try simp only [Act.put, List.setIfInBounds_toArray, List.set_cons_zero, List.set_cons_succ])))
                (refine a_one 23 (by kernel_rfl) rfl (by rfl) (fun K hK => ?_); go_simp; (refine hK.out _ _ ?_; clear hK K; (try simp only [Act.put, List.setIfInBounds_toArray, List.set_cons_zero, List.set_cons_succ])))
                (refine a_take 24 rfl (by kernel_rfl) (by kernel_rfl) (by kernel_rfl) (fun _ _ _ h => h) (by rfl) (by intro w; go_simp; all_goals (with_reducible rfl)) ?_; simp only [Act.put, List.setIfInBounds_toArray, List.set_cons_zero, List.set_cons_succ])
                (refine a_take 25 rfl (by kernel_rfl) (by kernel_rfl) (by kernel_rfl) (fun _ _ _ h => h) (by rfl) (by intro w; go_simp; all_goals (with_reducible rfl)) ?_; simp only [Act.put, List.setIfInBounds_toArray, List.set_cons_zero, List.set_cons_succ])
                (refine a_take 26 rfl (by kernel_rfl) (by kernel_rfl) (by kernel_rfl) (fun _ _ _ h => h) (by rfl) (by intro w; go_simp; all_goals (with_reducible rfl)) ?_; simp only [Act.put, List.setIfInBounds_toArray, List.set_cons_zero, List.set_cons_succ])
                (refine a_take 27 rfl (by kernel_rfl) (by kernel_rfl) (by kernel_rfl) (fun _ _ _ h => h) (by rfl) (by intro w; go_simp; all_goals (with_reducible rfl)) ?_; simp only [Act.put, List.setIfInBounds_toArray, List.set_cons_zero, List.set_cons_succ])
                (refine a_take 28 rfl (by kernel_rfl) (by kernel_rfl) (by kernel_rfl) (fun _ _ _ h => h) (by rfl) (by intro w; go_simp; all_goals (with_reducible rfl)) ?_; simp only [Act.put, List.setIfInBounds_toArray, List.set_cons_zero, List.set_cons_succ])
                (refine a_take 30 rfl (by kernel_rfl) (by kernel_rfl) (by kernel_rfl) (fun _ _ _ h => h) (by rfl) (by intro w; go_simp; all_goals (with_reducible rfl)) ?_; simp only [Act.put, List.setIfInBounds_toArray, List.set_cons_zero, List.set_cons_succ])
                (refine a_take 31 rfl (by kernel_rfl) (by kernel_rfl) (by kernel_rfl) (fun _ _ _ h => h) (by rfl) (by intro w; go_simp; all_goals (with_reducible rfl)) ?_; simp only [Act.put, List.setIfInBounds_toArray, List.set_cons_zero, List.set_cons_succ])
                refine a_one 29 (by kernel_rfl) rfl (by rfl) (fun K hK => ?_)
                go_simp
                obtain ⟨ok_, hp_, hk_⟩ := sep_use1 HS.out
                have hx_ := bag_Ready p L2 12 t _ ok_ hp_
                rw [hn2] at hx_
                (with_reducible refine Calls.mono hx_ ?_)
                rintro e w1 ⟨rfl, hq_⟩
                have n_ := back1 hk_ hq_
                clear hx_ hp_ hk_ hq_
                have n0_ := Aside0.mk n_; clear HS n_; have HS := n0_; clear n0_
                (first | (refine hK.out _ _ ?_; clear hK K; (try simp only [Act.put, List.setIfInBounds_toArray, List.set_cons_zero, List.set_cons_succ])) | (go_wp2_with fail; (refine hK.out _ _ ?_; clear hK K; (try simp only [Act.put, List.setIfInBounds_toArray, List.set_cons_zero, List.set_cons_succ]))))
                (refine a_take 32 rfl (by kernel_rfl) (by kernel_rfl) (by kernel_rfl) (fun _ _ _ h => h) (by rfl) (by intro w; go_simp; all_goals (with_reducible rfl)) ?_; simp only [Act.put, List.setIfInBounds_toArray, List.set_cons_zero, List.set_cons_succ])
                (refine a_take 33 rfl (by kernel_rfl) (by kernel_rfl) (by kernel_rfl) (fun _ _ _ h => h) (by rfl) (by intro w; go_simp; all_goals (with_reducible rfl)) ?_; simp only [Act.put, List.setIfInBounds_toArray, List.set_cons_zero, List.set_cons_succ])
                (refine a_take 34 rfl (by kernel_rfl) (by kernel_rfl) (by kernel_rfl) (fun _ _ _ h => h) (by rfl) (by intro w; go_simp; all_goals (with_reducible rfl)) ?_; simp only [Act.put, List.setIfInBounds_toArray, List.set_cons_zero, List.set_cons_succ])
                refine wpAny_done (by kernel_rfl) ?_ _
                go_wp2
                go_ret
                exact ⟨rfl, sep_below_of HS.out⟩
              · go_simp
                (refine hK.out _ _ ?_; clear hK K; (try simp only [Act.put, List.setIfInBounds_toArray, List.set_cons_zero, List.set_cons_succ]))
                refine a_two 13 23 (by kernel_rfl) rfl (by rfl) rfl (by rfl) (fun K hK => ?_) (fun K hK => ?_)
                · go_simp
                  (refine hK.out _ _ ?_; clear hK K; (try simp only [Act.put, List.setIfInBounds_toArray, List.set_cons_zero, List.set_cons_succ]))
                  (refine a_one 23 (by kernel_rfl) rfl (by rfl) (fun K hK => ?_); go_simp; (refine hK.out _ _ ?_; clear hK K; (try simp only [Act.put, List.setIfInBounds_toArray, List.set_cons_zero, List.set_cons_succ])))
                  (refine a_take 24 rfl (by kernel_rfl) (by kernel_rfl) (by kernel_rfl) (fun _ _ _ h => h) (by rfl) (by intro w; go_simp; all_goals (with_reducible rfl)) ?_; simp only [Act.put, List.setIfInBounds_toArray, List.set_cons_zero, List.set_cons_succ])
                  (refine a_take 25 rfl (by kernel_rfl) (by kernel_rfl) (by kernel_rfl) (fun _ _ _ h => h) (by rfl) (by intro w; go_simp; all_goals (with_reducible rfl)) ?_; simp only [Act.put, List.setIfInBounds_toArray, List.set_cons_zero, List.set_cons_succ])
                  (refine a_take 26 rfl (by kernel_rfl) (by kernel_rfl) (by kernel_rfl) (fun _ _ _ h => h) (by rfl) (by intro w; go_simp; all_goals (with_reducible rfl)) ?_; simp only [Act.put, List.setIfInBounds_toArray, List.set_cons_zero, List.set_cons_succ])
                  (refine a_take 27 rfl (by kernel_rfl) (by kernel_rfl) (by kernel_rfl) (fun _ _ _ h => h) (by rfl) (by intro w; go_simp; all_goals (with_reducible rfl)) ?_; simp only [Act.put, List.setIfInBounds_toArray, List.set_cons_zero, List.set_cons_succ])
                  (refine a_take 28 rfl (by kernel_rfl) (by kernel_rfl) (by kernel_rfl) (fun _ _ _ h => h) (by rfl) (by intro w; go_simp; all_goals (with_reducible rfl)) ?_; simp only [Act.put, List.setIfInBounds_toArray, List.set_cons_zero, List.set_cons_succ])
                  (refine a_take 30 rfl (by kernel_rfl) (by kernel_rfl) (by kernel_rfl) (fun _ _ _ h => h) (by rfl) (by intro w; go_simp; all_goals (with_reducible rfl)) ?_; simp only [Act.put, List.setIfInBounds_toArray, List.set_cons_zero, List.set_cons_succ])
                  (refine a_take 31 rfl (by kernel_rfl) (by kernel_rfl) (by kernel_rfl) (fun _ _ _ h => h) (by rfl) (by intro w; go_simp; all_goals (with_reducible rfl)) ?_; simp only [Act.put, List.setIfInBounds_toArray, List.set_cons_zero, List.set_cons_succ])
                  refine a_one 29 (by kernel_rfl) rfl (by rfl) (fun K hK => ?_)
                  go_simp
                  obtain ⟨ok_, hp_, hk_⟩ := sep_use1 HS.out
                  have hx_ := bag_Ready p L2 12 t _ ok_ hp_
                  rw [hn2] at hx_
                  (with_reducible refine Calls.mono hx_ ?_)
                  rintro e w1 ⟨rfl, hq_⟩
                  have n_ := back1 hk_ hq_
                  clear hx_ hp_ hk_ hq_
                  have n0_ := Aside0.mk n_; clear HS n_; have HS := n0_; clear n0_
                  (first | (refine hK.out _ _ ?_; clear hK K; (try simp only [Act.put, List.setIfInBounds_toArray, List.set_cons_zero, List.set_cons_succ])) | (go_wp2_with fail; (refine hK.out _ _ ?_; clear hK K; (try simp only [Act.put, List.setIfInBounds_toArray, List.set_cons_zero, List.set_cons_succ]))))
                  (refine a_take 32 rfl (by kernel_rfl) (by kernel_rfl) (by kernel_rfl) (fun _ _ _ h => h) (by rfl) (by intro w; go_simp; all_goals (with_reducible rfl)) ?_; simp only [Act.put, List.setIfInBounds_toArray, List.set_cons_zero, List.set_cons_succ])
                  (refine a_take 33 rfl (by kernel_rfl) (by kernel_rfl) (by kernel_rfl) (fun _ _ _ h => h) (by rfl) (by intro w; go_simp; all_goals (with_reducible rfl)) ?_; simp only [Act.put, List.setIfInBounds_toArray, List.set_cons_zero, List.set_cons_succ])
                  (refine a_take 34 rfl (by kernel_rfl) (by kernel_rfl) (by kernel_rfl) (fun _ _ _ h => h) (by rfl) (by intro w; go_simp; all_goals (with_reducible rfl)) ?_; simp only [Act.put, List.setIfInBounds_toArray, List.set_cons_zero, List.set_cons_succ])
                  refine wpAny_done (by kernel_rfl) ?_ _
                  go_wp2
                  go_ret
                  exact ⟨rfl, sep_below_of HS.out⟩
                · go_simp
                  (refine hK.out _ _ ?_; clear hK K; (try simp only [Act.put, List.setIfInBounds_toArray, List.set_cons_zero, List.set_cons_succ]))
                  (refine a_one 13 (by kernel_rfl) rfl (by rfl) (fun K hK => ?_); go_simp; (refine hK.out _ _ ?_; clear hK K; (try simp only [Act.put, List.setIfInBounds_toArray, List.set_cons_zero, List.set_cons_succ])))
                  (refine a_take 24 rfl (by kernel_rfl) (by kernel_rfl) (by kernel_rfl) (fun _ _ _ h => h) (by rfl) (by intro w; go_simp; all_goals (with_reducible rfl)) ?_; simp only [Act.put, List.setIfInBounds_toArray, List.set_cons_zero, List.set_cons_succ])
                  (refine a_take 25 rfl (by kernel_rfl) (by kernel_rfl) (by kernel_rfl) (fun _ _ _ h => h) (by rfl) (by intro w; go_simp; all_goals (with_reducible rfl)) ?_; simp only [Act.put, List.setIfInBounds_toArray, List.set_cons_zero, List.set_cons_succ])
                  (refine a_take 26 rfl (by kernel_rfl) (by kernel_rfl) (by kernel_rfl) (fun _ _ _ h => h) (by rfl) (by intro w; go_simp; all_goals (with_reducible rfl)) ?_; simp only [Act.put, List.setIfInBounds_toArray, List.set_cons_zero, List.set_cons_succ])
                  (refine a_take 27 rfl (by kernel_rfl) (by kernel_rfl) (by kernel_rfl) (fun _ _ _ h => h) (by rfl) (by intro w; go_simp; all_goals (with_reducible rfl)) ?_; simp only [Act.put, List.setIfInBounds_toArray, List.set_cons_zero, List.set_cons_succ])
                  (refine a_take 28 rfl (by kernel_rfl) (by kernel_rfl) (by kernel_rfl) (fun _ _ _ h => h) (by rfl) (by intro w; go_simp; all_goals (with_reducible rfl)) ?_; simp only [Act.put, List.setIfInBounds_toArray, List.set_cons_zero, List.set_cons_succ])
                  (refine a_take 30 rfl (by kernel_rfl) (by kernel_rfl) (by kernel_rfl) (fun _ _ _ h => h) (by rfl) (by intro w; go_simp; all_goals (with_reducible rfl)) ?_; simp only [Act.put, List.setIfInBounds_toArray, List.set_cons_zero, List.set_cons_succ])
                  (refine a_take 31 rfl (by kernel_rfl) (by kernel_rfl) (by kernel_rfl) (fun _ _ _ h => h) (by rfl) (by intro w; go_simp; all_goals (with_reducible rfl)) ?_; simp only [Act.put, List.setIfInBounds_toArray, List.set_cons_zero, List.set_cons_succ])
                  refine a_one 29 (by kernel_rfl) rfl (by rfl) (fun K hK => ?_)
                  go_simp
                  obtain ⟨ok_, hp_, hk_⟩ := sep_use1 HS.out
                  have hx_ := bag_Ready p L2 12 t _ ok_ hp_
                  rw [hn2] at hx_
                  (with_reducible refine Calls.mono hx_ ?_)
                  rintro e w1 ⟨rfl, hq_⟩
                  have n_ := back1 hk_ hq_
                  clear hx_ hp_ hk_ hq_
                  have n0_ := Aside0.mk n_; clear HS n_; have HS := n0_; clear n0_
                  (first | (refine hK.out _ _ ?_; clear hK K; (try simp only [Act.put, List.setIfInBounds_toArray, List.set_cons_zero, List.set_cons_succ])) | (go_wp2_with fail; (refine hK.out _ _ ?_; clear hK K; (try simp only [Act.put, List.setIfInBounds_toArray, List.set_cons_zero, List.set_cons_succ]))))
                  (refine a_take 32 rfl (by kernel_rfl) (by kernel_rfl) (by kernel_rfl) (fun _ _ _ h => h) (by rfl) (by intro w; go_simp; all_goals (with_reducible rfl)) ?_; simp only [Act.put, List.setIfInBounds_toArray, List.set_cons_zero, List.set_cons_succ])
                  (refine a_take 33 rfl (by kernel_rfl) (by kernel_rfl) (by kernel_rfl) (fun _ _ _ h => h) (by rfl) (by intro w; go_simp; all_goals (with_reducible rfl)) ?_; simp only [Act.put, List.setIfInBounds_toArray, List.set_cons_zero, List.set_cons_succ])
                  (refine a_take 34 rfl (by kernel_rfl) (by kernel_rfl) (by kernel_rfl) (fun _ _ _ h => h) (by rfl) (by intro w; go_simp; all_goals (with_reducible rfl)) ?_; simp only [Act.put, List.setIfInBounds_toArray, List.set_cons_zero, List.set_cons_succ])
                  refine wpAny_done (by kernel_rfl) ?_ _
                  go_wp2
                  go_ret
                  exact ⟨rfl, sep_below_of HS.out⟩
end Go.Proofs.Ytlpiodcklacdpaa.BG
