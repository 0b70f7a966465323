/- NetDelays, walked. Conditions: those that the theorem names. -/
import Derived.Test.YtobfabfoenldfaaPB2
namespace Go.Proofs.Ytobfabfoenldfaa.NW
set_option linter.unusedVariables false
set_option linter.unusedSimpArgs false
open Go Go.RowKit Go.Proofs.YtobfabfoenldfaaS Go.Proofs.YtobfabfoenldfaaS.Asn Go.Proofs.Ytobfabfoenldfaa.PA Go.Proofs.YtobfabfoenldfaaW.PrintWords Go.Proofs.YtobfabfoenldfaaW.PrintLast Go.Proofs.YtobfabfoenldfaaW.PrintMore


open Go.Proofs.Ytobfabfoenldfaa.BG
set_option maxHeartbeats 4000000 in
set_option maxRecDepth 100000 in
theorem delays_walk (t by_ : Int) (twice : Bool) (w : World) (ht : 0 ≤ t ∧ t ≤ 65535) (hb : 0 ≤ by_ ∧ by_ ≤ 255) :
    Calls Try.prog 8 #[.int .u16 t, .int .u8 by_, .bool twice] w fun e w' => e = .returned (.bool true) ∧ Below w.heap.size w w' := by
  have HS := Aside0.mk (sep_start w)
  have HB := Aside0.mk (And.intro ht hb)
  have tw : IntKind.u64.wrap t = t := by rw [IntKind.wrap_u64]; omega
  have bw : IntKind.u64.wrap by_ = by_ := by rw [IntKind.wrap_u64]; omega
  have tb : IntKind.u64.wrap (t + by_) = t + by_ := by rw [IntKind.wrap_u64]; omega
  have tc : IntKind.u64.wrap (t + by_ + 1) = t + by_ + 1 := by rw [IntKind.wrap_u64]; omega
  obtain ⟨T, hT⟩ : ∃ T, t + 1 + by_ = T := ⟨_, rfl⟩
  have HT := Aside0.mk hT
  clear ht hb hT
  go_enter Try.func8, Try.ntmps8
  go_upto_region 5 with (go_at_call 9; (with_reducible refine Calls.mono (examples_walk _) ?_); rintro e w1 ⟨rfl, hb_⟩; have n_ := sep_below HS.out hb_; clear hb_; have n0_ := Aside0.mk n_; clear HS n_; have HS := n0_; clear n0_; skip)
  have n_ := sep_allocg HS.out #[.int .u32 1, .int .u16 7] 28 _ rfl; have n0_ := Aside0.mk n_; clear HS n_; have HS := n0_; clear n0_; generalize hw_ : World.alloc _ _ = wa at HS ⊢; clear hw_; generalize hp_ : Array.size (World.heap _) = g8 at HS ⊢; clear hp_
  go_upto_region 6 with (fail)
  have n_ := sep_allocg HS.out #[.int .u32 2, .int .u16 7] 28 _ rfl; have n0_ := Aside0.mk n_; clear HS n_; have HS := n0_; clear n0_; generalize hw_ : World.alloc _ _ = wb at HS ⊢; clear hw_; generalize hp_ : Array.size (World.heap _) = g9 at HS ⊢; clear hp_
  (try clear b0 b1); have b0 := sep_cell (id HS.out) 0; have b1 := sep_cell (id HS.out) 1
  (try clear a0 a1); have a0 := sep_cell (sep_l1 HS.out) 0; have a1 := sep_cell (sep_l1 HS.out) 1
  go_upto_region 7 with (go_at_call 10; have h1_ := sep_allocg HS.out #[.int .u32 1, .int .u16 7, .int .i64 0, .int .u32 2, .int .u16 7, .int .i64 0] 34 _ rfl; have hx_ := new_zero _ 2 eh 2 4 _ rfl (by decide) (by decide) (by decide +kernel) (lit_hos eh h1_ (by decide) (fun j x hx => by rcases j with _ | _ | _ | j <;> first | (cases hx; exact ⟨rfl, rfl, rfl⟩) | simp [eh] at hx)); (with_reducible refine Calls.mono hx_ ?_); rintro e w1 ⟨p, pb, rfl, hm_⟩; have n_ := sep_l2 (sep_l2 (sep_emp (made2 (sep_drop h1_) hm_))); clear h1_ hx_ hm_; have n0_ := Aside0.mk n_; clear HS n_; have HS := n0_; clear n0_; skip)
  clear a0 a1 b0 b1
  go_upto_region 10 with (go_at_call 19; obtain ⟨ok_, hp_, hk_⟩ := sep_use1 HS.out; have hx_ := bag_A p pb eh [] _ ok_ hp_; (with_reducible refine Calls.mono hx_ ?_); rintro e w1 ⟨rfl, hb_⟩; have n_ := sep_below HS.out hb_; clear hx_ hp_ hk_ hb_; have n0_ := Aside0.mk n_; clear HS n_; have HS := n0_; clear n0_; skip)
  (try clear b0 b1); have b0 := sep_cell (sep_l3 HS.out) 0; have b1 := sep_cell (sep_l3 HS.out) 1
  go_upto_region 11 with (go_at_call 11; obtain ⟨ok_, hp_, hk_⟩ := sep_use2 HS.out; have hx_ := sendP p pb eh [] [] [dx (t + 1)] 4 t _ ok_ 0 ⟨1, 7, 0⟩ 1 ⟨2, 7⟩ ⟨#[120]⟩ 0 rfl rfl rfl rfl (by decide) (by decide) (by decide) (by have := HB.out; omega) (dx_put (t + 1)) (putL_ok (dx_put (t + 1))) hp_; (with_reducible refine Calls.mono hx_ ?_); rintro e w1 ⟨rfl, hq_⟩; have n_ := back2 hk_ hq_; clear hx_ hp_ hk_ hq_; have n0_ := Aside0.mk n_; clear HS n_; have HS := n0_; clear n0_; skip)
  clear b0 b1
  go_upto_region 12 with (go_at_call 21; obtain ⟨ok_, hp_, hk_⟩ := sep_use2 HS.out; have hx_ := delay_A p pb eh [] [dx (t + 1)] 4 0 _ ok_ by_ (by decide) HB.out.2.1 (fun x hx => by obtain rfl := List.mem_singleton.1 hx; have := HB.out; show 0 ≤ t + 1; omega) hp_; rw [(dx_delay (t + 1) by_ (by have := HB.out; omega) HB.out.2).1, (dx_delay (t + 1) by_ (by have := HB.out; omega) HB.out.2).2, HT.out] at hx_; (with_reducible refine Calls.mono hx_ ?_); rintro e w1 ⟨rfl, hq_⟩; have n_ := back2 hk_ hq_; clear hx_ hp_ hk_ hq_; have n0_ := Aside0.mk n_; clear HS n_; have HS := n0_; clear n0_)
  cases twice with
  | true =>
    go_upto_region 17 with (go_at_call 22; obtain ⟨ok_, hp_, hk_⟩ := sep_use2 HS.out; have hx_ := twice_A p pb eh [] [dx T] 4 0 _ ok_ (by decide) (by decide) hp_; rw [(dx_twice T (by have := HT.out; have := HB.out; omega)).1, (dx_twice T (by have := HT.out; have := HB.out; omega)).2] at hx_; (with_reducible refine Calls.mono hx_ ?_); rintro e w1 ⟨rfl, hq_⟩; have n_ := back2 hk_ hq_; clear hx_ hp_ hk_ hq_; have n0_ := Aside0.mk n_; clear HS n_; have HS := n0_; clear n0_)
    go_upto_region 18 with (go_at_call 12; obtain ⟨ok_, hp_, hk_⟩ := sep_use2 HS.out; have hx_ := delN p pb eh [] (List.replicate 2 (dx T)) (List.replicate 2 (dx T)) 4 (t + by_) _ ok_ 0 5 It.zero (by decide) (away_none _ _ (rdy_rep _ _ _ (show t + by_ < T by have := HT.out; omega))) (by decide) hp_; (with_reducible refine Calls.mono hx_ ?_); rintro e w1 ⟨rfl, hq_⟩; have n_ := back2 hk_ hq_; clear hx_ hp_ hk_ hq_; have n0_ := Aside0.mk n_; clear HS n_; have HS := n0_; clear n0_; skip)
    have n_ := sep_drop (sep_l3 (sep_skip HS.out (.cells #[.int .i64 0, .int .u32 0, .int .u16 0, .string ⟨#[]⟩] 42 (0, 0))))
    have n0_ := Aside0.mk n_; clear HS n_; have HS := n0_; clear n0_
    generalize hw_ : World.alloc _ _ = wf at HS ⊢
    clear hw_
    go_upto_region 19 with (fail)
    go_loopg [18] 2 (fun gg s18 wr => ∃ i : Nat, i ≤ 2 ∧ 2 - i ≤ gg ∧ s18 = .int .i64 i ∧ Aside0 (Sep w (fun _ => False) (netA p eh [] pb ⋆ bagA pb (List.replicate (2 - i) (dx T)) 4 ⋆ emp ⋆ pt g8 #[.int .u32 1, .int .u16 7] 28 ⋆ emp) wr))
    case atStart => exact ⟨0, Nat.zero_le _, Nat.le_refl _, rfl, HS⟩
    case round =>
      clear HS
      obtain ⟨i, hi, hg, rfl, HS⟩ := hrel
      by_cases hlt : i < 2
      · have c1b : decide ((i : Int) < 2) = true := decide_eq_true (by omega)
        have c1i : ((i : Int) < 2) = True := eq_true (by omega)
        have c1n : decide (i < 2) = true := decide_eq_true hlt
        have c1q : (i < 2) = True := eq_true hlt
        have p0_ := eq_true (Int.natCast_nonneg i)
        obtain ⟨n, hn⟩ : ∃ n, 2 - i = n + 1 := ⟨2 - i - 1, by omega⟩
        have hs := HS.out
        rw [hn, List.replicate_succ] at hs
        have HI := Aside0.mk (And.intro hlt (And.intro hg hn))
        clear HS hlt hi hg hn
        have HS := Aside0.mk hs
        clear hs
        go_upto_region 22 with (go_at_call 12; obtain ⟨ok_, hp_, hk_⟩ := sep_use3 HS.out; have hx_ := delI p pb eh [] (dx T :: List.replicate n (dx T)) (List.replicate n (dx T)) 4 (t + by_ + 1) _ ok_ 0 2 emp emp (dx T) 1 7 ⟨#[120]⟩ (by decide) (away_head _ _ _ (show T ≤ t + by_ + 1 by have := HT.out; omega)) (d_arr p pb emp (t + by_ + 1) T) rfl rfl rfl hp_; (with_reducible refine Calls.mono hx_ ?_); rintro e w1 ⟨rfl, hq_⟩; have n_ := back3 hk_ hq_; clear hx_ hp_ hk_ hq_; have n0_ := Aside0.mk n_; clear HS n_; have HS := n0_; clear n0_; skip)
        have n_ := sep_l3 (sep_l3 (sep_l3 (sep_allocg HS.out #[.int .i64 2, .int .u32 1, .int .u16 7, .string ⟨#[120]⟩] 42 _ rfl))); have n0_ := Aside0.mk n_; clear HS n_; have HS := n0_; clear n0_; generalize hw_ : World.alloc _ _ = wg at HS ⊢; clear hw_; generalize hp_ : Array.size (World.heap _) = g19 at HS ⊢; clear hp_
        (try clear u0 u1); have u0 := sep_cell (sep_l3 HS.out) 0; have u1 := sep_cell (sep_l3 HS.out) 1
        have u2 := sep_cell (sep_l3 HS.out) 2
        have u3 := sep_cell (sep_l3 HS.out) 3
        (try clear a0 a1); have a0 := sep_cell (sep_l4 HS.out) 0; have a1 := sep_cell (sep_l4 HS.out) 1
        go_wp2
        go_roundg (2 - (i + 1))
        case measure => have := HI.out; omega
        case rel =>
          refine ⟨i + 1, by have := HI.out; omega, Nat.le_refl _, congrArg (Value.int .i64) (by have := HI.out; unfold wrap64; omega), ⟨?_⟩⟩
          rw [show 2 - (i + 1) = n by have := HI.out; omega]
          exact sep_drop (sep_l3 HS.out)
      · obtain rfl : i = 2 := by omega
        clear hi hg hlt
        rw [Nat.sub_self] at HS
        go_wp2_with (first | (go_at_call 19; obtain ⟨ok_, hp_, hk_⟩ := sep_use1 HS.out; have hx_ := bag_A p pb eh [] _ ok_ hp_; (with_reducible refine Calls.mono hx_ ?_); rintro e w1 ⟨rfl, hb_⟩; have n_ := sep_below HS.out hb_; clear hx_ hp_ hk_ hb_; have n0_ := Aside0.mk n_; clear HS n_; have HS := n0_; clear n0_; skip) | (go_at_call 20; obtain ⟨ok_, hp_, hk_⟩ := sep_use1 (sep_l1 HS.out); have hx_ := bag_Len pb ([]) 4 _ ok_ hp_; (with_reducible refine Calls.mono hx_ ?_); rintro e w1 ⟨rfl, hq_⟩; have n_ := sep_l1 (back1 hk_ hq_); clear hx_ hp_ hk_ hq_; have n0_ := Aside0.mk n_; clear HS n_; have HS := n0_; clear n0_; skip) | fail)
        go_ret
        exact ⟨rfl, sep_below_of HS.out⟩
  | false =>
    go_upto_region 17 with (fail)
    go_upto_region 18 with (go_at_call 12; obtain ⟨ok_, hp_, hk_⟩ := sep_use2 HS.out; have hx_ := delN p pb eh [] (List.replicate 1 (dx T)) (List.replicate 1 (dx T)) 4 (t + by_) _ ok_ 0 5 It.zero (by decide) (away_none _ _ (rdy_rep _ _ _ (show t + by_ < T by have := HT.out; omega))) (by decide) hp_; (with_reducible refine Calls.mono hx_ ?_); rintro e w1 ⟨rfl, hq_⟩; have n_ := back2 hk_ hq_; clear hx_ hp_ hk_ hq_; have n0_ := Aside0.mk n_; clear HS n_; have HS := n0_; clear n0_; skip)
    have n_ := sep_drop (sep_l3 (sep_skip HS.out (.cells #[.int .i64 0, .int .u32 0, .int .u16 0, .string ⟨#[]⟩] 42 (0, 0))))
    have n0_ := Aside0.mk n_; clear HS n_; have HS := n0_; clear n0_
    generalize hw_ : World.alloc _ _ = wf at HS ⊢
    clear hw_
    go_upto_region 19 with (fail)
    go_loopg [18] 1 (fun gg s18 wr => ∃ i : Nat, i ≤ 1 ∧ 1 - i ≤ gg ∧ s18 = .int .i64 i ∧ Aside0 (Sep w (fun _ => False) (netA p eh [] pb ⋆ bagA pb (List.replicate (1 - i) (dx T)) 4 ⋆ emp ⋆ pt g8 #[.int .u32 1, .int .u16 7] 28 ⋆ emp) wr))
    case atStart => exact ⟨0, Nat.zero_le _, Nat.le_refl _, rfl, HS⟩
    case round =>
      clear HS
      obtain ⟨i, hi, hg, rfl, HS⟩ := hrel
      by_cases hlt : i < 1
      · have c1b : decide ((i : Int) < 1) = true := decide_eq_true (by omega)
        have c1i : ((i : Int) < 1) = True := eq_true (by omega)
        have c1n : decide (i < 1) = true := decide_eq_true hlt
        have c1q : (i < 1) = True := eq_true hlt
        have p0_ := eq_true (Int.natCast_nonneg i)
        obtain ⟨n, hn⟩ : ∃ n, 1 - i = n + 1 := ⟨1 - i - 1, by omega⟩
        have hs := HS.out
        rw [hn, List.replicate_succ] at hs
        have HI := Aside0.mk (And.intro hlt (And.intro hg hn))
        clear HS hlt hi hg hn
        have HS := Aside0.mk hs
        clear hs
        go_upto_region 22 with (go_at_call 12; obtain ⟨ok_, hp_, hk_⟩ := sep_use3 HS.out; have hx_ := delI p pb eh [] (dx T :: List.replicate n (dx T)) (List.replicate n (dx T)) 4 (t + by_ + 1) _ ok_ 0 2 emp emp (dx T) 1 7 ⟨#[120]⟩ (by decide) (away_head _ _ _ (show T ≤ t + by_ + 1 by have := HT.out; omega)) (d_arr p pb emp (t + by_ + 1) T) rfl rfl rfl hp_; (with_reducible refine Calls.mono hx_ ?_); rintro e w1 ⟨rfl, hq_⟩; have n_ := back3 hk_ hq_; clear hx_ hp_ hk_ hq_; have n0_ := Aside0.mk n_; clear HS n_; have HS := n0_; clear n0_; skip)
        have n_ := sep_l3 (sep_l3 (sep_l3 (sep_allocg HS.out #[.int .i64 2, .int .u32 1, .int .u16 7, .string ⟨#[120]⟩] 42 _ rfl))); have n0_ := Aside0.mk n_; clear HS n_; have HS := n0_; clear n0_; generalize hw_ : World.alloc _ _ = wg at HS ⊢; clear hw_; generalize hp_ : Array.size (World.heap _) = g19 at HS ⊢; clear hp_
        (try clear u0 u1); have u0 := sep_cell (sep_l3 HS.out) 0; have u1 := sep_cell (sep_l3 HS.out) 1
        have u2 := sep_cell (sep_l3 HS.out) 2
        have u3 := sep_cell (sep_l3 HS.out) 3
        (try clear a0 a1); have a0 := sep_cell (sep_l4 HS.out) 0; have a1 := sep_cell (sep_l4 HS.out) 1
        go_wp2
        go_roundg (1 - (i + 1))
        case measure => have := HI.out; omega
        case rel =>
          refine ⟨i + 1, by have := HI.out; omega, Nat.le_refl _, congrArg (Value.int .i64) (by have := HI.out; unfold wrap64; omega), ⟨?_⟩⟩
          rw [show 1 - (i + 1) = n by have := HI.out; omega]
          exact sep_drop (sep_l3 HS.out)
      · obtain rfl : i = 1 := by omega
        clear hi hg hlt
        rw [Nat.sub_self] at HS
        go_wp2_with (first | (go_at_call 19; obtain ⟨ok_, hp_, hk_⟩ := sep_use1 HS.out; have hx_ := bag_A p pb eh [] _ ok_ hp_; (with_reducible refine Calls.mono hx_ ?_); rintro e w1 ⟨rfl, hb_⟩; have n_ := sep_below HS.out hb_; clear hx_ hp_ hk_ hb_; have n0_ := Aside0.mk n_; clear HS n_; have HS := n0_; clear n0_; skip) | (go_at_call 20; obtain ⟨ok_, hp_, hk_⟩ := sep_use1 (sep_l1 HS.out); have hx_ := bag_Len pb ([]) 4 _ ok_ hp_; (with_reducible refine Calls.mono hx_ ?_); rintro e w1 ⟨rfl, hq_⟩; have n_ := sep_l1 (back1 hk_ hq_); clear hx_ hp_ hk_ hq_; have n0_ := Aside0.mk n_; clear HS n_; have HS := n0_; clear n0_; skip) | fail)
        go_ret
        exact ⟨rfl, sep_below_of HS.out⟩
end Go.Proofs.Ytobfabfoenldfaa.NW
