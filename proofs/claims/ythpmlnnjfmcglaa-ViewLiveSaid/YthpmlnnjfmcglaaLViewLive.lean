/- ViewLive, walked. Conditions: those that the theorem names. -/
import Derived.Test.YthpmlnnjfmcglaaVL
import Derived.Test.YthpmlnnjfmcglaaQL
namespace Go.Proofs.Ythpmlnnjfmcglaa.VW
set_option linter.unusedVariables false
set_option linter.unusedSimpArgs false
open Go Go.RowKit Go.Proofs.YthpmlnnjfmcglaaS Go.Proofs.YthpmlnnjfmcglaaS.Asn Go.Proofs.Ythpmlnnjfmcglaa.PA Go.Proofs.YthpmlnnjfmcglaaW.PrintWords Go.Proofs.YthpmlnnjfmcglaaW.PrintLast Go.Proofs.YthpmlnnjfmcglaaW.PrintMore
theorem rl_eq (l : List Int) (i y q : Nat) (hy : rd l (i : Int) = (y : Int)) (hq : y % 4 = q) : (⟨(i : Int) + 1, (q : Int), 0, 3, 3⟩ : Rec) = rl l i ∧ l.getD i 0 % 4 = (q : Int) := by
  have h1 : l.getD i 0 = (y : Int) := by rw [← hy]; unfold rd; rw [Int.toNat_natCast]
  unfold rl
  rw [h1]
  have : (y : Int) % 4 = (q : Int) := by omega
  rw [this]
  exact ⟨rfl, rfl⟩
set_option maxHeartbeats 4000000 in
set_option maxRecDepth 100000 in
theorem live_walk (A1 : Option Addr) (c1 : Nat) (l : List Int) (w : World) (hr1 : Kd.C (Kd.int .u8) w A1 l.length l) (hc1 : l.length ≤ c1) (hb : ∀ x ∈ l, 0 ≤ x ∧ x < 256) :
    Calls Try.prog 5 #[.slice A1 l.length c1] w fun e w' => e = .returned (.bool true) ∧ Below w.heap.size w w' := by
  have HS := Aside0.mk (sep_start w)
  have HR1 := Aside0.mk hr1
  have HB1 := Aside0.mk hb
  obtain ⟨m, hm⟩ : ∃ m, min l.length 32 = m := ⟨_, rfl⟩
  have HM : Aside0 (m ≤ 32 ∧ m ≤ l.length) := ⟨by omega⟩
  have hmm : (if (l.length : Int) < 32 then (l.length : Int) else 32) = (m : Int) := by omega
  have hmn : (if (32 : Int) < (l.length : Int) then 32 else (l.length : Int)) = (m : Int) := by omega
  have hmo : min (l.length : Int) 32 = (m : Int) := by omega
  clear hr1 hc1 hb hm
  go_enter Try.func5, Try.ntmps5
  go_upto_region 9 with (first | (go_at_call 9; (with_reducible refine Calls.mono (examples_walk _) ?_); rintro e w1 ⟨rfl, hb_⟩; have n_ := sep_below HS.out hb_; clear hb_; have n0_ := Aside0.mk n_; clear HS n_; have HS := n0_; clear n0_) | (go_at_call 10; (with_reducible refine Calls.mono (view_New _) ?_); rintro e w2 ⟨p, rfl, hm_⟩; have n_ := sep_made_of HS.out (sep_only hm_); clear hm_; have n0_ := Aside0.mk n_; clear HS n_; have HS := n0_; clear n0_))
  clear hmm hmn hmo
  have n_ := sep_l1 (sep_row_nil (d := Kd.int .i64) (e := 3) HS.out)
  have n0_ := Aside0.mk n_; clear HS n_; have HS := n0_; clear n0_
  go_upto_region 10 with (fail)
  go_loopg [5, 7] m (fun gg v5 v7 wr => ∃ i : Nat, i ≤ m ∧ m - i ≤ gg ∧ v7 = .int .i64 (i : Int) ∧ ∃ s, Aside0 (Lv l i s) ∧ Aside0 (Sep w (fun _ => False) (viewA p s ⋆ row (Kd.int .i64) 3 v5 (wl l i) ⋆ emp) wr))
  case atStart => exact ⟨0, Nat.zero_le _, by omega, rfl, _, ⟨Lv_zero l⟩, HS⟩
  case round =>
    clear HS
    obtain ⟨i, hi, hgi, rfl, s, HLV, HS⟩ := hrel
    by_cases hlt : i < m
    · have c1b : decide ((i : Int) < (m : Int)) = true := decide_eq_true (Int.ofNat_lt.2 hlt); have c1n : decide (i < m) = true := decide_eq_true hlt; have c1q : (i < m) = True := eq_true hlt; have p0_ := eq_true (Int.natCast_nonneg i)
      have hll : i < l.length := Nat.lt_of_lt_of_le hlt HM.out.2
      have c3b : decide ((i : Int) < (l.length : Int)) = true := decide_eq_true (Int.ofNat_lt.2 hll)
      have c3q := eq_true hll
      have HI := Aside0.mk (And.intro hlt hgi)
      obtain ⟨y, hy⟩ : ∃ y : Nat, rd l (i : Int) = (y : Int) := by
        have := HB1.out (l.getD i 0) (by rw [List.getD_eq_getElem?_getD, List.getElem?_eq_getElem hll]; exact List.getElem_mem hll)
        exact ⟨(l.getD i 0).toNat, by unfold rd; rw [Int.toNat_natCast]; omega⟩
      obtain ⟨q, hq⟩ : ∃ q : Nat, y % 4 = q := ⟨_, rfl⟩
      have HRL := Aside0.mk (rl_eq l i y q hy hq).1
      have hgd := (rl_eq l i y q hy hq).2
      have hwl := wl_succ l i
      rw [hgd] at hwl
      have r2 : ((y : Int) % 4) = (q : Int) := by omega
      have w1_ : wrap64 ((i : Int) + 1) = (i : Int) + 1 := by have := HI.out; have := HM.out; unfold wrap64; omega
      obtain ⟨ad, hA, kw⟩ := Kd.at_int HR1.out (i : Int) (Int.natCast_nonneg i) (Int.ofNat_lt.2 hll)
      subst hA
      rw [Int.toNat_natCast, hy] at kw
      have ka := ((sep_below_of HS.out).cell (World.block_lt_of_cell? w _ kw)).trans kw
      have HWN := Aside0.mk (wl_len l i)
      clear hi hgi hlt hll hgd hy hq
      go_upto_region 13 with (fail)
      have n_ := sep_l2 (sep_l2 (sep_alloc HS.out #[.int .i64 ((i : Int) + 1), .int .i64 (q : Int), .int .u32 0, .int .u32 0, .int .u16 0] 31))
      have n0_ := Aside0.mk n_; clear HS n_; have HS := n0_; clear n0_
      replace ka := ((sep_below_of HS.out).cell (World.block_lt_of_cell? w _ kw)).trans kw
      generalize wr.alloc (.cells #[.int .i64 ((i : Int) + 1), .int .i64 (q : Int), .int .u32 0, .int .u32 0, .int .u16 0] 31) = wa at HS ka ⊢
      generalize wr.heap.size = g8 at HS ⊢
      obtain ⟨m1, m2, m3, m4, m5⟩ := facts5 (sep_l2 HS.out)
      have kf3 := sep_frozen (sep_l2 HS.out) 3
      have kf4 := sep_frozen (sep_l2 HS.out) 4
      go_upto_region 15 with (fail)
      have n_ := sep_l2 (sep_l2 (sep_set (sep_set (sep_l2 HS.out) 3 (.int .u32 3)) 4 (.int .u16 3)))
      rw [show ((#[.int .i64 ((i : Int) + 1), .int .i64 (q : Int), .int .u32 0, .int .u32 0, .int .u16 0] : Array Value).setIfInBounds 3 (.int .u32 3)).setIfInBounds 4 (.int .u16 3) = #[.int .i64 ((i : Int) + 1), .int .i64 (q : Int), .int .u32 0, .int .u32 3, .int .u16 3] from rfl] at n_
      have n0_ := Aside0.mk n_; clear HS n_; have HS := n0_; clear n0_
      clear ka
      have ka := ((sep_below_of HS.out).cell (World.block_lt_of_cell? w _ kw)).trans kw
      generalize (wa.setCell ⟨g8, 3, none⟩ (.int .u32 3)).setCell ⟨g8, 4, none⟩ (.int .u16 3) = wb at HS ka ⊢
      clear m1 m2 m3 m4 m5 kf3 kf4
      obtain ⟨m1, m2, m3, m4, m5⟩ := facts5 (sep_l2 HS.out)
      go_upto_region 16 with (go_at_call 14; obtain ⟨ok_, hp_, hk_⟩ := sep_use1 HS.out; have hx_ := view_Take p s ⟨(i : Int) + 1, (q : Int), 0, 3, 3⟩ _ ok_ HLV.out.2.1 (by have := HLV.out.2.2; have := HI.out; have := HM.out; omega) hp_; dsimp only at hx_; (with_reducible refine Calls.mono hx_ ?_); rintro e w1 ⟨rfl, hq_⟩; have n_ := back1 hk_ hq_; clear hx_ hp_ hk_ hq_; have n0_ := Aside0.mk n_; clear HS n_; have HS := n0_; clear n0_; clear m1 m2 m3 m4 m5; replace ka := ((sep_below_of HS.out).cell (World.block_lt_of_cell? w _ kw)).trans kw)
      have n_ := sep_l1 (sep_drop (sep_l2 HS.out))
      have n0_ := Aside0.mk n_; clear HS n_; have HS := n0_; clear n0_
      by_cases h2 : q < 2
      · have d1 := eq_true h2
        have d2 : decide ((q : Int) < 2) = true := decide_eq_true (by omega)
        have d3 : ((q : Int) < 2) = True := eq_true (by omega)
        rw [if_pos (by omega)] at hwl
        have HW := Aside0.mk hwl
        clear hwl h2
        go_wp2_with ((with_reducible refine gate_builtin (b := .append) (xs := #[.tmp 50, .tmp 53]) rfl ?_); at_builtin; refine wp_append (Kd.int .i64) rfl (.tmp 50) (.tmp 53) 52 3 (.int .i64 0) 8 rfl Try.underlying52 info3 rfl (by decide) (by omega) _ (wl l i) ((i : Int) + 1) [.int .i64 ((i : Int) + 1)] (by rfl) (by rfl) rfl HS.out (by have := HWN.out; have := HI.out; have := HM.out; omega) ?_; intro v1_ w4 n_; rw [← HW.out] at n_; clear ka; replace n_ := sep_l1 n_; have n0_ := Aside0.mk n_; clear HS n_; have HS := n0_; clear n0_)
        go_roundg (m - (i + 1))
        case measure => have := HI.out; omega
        case rel => exact ⟨i + 1, HI.out.1, Nat.le_refl _, congrArg (Value.int .i64) (by have := HI.out; have := HM.out; omega), ⟨_, ⟨by have h := Lv_step l i s HLV.out (by have := HI.out; have := HM.out; omega); rw [← HRL.out] at h; exact h⟩, HS⟩⟩
      · have d1 := eq_false h2
        have d2 : decide ((q : Int) < 2) = false := decide_eq_false (by omega)
        have d3 : ((q : Int) < 2) = False := eq_false (by omega)
        rw [if_neg (by omega), List.append_nil] at hwl
        have n_ := HS.out
        rw [← hwl] at n_
        replace n_ := sep_l1 n_
        have n0_ := Aside0.mk n_; clear HS n_; have HS := n0_; clear n0_
        clear hwl h2
        go_wp2
        go_roundg (m - (i + 1))
        case measure => have := HI.out; omega
        case rel => exact ⟨i + 1, HI.out.1, Nat.le_refl _, congrArg (Value.int .i64) (by have := HI.out; have := HM.out; omega), ⟨_, ⟨by have h := Lv_step l i s HLV.out (by have := HI.out; have := HM.out; omega); rw [← HRL.out] at h; exact h⟩, HS⟩⟩
    · obtain rfl : i = m := by omega
      have c2b : decide ((i : Int) < (i : Int)) = false := decide_eq_false (by omega)
      have HLE := Aside0.mk (liveE_KL l i s HLV.out HM.out.1)
      have HME := Aside0.mk (members_KL l i s HLV.out HM.out.1)
      obtain ⟨B, d, rfl, -, -⟩ := sep_row (sep_l1 HS.out)
      clear hi hgi hlt
      go_upto_region 19 with (first | (go_at_call 19; obtain ⟨ok_, hp_, hk_⟩ := sep_use1 HS.out; have hx_ := view_Live p s _ ok_ hp_; rw [HLE.out] at hx_; (with_reducible refine Calls.mono hx_ ?_); rintro e w1 ⟨v_, rfl, hq_⟩; have n_ := back2 hk_ hq_; clear hx_ hp_ hk_ hq_; obtain ⟨A, c, rfl, -, -⟩ := sep_row n_; replace n_ := sep_l1 (sep_l2 n_); have n0_ := Aside0.mk n_; clear HS n_; have HS := n0_; clear n0_) | (go_at_call 18; obtain ⟨ok_, hp_, hk_⟩ := sep_use2 HS.out; have hx_ := live_same A B c d (wl l i) _ ok_ hp_; (with_reducible refine Calls.mono hx_ ?_); rintro e w1 ⟨rfl, hq_⟩; have n_ := back2 hk_ hq_; clear hx_ hp_ hk_ hq_; replace n_ := sep_drop (sep_drop n_); have n0_ := Aside0.mk n_; clear HS n_; have HS := n0_; clear n0_))
      go_upto_region 20 with (go_at_call 12; obtain ⟨ok_, hp_, hk_⟩ := sep_use1 HS.out; have hx_ := view_Of p s 0 _ ok_ hp_; rw [(of_out s).1] at hx_; dsimp only [Rec.zero] at hx_; (with_reducible refine Calls.mono hx_ ?_); rintro e w1 ⟨rfl, hq_⟩; have n_ := back1 hk_ hq_; clear hx_ hp_ hk_ hq_; have n0_ := Aside0.mk n_; clear HS n_; have HS := n0_; clear n0_)
      have n_ := sep_skip HS.out (.cells #[.int .i64 0, .int .i64 0, .int .u32 0, .int .u32 0, .int .u16 0] 31)
      have n0_ := Aside0.mk n_; clear HS n_; have HS := n0_; clear n0_
      generalize w1.alloc (.cells #[.int .i64 0, .int .i64 0, .int .u32 0, .int .u32 0, .int .u16 0] 31) = w2 at HS ⊢
      go_upto_region 21 with (go_at_call 12; obtain ⟨ok_, hp_, hk_⟩ := sep_use1 HS.out; have hx_ := view_Of p s 33 _ ok_ hp_; rw [(of_out s).2] at hx_; dsimp only [Rec.zero] at hx_; (with_reducible refine Calls.mono hx_ ?_); rintro e w3 ⟨rfl, hq_⟩; have n_ := back1 hk_ hq_; clear hx_ hp_ hk_ hq_; have n0_ := Aside0.mk n_; clear HS n_; have HS := n0_; clear n0_)
      have n_ := sep_skip HS.out (.cells #[.int .i64 0, .int .i64 0, .int .u32 0, .int .u32 0, .int .u16 0] 31)
      have n0_ := Aside0.mk n_; clear HS n_; have HS := n0_; clear n0_
      generalize w3.alloc (.cells #[.int .i64 0, .int .i64 0, .int .u32 0, .int .u32 0, .int .u16 0] 31) = w4 at HS ⊢
      go_wp2_with (go_at_call 17; obtain ⟨ok_, hp_, hk_⟩ := sep_use1 HS.out; have hx_ := view_Members p s _ ok_ hp_; (with_reducible refine Calls.mono hx_ ?_); rintro e w5 ⟨v_, rfl, hq_⟩; have n_ := back2 hk_ hq_; clear hx_ hp_ hk_ hq_; obtain ⟨Am, cm, rfl, -, -⟩ := sep_row n_; rw [HME.out]; have n0_ := Aside0.mk n_; clear HS n_; have HS := n0_; clear n0_)
      go_ret
      exact ⟨rfl, sep_below_of HS.out⟩
end Go.Proofs.Ythpmlnnjfmcglaa.VW
