/- The view: Live. Conditions: those that each theorem names. -/
import Derived.Test.YthpmlnnjfmcglaaVE
namespace Go.Proofs.Ythpmlnnjfmcglaa.VW
set_option linter.unusedVariables false
set_option linter.unusedSimpArgs false
open Go Go.RowKit Go.Proofs.YthpmlnnjfmcglaaS Go.Proofs.YthpmlnnjfmcglaaS.Asn Go.Proofs.Ythpmlnnjfmcglaa.PA Go.Proofs.YthpmlnnjfmcglaaW.PrintWords Go.Proofs.YthpmlnnjfmcglaaW.PrintLast Go.Proofs.YthpmlnnjfmcglaaW.PrintMore
theorem info3 : (Try.prog.info? 3).map (fun i => (i.zero, i.size, i.bytes)) = some (some (.int .i64 0), 1, 8) := by kernel_rfl
def live1 (s : VS) (i : Nat) : List Int := ((List.range i).filter (fun i : Nat => (ofE s ((i : Int) + 1)).2 && liveB (ofE s ((i : Int) + 1)).1)).map (fun i : Nat => ((i : Int) + 1))
theorem live1_succ (s : VS) (i : Nat) : live1 s (i + 1) = live1 s i ++ if (ofE s ((i : Int) + 1)).2 && liveB (ofE s ((i : Int) + 1)).1 then [(i : Int) + 1] else [] := by
  unfold live1
  rw [List.range_succ, List.filter_append, List.map_append]
  congr 1
  by_cases h : ((ofE s ((i : Int) + 1)).2 && liveB (ofE s ((i : Int) + 1)).1) = true
  · rw [if_pos h]; simp [List.filter_cons, h]
  · rw [if_neg h]; simp [List.filter_cons, h]
theorem live1_len (s : VS) (i : Nat) : (live1 s i).length ≤ i := by
  unfold live1
  rw [List.length_map]
  refine Nat.le_trans (List.length_filter_le _ _) ?_
  simp
def LiveRel (w : World) (ok : Nat → Prop) (p : Nat) (s : VS) (kq : Nat) (v3 v4 : Value) (w' : World) : Prop :=
  ∃ i : Nat, i ≤ 32 ∧ 32 - i ≤ kq ∧ v4 = .int .i64 (i : Int) ∧ Aside0 (Sep w ok (row (Kd.int .i64) 3 v3 (live1 s i) ⋆ viewA p s ⋆ emp) w')
set_option maxRecDepth 100000 in
set_option maxHeartbeats 4000000 in
theorem view_Live (p : Nat) (s : VS) (w : World) (ok : Nat → Prop) (h : (viewA p s ⋆ emp).H w ok) :
    Calls Try.prog 19 #[.pointer (some ⟨p, 0, none⟩)] w fun e w' => ∃ v, e = .returned v ∧ Sep w ok (row (Kd.int .i64) 3 v (liveE s) ⋆ viewA p s ⋆ emp) w' := by
  have HS := Aside0.mk (sep_row_nil (d := Kd.int .i64) (e := 3) (sep_begin h))
  clear h
  go_enter Try.func19, Try.ntmps19
  go_wp2_with (first | (refine Go.Proofs.YthpmlnnjfmcglaaX.wp_scope_k ?_; intro Jg hJg; have HJg := Aside0.mk hJg; clear hJg))
  refine wp_label ?_
  go_step
  (first | (show Code.wp _ _ _ _ _) | go_step)
  refine Go.Proofs.YthpmlnnjfmcglaaX.wp_label_ghost 0 [3, 4, 5, 6, 7, 8, 9, 10, 11, 12, 13, 14, 15, 16, 17, 18, 19, 20, 21, 22, 23, 24, 25, 26] (fun kq u w' => (LiveRel w ok p s) kq (u 3) (u 4) w') (33) ?hJ ?atStart ?round
  case hJ => exact fun a w h => HJg.out _ _ _ _ rfl (Go.Proofs.YthpmlnnjfmcglaaX.wp_skip_seq h)
  case atStart => exact ⟨0, by decide, by decide, rfl, HS⟩
  case round =>
    clear HS
    intro gk u wr hrel Ji hI hH
    have hL : ∀ (kq : Nat) (u3 u4 u5 u6 u7 u8 u9 u10 u11 u12 u13 u14 u15 u16 u17 u18 u19 u20 u21 u22 u23 u24 u25 u26 : Value) (w' : World), (LiveRel w ok p s) kq u3 u4 w' → Ji kq ⟨Go.Proofs.YthpmlnnjfmcglaaX.setAll _ [3, 4, 5, 6, 7, 8, 9, 10, 11, 12, 13, 14, 15, 16, 17, 18, 19, 20, 21, 22, 23, 24, 25, 26] (Go.Proofs.YthpmlnnjfmcglaaX.sel [(3, u3), (4, u4), (5, u5), (6, u6), (7, u7), (8, u8), (9, u9), (10, u10), (11, u11), (12, u12), (13, u13), (14, u14), (15, u15), (16, u16), (17, u17), (18, u18), (19, u19), (20, u20), (21, u21), (22, u22), (23, u23), (24, u24), (25, u25), (26, u26)]), _⟩ w' := fun kq u3 u4 u5 u6 u7 u8 u9 u10 u11 u12 u13 u14 u15 u16 u17 u18 u19 u20 u21 u22 u23 u24 u25 u26 w' h => hI kq _ w' ⟨Go.Proofs.YthpmlnnjfmcglaaX.sel [(3, u3), (4, u4), (5, u5), (6, u6), (7, u7), (8, u8), (9, u9), (10, u10), (11, u11), (12, u12), (13, u13), (14, u14), (15, u15), (16, u16), (17, u17), (18, u18), (19, u19), (20, u20), (21, u21), (22, u22), (23, u23), (24, u24), (25, u25), (26, u26)], h, rfl⟩
    clear hI
    simp only [Go.Proofs.YthpmlnnjfmcglaaX.setAll, Go.Proofs.YthpmlnnjfmcglaaX.sel, Nat.reduceEqDiff, ↓reduceIte, List.setIfInBounds_toArray, List.set_cons_zero, List.set_cons_succ] at hL
    simp only [Go.Proofs.YthpmlnnjfmcglaaX.setAll, Go.Proofs.YthpmlnnjfmcglaaX.sel, Nat.reduceEqDiff, ↓reduceIte, List.setIfInBounds_toArray, List.set_cons_zero, List.set_cons_succ]
    generalize u 3 = u3 at hrel ⊢
    generalize u 4 = u4 at hrel ⊢
    generalize u 5 = u5 at hrel ⊢
    generalize u 6 = u6 at hrel ⊢
    generalize u 7 = u7 at hrel ⊢
    generalize u 8 = u8 at hrel ⊢
    generalize u 9 = u9 at hrel ⊢
    generalize u 10 = u10 at hrel ⊢
    generalize u 11 = u11 at hrel ⊢
    generalize u 12 = u12 at hrel ⊢
    generalize u 13 = u13 at hrel ⊢
    generalize u 14 = u14 at hrel ⊢
    generalize u 15 = u15 at hrel ⊢
    generalize u 16 = u16 at hrel ⊢
    generalize u 17 = u17 at hrel ⊢
    generalize u 18 = u18 at hrel ⊢
    generalize u 19 = u19 at hrel ⊢
    generalize u 20 = u20 at hrel ⊢
    generalize u 21 = u21 at hrel ⊢
    generalize u 22 = u22 at hrel ⊢
    generalize u 23 = u23 at hrel ⊢
    generalize u 24 = u24 at hrel ⊢
    generalize u 25 = u25 at hrel ⊢
    generalize u 26 = u26 at hrel ⊢
    clear u
    obtain ⟨i, hi, hgi, rfl, HS⟩ := hrel
    by_cases hlt : i < 32
    · have HI := Aside0.mk (And.intro hlt hgi)
      have w1_ : wrap64 ((i : Int) + 1) = (i : Int) + 1 := by unfold wrap64; omega
      have d1 : decide (32 < (i : Int) + 1) = false := decide_eq_false (by omega)
      have d2 : decide ((i : Int) + 1 > 32) = false := decide_eq_false (by omega)
      have d3 : ((32 : Int) < (i : Int) + 1) = False := eq_false (by omega)
      clear hlt hi hgi
      have hmem := live1_succ s i
      have hmln := live1_len s i
      obtain ⟨⟨y, th⟩, hy⟩ : ∃ y, ofE s ((i : Int) + 1) = y := ⟨_, rfl⟩
      rw [hy] at hmem
      dsimp only at hmem
      have HM := Aside0.mk hmem
      have HML := Aside0.mk hmln
      have HY := Aside0.mk hy
      clear hmem hmln hy
      go_upto_region 7 with (go_at_call 12; obtain ⟨ok_, hp_, hk_⟩ := sep_use1 (sep_l1 HS.out); have hx_ := view_Of p s ((i : Int) + 1) _ ok_ hp_; rw [HY.out] at hx_; dsimp only at hx_; (with_reducible refine Calls.mono hx_ ?_); rintro e w1 ⟨rfl, hq_⟩; have n_ := sep_l1 (back1 hk_ hq_); clear hx_ hp_ hk_ hq_; have n0_ := Aside0.mk n_; clear HS n_; have HS := n0_; clear n0_)
      have n_ := sep_alloc HS.out #[.int .i64 y.id, .int .i64 y.st, .int .u32 y.inc, .int .u32 y.ip, .int .u16 y.po] 31
      have n0_ := Aside0.mk n_; clear HS n_; have HS := n0_; clear n0_
      generalize w1.alloc (.cells #[.int .i64 y.id, .int .i64 y.st, .int .u32 y.inc, .int .u32 y.ip, .int .u16 y.po] 31) = wa at HS ⊢
      generalize w1.heap.size = g5 at HS ⊢
      obtain ⟨m1, m2, m3, m4, m5⟩ := facts5 HS.out
      have n_ := sep_drop HS.out
      have n0_ := Aside0.mk n_; clear HS n_; have HS := n0_; clear n0_
      cases th with
      | false =>
        have hm := HM.out
        rw [Bool.false_and, if_neg (by decide), List.append_nil] at hm
        rw [← hm] at HS
        clear HM hm
        go_wp2
        refine wp_goto ?_
        refine hH _ _ ?_
        refine Handed.intro (32 - (i + 1)) ?measure ?_
        rotate_left
        refine hL _ _ _ _ _ _ _ _ _ _ _ _ _ _ _ _ _ _ _ _ _ _ _ _ _ _ ?rel
        case measure => have := HI.out; omega
        case rel => exact ⟨i + 1, by have := HI.out; omega, Nat.le_refl _, congrArg (Value.int .i64) (by have := HI.out; omega), HS⟩
      | true =>
        obtain ⟨b, hb⟩ : ∃ b, liveB y = b := ⟨_, rfl⟩
        have HLV : Aside0 (record_Record_Live.f y.id y.st y.inc y.ip y.po = some b) := ⟨by rw [← hb]; exact live_f y⟩
        have hm := HM.out
        rw [hb, Bool.true_and] at hm
        clear HM hb
        cases b with
        | false =>
          rw [if_neg (by decide), List.append_nil] at hm
          rw [← hm] at HS
          clear hm
          go_wp2_with (go_at_call 37; (with_reducible refine Calls.mono (record_Record_Live.calls y.id y.st y.inc y.ip y.po false _ HLV.out) ?_); rintro e w1 ⟨rfl, hb_⟩; have n_ := sep_below HS.out hb_; clear hb_; have n0_ := Aside0.mk n_; clear HS n_; have HS := n0_; clear n0_)
          refine wp_goto ?_
          refine hH _ _ ?_
          refine Handed.intro (32 - (i + 1)) ?measure ?_
          rotate_left
          refine hL _ _ _ _ _ _ _ _ _ _ _ _ _ _ _ _ _ _ _ _ _ _ _ _ _ _ ?rel
          case measure => have := HI.out; omega
          case rel => exact ⟨i + 1, by have := HI.out; omega, Nat.le_refl _, congrArg (Value.int .i64) (by have := HI.out; omega), HS⟩
        | true =>
          rw [if_pos rfl] at hm
          have HM := Aside0.mk hm
          clear hm
          go_wp2_with (first | (go_at_call 37; (with_reducible refine Calls.mono (record_Record_Live.calls y.id y.st y.inc y.ip y.po true _ HLV.out) ?_); rintro e w1 ⟨rfl, hb_⟩; have n_ := sep_below HS.out hb_; clear hb_; have n0_ := Aside0.mk n_; clear HS n_; have HS := n0_; clear n0_) | ((with_reducible refine gate_builtin (b := .append) (xs := #[.tmp 23, .tmp 25]) rfl ?_); at_builtin; refine wp_append (Kd.int .i64) rfl (.tmp 23) (.tmp 25) 52 3 (.int .i64 0) 8 rfl Try.underlying52 info3 rfl (by decide) (by omega) _ (live1 s i) ((i : Int) + 1) [.int .i64 ((i : Int) + 1)] (by rfl) (by rfl) rfl HS.out (by have := HML.out; have := HI.out; omega) ?_; intro v1_ w4 n_; rw [← HM.out] at n_; have n0_ := Aside0.mk n_; clear HS n_; have HS := n0_; clear n0_))
          refine wp_goto ?_
          refine hH _ _ ?_
          refine Handed.intro (32 - (i + 1)) ?measure ?_
          rotate_left
          refine hL _ _ _ _ _ _ _ _ _ _ _ _ _ _ _ _ _ _ _ _ _ _ _ _ _ _ ?rel
          case measure => have := HI.out; omega
          case rel => exact ⟨i + 1, by have := HI.out; omega, Nat.le_refl _, congrArg (Value.int .i64) (by have := HI.out; omega), HS⟩
    · obtain rfl : i = 32 := by omega
      have w1_ : wrap64 (((32 : Nat) : Int) + 1) = 33 := by unfold wrap64; omega
      go_wp2
      (try rw [Go.Proofs.YthpmlnnjfmcglaaX.jumps_ret])
      go_ret
      exact ⟨_, rfl, HS.out⟩
end Go.Proofs.Ythpmlnnjfmcglaa.VW
