/- The doubts: Due, Items. Conditions: those that each theorem names. -/
import Derived.Test.YthoppcefadopeaaDE
namespace Go.Proofs.Ythoppcefadopeaa.DW
set_option linter.unusedVariables false
set_option linter.unusedSimpArgs false
open Go Go.RowKit Go.Proofs.YthoppcefadopeaaS Go.Proofs.YthoppcefadopeaaS.Asn Go.Proofs.Ythoppcefadopeaa.PA Go.Proofs.YthoppcefadopeaaW.PrintWords Go.Proofs.YthoppcefadopeaaW.PrintLast Go.Proofs.YthoppcefadopeaaW.PrintMore
set_option maxHeartbeats 1000000 in
theorem due_1 (x : It) (A : Option Addr) (c : Nat) (B : Nat) (now : Int) (w : World) (ok : Nat → Prop) (hg : GoodIt x) (hc : x.who.length ≤ c) (h : (row (Kd.int .i64) 3 (.slice A x.who.length c) x.who ⋆ pt B #[.int .u64 now] 31 ⋆ emp).H w ok) :
    Calls Try.prog 30 #[.agg #[.int .i64 x.id, .int .u32 x.inc, .int .u64 x.since, .int .u64 x.hold, .slice A x.who.length c], .pointer (some ⟨B, 0, none⟩)] w fun e w' => e = .returned (.bool (isDue now x)) ∧ Sep w ok (row (Kd.int .i64) 3 (.slice A x.who.length c) x.who ⋆ pt B #[.int .u64 now] 31 ⋆ emp) w' := by
  have HS := Aside0.mk (sep_begin h)
  have HF := Aside0.mk (until_f x hg)
  have HC := Aside0.mk hc
  obtain ⟨u, hu⟩ : ∃ u, untilI x = u := ⟨_, rfl⟩
  rw [hu] at HF
  have hd : isDue now x = decide (u ≤ now) := by unfold isDue; rw [hu]
  rw [hd]
  clear h hg hc hu hd
  go_enter Try.func30, Try.ntmps30
  go_upto_region 1 with (fail)
  have n_ := sep_drew (sep_alloc HS.out #[.int .i64 x.id, .int .u32 x.inc, .int .u64 x.since, .int .u64 x.hold, .slice A x.who.length c] 53)
  have n0_ := Aside0.mk n_; clear HS n_; have HS := n0_; clear n0_
  generalize w.alloc (.cells #[.int .i64 x.id, .int .u32 x.inc, .int .u64 x.since, .int .u64 x.hold, .slice A x.who.length c] 53) = wa at HS ⊢
  generalize w.heap.size = g2 at HS ⊢
  obtain ⟨k1, k2, k3, k4, k5⟩ := facts5 HS.out
  have kb := sep_cell (sep_l2 HS.out) 0
  (first | go_region_held3 (fun w' => w'.cell? ⟨g2, 0, none⟩ = some (.int .i64 x.id) ∧ w'.cell? ⟨g2, 1, none⟩ = some (.int .u32 x.inc) ∧ w'.cell? ⟨g2, 2, none⟩ = some (.int .u64 x.since) ∧ w'.cell? ⟨g2, 3, none⟩ = some (.int .u64 x.hold) ∧ w'.cell? ⟨g2, 4, none⟩ = some (.slice A x.who.length c) ∧ w'.cell? ⟨B, 0, none⟩ = some (.int .u64 now)) (exact ⟨k1, k2, k3, k4, k5, kb⟩) (first | (go_at_call 31; (with_reducible refine Calls.mono (doubt_Item_until.calls x.id x.inc x.since x.hold A c x.who u _ (sep_row' (sep_l1 HS.out)).2.2 HC.out HF.out) ?_); rintro e w2 ⟨rfl, hb_⟩; have n_ := sep_below HS.out hb_; clear hb_; have n0_ := Aside0.mk n_; clear HS n_; have HS := n0_; clear n0_; (clear k1 k2 k3 k4 k5 kb; obtain ⟨k1, k2, k3, k4, k5⟩ := facts5 HS.out; have kb := sep_cell (sep_l2 HS.out) 0))) | fail)
  all_goals
    go_wp2
    go_ret
    exact ⟨rfl, sep_drop HS.out⟩
theorem items_1 (a b c d : Int) (A : Option Addr) (n m : Nat) (w : World) : Calls Try.prog 33 #[.agg #[.int .i64 a, .int .u32 b, .int .u64 c, .int .u64 d, .slice A n m]] w fun e w' => e = .returned (.bool true) ∧ Below w.heap.size w w' := by
  have HS := Aside0.mk (sep_start w)
  go_enter Try.func33, Try.ntmps33
  go_wp2
  go_ret
  exact ⟨rfl, sep_below_of (sep_skip HS.out (.cells #[.int .i64 a, .int .u32 b, .int .u64 c, .int .u64 d, .slice A n m] 53))⟩
/-! ## some -/
def SomeRel (w : World) (ok : Nat → Prop) (p : Nat) (is : It → Bool) (J : Nat → Nat → It) (C : Asn) (I : Nat → It) (kq : Nat) (v7 v8 : Value) (w' : World) : Prop :=
  ∃ i : Nat, i ≤ 32 ∧ 32 - i ≤ kq ∧ v8 = .int .i64 (i : Int) ∧ ∃ R, Aside0 (MatL R (some1 is I i)) ∧ Aside0 (Sep w ok (doubtA p (J i) ⋆ C ⋆ row ritK 53 v7 R ⋆ pool (Kd.int .i64) (poolOf R (some1 is I i)) ⋆ emp) w')
theorem dt_back2 {w0 w : World} {ok0 : Nat → Prop} {F : Asn} {p : Nat} {I : Nat → It} {V : Nat → Value} (i : Nat) (hi : i < 33) {x : It} {v : Value} (hx : I i = x) (hv : V i = v) (h : Sep w0 ok0 (row (Kd.int .i64) 3 v x.who ⋆ pt p (arrV 165 (df I V)) 61 ⋆ allx 33 i (whoA I V) ⋆ F) w) : Sep w0 ok0 (doubtA p I ⋆ F) w := by
  subst hx hv
  exact dt_back i hi h
theorem dt_put2 {w0 w : World} {ok0 : Nat → Prop} {F : Asn} {p : Nat} {I : Nat → It} {V : Nat → Value} (i : Nat) (hi : i < 33) (x : It) (hw : x.who = []) (h : Sep w0 ok0 (pt p (arrV 165 (df I V)) 61 ⋆ allx 33 i (whoA I V) ⋆ F) w) :
    Sep w0 ok0 (doubtA p (upd I i x) ⋆ F) (((((w.setCell ⟨p, i * 5, none⟩ (.int .i64 x.id)).setCell ⟨p, i * 5 + 1, none⟩ (.int .u32 x.inc)).setCell ⟨p, i * 5 + 2, none⟩ (.int .u64 x.since)).setCell ⟨p, i * 5 + 3, none⟩ (.int .u64 x.hold)).setCell ⟨p, i * 5 + 4, none⟩ (.slice none 0 0)) := by
  have h2 := sep_set (sep_set (sep_set (sep_set (sep_set h (i * 5) (.int .i64 x.id)) (i * 5 + 1) (.int .u32 x.inc)) (i * 5 + 2) (.int .u64 x.since)) (i * 5 + 3) (.int .u64 x.hold)) (i * 5 + 4) (.slice none 0 0)
  rw [df_set5 I V i x _ hi] at h2
  exact dt_in x (.slice none 0 0) i hi (by rw [hw]; exact sep_row_nil h2)
theorem sep_emp {w0 w : World} {ok0 : Nat → Prop} {F : Asn} (h : Sep w0 ok0 F w) : Sep w0 ok0 (emp ⋆ F) w := sep_new (A := emp) (ok := fun _ => False) h (Below.refl _ _) trivial (fun _ h => h.elim)
set_option maxRecDepth 100000 in
set_option maxHeartbeats 4000000 in
theorem due_some (p : Nat) (I : Nat → It) (B : Nat) (now : Int) (w : World) (ok : Nat → Prop) (hg : Good I) (h : (doubtA p I ⋆ pt B #[.int .u64 now] 31 ⋆ emp).H w ok) :
    Calls Try.prog 29 #[.pointer (some ⟨p, 0, none⟩), .func (.func 30) #[] #[.pointer (some ⟨B, 0, none⟩)], .bool true] w fun e w' => ∃ v, e = .returned v ∧ Sep w ok (itemsA v (some1 (isDue now) I 32) ⋆ doubtA p (rest1 (isDue now) I 32) ⋆ pt B #[.int .u64 now] 31 ⋆ emp) w' := by
  have n_ := sep_begin h
  obtain ⟨C, hCC⟩ : ∃ C, pt B #[.int .u64 now] 31 = C := ⟨_, rfl⟩
  obtain ⟨is, his⟩ : ∃ is, isDue now = is := ⟨_, rfl⟩
  have HCQ := Aside0.mk hCC
  have HIS := Aside0.mk his
  rw [hCC] at n_ ⊢
  rw [his]
  clear hCC his
  obtain ⟨J, hJ⟩ : ∃ J : Nat → Nat → It, rest1 is I = J := ⟨_, rfl⟩
  have hJ0 : doubtA p I = doubtA p (J 0) := by rw [← hJ, rest1_zero]
  have HJ : Aside0 (∀ i, J i (i + 1) = I (i + 1)) := ⟨by rw [← hJ]; exact rest1_at is I⟩
  have HJN : Aside0 (∀ i, (decide ((I (i + 1)).id ≠ 0) && is (I (i + 1))) = false → J (i + 1) = J i) := ⟨by rw [← hJ]; exact rest1_no is I⟩
  have HJY : Aside0 (∀ i, (decide ((I (i + 1)).id ≠ 0) && is (I (i + 1))) = true → J (i + 1) = upd (J i) (i + 1) It.zero) := ⟨by rw [← hJ]; exact rest1_yes is I⟩
  have hJ2 : J 32 = rest1 is I 32 := by rw [← hJ]
  rw [hJ0] at n_
  rw [← hJ2]
  have HS : Aside0 (Sep w ok (doubtA p (J 0) ⋆ C ⋆ row ritK 53 (.slice none 0 0) [] ⋆ pool (Kd.int .i64) (poolOf [] (some1 is I 0)) ⋆ emp) w) := ⟨sep_l3 (sep_l3 (sep_l1 (sep_pool_nil (d := Kd.int .i64) (sep_row_nil (d := ritK) (e := 53) n_))))⟩
  have HG := Aside0.mk hg
  clear n_ hJ0 hJ2 hJ hg h
  go_enter Try.func29, Try.ntmps29
  go_wp2_with (first | (refine Go.Proofs.YthoppcefadopeaaX.wp_scope_k ?_; intro Jg hJg; have HJg := Aside0.mk hJg; clear hJg))
  refine wp_label ?_
  go_step
  (first | (show Code.wp _ _ _ _ _) | go_step)
  refine Go.Proofs.YthoppcefadopeaaX.wp_label_ghost 0 [7, 8, 9, 10, 11, 12, 13, 14, 15, 16, 17, 18, 19, 20, 21, 22, 23, 24, 25, 26, 27, 28, 29, 30, 31, 32, 33, 34, 35, 36, 37, 38, 39, 40, 41, 42, 43, 44] (fun kq u w' => (SomeRel w ok p is J C I) kq (u 7) (u 8) w') (33) ?hJ ?atStart ?round
  case hJ => exact fun a w h => HJg.out _ _ _ _ rfl (Go.Proofs.YthoppcefadopeaaX.wp_skip_seq h)
  case atStart => exact ⟨0, by decide, by decide, rfl, [], ⟨MatL_nil⟩, HS⟩
  case round =>
    clear HS
    intro gk u wr hrel Ji hI hH
    have hL : ∀ (kq : Nat) (u7 u8 u9 u10 u11 u12 u13 u14 u15 u16 u17 u18 u19 u20 u21 u22 u23 u24 u25 u26 u27 u28 u29 u30 u31 u32 u33 u34 u35 u36 u37 u38 u39 u40 u41 u42 u43 u44 : Value) (w' : World), (SomeRel w ok p is J C I) kq u7 u8 w' → Ji kq ⟨Go.Proofs.YthoppcefadopeaaX.setAll _ [7, 8, 9, 10, 11, 12, 13, 14, 15, 16, 17, 18, 19, 20, 21, 22, 23, 24, 25, 26, 27, 28, 29, 30, 31, 32, 33, 34, 35, 36, 37, 38, 39, 40, 41, 42, 43, 44] (Go.Proofs.YthoppcefadopeaaX.sel [(7, u7), (8, u8), (9, u9), (10, u10), (11, u11), (12, u12), (13, u13), (14, u14), (15, u15), (16, u16), (17, u17), (18, u18), (19, u19), (20, u20), (21, u21), (22, u22), (23, u23), (24, u24), (25, u25), (26, u26), (27, u27), (28, u28), (29, u29), (30, u30), (31, u31), (32, u32), (33, u33), (34, u34), (35, u35), (36, u36), (37, u37), (38, u38), (39, u39), (40, u40), (41, u41), (42, u42), (43, u43), (44, u44)]), _⟩ w' := fun kq u7 u8 u9 u10 u11 u12 u13 u14 u15 u16 u17 u18 u19 u20 u21 u22 u23 u24 u25 u26 u27 u28 u29 u30 u31 u32 u33 u34 u35 u36 u37 u38 u39 u40 u41 u42 u43 u44 w' h => hI kq _ w' ⟨Go.Proofs.YthoppcefadopeaaX.sel [(7, u7), (8, u8), (9, u9), (10, u10), (11, u11), (12, u12), (13, u13), (14, u14), (15, u15), (16, u16), (17, u17), (18, u18), (19, u19), (20, u20), (21, u21), (22, u22), (23, u23), (24, u24), (25, u25), (26, u26), (27, u27), (28, u28), (29, u29), (30, u30), (31, u31), (32, u32), (33, u33), (34, u34), (35, u35), (36, u36), (37, u37), (38, u38), (39, u39), (40, u40), (41, u41), (42, u42), (43, u43), (44, u44)], h, rfl⟩
    clear hI
    simp only [Go.Proofs.YthoppcefadopeaaX.setAll, Go.Proofs.YthoppcefadopeaaX.sel, Nat.reduceEqDiff, ↓reduceIte, List.setIfInBounds_toArray, List.set_cons_zero, List.set_cons_succ] at hL
    simp only [Go.Proofs.YthoppcefadopeaaX.setAll, Go.Proofs.YthoppcefadopeaaX.sel, Nat.reduceEqDiff, ↓reduceIte, List.setIfInBounds_toArray, List.set_cons_zero, List.set_cons_succ]
    generalize u 7 = u7 at hrel ⊢
    generalize u 8 = u8 at hrel ⊢
    generalize u 9 = u9 at hrel ⊢
    generalize u 10 = u10 at hrel ⊢
    generalize u 11 = u11 at hrel ⊢
    generalize u 12 = u12 at hrel ⊢
    generalize u 13 = u13 at hrel ⊢
    generalize u 14 = u14 at hrel ⊢
    generalize u 15 = u15 at hrel ⊢
    generalize u 16 = u16 at hrel ⊢
    generalize u 17 = u17 at hrel ⊢
    generalize u 18 = u18 at hrel ⊢
    generalize u 19 = u19 at hrel ⊢
    generalize u 20 = u20 at hrel ⊢
    generalize u 21 = u21 at hrel ⊢
    generalize u 22 = u22 at hrel ⊢
    generalize u 23 = u23 at hrel ⊢
    generalize u 24 = u24 at hrel ⊢
    generalize u 25 = u25 at hrel ⊢
    generalize u 26 = u26 at hrel ⊢
    generalize u 27 = u27 at hrel ⊢
    generalize u 28 = u28 at hrel ⊢
    generalize u 29 = u29 at hrel ⊢
    generalize u 30 = u30 at hrel ⊢
    generalize u 31 = u31 at hrel ⊢
    generalize u 32 = u32 at hrel ⊢
    generalize u 33 = u33 at hrel ⊢
    generalize u 34 = u34 at hrel ⊢
    generalize u 35 = u35 at hrel ⊢
    generalize u 36 = u36 at hrel ⊢
    generalize u 37 = u37 at hrel ⊢
    generalize u 38 = u38 at hrel ⊢
    generalize u 39 = u39 at hrel ⊢
    generalize u 40 = u40 at hrel ⊢
    generalize u 41 = u41 at hrel ⊢
    generalize u 42 = u42 at hrel ⊢
    generalize u 43 = u43 at hrel ⊢
    generalize u 44 = u44 at hrel ⊢
    clear u
    obtain ⟨i, hi, hgi, rfl, R, HM, HS⟩ := hrel
    by_cases hlt : i < 32
    · skip
      have HI := Aside0.mk (And.intro hlt hgi)
      have w1_ : wrap64 ((i : Int) + 1) = (i : Int) + 1 := by unfold wrap64; omega
      have d1 : decide (32 < (i : Int) + 1) = false := decide_eq_false (by omega)
      have d2 : decide ((i : Int) + 1 > 32) = false := decide_eq_false (by omega)
      have d3 : ((32 : Int) < (i : Int) + 1) = False := eq_false (by omega)
      have d4 : ((i : Int) + 1 < 33) = True := eq_true (by omega)
      have d5 : (0 ≤ (i : Int) + 1) = True := eq_true (by omega)
      have d6 : ((i : Int) + 1).toNat = i + 1 := by omega
      have d7 : (i + 1 < 33) = True := eq_true (by omega)
      clear hlt hi hgi
      have hsu := some1_succ is I i
      have hln := some1_len is I i
      have hgx := HG.out (i + 1) (by have := HI.out; omega)
      obtain ⟨x, hx⟩ : ∃ x, I (i + 1) = x := ⟨_, rfl⟩
      rw [hx] at hsu hgx
      have HX := Aside0.mk hx
      have HSU := Aside0.mk hsu
      have HLN := Aside0.mk hln
      have HGX := Aside0.mk hgx
      have HJX : Aside0 (J i (i + 1) = x) := ⟨by rw [HJ.out i]; exact HX.out⟩
      clear hsu hln hgx hx
      obtain ⟨V, n_⟩ := dt_open HS.out
      replace n_ := dt_out n_ (i + 1) (by have := HI.out; omega)
      rw [HJX.out] at n_
      obtain ⟨A, c, hv, hc, hC⟩ := sep_row n_
      rw [hv] at n_
      obtain ⟨k1, k2, k3, k4, k5⟩ := dt_facts (sep_l1 n_) (i + 1) (by have := HI.out; omega)
      rw [HJX.out] at k1 k2 k3 k4
      rw [hv] at k5
      have HV := Aside0.mk hv
      have HCC := Aside0.mk hc
      have n0_ := Aside0.mk n_; clear HS n_; have HS := n0_; clear n0_
      clear hv hc hC
      go_upto_region 7 with (fail)
      have n_ := sep_alloc HS.out #[.int .i64 x.id, .int .u32 x.inc, .int .u64 x.since, .int .u64 x.hold, .slice A x.who.length c] 53
      have n0_ := Aside0.mk n_; clear HS n_; have HS := n0_; clear n0_
      generalize wr.alloc (.cells #[.int .i64 x.id, .int .u32 x.inc, .int .u64 x.since, .int .u64 x.hold, .slice A x.who.length c] 53) = wa at HS ⊢
      generalize wr.heap.size = g9 at HS ⊢
      clear k1 k2 k3 k4 k5 d1 d2 d3
      obtain ⟨m1, m2, m3, m4, m5⟩ := facts5 HS.out
      by_cases h0 : x.id = 0
      · have t1 : (x.id == 0) = true := by simpa using h0
        have hz : (decide (x.id ≠ 0) && is x) = false := by rw [decide_eq_false (fun h => h h0)]; rfl
        have hjn := HJN.out i (by rw [HX.out]; exact hz)
        have hsu := HSU.out
        rw [if_neg (by rw [hz]; decide), List.append_nil] at hsu
        have HJ1 := Aside0.mk hjn
        have HS1 := Aside0.mk hsu
        clear hz hjn hsu
        go_wp2
        have n_ := dt_back2 (i + 1) (by have := HI.out; omega) HJX.out HV.out (sep_drop HS.out)
        have n0_ := Aside0.mk n_; clear HS n_; have HS := n0_; clear n0_
        refine wp_goto ?_
        refine hH _ _ ?_
        refine Handed.intro (32 - (i + 1)) ?measure ?_
        rotate_left
        refine hL _ _ _ _ _ _ _ _ _ _ _ _ _ _ _ _ _ _ _ _ _ _ _ _ _ _ _ _ _ _ _ _ _ _ _ _ _ _ _ _ ?rel
        case measure => have := HI.out; omega
        case rel =>
          refine ⟨i + 1, by have := HI.out; omega, Nat.le_refl _, congrArg (Value.int .i64) (by have := HI.out; omega), R, ⟨by rw [HS1.out]; exact HM.out⟩, ⟨?_⟩⟩
          rw [HJ1.out, HS1.out]
          exact HS.out
      · have t1 : (x.id == 0) = false := by simpa using h0
        have t2 := eq_false h0
        obtain ⟨b, hb⟩ : ∃ b, is x = b := ⟨_, rfl⟩
        have HB := Aside0.mk hb
        clear hb
        cases b with
        | false =>
          have hz : (decide (x.id ≠ 0) && is x) = false := by rw [HB.out, Bool.and_false]
          have hjn := HJN.out i (by rw [HX.out]; exact hz)
          have hsu := HSU.out
          rw [if_neg (by rw [hz]; decide), List.append_nil] at hsu
          have HJ1 := Aside0.mk hjn
          have HS1 := Aside0.mk hsu
          clear hz hjn hsu
          clear h0
          go_wp2_with (go_at_call 30; obtain ⟨ok_, hp_, hk_⟩ := sep_use2 (sep_l2 (sep_l4 HS.out)); have hx_ := due_1 x A c B now _ ok_ HGX.out HCC.out (by rw [HCQ.out]; exact hp_); rw [HIS.out, HB.out, HCQ.out] at hx_; (with_reducible refine Calls.mono hx_ ?_); rintro e w1 ⟨rfl, hq_⟩; have n_ := back2 hk_ hq_; clear hx_ hp_ hk_ hq_ m1 m2 m3 m4 m5; have n0_ := Aside0.mk n_; clear HS n_; have HS := n0_; clear n0_; obtain ⟨m1, m2, m3, m4, m5⟩ := facts5 (sep_l2 HS.out))
          have n_ := dt_back2 (i + 1) (by have := HI.out; omega) HJX.out HV.out (sep_l2 (sep_l3 (sep_l3 (sep_drop (sep_l2 HS.out)))))
          have n0_ := Aside0.mk n_; clear HS n_; have HS := n0_; clear n0_
          refine wp_goto ?_
          refine hH _ _ ?_
          refine Handed.intro (32 - (i + 1)) ?measure ?_
          rotate_left
          refine hL _ _ _ _ _ _ _ _ _ _ _ _ _ _ _ _ _ _ _ _ _ _ _ _ _ _ _ _ _ _ _ _ _ _ _ _ _ _ _ _ ?rel
          case measure => have := HI.out; omega
          case rel =>
            refine ⟨i + 1, by have := HI.out; omega, Nat.le_refl _, congrArg (Value.int .i64) (by have := HI.out; omega), R, ⟨by rw [HS1.out]; exact HM.out⟩, ⟨?_⟩⟩
            rw [HJ1.out, HS1.out]
            exact HS.out
        | true =>
          have hz : (decide (x.id ≠ 0) && is x) = true := by rw [HB.out, decide_eq_true h0]; rfl
          have hjy := HJY.out i (by rw [HX.out]; exact hz)
          have hsu := HSU.out
          rw [if_pos hz] at hsu
          have HJ1 := Aside0.mk hjy
          have HS1 := Aside0.mk hsu
          clear hz hjy hsu
          go_upto_region 8 with (go_at_call 30; obtain ⟨ok_, hp_, hk_⟩ := sep_use2 (sep_l2 (sep_l4 HS.out)); have hx_ := due_1 x A c B now _ ok_ HGX.out HCC.out (by rw [HCQ.out]; exact hp_); rw [HIS.out, HB.out, HCQ.out] at hx_; (with_reducible refine Calls.mono hx_ ?_); rintro e w1 ⟨rfl, hq_⟩; have n_ := back2 hk_ hq_; clear hx_ hp_ hk_ hq_ m1 m2 m3 m4 m5; have n0_ := Aside0.mk n_; clear HS n_; have HS := n0_; clear n0_; obtain ⟨m1, m2, m3, m4, m5⟩ := facts5 (sep_l2 HS.out))
          go_upto_region 9 with (go_at_call 38; have hx_ := clone A c x.who _ (sep_row' HS.out).2.2 (Nat.le_trans HGX.out.few (by decide)); (with_reducible refine Calls.mono hx_ ?_); rintro e w2 ⟨v_, rfl, hq_⟩; have n_ := sep_made_of HS.out (sep_only hq_); clear hx_ hq_ m1 m2 m3 m4 m5; obtain ⟨A', c', rfl, hc', -⟩ := sep_row n_; have HC' := Aside0.mk hc'; clear hc'; have n0_ := Aside0.mk n_; clear HS n_; have HS := n0_; clear n0_; obtain ⟨m1, m2, m3, m4, m5⟩ := facts5 (sep_l3 HS.out); obtain ⟨f1, f2, f3, f4, f5⟩ := facts5f (sep_l3 HS.out))
          have n_ := sep_set (sep_l3 HS.out) 4 (.slice A' x.who.length c')
          rw [show (#[.int .i64 x.id, .int .u32 x.inc, .int .u64 x.since, .int .u64 x.hold, .slice A x.who.length c] : Array Value).setIfInBounds 4 (.slice A' x.who.length c') = #[.int .i64 x.id, .int .u32 x.inc, .int .u64 x.since, .int .u64 x.hold, .slice A' x.who.length c'] from rfl] at n_
          replace n_ := sep_l6 (sep_pool_app (sep_l7 (sep_row_pool (sep_l1 n_))))
          have n0_ := Aside0.mk n_; clear HS n_; have HS := n0_; clear n0_
          generalize w2.setCell ⟨g9, 4, none⟩ (.slice A' x.who.length c') = wc at HS ⊢
          clear m1 m2 m3 m4 m5 f1 f2 f3 f4 f5
          obtain ⟨m1, m2, m3, m4, m5⟩ := facts5 (sep_l2 HS.out)
          have HRL : Aside0 (R.length ≤ 32) := ⟨by have := HM.out.1; have := HLN.out; have := HI.out; omega⟩
          go_upto_region 11 with ((with_reducible refine gate_builtin (b := .append) (xs := #[.tmp 34, .tmp 36]) rfl ?_); at_builtin; refine wp_append ritK rfl (.tmp 34) (.tmp 36) 40 53 z53 56 rfl Try.underlying40 info53 rfl (by decide) (by decide) _ R ⟨x.id, x.inc, x.since, x.hold, A', x.who.length, c'⟩ (RIt.cells ⟨x.id, x.inc, x.since, x.hold, A', x.who.length, c'⟩) (by rfl) (by rfl) (ritK_M _ _ _ _) HS.out (by have := HRL.out; omega) ?_; intro v1_ w4 n_; clear m1 m2 m3 m4 m5; have n0_ := Aside0.mk n_; clear HS n_; have HS := n0_; clear n0_)
          obtain ⟨k1, k2, k3, k4, k5⟩ := dt_facts (sep_l5 HS.out) (i + 1) (by have := HI.out; omega)
          obtain ⟨f1, f2, f3, f4, f5⟩ := dt_frozen (sep_l5 HS.out) (i + 1)
          go_wp2
          have n_ := dt_put2 (i + 1) (by have := HI.out; omega) It.zero rfl (sep_drop (sep_l4 (sep_l5 (sep_l5 (sep_drop (sep_l2 HS.out))))))
          replace n_ := sep_l1 (sep_l3 n_)
          have n0_ := Aside0.mk n_; clear HS n_; have HS := n0_; clear n0_
          refine wp_goto ?_
          refine hH _ _ ?_
          refine Handed.intro (32 - (i + 1)) ?measure ?_
          rotate_left
          refine hL _ _ _ _ _ _ _ _ _ _ _ _ _ _ _ _ _ _ _ _ _ _ _ _ _ _ _ _ _ _ _ _ _ _ _ _ _ _ _ _ ?rel
          case measure => have := HI.out; omega
          case rel =>
            refine ⟨i + 1, by have := HI.out; omega, Nat.le_refl _, congrArg (Value.int .i64) (by have := HI.out; omega), R ++ [⟨x.id, x.inc, x.since, x.hold, A', x.who.length, c'⟩], ⟨by rw [HS1.out]; exact MatL_snoc HM.out ⟨rfl, rfl, rfl, rfl, rfl, HC'.out⟩⟩, ⟨?_⟩⟩
            rw [HJ1.out, HS1.out, poolOf_snoc _ _ HM.out]
            exact HS.out
    · obtain rfl : i = 32 := by omega
      have w1_ : wrap64 (((32 : Nat) : Int) + 1) = 33 := by unfold wrap64; omega
      go_wp2
      (try rw [Go.Proofs.YthoppcefadopeaaX.jumps_ret])
      go_ret
      exact ⟨_, rfl, items_mk HM.out (sep_l3 (sep_l3 HS.out))⟩
set_option maxRecDepth 100000 in
set_option maxHeartbeats 4000000 in
theorem items_some (p : Nat) (I : Nat → It) (C : Asn) (is : It → Bool) (w : World) (ok : Nat → Prop) (his : ∀ x, is x = true) (hg : Good I) (h : (doubtA p I ⋆ C ⋆ emp).H w ok) :
    Calls Try.prog 29 #[.pointer (some ⟨p, 0, none⟩), .func (.func 33) #[] #[], .bool false] w fun e w' => ∃ v, e = .returned v ∧ Sep w ok (itemsA v (some1 is I 32) ⋆ doubtA p I ⋆ C ⋆ emp) w' := by
  have n_ := sep_begin h
  have HIS := Aside0.mk his
  obtain ⟨J, hJ⟩ : ∃ J : Nat → Nat → It, ∀ i, J i = I := ⟨fun _ => I, fun _ => rfl⟩
  have HJ : Aside0 (∀ i, J i (i + 1) = I (i + 1)) := ⟨fun i => by rw [hJ]⟩
  have HJN : Aside0 (∀ i, (decide ((I (i + 1)).id ≠ 0) && is (I (i + 1))) = false → J (i + 1) = J i) := ⟨fun i _ => by rw [hJ, hJ]⟩
  have HJY : Aside0 (∀ i, (decide ((I (i + 1)).id ≠ 0) && is (I (i + 1))) = true → J (i + 1) = J i) := ⟨fun i _ => by rw [hJ, hJ]⟩
  have hJ0 : doubtA p I = doubtA p (J 0) := by rw [hJ]
  have hJ2 : doubtA p I = doubtA p (J 32) := by rw [hJ]
  rw [hJ2]
  rw [hJ0] at n_
  have HS : Aside0 (Sep w ok (doubtA p (J 0) ⋆ C ⋆ row ritK 53 (.slice none 0 0) [] ⋆ pool (Kd.int .i64) (poolOf [] (some1 is I 0)) ⋆ emp) w) := ⟨sep_l3 (sep_l3 (sep_l1 (sep_pool_nil (d := Kd.int .i64) (sep_row_nil (d := ritK) (e := 53) n_))))⟩
  have HG := Aside0.mk hg
  clear n_ hJ0 hJ2 hJ hg h his
  go_enter Try.func29, Try.ntmps29
  go_wp2_with (first | (refine Go.Proofs.YthoppcefadopeaaX.wp_scope_k ?_; intro Jg hJg; have HJg := Aside0.mk hJg; clear hJg))
  refine wp_label ?_
  go_step
  (first | (show Code.wp _ _ _ _ _) | go_step)
  refine Go.Proofs.YthoppcefadopeaaX.wp_label_ghost 0 [7, 8, 9, 10, 11, 12, 13, 14, 15, 16, 17, 18, 19, 20, 21, 22, 23, 24, 25, 26, 27, 28, 29, 30, 31, 32, 33, 34, 35, 36, 37, 38, 39, 40, 41, 42, 43, 44] (fun kq u w' => (SomeRel w ok p is J C I) kq (u 7) (u 8) w') (33) ?hJ ?atStart ?round
  case hJ => exact fun a w h => HJg.out _ _ _ _ rfl (Go.Proofs.YthoppcefadopeaaX.wp_skip_seq h)
  case atStart => exact ⟨0, by decide, by decide, rfl, [], ⟨MatL_nil⟩, HS⟩
  case round =>
    clear HS
    intro gk u wr hrel Ji hI hH
    have hL : ∀ (kq : Nat) (u7 u8 u9 u10 u11 u12 u13 u14 u15 u16 u17 u18 u19 u20 u21 u22 u23 u24 u25 u26 u27 u28 u29 u30 u31 u32 u33 u34 u35 u36 u37 u38 u39 u40 u41 u42 u43 u44 : Value) (w' : World), (SomeRel w ok p is J C I) kq u7 u8 w' → Ji kq ⟨Go.Proofs.YthoppcefadopeaaX.setAll _ [7, 8, 9, 10, 11, 12, 13, 14, 15, 16, 17, 18, 19, 20, 21, 22, 23, 24, 25, 26, 27, 28, 29, 30, 31, 32, 33, 34, 35, 36, 37, 38, 39, 40, 41, 42, 43, 44] (Go.Proofs.YthoppcefadopeaaX.sel [(7, u7), (8, u8), (9, u9), (10, u10), (11, u11), (12, u12), (13, u13), (14, u14), (15, u15), (16, u16), (17, u17), (18, u18), (19, u19), (20, u20), (21, u21), (22, u22), (23, u23), (24, u24), (25, u25), (26, u26), (27, u27), (28, u28), (29, u29), (30, u30), (31, u31), (32, u32), (33, u33), (34, u34), (35, u35), (36, u36), (37, u37), (38, u38), (39, u39), (40, u40), (41, u41), (42, u42), (43, u43), (44, u44)]), _⟩ w' := fun kq u7 u8 u9 u10 u11 u12 u13 u14 u15 u16 u17 u18 u19 u20 u21 u22 u23 u24 u25 u26 u27 u28 u29 u30 u31 u32 u33 u34 u35 u36 u37 u38 u39 u40 u41 u42 u43 u44 w' h => hI kq _ w' ⟨Go.Proofs.YthoppcefadopeaaX.sel [(7, u7), (8, u8), (9, u9), (10, u10), (11, u11), (12, u12), (13, u13), (14, u14), (15, u15), (16, u16), (17, u17), (18, u18), (19, u19), (20, u20), (21, u21), (22, u22), (23, u23), (24, u24), (25, u25), (26, u26), (27, u27), (28, u28), (29, u29), (30, u30), (31, u31), (32, u32), (33, u33), (34, u34), (35, u35), (36, u36), (37, u37), (38, u38), (39, u39), (40, u40), (41, u41), (42, u42), (43, u43), (44, u44)], h, rfl⟩
    clear hI
    simp only [Go.Proofs.YthoppcefadopeaaX.setAll, Go.Proofs.YthoppcefadopeaaX.sel, Nat.reduceEqDiff, ↓reduceIte, List.setIfInBounds_toArray, List.set_cons_zero, List.set_cons_succ] at hL
    simp only [Go.Proofs.YthoppcefadopeaaX.setAll, Go.Proofs.YthoppcefadopeaaX.sel, Nat.reduceEqDiff, ↓reduceIte, List.setIfInBounds_toArray, List.set_cons_zero, List.set_cons_succ]
    generalize u 7 = u7 at hrel ⊢
    generalize u 8 = u8 at hrel ⊢
    generalize u 9 = u9 at hrel ⊢
    generalize u 10 = u10 at hrel ⊢
    generalize u 11 = u11 at hrel ⊢
    generalize u 12 = u12 at hrel ⊢
    generalize u 13 = u13 at hrel ⊢
    generalize u 14 = u14 at hrel ⊢
    generalize u 15 = u15 at hrel ⊢
    generalize u 16 = u16 at hrel ⊢
    generalize u 17 = u17 at hrel ⊢
    generalize u 18 = u18 at hrel ⊢
    generalize u 19 = u19 at hrel ⊢
    generalize u 20 = u20 at hrel ⊢
    generalize u 21 = u21 at hrel ⊢
    generalize u 22 = u22 at hrel ⊢
    generalize u 23 = u23 at hrel ⊢
    generalize u 24 = u24 at hrel ⊢
    generalize u 25 = u25 at hrel ⊢
    generalize u 26 = u26 at hrel ⊢
    generalize u 27 = u27 at hrel ⊢
    generalize u 28 = u28 at hrel ⊢
    generalize u 29 = u29 at hrel ⊢
    generalize u 30 = u30 at hrel ⊢
    generalize u 31 = u31 at hrel ⊢
    generalize u 32 = u32 at hrel ⊢
    generalize u 33 = u33 at hrel ⊢
    generalize u 34 = u34 at hrel ⊢
    generalize u 35 = u35 at hrel ⊢
    generalize u 36 = u36 at hrel ⊢
    generalize u 37 = u37 at hrel ⊢
    generalize u 38 = u38 at hrel ⊢
    generalize u 39 = u39 at hrel ⊢
    generalize u 40 = u40 at hrel ⊢
    generalize u 41 = u41 at hrel ⊢
    generalize u 42 = u42 at hrel ⊢
    generalize u 43 = u43 at hrel ⊢
    generalize u 44 = u44 at hrel ⊢
    clear u
    obtain ⟨i, hi, hgi, rfl, R, HM, HS⟩ := hrel
    by_cases hlt : i < 32
    · skip
      have HI := Aside0.mk (And.intro hlt hgi)
      have w1_ : wrap64 ((i : Int) + 1) = (i : Int) + 1 := by unfold wrap64; omega
      have d1 : decide (32 < (i : Int) + 1) = false := decide_eq_false (by omega)
      have d2 : decide ((i : Int) + 1 > 32) = false := decide_eq_false (by omega)
      have d3 : ((32 : Int) < (i : Int) + 1) = False := eq_false (by omega)
      have d4 : ((i : Int) + 1 < 33) = True := eq_true (by omega)
      have d5 : (0 ≤ (i : Int) + 1) = True := eq_true (by omega)
      have d6 : ((i : Int) + 1).toNat = i + 1 := by omega
      have d7 : (i + 1 < 33) = True := eq_true (by omega)
      clear hlt hi hgi
      have hsu := some1_succ is I i
      have hln := some1_len is I i
      have hgx := HG.out (i + 1) (by have := HI.out; omega)
      obtain ⟨x, hx⟩ : ∃ x, I (i + 1) = x := ⟨_, rfl⟩
      rw [hx] at hsu hgx
      have HX := Aside0.mk hx
      have HSU := Aside0.mk hsu
      have HLN := Aside0.mk hln
      have HGX := Aside0.mk hgx
      have HJX : Aside0 (J i (i + 1) = x) := ⟨by rw [HJ.out i]; exact HX.out⟩
      clear hsu hln hgx hx
      obtain ⟨V, n_⟩ := dt_open HS.out
      replace n_ := dt_out n_ (i + 1) (by have := HI.out; omega)
      rw [HJX.out] at n_
      obtain ⟨A, c, hv, hc, hC⟩ := sep_row n_
      rw [hv] at n_
      obtain ⟨k1, k2, k3, k4, k5⟩ := dt_facts (sep_l1 n_) (i + 1) (by have := HI.out; omega)
      rw [HJX.out] at k1 k2 k3 k4
      rw [hv] at k5
      have HV := Aside0.mk hv
      have HCC := Aside0.mk hc
      have n0_ := Aside0.mk n_; clear HS n_; have HS := n0_; clear n0_
      clear hv hc hC
      go_upto_region 7 with (fail)
      have n_ := sep_alloc HS.out #[.int .i64 x.id, .int .u32 x.inc, .int .u64 x.since, .int .u64 x.hold, .slice A x.who.length c] 53
      have n0_ := Aside0.mk n_; clear HS n_; have HS := n0_; clear n0_
      generalize wr.alloc (.cells #[.int .i64 x.id, .int .u32 x.inc, .int .u64 x.since, .int .u64 x.hold, .slice A x.who.length c] 53) = wa at HS ⊢
      generalize wr.heap.size = g9 at HS ⊢
      clear k1 k2 k3 k4 k5 d1 d2 d3
      obtain ⟨m1, m2, m3, m4, m5⟩ := facts5 HS.out
      by_cases h0 : x.id = 0
      · have t1 : (x.id == 0) = true := by simpa using h0
        have hz : (decide (x.id ≠ 0) && is x) = false := by rw [decide_eq_false (fun h => h h0)]; rfl
        have hjn := HJN.out i (by rw [HX.out]; exact hz)
        have hsu := HSU.out
        rw [if_neg (by rw [hz]; decide), List.append_nil] at hsu
        have HJ1 := Aside0.mk hjn
        have HS1 := Aside0.mk hsu
        clear hz hjn hsu
        go_wp2
        have n_ := dt_back2 (i + 1) (by have := HI.out; omega) HJX.out HV.out (sep_drop HS.out)
        have n0_ := Aside0.mk n_; clear HS n_; have HS := n0_; clear n0_
        refine wp_goto ?_
        refine hH _ _ ?_
        refine Handed.intro (32 - (i + 1)) ?measure ?_
        rotate_left
        refine hL _ _ _ _ _ _ _ _ _ _ _ _ _ _ _ _ _ _ _ _ _ _ _ _ _ _ _ _ _ _ _ _ _ _ _ _ _ _ _ _ ?rel
        case measure => have := HI.out; omega
        case rel =>
          refine ⟨i + 1, by have := HI.out; omega, Nat.le_refl _, congrArg (Value.int .i64) (by have := HI.out; omega), R, ⟨by rw [HS1.out]; exact HM.out⟩, ⟨?_⟩⟩
          rw [HJ1.out, HS1.out]
          exact HS.out
      · have t1 : (x.id == 0) = false := by simpa using h0
        have t2 := eq_false h0
        obtain ⟨b, hb⟩ : ∃ b, is x = b := ⟨_, rfl⟩
        have HB := Aside0.mk hb
        clear hb
        cases b with
        | false => exact absurd ((HIS.out x).symm.trans HB.out) (by decide)
        | true =>
          have hz : (decide (x.id ≠ 0) && is x) = true := by rw [HB.out, decide_eq_true h0]; rfl
          have hjy := HJY.out i (by rw [HX.out]; exact hz)
          have hsu := HSU.out
          rw [if_pos hz] at hsu
          have HJ1 := Aside0.mk hjy
          have HS1 := Aside0.mk hsu
          clear hz hjy hsu
          go_upto_region 8 with (go_at_call 33; (with_reducible refine Calls.mono (items_1 x.id x.inc x.since x.hold A x.who.length c _) ?_); rintro e w1 ⟨rfl, hb_⟩; have n_ := sep_l2 (sep_l4 (sep_below HS.out hb_)); clear hb_ m1 m2 m3 m4 m5; have n0_ := Aside0.mk n_; clear HS n_; have HS := n0_; clear n0_; obtain ⟨m1, m2, m3, m4, m5⟩ := facts5 (sep_l2 HS.out))
          go_upto_region 9 with (go_at_call 38; have hx_ := clone A c x.who _ (sep_row' HS.out).2.2 (Nat.le_trans HGX.out.few (by decide)); (with_reducible refine Calls.mono hx_ ?_); rintro e w2 ⟨v_, rfl, hq_⟩; have n_ := sep_made_of HS.out (sep_only hq_); clear hx_ hq_ m1 m2 m3 m4 m5; obtain ⟨A', c', rfl, hc', -⟩ := sep_row n_; have HC' := Aside0.mk hc'; clear hc'; have n0_ := Aside0.mk n_; clear HS n_; have HS := n0_; clear n0_; obtain ⟨m1, m2, m3, m4, m5⟩ := facts5 (sep_l3 HS.out); obtain ⟨f1, f2, f3, f4, f5⟩ := facts5f (sep_l3 HS.out))
          have n_ := sep_set (sep_l3 HS.out) 4 (.slice A' x.who.length c')
          rw [show (#[.int .i64 x.id, .int .u32 x.inc, .int .u64 x.since, .int .u64 x.hold, .slice A x.who.length c] : Array Value).setIfInBounds 4 (.slice A' x.who.length c') = #[.int .i64 x.id, .int .u32 x.inc, .int .u64 x.since, .int .u64 x.hold, .slice A' x.who.length c'] from rfl] at n_
          replace n_ := sep_l6 (sep_pool_app (sep_l7 (sep_row_pool (sep_l1 n_))))
          have n0_ := Aside0.mk n_; clear HS n_; have HS := n0_; clear n0_
          generalize w2.setCell ⟨g9, 4, none⟩ (.slice A' x.who.length c') = wc at HS ⊢
          clear m1 m2 m3 m4 m5 f1 f2 f3 f4 f5
          obtain ⟨m1, m2, m3, m4, m5⟩ := facts5 (sep_l2 HS.out)
          have HRL : Aside0 (R.length ≤ 32) := ⟨by have := HM.out.1; have := HLN.out; have := HI.out; omega⟩
          go_wp2_with ((with_reducible refine gate_builtin (b := .append) (xs := #[.tmp 34, .tmp 36]) rfl ?_); at_builtin; refine wp_append ritK rfl (.tmp 34) (.tmp 36) 40 53 z53 56 rfl Try.underlying40 info53 rfl (by decide) (by decide) _ R ⟨x.id, x.inc, x.since, x.hold, A', x.who.length, c'⟩ (RIt.cells ⟨x.id, x.inc, x.since, x.hold, A', x.who.length, c'⟩) (by rfl) (by rfl) (ritK_M _ _ _ _) HS.out (by have := HRL.out; omega) ?_; intro v1_ w4 n_; clear m1 m2 m3 m4 m5; have n0_ := Aside0.mk n_; clear HS n_; have HS := n0_; clear n0_)
          have n_ := dt_back2 (i + 1) (by have := HI.out; omega) HJX.out HV.out (sep_l4 (sep_l5 (sep_l5 (sep_drop (sep_l2 HS.out)))))
          replace n_ := sep_l1 (sep_l3 n_)
          have n0_ := Aside0.mk n_; clear HS n_; have HS := n0_; clear n0_
          refine wp_goto ?_
          refine hH _ _ ?_
          refine Handed.intro (32 - (i + 1)) ?measure ?_
          rotate_left
          refine hL _ _ _ _ _ _ _ _ _ _ _ _ _ _ _ _ _ _ _ _ _ _ _ _ _ _ _ _ _ _ _ _ _ _ _ _ _ _ _ _ ?rel
          case measure => have := HI.out; omega
          case rel =>
            refine ⟨i + 1, by have := HI.out; omega, Nat.le_refl _, congrArg (Value.int .i64) (by have := HI.out; omega), R ++ [⟨x.id, x.inc, x.since, x.hold, A', x.who.length, c'⟩], ⟨by rw [HS1.out]; exact MatL_snoc HM.out ⟨rfl, rfl, rfl, rfl, rfl, HC'.out⟩⟩, ⟨?_⟩⟩
            rw [HJ1.out, HS1.out, poolOf_snoc _ _ HM.out]
            exact HS.out
    · obtain rfl : i = 32 := by omega
      have w1_ : wrap64 (((32 : Nat) : Int) + 1) = 33 := by unfold wrap64; omega
      go_wp2
      (try rw [Go.Proofs.YthoppcefadopeaaX.jumps_ret])
      go_ret
      exact ⟨_, rfl, items_mk HM.out (sep_l3 (sep_l3 HS.out))⟩
theorem dt_Due (p : Nat) (I : Nat → It) (now : Int) (w : World) (ok : Nat → Prop) (hg : Good I) (h : (doubtA p I ⋆ emp).H w ok) :
    Calls Try.prog 16 #[.pointer (some ⟨p, 0, none⟩), .int .u64 now] w fun e w' => ∃ v, e = .returned v ∧ Sep w ok (itemsA v (dueE I now).1 ⋆ doubtA p (dueE I now).2 ⋆ emp) w' := by
  have HS := Aside0.mk (sep_begin h)
  have HG := Aside0.mk hg
  clear h hg
  unfold dueE
  dsimp only
  go_enter Try.func16, Try.ntmps16
  go_upto_region 1 with (fail)
  have n_ := sep_l1 (sep_alloc HS.out #[.int .u64 now] 31)
  have n0_ := Aside0.mk n_; clear HS n_; have HS := n0_; clear n0_
  generalize w.alloc (.cells #[.int .u64 now] 31) = wa at HS ⊢
  generalize w.heap.size = g3 at HS ⊢
  go_wp2_with (go_at_call 29; obtain ⟨ok_, hp_, hk_⟩ := sep_use2 HS.out; have hx_ := due_some p I g3 now _ ok_ HG.out hp_; (with_reducible refine Calls.mono hx_ ?_); rintro e w1 ⟨v_, rfl, hq_⟩; have n_ := back3 hk_ hq_; clear hx_ hp_ hk_ hq_; have n0_ := Aside0.mk n_; clear HS n_; have HS := n0_; clear n0_)
  go_ret
  exact ⟨_, rfl, sep_l1 (sep_drop (sep_l2 (sep_l1 HS.out)))⟩
theorem dt_Items (p : Nat) (I : Nat → It) (w : World) (ok : Nat → Prop) (hg : Good I) (h : (doubtA p I ⋆ emp).H w ok) :
    Calls Try.prog 22 #[.pointer (some ⟨p, 0, none⟩)] w fun e w' => ∃ v, e = .returned v ∧ Sep w ok (itemsA v (itemsE I) ⋆ doubtA p I ⋆ emp) w' := by
  have HS := Aside0.mk (sep_l1 (sep_emp (sep_begin h)))
  have HG := Aside0.mk hg
  clear h hg
  unfold itemsE
  go_enter Try.func22, Try.ntmps22
  go_wp2_with (go_at_call 29; obtain ⟨ok_, hp_, hk_⟩ := sep_use2 HS.out; have hx_ := items_some p I emp (fun _ => true) _ ok_ (fun _ => rfl) HG.out hp_; (with_reducible refine Calls.mono hx_ ?_); rintro e w1 ⟨v_, rfl, hq_⟩; have n_ := back3 hk_ hq_; clear hx_ hp_ hk_ hq_; have n0_ := Aside0.mk n_; clear HS n_; have HS := n0_; clear n0_)
  go_ret
  exact ⟨_, rfl, sep_l1 (sep_drop (sep_l2 (sep_l1 HS.out)))⟩
end Go.Proofs.Ythoppcefadopeaa.DW
