/- The reference's bag: Drop, Put. Conditions: those that each theorem names. -/
import Derived.Test.YtlpiodcklacdpaaRT
import Derived.Deep.RegionHeld3
namespace Go.Proofs.Ytlpiodcklacdpaa.BG
set_option linter.unusedVariables false
set_option linter.unusedSimpArgs false
open Go Go.RowKit Go.Proofs.YtlpiodcklacdpaaS Go.Proofs.YtlpiodcklacdpaaS.Asn Go.Proofs.Ytlpiodcklacdpaa.PA Go.Proofs.YtlpiodcklacdpaaW.PrintWords Go.Proofs.YtlpiodcklacdpaaW.PrintLast Go.Proofs.YtlpiodcklacdpaaW.PrintMore
theorem pickE_lt {l : List It} {pick : Int} (h : (pickE l pick).2 = 0) : ∃ k : Nat, (pickE l pick).1 = k ∧ k < l.length := by
  unfold pickE at h ⊢
  by_cases h0 : pick < 0
  · rw [if_pos h0] at h; cases h
  · by_cases h1 : l.length = 0
    · rw [if_neg h0, if_pos h1] at h; cases h
    · rw [if_neg h0, if_neg h1]
      exact ⟨_, rfl, Nat.mod_lt _ (by omega)⟩
def dropE (l : List It) (pick : Int) : It × Int × List It := if (pickE l pick).2 = 0 then (l.getD (pickE l pick).1.toNat It.zero, 0, l.eraseIdx (pickE l pick).1.toNat) else (It.zero, (pickE l pick).2, l)
set_option maxHeartbeats 1000000 in
theorem rbag_Drop (p : Nat) (l : List It) (room pick : Int) (w : World) (ok : Nat → Prop) (hm : l.length ≤ 100000) (h : (refA p l room ⋆ emp).H w ok) :
    Calls Try.prog 21 #[.pointer (some ⟨p, 0, none⟩), .int .i64 pick] w fun e w' => e = .returned (.tuple #[(dropE l pick).1.val, .int .i64 (dropE l pick).2.1]) ∧ Sep w ok (refA p (dropE l pick).2.2 room ⋆ emp) w' := by
  have HS := Aside0.mk (sep_begin h)
  have HM := Aside0.mk hm
  clear h hm
  obtain ⟨r, hr⟩ : ∃ r, dropE l pick = r := ⟨_, rfl⟩
  rw [hr]
  unfold dropE at hr
  have hfl := pickE_lt (l := l) (pick := pick)
  obtain ⟨⟨fa, fe⟩, hf1⟩ : ∃ f, pickE l pick = f := ⟨_, rfl⟩
  have HF := Aside0.mk hf1
  rw [hf1] at hr hfl
  have HR := Aside0.mk hr
  have HFL := Aside0.mk hfl
  clear hr hfl hf1
  go_enter Try.func21, Try.ntmps21
  go_upto_region 1 with (fail)
  have n_ := sep_l1 (sep_alloc HS.out #[.int .u32 0, .int .u16 0, .int .u32 0, .int .u16 0, .string ⟨#[]⟩, .int .u64 0] 56)
  have n0_ := Aside0.mk n_; clear HS n_; have HS := n0_; clear n0_
  generalize w.alloc (.cells #[.int .u32 0, .int .u16 0, .int .u32 0, .int .u16 0, .string ⟨#[]⟩, .int .u64 0] 56) = wa at HS ⊢
  generalize w.heap.size = g4 at HS ⊢
  go_upto_region 2 with (go_at_call 33; obtain ⟨ok_, hp_, hk_⟩ := sep_use1 HS.out; have hx_ := rbag_pick p l room pick _ ok_ hp_; rw [HF.out] at hx_; (with_reducible refine Calls.mono hx_ ?_); rintro e w1 ⟨rfl, hq_⟩; have n_ := back1 hk_ hq_; clear hx_ hp_ hk_ hq_; have n0_ := Aside0.mk n_; clear HS n_; have HS := n0_; clear n0_)
  obtain ⟨k1, k2, k3, k4, k5, k6⟩ := facts6 (sep_l1 HS.out)
  obtain ⟨q1, q2, q3, q4, q5, q6⟩ := facts6f (sep_l1 HS.out)
  have hr := HR.out
  have hfl := HFL.out
  clear HR HFL HF
  by_cases h0 : fe = 0
  · subst h0
    rw [if_pos rfl] at hr
    obtain ⟨k, hk, hkl⟩ := hfl rfl
    have hk' : fa = k := hk
    subst hk'
    clear hk
    obtain ⟨x, hx⟩ : ∃ x, l[k]? = some x := ⟨_, List.getElem?_eq_getElem hkl⟩
    rw [show ((k : Int)).toNat = k from Int.toNat_natCast k, List.getD_eq_getElem?_getD, hx, Option.getD_some] at hr
    have HR := Aside0.mk (And.intro hr hx)
    clear hr hx hfl hkl k1 k2 k3 k4 k5 k6 q1 q2 q3 q4 q5 q6
    go_wp2_with (go_at_call 32; obtain ⟨ok_, hp_, hk_⟩ := sep_use1 HS.out; have hx_ := rbag_cut p l room k x _ ok_ HR.out.2 HM.out hp_; unfold It.val at hx_; (with_reducible refine Calls.mono hx_ ?_); rintro e w2 ⟨rfl, hq_⟩; have n_ := back1 hk_ hq_; clear hx_ hp_ hk_ hq_; have n0_ := Aside0.mk n_; clear HS n_; have HS := n0_; clear n0_; obtain ⟨k1, k2, k3, k4, k5, k6⟩ := facts6 (sep_l1 HS.out); obtain ⟨q1, q2, q3, q4, q5, q6⟩ := facts6f (sep_l1 HS.out))
    have n_ := sep_set6 (sep_l1 HS.out) (.int .u32 x.fi) (.int .u16 x.fp) (.int .u32 x.ti) (.int .u16 x.tp) (.string x.by_) (.int .u64 x.t)
    refine bodyPost_ret (results_ct rfl _ _ g4 56 #[.int .u32 x.fi, .int .u16 x.fp, .int .u32 x.ti, .int .u16 x.tp, .string x.by_, .int .u64 x.t] (0, 0) _ rfl (sep_pt n_) Try.underlying56 rfl (by kernel_rfl)) rfl ?_
    have hr := HR.out.1
    subst hr
    exact ⟨rfl, sep_drop n_⟩
  · rw [if_neg h0] at hr
    have t1 : decide (fe = 0) = false := decide_eq_false h0
    have t2 : (fe == 0) = false := by simpa using h0
    have t3 := eq_false h0
    clear hfl
    go_wp2
    have n_ := sep_set6 (sep_l1 HS.out) (.int .u32 0) (.int .u16 0) (.int .u32 0) (.int .u16 0) (.string ⟨#[]⟩) (.int .u64 0)
    refine bodyPost_ret (results_ct rfl _ _ g4 56 #[.int .u32 It.zero.fi, .int .u16 It.zero.fp, .int .u32 It.zero.ti, .int .u16 It.zero.tp, .string It.zero.by_, .int .u64 It.zero.t] (0, 0) _ rfl (sep_pt n_) Try.underlying56 rfl (by kernel_rfl)) rfl ?_
    subst hr
    exact ⟨rfl, sep_drop n_⟩
theorem rnone_f (i p : Int) : scuttlebuttref03_Addr_None.f i p = some (noneB i p) := by unfold scuttlebuttref03_Addr_None.f noneB; split <;> rfl
set_option maxHeartbeats 4000000 in
theorem rbag_Put (p : Nat) (l : List It) (room : Int) (x : It) (w : World) (ok : Nat → Prop) (h6 : room ≤ 256) (h : (refA p l room ⋆ emp).H w ok) :
    Calls Try.prog 26 #[.pointer (some ⟨p, 0, none⟩), x.val] w fun e w' => e = .returned (.int .i64 (putE room l x)) ∧ Sep w ok (refA p (putL room l x) room ⋆ emp) w' := by
  obtain ⟨r, hr⟩ : ∃ r, putE room l x = r := ⟨_, rfl⟩
  obtain ⟨L', hL⟩ : ∃ L', putL room l x = L' := ⟨_, rfl⟩
  rw [hr, hL]
  unfold putL at hL
  rw [hr] at hL
  have HL := Aside0.mk hL
  clear hL
  unfold putE at hr
  have HR := Aside0.mk hr
  clear hr
  obtain ⟨v, hs⟩ := ref_open (sep_begin h)
  obtain ⟨A, c, rfl, hc, -⟩ := sep_row (sep_l1 hs)
  have HS := Aside0.mk hs
  have H6 := Aside0.mk h6
  obtain ⟨c1, hc1⟩ : ∃ b, noneB x.fi x.fp = b := ⟨_, rfl⟩
  obtain ⟨c2, hc2⟩ : ∃ b, noneB x.ti x.tp = b := ⟨_, rfl⟩
  have H1 : Aside0 (scuttlebuttref03_Addr_None.f x.fi x.fp = some c1) := ⟨by rw [rnone_f, hc1]⟩
  have H2 : Aside0 (scuttlebuttref03_Addr_None.f x.ti x.tp = some c2) := ⟨by rw [rnone_f, hc2]⟩
  have hr := HR.out
  rw [hc1, hc2] at hr
  clear HR
  have HR := Aside0.mk hr
  clear h h6 hs hc hr hc1 hc2
  unfold It.val
  go_enter Try.func26, Try.ntmps26
  go_upto_region 1 with (fail)
  have n_ := sep_alloc HS.out #[.int .u32 x.fi, .int .u16 x.fp, .int .u32 x.ti, .int .u16 x.tp, .string x.by_, .int .u64 x.t] 56
  have n0_ := Aside0.mk n_; clear HS n_; have HS := n0_; clear n0_
  generalize w.alloc (.cells #[.int .u32 x.fi, .int .u16 x.fp, .int .u32 x.ti, .int .u16 x.tp, .string x.by_, .int .u64 x.t] 56) = wa at HS ⊢
  generalize w.heap.size = g3 at HS ⊢
  obtain ⟨k1, k2, k3, k4, k5, k6⟩ := facts6 HS.out
  go_upto_region 2 with (go_at_call 34; (with_reducible refine Calls.mono (scuttlebuttref03_Addr_None.calls x.fi x.fp c1 _ H1.out) ?_); rintro e w1 ⟨rfl, hb_⟩; have n_ := sep_below HS.out hb_; clear hb_ HS k1 k2 k3 k4 k5 k6; have HS := Aside0.mk n_; clear n_; obtain ⟨k1, k2, k3, k4, k5, k6⟩ := facts6 HS.out)
  go_upto_region 3 with (go_at_call 34; (with_reducible refine Calls.mono (scuttlebuttref03_Addr_None.calls x.ti x.tp c2 _ H2.out) ?_); rintro e w1 ⟨rfl, hb_⟩; have n_ := sep_below HS.out hb_; clear hb_ HS k1 k2 k3 k4 k5 k6; have HS := Aside0.mk n_; clear n_; obtain ⟨k1, k2, k3, k4, k5, k6⟩ := facts6 HS.out)
  by_cases hno : c1 = true ∨ c2 = true
  · have hr := HR.out
    rw [if_pos hno] at hr
    rcases Bool.eq_false_or_eq_true c1 with h1 | h1
    · subst h1
      go_wp2
      go_ret
      subst hr
      have hL := HL.out
      rw [if_neg (by decide)] at hL
      subst hL
      exact ⟨rfl, ref_mk (sep_drop HS.out)⟩
    · have h2 : c2 = true := by rcases hno with h | h; rw [h1] at h; cases h; exact h
      subst h1
      subst h2
      go_wp2
      go_ret
      subst hr
      have hL := HL.out
      rw [if_neg (by decide)] at hL
      subst hL
      exact ⟨rfl, ref_mk (sep_drop HS.out)⟩
  · have h1 : c1 = false := by cases c1; rfl; exact absurd (.inl rfl) hno
    have h2 : c2 = false := by cases c2; rfl; exact absurd (.inr rfl) hno
    have hr := HR.out
    rw [if_neg hno] at hr
    clear HR hno
    subst h1
    subst h2
    by_cases h3 : x.by_.size = 0
    · have e1 : x.by_.toList.isEmpty = true := bytes_none h3
      have e4 : (x.by_.toList = []) = True := eq_true (List.isEmpty_iff.1 e1)
      go_wp2
      go_ret
      rw [if_pos (.inl h3)] at hr
      subst hr
      have hL := HL.out
      rw [if_neg (by decide)] at hL
      subst hL
      exact ⟨rfl, ref_mk (sep_drop HS.out)⟩
    · have e1 : x.by_.toList.isEmpty = false := bytes_some h3
      have e4 : (x.by_.toList = []) = False := eq_false (fun h => by rw [h] at e1; cases e1)
      by_cases h4 : 1024 < x.by_.size
      · have e2 : decide ((1024 : Int) < (x.by_.size : Int)) = true := decide_eq_true (by omega)
        have e3 : decide ((1024 : Nat) < x.by_.size) = true := decide_eq_true (by omega)
        go_wp2
        go_ret
        rw [if_pos (.inr h4)] at hr
        subst hr
        have hL := HL.out
        rw [if_neg (by decide)] at hL
        subst hL
        exact ⟨rfl, ref_mk (sep_drop HS.out)⟩
      · have e2 : decide ((1024 : Int) < (x.by_.size : Int)) = false := decide_eq_false (by omega)
        have e3 : decide ((1024 : Nat) < x.by_.size) = false := decide_eq_false (by omega)
        rw [if_neg (by omega)] at hr
        go_upto_region 7 with (fail)
        replace HS := Aside0.mk (sep_drew HS.out)
        obtain ⟨b1, b2, b3⟩ := facts2 (sep_l1 HS.out)
        by_cases h5 : room ≤ (l.length : Int)
        · have e5 : decide (room ≤ (l.length : Int)) = true := decide_eq_true h5
          (first | go_region_held3 (fun w' => w'.cell? ⟨p, 0, none⟩ = some (.slice A l.length c) ∧ w'.cell? ⟨p, 1, none⟩ = some (.int .i64 room)) (exact ⟨b1, b2⟩) (fail) | fail)
          go_wp2
          go_ret
          rw [if_pos h5] at hr
          subst hr
          have hL := HL.out
          rw [if_neg (by decide)] at hL
          subst hL
          exact ⟨rfl, ref_mk (sep_drop HS.out)⟩
        · have e5 : decide (room ≤ (l.length : Int)) = false := decide_eq_false h5
          rw [if_neg h5] at hr
          have HN : Aside0 ((l.length : Int) < 256) := ⟨by have := H6.out; omega⟩
          have HRZ := Aside0.mk hr
          clear h3 h4 h5 hr
          (first | go_region_held3 (fun w' => w'.cell? ⟨p, 0, none⟩ = some (.slice A l.length c) ∧ w'.cell? ⟨p, 1, none⟩ = some (.int .i64 room)) (exact ⟨b1, b2⟩) (fail) | fail)
          go_upto_region 9 with (fail)
          replace HS := Aside0.mk (sep_drew HS.out)
          clear k1 k2 k3 k4 k5 k6 b1 b2 b3
          obtain ⟨k1, k2, k3, k4, k5, k6⟩ := facts6 HS.out
          obtain ⟨b1, b2, b3⟩ := facts2 (sep_l1 HS.out)
          refine wp_region_any (by kernel_rfl) ?_
          change wpAny _ _ _ _ _ _ _ (World.drew _)
          generalize w1.drew.drew = w9 at HS k1 k2 k3 k4 k5 k6 b1 b2 b3 ⊢
          (refine a_take 0 rfl (by kernel_rfl) (by kernel_rfl) (by kernel_rfl) (fun _ _ _ h => h) (by rfl) (by intro w; go_simp; all_goals (with_reducible rfl)) ?_; simp only [Act.put, List.setIfInBounds_toArray, List.set_cons_zero, List.set_cons_succ])
          (refine a_take 1 rfl (by kernel_rfl) (by kernel_rfl) (by kernel_rfl) (fun _ _ _ h => h) (by rfl) (by intro w; go_simp; all_goals (with_reducible rfl)) ?_; simp only [Act.put, List.setIfInBounds_toArray, List.set_cons_zero, List.set_cons_succ])
          (refine a_take 2 rfl (by kernel_rfl) (by kernel_rfl) (by kernel_rfl) (fun _ _ _ h => h) (by rfl) (by intro w; go_simp; all_goals (with_reducible rfl)) ?_; simp only [Act.put, List.setIfInBounds_toArray, List.set_cons_zero, List.set_cons_succ])
          (refine a_take 3 rfl (by kernel_rfl) (by kernel_rfl) (by kernel_rfl) (fun _ _ _ h => h) (by rfl) (by intro w; go_simp; all_goals (with_reducible rfl)) ?_; simp only [Act.put, List.setIfInBounds_toArray, List.set_cons_zero, List.set_cons_succ])
          refine a_two 4 5 (by kernel_rfl) rfl (by rfl) rfl (by rfl) (fun K hK => ?_) (fun K hK => ?_)
          · go_simp
            (refine hK.out _ _ ?_; clear hK K; (try simp only [Act.put, List.setIfInBounds_toArray, List.set_cons_zero, List.set_cons_succ]))
            (refine a_one 5 (by kernel_rfl) rfl (by rfl) (fun K hK => ?_); go_simp; (refine hK.out _ _ ?_; clear hK K; (try simp only [Act.put, List.setIfInBounds_toArray, List.set_cons_zero, List.set_cons_succ])))
            (refine a_one 6 (by kernel_rfl) rfl (by rfl) (fun K hK => ?_); go_simp; (refine hK.out _ _ ?_; clear hK K; (try simp only [Act.put, List.setIfInBounds_toArray, List.set_cons_zero, List.set_cons_succ])))
            refine a_one' 7 (by kernel_rfl) rfl (step_append (w0 := w) (ok0 := ok) itK (by rfl) (.tmp 40) (.tmp 42) 67 56 z35 40 rfl rfl info56 rfl (by decide) (by decide) (.slice A l.length c) l x x.cells rfl rfl (itK_M _ _ _ _) (sep_l2 HS.out) (by have := HN.out; omega) (fun v1 w5 hs => ?_))
            simp only [Act.put, List.setIfInBounds_toArray, List.set_cons_zero, List.set_cons_succ]
            clear HS k1 k2 k3 k4 k5 k6 b1 b2 b3
            obtain ⟨A5, c5, rfl, -, -⟩ := sep_row hs
            obtain ⟨b1, b2, b3⟩ := facts2 (sep_l2 hs)
            have HS := Aside0.mk hs
            clear hs
            (refine a_one 8 (by kernel_rfl) rfl (by rfl) (fun K hK => ?_); go_simp; (refine hK.out _ _ ?_; clear hK K; (try simp only [Act.put, List.setIfInBounds_toArray, List.set_cons_zero, List.set_cons_succ])))
            (refine a_one 9 (by kernel_rfl) rfl (by rfl) (fun K hK => ?_); go_simp; (refine hK.out _ _ ?_; clear hK K; (try simp only [Act.put, List.setIfInBounds_toArray, List.set_cons_zero, List.set_cons_succ])))
            (refine a_one 10 (by kernel_rfl) rfl (by rfl) (fun K hK => ?_); go_simp; (refine hK.out _ _ ?_; clear hK K; (try simp only [Act.put, List.setIfInBounds_toArray, List.set_cons_zero, List.set_cons_succ])))
            refine wpAny_done (by kernel_rfl) ?_ _
            go_wp2
            go_ret
            have n_ := sep_set (sep_l2 HS.out) 0 (.slice A5 (l ++ [x]).length c5)
            rw [List.length_append, List.length_singleton] at n_
            have hr := HRZ.out
            subst hr
            have hL := HL.out
            rw [if_pos rfl] at hL
            subst hL
            exact ⟨rfl, ref_mk (sep_drop (sep_l2 n_))⟩
          · go_simp
            (refine hK.out _ _ ?_; clear hK K; (try simp only [Act.put, List.setIfInBounds_toArray, List.set_cons_zero, List.set_cons_succ]))
            refine a_two 4 6 (by kernel_rfl) rfl (by rfl) rfl (by rfl) (fun K hK => ?_) (fun K hK => ?_)
            · go_simp
              (refine hK.out _ _ ?_; clear hK K; (try simp only [Act.put, List.setIfInBounds_toArray, List.set_cons_zero, List.set_cons_succ]))
              (refine a_one 6 (by kernel_rfl) rfl (by rfl) (fun K hK => ?_); go_simp; (refine hK.out _ _ ?_; clear hK K; (try simp only [Act.put, List.setIfInBounds_toArray, List.set_cons_zero, List.set_cons_succ])))
              refine a_one' 7 (by kernel_rfl) rfl (step_append (w0 := w) (ok0 := ok) itK (by rfl) (.tmp 40) (.tmp 42) 67 56 z35 40 rfl rfl info56 rfl (by decide) (by decide) (.slice A l.length c) l x x.cells rfl rfl (itK_M _ _ _ _) (sep_l2 HS.out) (by have := HN.out; omega) (fun v1 w5 hs => ?_))
              simp only [Act.put, List.setIfInBounds_toArray, List.set_cons_zero, List.set_cons_succ]
              clear HS k1 k2 k3 k4 k5 k6 b1 b2 b3
              obtain ⟨A5, c5, rfl, -, -⟩ := sep_row hs
              obtain ⟨b1, b2, b3⟩ := facts2 (sep_l2 hs)
              have HS := Aside0.mk hs
              clear hs
              (refine a_one 8 (by kernel_rfl) rfl (by rfl) (fun K hK => ?_); go_simp; (refine hK.out _ _ ?_; clear hK K; (try simp only [Act.put, List.setIfInBounds_toArray, List.set_cons_zero, List.set_cons_succ])))
              (refine a_one 9 (by kernel_rfl) rfl (by rfl) (fun K hK => ?_); go_simp; (refine hK.out _ _ ?_; clear hK K; (try simp only [Act.put, List.setIfInBounds_toArray, List.set_cons_zero, List.set_cons_succ])))
              (refine a_one 10 (by kernel_rfl) rfl (by rfl) (fun K hK => ?_); go_simp; (refine hK.out _ _ ?_; clear hK K; (try simp only [Act.put, List.setIfInBounds_toArray, List.set_cons_zero, List.set_cons_succ])))
              refine wpAny_done (by kernel_rfl) ?_ _
              go_wp2
              go_ret
              have n_ := sep_set (sep_l2 HS.out) 0 (.slice A5 (l ++ [x]).length c5)
              rw [List.length_append, List.length_singleton] at n_
              have hr := HRZ.out
              subst hr
              have hL := HL.out
              rw [if_pos rfl] at hL
              subst hL
              exact ⟨rfl, ref_mk (sep_drop (sep_l2 n_))⟩
            · go_simp
              (refine hK.out _ _ ?_; clear hK K; (try simp only [Act.put, List.setIfInBounds_toArray, List.set_cons_zero, List.set_cons_succ]))
              have m1 : ∀ o, (w9.alloc o).cell? ⟨p, 0, none⟩ = some (.slice A l.length c) := fun o => sep_cell (sep_l1 (sep_skip HS.out o)) 0
              (refine a_one 4 (by kernel_rfl) rfl (by rfl) (fun K hK => ?_); go_simp; (refine hK.out _ _ ?_; clear hK K; (try simp only [Act.put, List.setIfInBounds_toArray, List.set_cons_zero, List.set_cons_succ])))
              clear m1
              refine a_one' 7 (by kernel_rfl) rfl (step_append (w0 := w) (ok0 := ok) itK (by rfl) (.tmp 40) (.tmp 42) 67 56 z35 40 rfl rfl info56 rfl (by decide) (by decide) (.slice A l.length c) l x x.cells rfl rfl (itK_M _ _ _ _) (sep_l2 HS.out) (by have := HN.out; omega) (fun v1 w5 hs => ?_))
              simp only [Act.put, List.setIfInBounds_toArray, List.set_cons_zero, List.set_cons_succ]
              clear HS k1 k2 k3 k4 k5 k6 b1 b2 b3
              obtain ⟨A5, c5, rfl, -, -⟩ := sep_row hs
              obtain ⟨b1, b2, b3⟩ := facts2 (sep_l2 hs)
              have HS := Aside0.mk hs
              clear hs
              (refine a_one 8 (by kernel_rfl) rfl (by rfl) (fun K hK => ?_); go_simp; (refine hK.out _ _ ?_; clear hK K; (try simp only [Act.put, List.setIfInBounds_toArray, List.set_cons_zero, List.set_cons_succ])))
              (refine a_one 9 (by kernel_rfl) rfl (by rfl) (fun K hK => ?_); go_simp; (refine hK.out _ _ ?_; clear hK K; (try simp only [Act.put, List.setIfInBounds_toArray, List.set_cons_zero, List.set_cons_succ])))
              (refine a_one 10 (by kernel_rfl) rfl (by rfl) (fun K hK => ?_); go_simp; (refine hK.out _ _ ?_; clear hK K; (try simp only [Act.put, List.setIfInBounds_toArray, List.set_cons_zero, List.set_cons_succ])))
              refine wpAny_done (by kernel_rfl) ?_ _
              go_wp2
              go_ret
              have n_ := sep_set (sep_l2 HS.out) 0 (.slice A5 (l ++ [x]).length c5)
              rw [List.length_append, List.length_singleton] at n_
              have hr := HRZ.out
              subst hr
              have hL := HL.out
              rw [if_pos rfl] at hL
              subst hL
              exact ⟨rfl, ref_mk (sep_drop (sep_l2 n_))⟩
end Go.Proofs.Ytlpiodcklacdpaa.BG
