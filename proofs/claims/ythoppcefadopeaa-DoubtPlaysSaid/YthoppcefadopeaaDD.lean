/- The doubts: Confirm. Conditions: those that each theorem names. -/
import Derived.Test.YthoppcefadopeaaDC
namespace Go.Proofs.Ythoppcefadopeaa.DW
set_option linter.unusedVariables false
set_option linter.unusedSimpArgs false
open Go Go.RowKit Go.Proofs.YthoppcefadopeaaS Go.Proofs.YthoppcefadopeaaS.Asn Go.Proofs.Ythoppcefadopeaa.PA Go.Proofs.YthoppcefadopeaaW.PrintWords Go.Proofs.YthoppcefadopeaaW.PrintLast Go.Proofs.YthoppcefadopeaaW.PrintMore
set_option maxHeartbeats 1000000 in
theorem dt_Confirm (p : Nat) (I : Nat → It) (id inc who : Int) (w : World) (ok : Nat → Prop) (hg : Good I) (h : (doubtA p I ⋆ emp).H w ok) :
    Calls Try.prog 11 #[.pointer (some ⟨p, 0, none⟩), .int .i64 id, .int .u32 inc, .int .i64 who] w fun e w' => e = .returned (.int .i64 (confirmE I id inc who).1) ∧ Sep w ok (doubtA p (confirmE I id inc who).2 ⋆ emp) w' := by
  have HS := Aside0.mk (sep_begin h)
  clear h
  have HF := Aside0.mk (node_f who)
  obtain ⟨r, hr⟩ : ∃ r, confirmE I id inc who = r := ⟨_, rfl⟩
  rw [hr]
  unfold confirmE at hr
  cases hn : node who with
  | false =>
    rw [if_pos (.inl hn)] at hr
    subst hr
    rw [hn] at HF
    clear hn hg
    go_enter Try.func11, Try.ntmps11
    go_wp2_with (go_at_call 23; (with_reducible refine Calls.mono (doubt_node.calls who false _ HF.out) ?_); rintro e w1 ⟨rfl, hb_⟩; have n_ := sep_drawn HS.out hb_; clear hb_; have n0_ := Aside0.mk n_; clear HS n_; have HS := n0_; clear n0_; skip)
    go_ret
    exact ⟨rfl, HS.out⟩
  | true =>
    rw [hn] at HF
    by_cases hid : who = id
    · rw [if_pos (.inr hid)] at hr
      subst hr
      have d1 : (who == id) = true := by simpa using hid
      have d2 := eq_true hid
      clear hn hg hid
      go_enter Try.func11, Try.ntmps11
      go_wp2_with (go_at_call 23; (with_reducible refine Calls.mono (doubt_node.calls who true _ HF.out) ?_); rintro e w1 ⟨rfl, hb_⟩; have n_ := sep_drawn HS.out hb_; clear hb_; have n0_ := Aside0.mk n_; clear HS n_; have HS := n0_; clear n0_; skip)
      go_ret
      exact ⟨rfl, HS.out⟩
    · rw [if_neg (by rintro (h | h); exact absurd (hn.symm.trans h) (by decide); exact hid h)] at hr
      have d1 : (who == id) = false := by simpa using hid
      have d2 := eq_false hid
      clear hn hid
      cases ht : there I id with
      | false =>
        have HT := Aside0.mk ht
        have ht := HT.out
        have ha : atP p I id = none := by unfold atP; rw [ht]; rfl
        have HA := Aside0.mk ha
        clear ha ht
        rw [if_pos (.inl ht)] at hr
        subst hr
        clear ht hg
        go_enter Try.func11, Try.ntmps11
        go_wp2_with (first | (go_at_call 23; (with_reducible refine Calls.mono (doubt_node.calls who true _ HF.out) ?_); rintro e w1 ⟨rfl, hb_⟩; have n_ := sep_drawn HS.out hb_; clear hb_; have n0_ := Aside0.mk n_; clear HS n_; have HS := n0_; clear n0_; skip) | (go_at_call 24; obtain ⟨ok_, hp_, hk_⟩ := sep_use1 HS.out; have hx_ := dt_of p I id _ ok_ hp_; rw [HT.out, HA.out] at hx_; (with_reducible refine Calls.mono hx_ ?_); rintro e w1 ⟨rfl, hq_⟩; have n_ := back1 hk_ hq_; clear hx_ hp_ hk_ hq_; have n0_ := Aside0.mk n_; clear HS n_; have HS := n0_; clear n0_))
        go_ret
        exact ⟨rfl, HS.out⟩
      | true =>
        have HT := Aside0.mk ht
        obtain ⟨g1, g2, g3⟩ := there_lt HT.out
        obtain ⟨i, rfl⟩ : ∃ i : Nat, id = (i : Int) := ⟨id.toNat, by omega⟩
        have ha : atP p I (i : Int) = some ⟨p, i * 5, none⟩ := by unfold atP; rw [HT.out, Int.toNat_natCast]; rfl
        have HA := Aside0.mk ha
        have HI : Aside0 (1 ≤ i ∧ i < 33) := ⟨by omega⟩
        clear ha g1 g2 g3
        have hgi := hg i HI.out.2
        rw [Int.toNat_natCast] at hr
        have HR := Aside0.mk hr
        clear hr ht hg
        go_enter Try.func11, Try.ntmps11
        go_upto_region 4 with (first | (go_at_call 23; (with_reducible refine Calls.mono (doubt_node.calls who true _ HF.out) ?_); rintro e w1 ⟨rfl, hb_⟩; have n_ := sep_drawn HS.out hb_; clear hb_; have n0_ := Aside0.mk n_; clear HS n_; have HS := n0_; clear n0_; skip) | (go_at_call 24; obtain ⟨ok_, hp_, hk_⟩ := sep_use1 HS.out; have hx_ := dt_of p I (i : Int) _ ok_ hp_; rw [HT.out, HA.out] at hx_; (with_reducible refine Calls.mono hx_ ?_); rintro e w1 ⟨rfl, hq_⟩; have n_ := back1 hk_ hq_; clear hx_ hp_ hk_ hq_; have n0_ := Aside0.mk n_; clear HS n_; have HS := n0_; clear n0_))
        clear d1 d2
        obtain ⟨V, n_⟩ := dt_open HS.out
        replace n_ := dt_out n_ i HI.out.2
        obtain ⟨A, c, hv, hc, hC⟩ := sep_row n_
        have HV := Aside0.mk hv
        have HC := Aside0.mk hC
        have HCC := Aside0.mk hc
        have n0_ := Aside0.mk n_; clear HS n_; have HS := n0_; clear n0_
        obtain ⟨k1, k2, k3, k4, k5⟩ := dt_facts (sep_l1 HS.out) i HI.out.2
        rw [hv] at k5
        obtain ⟨x, hx⟩ : ∃ x, I i = x := ⟨_, rfl⟩
        have HX := Aside0.mk hx
        rw [hx] at k1 k2 k3 k4 k5
        clear hv hc hC hx
        have hr := HR.out
        rw [HX.out] at hr hgi
        by_cases hinc : x.inc = inc
        · rw [if_neg (by rintro (h | h); exact absurd (HT.out.symm.trans h) (by decide); exact h hinc)] at hr
          have q1 : (x.inc != inc) = false := by rw [hinc]; simp
          have q2 := eq_true hinc
          have HG := Aside0.mk hgi
          obtain ⟨b, hb⟩ : ∃ b, x.who.contains who = b := ⟨_, rfl⟩
          obtain ⟨k, hk⟩ : ∃ k, pos x.who who = k := ⟨_, rfl⟩
          have HK := Aside0.mk hk
          have HB := Aside0.mk hb
          rw [hb] at hr
          clear hinc hgi HR
          have n_ := HS.out
          rw [HV.out, HX.out] at n_
          have n0_ := Aside0.mk n_; clear HS n_; have HS := n0_; clear n0_
          go_upto_region 7 with (go_at_call 25; obtain ⟨ok_, hp_, hk_⟩ := sep_use1 HS.out; have hx_ := bs A c x.who who _ ok_ HG.out.sorted (Nat.le_trans HG.out.few (by decide)) hp_; rw [HK.out, HB.out] at hx_; (with_reducible refine Calls.mono hx_ ?_); rintro e w2 ⟨rfl, hb_⟩; have n_ := sep_below HS.out hb_; clear hx_ hp_ hk_ hb_; have n0_ := Aside0.mk n_; clear HS n_; have HS := n0_; clear n0_)
          clear k1 k2 k3 k4 k5 q1 q2
          cases b with
          | true =>
            rw [if_pos rfl] at hr
            subst hr
            go_wp2
            go_ret
            have n_ := HS.out
            rw [← HX.out, ← HV.out] at n_
            exact ⟨rfl, dt_back i HI.out.2 n_⟩
          | false =>
            rw [if_neg (by decide)] at hr
            have hkl := pos_le x.who who
            rw [hk] at hkl
            have HKL := Aside0.mk hkl
            have HR := Aside0.mk hr
            clear hr hb hk hkl
            obtain ⟨k1, k2, k3, k4, k5⟩ := dt_facts (sep_l1 HS.out) i HI.out.2
            rw [HV.out, HX.out] at k5
            clear k1 k2 k3 k4
            go_upto_region 10 with (go_at_call 26; obtain ⟨ok_, hp_, hk_⟩ := sep_use2 (sep_l1 (sep_alloc HS.out #[.int .i64 who] 3)); have hx_ := insert A c x.who k who _ _ ok_ HKL.out (Nat.le_trans HG.out.few (by decide)) hp_; (with_reducible refine Calls.mono hx_ ?_); rintro e w3 ⟨v_, rfl, hq_⟩; have n_ := back1 hk_ hq_; clear hx_ hp_ hk_ hq_ k5; obtain ⟨A3, c3, rfl, -, -⟩ := sep_row n_; generalize hL : (x.who.take k ++ [who] ++ x.who.drop k) = L at n_ ⊢; have HLL := Aside0.mk hL; clear hL; have n0_ := Aside0.mk n_; clear HS n_; have HS := n0_; clear n0_; have k5 := (dt_facts (sep_l1 HS.out) i HI.out.2).2.2.2.2; have f5 := (dt_frozen (sep_l1 HS.out) i).2.2.2.2)
            go_wp2
            go_ret
            have hr := HR.out
            subst hr
            have n_ := sep_set (sep_l1 HS.out) (i * 5 + 4) (.slice A3 L.length c3)
            rw [df_set1 I V i L _ HI.out.2, HX.out] at n_
            refine ⟨rfl, ?_⟩
            have hins : ins x.who who = L := by unfold ins; rw [HK.out]; exact HLL.out
            rw [hins]
            exact dt_in { x with who := L } _ i HI.out.2 (sep_l1 n_)
        · rw [if_pos (.inr hinc)] at hr
          subst hr
          have q1 : (x.inc != inc) = true := bne_iff_ne.2 hinc
          have q2 := eq_false hinc
          clear hinc hgi
          go_wp2
          go_ret
          exact ⟨rfl, dt_back i HI.out.2 HS.out⟩
end Go.Proofs.Ythoppcefadopeaa.DW
