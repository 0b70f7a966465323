/- The doubts: New, of, Until, Clear, Begin. Conditions: those that each theorem names. -/
import Derived.Test.YthoppcefadopeaaDA
namespace Go.Proofs.Ythoppcefadopeaa.DW
set_option linter.unusedVariables false
set_option linter.unusedSimpArgs false
open Go Go.RowKit Go.Proofs.YthoppcefadopeaaS Go.Proofs.YthoppcefadopeaaS.Asn Go.Proofs.Ythoppcefadopeaa.PA Go.Proofs.YthoppcefadopeaaW.PrintWords Go.Proofs.YthoppcefadopeaaW.PrintLast Go.Proofs.YthoppcefadopeaaW.PrintMore
def VN : Nat → Value := fun _ => .slice none 0 0
theorem zero61 (w : World) : (zeroValue 61).run Try.prog w = .ok (.agg (arrV 165 (df new VN))) w := by kernel_rfl
theorem dt_New (w : World) : Calls Try.prog 10 #[] w fun e w' => ∃ p : Nat, e = .returned (.pointer (some ⟨p, 0, none⟩)) ∧ Sep w (fun _ => False) (doubtA p new ⋆ emp) w' := by
  have HS := Aside0.mk (sep_start w)
  have hz := zero61
  have HZ := Aside0.mk (dt_mk (I := new) (V := VN) (sep_alloc (sep_all_none HS.out 33 (whoA new VN) (fun j _ w => Kd.R_nil _ _ _ _ _)) (arrV 165 (df new VN)) 61))
  generalize arrV 165 (df new VN) = cs at hz HZ
  go_enter Try.func10, Try.ntmps10
  go_wp2
  go_ret
  exact ⟨_, rfl, HZ.out⟩
theorem node_f (id : Int) : doubt_node.f id = some (node id) := by
  unfold doubt_node.f node
  by_cases h : id ≥ 1
  · rw [if_pos h]; congr 1; by_cases h2 : id ≤ 32
    · rw [decide_eq_true h2, decide_eq_true ⟨h, h2⟩]
    · rw [decide_eq_false h2, decide_eq_false (fun hh => h2 hh.2)]
  · rw [if_neg h, decide_eq_false (fun hh => h hh.1)]
/-- Where one is. -/
def atP (p : Nat) (I : Nat → It) (id : Int) : Option Addr := if there I id = true then some ⟨p, id.toNat * 5, none⟩ else none
theorem dt_of (p : Nat) (I : Nat → It) (id : Int) (w : World) (ok : Nat → Prop) (h : (doubtA p I ⋆ emp).H w ok) :
    Calls Try.prog 24 #[.pointer (some ⟨p, 0, none⟩), .int .i64 id] w fun e w' => e = .returned (.tuple #[.pointer (atP p I id), .bool (there I id)]) ∧ Sep w ok (doubtA p I ⋆ emp) w' := by
  have HF := Aside0.mk (node_f id)
  cases hn : node id with
  | false =>
    rw [hn] at HF
    have ht : there I id = false := by unfold there; rw [hn]; rfl
    have ha : atP p I id = none := by unfold atP; rw [ht]; rfl
    rw [ht, ha]
    have HS := Aside0.mk (sep_begin h)
    clear h hn ht ha
    go_enter Try.func24, Try.ntmps24
    go_wp2_with (go_at_call 23; (with_reducible refine Calls.mono (doubt_node.calls id false _ HF.out) ?_); rintro e w1 ⟨rfl, hb_⟩; have n_ := sep_drawn HS.out hb_; clear hb_; have n0_ := Aside0.mk n_; clear HS n_; have HS := n0_; clear n0_; skip)
    go_ret2
    exact ⟨rfl, HS.out⟩
  | true =>
    rw [hn] at HF
    have hn' : 1 ≤ id ∧ id ≤ 32 := by simpa [node] using hn
    obtain ⟨i, rfl⟩ : ∃ i : Nat, id = (i : Int) := ⟨id.toNat, by omega⟩
    have ht0 : there I (i : Int) = decide ((I i).id ≠ 0) := by unfold there; rw [hn, Int.toNat_natCast, Bool.true_and]
    have ha0 : atP p I (i : Int) = if there I (i : Int) = true then some ⟨p, i * 5, none⟩ else none := by unfold atP; rw [Int.toNat_natCast]
    rw [ha0, ht0]
    obtain ⟨V, n_⟩ := dt_open (sep_begin h)
    have HS := Aside0.mk n_
    have HI := Aside0.mk hn'
    have e3 : ((i : Int) < 33) = True := eq_true (by omega)
    have e4 := eq_true (Int.natCast_nonneg i)
    have e5 : (i < 33) = True := eq_true (by omega)
    clear n_ h hn hn' ht0 ha0
    by_cases h0 : (I i).id = 0
    · have t1 : ((I i).id == 0) = true := by simpa using h0
      rw [show decide ((I i).id ≠ 0) = false by simpa using h0]
      clear h0
      go_enter Try.func24, Try.ntmps24
      go_wp2_with (go_at_call 23; (with_reducible refine Calls.mono (doubt_node.calls (i : Int) true _ HF.out) ?_); rintro e w1 ⟨rfl, hb_⟩; have n_ := sep_drawn HS.out hb_; clear hb_; have n0_ := Aside0.mk n_; clear HS n_; have HS := n0_; clear n0_; have k1 := (dt_facts HS.out i (by have := HI.out; omega)).1)
      go_ret2
      exact ⟨rfl, dt_mk HS.out⟩
    · have t1 : ((I i).id == 0) = false := by simpa using h0
      have t2 := eq_false h0
      rw [show decide ((I i).id ≠ 0) = true by simpa using h0]
      clear h0
      go_enter Try.func24, Try.ntmps24
      go_wp2_with (go_at_call 23; (with_reducible refine Calls.mono (doubt_node.calls (i : Int) true _ HF.out) ?_); rintro e w1 ⟨rfl, hb_⟩; have n_ := sep_drawn HS.out hb_; clear hb_; have n0_ := Aside0.mk n_; clear HS n_; have HS := n0_; clear n0_; have k1 := (dt_facts HS.out i (by have := HI.out; omega)).1)
      go_ret2
      exact ⟨rfl, dt_mk HS.out⟩
theorem until_f (x : It) (h : GoodIt x) : doubt_Item_until.f x.id x.inc x.since x.hold x.who = some (untilI x) := by
  have hf := h.few
  have hh := h.hold
  have hu := until_lt h
  unfold untilI at hu ⊢
  unfold doubt_Item_until.f
  have e1 : IntKind.u64.wrap (wrap64 ((x.who.length : Int) + 1)) = (x.who.length : Int) + 1 := by rw [IntKind.wrap_u64]; unfold wrap64; omega
  have e2 : IntKind.u64.wrap (x.hold + ((x.who.length : Int) + 1)) = x.hold + ((x.who.length : Int) + 1) := by rw [IntKind.wrap_u64]; omega
  have e3 : IntKind.u64.wrap (x.hold + ((x.who.length : Int) + 1) - 1) = x.hold + (x.who.length : Int) := by rw [IntKind.wrap_u64]; omega
  have e5 : Int.tdiv (x.hold + (x.who.length : Int)) ((x.who.length : Int) + 1) = (x.hold + (x.who.length : Int)) / ((x.who.length : Int) + 1) := Int.tdiv_eq_ediv_of_nonneg (by omega)
  have h2 : 0 ≤ (x.hold + (x.who.length : Int)) / ((x.who.length : Int) + 1) := Int.ediv_nonneg (by omega) (by omega)
  rw [e1, if_neg (by omega), e2, e3, e5]
  have hs := h.since
  generalize (x.hold + (x.who.length : Int)) / ((x.who.length : Int) + 1) = q at *
  have e6 : IntKind.u64.wrap q = q := by rw [IntKind.wrap_u64]; omega
  have e7 : IntKind.u64.wrap (x.since + q) = x.since + q := by rw [IntKind.wrap_u64]; omega
  rw [e6, e7]
section
variable {w0 w : World} {ok0 : Nat → Prop} {F : Asn} {p : Nat} {I : Nat → It} {V : Nat → Value}
theorem dt_back (i : Nat) (hi : i < 33) (h : Sep w0 ok0 (row (Kd.int .i64) 3 (V i) (I i).who ⋆ pt p (arrV 165 (df I V)) 61 ⋆ allx 33 i (whoA I V) ⋆ F) w) : Sep w0 ok0 (doubtA p I ⋆ F) w := dt_mk (sep_l1 (sep_all_in (f := whoA I V) (sep_l1 (sep_l2 h)) hi))
theorem dt_put (i : Nat) (hi : i < 33) (x : It) (hw : x.who = []) (h : Sep w0 ok0 (row (Kd.int .i64) 3 (V i) (I i).who ⋆ pt p (arrV 165 (df I V)) 61 ⋆ allx 33 i (whoA I V) ⋆ F) w) :
    Sep w0 ok0 (doubtA p (upd I i x) ⋆ F) (((((w.setCell ⟨p, i * 5, none⟩ (.int .i64 x.id)).setCell ⟨p, i * 5 + 1, none⟩ (.int .u32 x.inc)).setCell ⟨p, i * 5 + 2, none⟩ (.int .u64 x.since)).setCell ⟨p, i * 5 + 3, none⟩ (.int .u64 x.hold)).setCell ⟨p, i * 5 + 4, none⟩ (.slice none 0 0)) := by
  have h2 := sep_set (sep_set (sep_set (sep_set (sep_set (sep_drop h) (i * 5) (.int .i64 x.id)) (i * 5 + 1) (.int .u32 x.inc)) (i * 5 + 2) (.int .u64 x.since)) (i * 5 + 3) (.int .u64 x.hold)) (i * 5 + 4) (.slice none 0 0)
  rw [df_set5 I V i x _ hi] at h2
  exact dt_in x (.slice none 0 0) i hi (by rw [hw]; exact sep_row_nil h2)
end
theorem dt_Until (p : Nat) (I : Nat → It) (id : Int) (w : World) (ok : Nat → Prop) (hg : Good I) (h : (doubtA p I ⋆ emp).H w ok) :
    Calls Try.prog 20 #[.pointer (some ⟨p, 0, none⟩), .int .i64 id] w fun e w' => e = .returned (.tuple #[.int .u64 (untilE I id).1, .bool (untilE I id).2]) ∧ Sep w ok (doubtA p I ⋆ emp) w' := by
  have HS := Aside0.mk (sep_begin h)
  obtain ⟨r, hr⟩ : ∃ r, untilE I id = r := ⟨_, rfl⟩
  rw [hr]
  unfold untilE at hr
  cases ht : there I id with
  | false =>
    have HT := Aside0.mk ht
    have ht := HT.out
    have ha : atP p I id = none := by unfold atP; rw [ht]; rfl
    have HA := Aside0.mk ha
    clear ha ht
    rw [ht, if_neg (by decide)] at hr
    subst hr
    clear h ht hg
    go_enter Try.func20, Try.ntmps20
    go_wp2_with (go_at_call 24; obtain ⟨ok_, hp_, hk_⟩ := sep_use1 HS.out; have hx_ := dt_of p I id _ ok_ hp_; rw [HT.out, HA.out] at hx_; (with_reducible refine Calls.mono hx_ ?_); rintro e w1 ⟨rfl, hq_⟩; have n_ := back1 hk_ hq_; clear hx_ hp_ hk_ hq_; have n0_ := Aside0.mk n_; clear HS n_; have HS := n0_; clear n0_)
    go_ret2
    exact ⟨rfl, HS.out⟩
  | true =>
    have HT := Aside0.mk ht
    obtain ⟨g1, g2, g3⟩ := there_lt HT.out
    obtain ⟨i, rfl⟩ : ∃ i : Nat, id = (i : Int) := ⟨id.toNat, by omega⟩
    have ha : atP p I (i : Int) = some ⟨p, i * 5, none⟩ := by unfold atP; rw [HT.out, Int.toNat_natCast]; rfl
    have HA := Aside0.mk ha
    have HI : Aside0 (1 ≤ i ∧ i < 33) := ⟨by omega⟩
    clear ha g1 g2 g3
    rw [ht, if_pos rfl, Int.toNat_natCast] at hr
    have HF := Aside0.mk (until_f (I i) (hg i HI.out.2))
    subst hr
    clear h ht hg
    go_enter Try.func20, Try.ntmps20
    go_upto_region 4 with (go_at_call 24; obtain ⟨ok_, hp_, hk_⟩ := sep_use1 HS.out; have hx_ := dt_of p I (i : Int) _ ok_ hp_; rw [HT.out, HA.out] at hx_; (with_reducible refine Calls.mono hx_ ?_); rintro e w1 ⟨rfl, hq_⟩; have n_ := back1 hk_ hq_; clear hx_ hp_ hk_ hq_; have n0_ := Aside0.mk n_; clear HS n_; have HS := n0_; clear n0_)
    obtain ⟨V, n_⟩ := dt_open HS.out
    replace n_ := dt_out n_ i HI.out.2
    obtain ⟨A, c, hv, hc, hC⟩ := sep_row n_
    have HV := Aside0.mk hv
    have HC := Aside0.mk hC
    have HCC := Aside0.mk hc
    have n0_ := Aside0.mk n_; clear HS n_; have HS := n0_; clear n0_
    obtain ⟨k1, k2, k3, k4, k5⟩ := dt_facts (sep_l1 HS.out) i HI.out.2
    rw [hv] at k5
    obtain ⟨x, hx⟩ : ∃ x, I i = x := ⟨_, rfl⟩
    have HX := Aside0.mk hx
    rw [hx] at k1 k2 k3 k4 k5
    clear hv hc hC hx
    rw [HX.out] at HF HC
    go_wp2_with (go_at_call 31; (with_reducible refine Calls.mono (doubt_Item_until.calls x.id x.inc x.since x.hold A c x.who _ _ HC.out (by rw [← HX.out]; exact HCC.out) HF.out) ?_); rintro e w2 ⟨rfl, hb_⟩; have n_ := sep_below HS.out hb_; clear hb_; have n0_ := Aside0.mk n_; clear HS n_; have HS := n0_; clear n0_)
    go_ret2
    rw [HX.out]
    exact ⟨rfl, dt_back i HI.out.2 HS.out⟩
theorem dt_Clear (p : Nat) (I : Nat → It) (id inc : Int) (w : World) (ok : Nat → Prop) (h : (doubtA p I ⋆ emp).H w ok) :
    Calls Try.prog 13 #[.pointer (some ⟨p, 0, none⟩), .int .i64 id, .int .u32 inc] w fun e w' => e = .returned (.bool (clearE I id inc).1) ∧ Sep w ok (doubtA p (clearE I id inc).2 ⋆ emp) w' := by
  have HS := Aside0.mk (sep_begin h)
  obtain ⟨r, hr⟩ : ∃ r, clearE I id inc = r := ⟨_, rfl⟩
  rw [hr]
  unfold clearE at hr
  cases ht : there I id with
  | false =>
    have HT := Aside0.mk ht
    have ht := HT.out
    have ha : atP p I id = none := by unfold atP; rw [ht]; rfl
    have HA := Aside0.mk ha
    clear ha ht
    rw [if_pos (.inl ht)] at hr
    subst hr
    clear h ht
    go_enter Try.func13, Try.ntmps13
    go_wp2_with (go_at_call 24; obtain ⟨ok_, hp_, hk_⟩ := sep_use1 HS.out; have hx_ := dt_of p I id _ ok_ hp_; rw [HT.out, HA.out] at hx_; (with_reducible refine Calls.mono hx_ ?_); rintro e w1 ⟨rfl, hq_⟩; have n_ := back1 hk_ hq_; clear hx_ hp_ hk_ hq_; have n0_ := Aside0.mk n_; clear HS n_; have HS := n0_; clear n0_)
    go_ret
    exact ⟨rfl, HS.out⟩
  | true =>
    have HT := Aside0.mk ht
    obtain ⟨g1, g2, g3⟩ := there_lt HT.out
    obtain ⟨i, rfl⟩ : ∃ i : Nat, id = (i : Int) := ⟨id.toNat, by omega⟩
    have ha : atP p I (i : Int) = some ⟨p, i * 5, none⟩ := by unfold atP; rw [HT.out, Int.toNat_natCast]; rfl
    have HA := Aside0.mk ha
    have HI : Aside0 (1 ≤ i ∧ i < 33) := ⟨by omega⟩
    clear ha g1 g2 g3
    rw [Int.toNat_natCast] at hr
    have HR := Aside0.mk hr
    clear h hr ht
    go_enter Try.func13, Try.ntmps13
    go_upto_region 2 with (go_at_call 24; obtain ⟨ok_, hp_, hk_⟩ := sep_use1 HS.out; have hx_ := dt_of p I (i : Int) _ ok_ hp_; rw [HT.out, HA.out] at hx_; (with_reducible refine Calls.mono hx_ ?_); rintro e w1 ⟨rfl, hq_⟩; have n_ := back1 hk_ hq_; clear hx_ hp_ hk_ hq_; have n0_ := Aside0.mk n_; clear HS n_; have HS := n0_; clear n0_)
    obtain ⟨V, n_⟩ := dt_open HS.out
    replace n_ := dt_out n_ i HI.out.2
    obtain ⟨A, c, hv, hc, hC⟩ := sep_row n_
    have HV := Aside0.mk hv
    have HC := Aside0.mk hC
    have HCC := Aside0.mk hc
    have n0_ := Aside0.mk n_; clear HS n_; have HS := n0_; clear n0_
    obtain ⟨k1, k2, k3, k4, k5⟩ := dt_facts (sep_l1 HS.out) i HI.out.2
    rw [hv] at k5
    obtain ⟨x, hx⟩ : ∃ x, I i = x := ⟨_, rfl⟩
    have HX := Aside0.mk hx
    rw [hx] at k1 k2 k3 k4 k5
    clear hv hc hC hx
    have hr := HR.out
    rw [HX.out] at hr
    by_cases hle : inc ≤ x.inc
    · have d1 : decide (x.inc ≥ inc) = true := decide_eq_true hle
      have d2 : decide (inc ≤ x.inc) = true := decide_eq_true hle
      have d3 := eq_true hle
      rw [if_pos (.inr hle)] at hr
      subst hr
      clear hle HR
      go_wp2
      go_ret
      exact ⟨rfl, dt_back i HI.out.2 HS.out⟩
    · have d1 : decide (x.inc ≥ inc) = false := decide_eq_false hle
      have d2 : decide (inc ≤ x.inc) = false := decide_eq_false hle
      have d3 := eq_false hle
      rw [if_neg (by rintro (h | h); exact absurd (HT.out.symm.trans h) (by decide); exact hle h)] at hr
      subst hr
      clear hle HR
      obtain ⟨f1, f2, f3, f4, f5⟩ := dt_frozen (sep_l1 HS.out) i
      go_wp2
      go_ret
      exact ⟨rfl, dt_put i HI.out.2 It.zero rfl HS.out⟩
theorem mayB (id now hold : Int) (h1 : node id = true) (h2 : now ≤ 4611686018427387904) (h3 : hold ≠ 0) (h4 : hold ≤ 1000000) : mayBegin id now hold = true := by
  unfold mayBegin
  rw [h1, decide_eq_true h2, decide_eq_true h3, decide_eq_true h4]
  rfl
theorem mayB_no (id now hold : Int) (h : node id = false ∨ 4611686018427387904 < now ∨ hold = 0 ∨ 1000000 < hold) : mayBegin id now hold = false := by
  unfold mayBegin
  rcases h with h | h | h | h
  · rw [h]; rfl
  · rw [decide_eq_false (show ¬ now ≤ 4611686018427387904 by omega)]; simp
  · rw [decide_eq_false (show ¬ hold ≠ 0 from fun hh => hh h)]; simp
  · rw [decide_eq_false (show ¬ hold ≤ 1000000 by omega)]; simp
theorem begin_no (I : Nat → It) (id inc now hold : Int) (h : node id = false ∨ 4611686018427387904 < now ∨ hold = 0 ∨ 1000000 < hold) : beginE I id inc now hold = (1, I) := by
  unfold beginE
  rw [if_pos (mayB_no id now hold h)]
set_option maxHeartbeats 1000000 in
theorem dt_Begin (p : Nat) (I : Nat → It) (id inc now hold : Int) (w : World) (ok : Nat → Prop) (h : (doubtA p I ⋆ emp).H w ok) :
    Calls Try.prog 18 #[.pointer (some ⟨p, 0, none⟩), .int .i64 id, .int .u32 inc, .int .u64 now, .int .u64 hold] w fun e w' => e = .returned (.int .i64 (beginE I id inc now hold).1) ∧ Sep w ok (doubtA p (beginE I id inc now hold).2 ⋆ emp) w' := by
  have HS := Aside0.mk (sep_begin h)
  clear h
  have HF := Aside0.mk (node_f id)
  cases hn : node id with
  | false =>
    rw [begin_no I id inc now hold (.inl hn)]
    rw [hn] at HF
    clear hn
    go_enter Try.func18, Try.ntmps18
    go_wp2_with (go_at_call 23; (with_reducible refine Calls.mono (doubt_node.calls id false _ HF.out) ?_); rintro e w1 ⟨rfl, hb_⟩; have n_ := sep_drawn HS.out hb_; clear hb_; have n0_ := Aside0.mk n_; clear HS n_; have HS := n0_; clear n0_; skip)
    go_ret
    exact ⟨rfl, HS.out⟩
  | true =>
    rw [hn] at HF
    by_cases hnow : 4611686018427387904 < now
    · rw [begin_no I id inc now hold (.inr (.inl hnow))]
      have d1 : decide (now > 4611686018427387904) = true := decide_eq_true hnow
      have d2 : decide (4611686018427387904 < now) = true := decide_eq_true hnow
      clear hn hnow
      go_enter Try.func18, Try.ntmps18
      go_wp2_with (go_at_call 23; (with_reducible refine Calls.mono (doubt_node.calls id true _ HF.out) ?_); rintro e w1 ⟨rfl, hb_⟩; have n_ := sep_drawn HS.out hb_; clear hb_; have n0_ := Aside0.mk n_; clear HS n_; have HS := n0_; clear n0_; skip)
      go_ret
      exact ⟨rfl, HS.out⟩
    · have d1 : decide (now > 4611686018427387904) = false := decide_eq_false hnow
      have d2 : decide (4611686018427387904 < now) = false := decide_eq_false hnow
      have d3 := eq_false hnow
      by_cases h0 : hold = 0
      · rw [begin_no I id inc now hold (.inr (.inr (.inl h0)))]
        have d4 : (hold == 0) = true := by simpa using h0
        clear hn hnow h0
        go_enter Try.func18, Try.ntmps18
        go_wp2_with (go_at_call 23; (with_reducible refine Calls.mono (doubt_node.calls id true _ HF.out) ?_); rintro e w1 ⟨rfl, hb_⟩; have n_ := sep_drawn HS.out hb_; clear hb_; have n0_ := Aside0.mk n_; clear HS n_; have HS := n0_; clear n0_; skip)
        go_ret
        exact ⟨rfl, HS.out⟩
      · have d4 : (hold == 0) = false := by simpa using h0
        have d5 := eq_false h0
        by_cases h6 : 1000000 < hold
        · rw [begin_no I id inc now hold (.inr (.inr (.inr h6)))]
          have d6 : decide (hold > 1000000) = true := decide_eq_true h6
          have d7 : decide (1000000 < hold) = true := decide_eq_true h6
          clear hn hnow h0 h6
          go_enter Try.func18, Try.ntmps18
          go_wp2_with (go_at_call 23; (with_reducible refine Calls.mono (doubt_node.calls id true _ HF.out) ?_); rintro e w1 ⟨rfl, hb_⟩; have n_ := sep_drawn HS.out hb_; clear hb_; have n0_ := Aside0.mk n_; clear HS n_; have HS := n0_; clear n0_; skip)
          go_ret
          exact ⟨rfl, HS.out⟩
        · have d6 : decide (hold > 1000000) = false := decide_eq_false h6
          have d7 : decide (1000000 < hold) = false := decide_eq_false h6
          have d8 := eq_false h6
          have hm := mayB id now hold hn (by omega) h0 (by omega)
          obtain ⟨r, hr⟩ : ∃ r, beginE I id inc now hold = r := ⟨_, rfl⟩
          rw [hr]
          unfold beginE at hr
          rw [if_neg (by rw [hm]; decide)] at hr
          clear hnow h0 h6 hm
          have hn' : 1 ≤ id ∧ id ≤ 32 := by simpa [node] using hn
          have e4 : (id < 33) = True := eq_true (by omega)
          have e5 : (0 ≤ id) = True := eq_true (by omega)
          have HN := Aside0.mk hn'
          cases ht : there I id with
          | false =>
            have HT := Aside0.mk ht
            have ht := HT.out
            have ha : atP p I id = none := by unfold atP; rw [ht]; rfl
            have HA := Aside0.mk ha
            clear ha ht
            rw [if_neg (by rintro ⟨h, -⟩; rw [ht] at h; cases h)] at hr
            obtain ⟨i, rfl⟩ : ∃ i : Nat, id = (i : Int) := ⟨id.toNat, by omega⟩
            have HI : Aside0 (1 ≤ i ∧ i < 33) := ⟨by omega⟩
            have e6 := eq_true HI.out.2
            have e7 := eq_true (Int.natCast_nonneg i)
            rw [Int.toNat_natCast] at hr
            subst hr
            clear ht hn hn'
            go_enter Try.func18, Try.ntmps18
            go_upto_region 4 with (first | (go_at_call 23; (with_reducible refine Calls.mono (doubt_node.calls (i : Int) true _ HF.out) ?_); rintro e w1 ⟨rfl, hb_⟩; have n_ := sep_drawn HS.out hb_; clear hb_; have n0_ := Aside0.mk n_; clear HS n_; have HS := n0_; clear n0_; skip) | (go_at_call 24; obtain ⟨ok_, hp_, hk_⟩ := sep_use1 HS.out; have hx_ := dt_of p I (i : Int) _ ok_ hp_; rw [HT.out, HA.out] at hx_; (with_reducible refine Calls.mono hx_ ?_); rintro e w1 ⟨rfl, hq_⟩; have n_ := back1 hk_ hq_; clear hx_ hp_ hk_ hq_; have n0_ := Aside0.mk n_; clear HS n_; have HS := n0_; clear n0_))
            obtain ⟨V, n_⟩ := dt_open HS.out
            replace n_ := dt_out n_ i HI.out.2
            obtain ⟨A, c, hv, hc, hC⟩ := sep_row n_
            have HV := Aside0.mk hv
            have HC := Aside0.mk hC
            have HCC := Aside0.mk hc
            have n0_ := Aside0.mk n_; clear HS n_; have HS := n0_; clear n0_
            obtain ⟨k1, k2, k3, k4, k5⟩ := dt_facts (sep_l1 HS.out) i HI.out.2
            rw [hv] at k5
            obtain ⟨x, hx⟩ : ∃ x, I i = x := ⟨_, rfl⟩
            have HX := Aside0.mk hx
            rw [hx] at k1 k2 k3 k4 k5
            clear hv hc hC hx
            obtain ⟨f1, f2, f3, f4, f5⟩ := dt_frozen (sep_l1 HS.out) i
            go_wp2
            go_ret
            exact ⟨rfl, dt_put i HI.out.2 ⟨(i : Int), inc, now, hold, []⟩ rfl HS.out⟩
          | true =>
            have HT := Aside0.mk ht
            obtain ⟨g1, g2, g3⟩ := there_lt HT.out
            obtain ⟨i, rfl⟩ : ∃ i : Nat, id = (i : Int) := ⟨id.toNat, by omega⟩
            have ha : atP p I (i : Int) = some ⟨p, i * 5, none⟩ := by unfold atP; rw [HT.out, Int.toNat_natCast]; rfl
            have HA := Aside0.mk ha
            have HI : Aside0 (1 ≤ i ∧ i < 33) := ⟨by omega⟩
            clear ha g1 g2 g3
            rw [Int.toNat_natCast] at hr
            have HR := Aside0.mk hr
            have e6 := eq_true HI.out.2
            have e7 := eq_true (Int.natCast_nonneg i)
            clear ht hn hn' hr
            go_enter Try.func18, Try.ntmps18
            go_upto_region 4 with (first | (go_at_call 23; (with_reducible refine Calls.mono (doubt_node.calls (i : Int) true _ HF.out) ?_); rintro e w1 ⟨rfl, hb_⟩; have n_ := sep_drawn HS.out hb_; clear hb_; have n0_ := Aside0.mk n_; clear HS n_; have HS := n0_; clear n0_; skip) | (go_at_call 24; obtain ⟨ok_, hp_, hk_⟩ := sep_use1 HS.out; have hx_ := dt_of p I (i : Int) _ ok_ hp_; rw [HT.out, HA.out] at hx_; (with_reducible refine Calls.mono hx_ ?_); rintro e w1 ⟨rfl, hq_⟩; have n_ := back1 hk_ hq_; clear hx_ hp_ hk_ hq_; have n0_ := Aside0.mk n_; clear HS n_; have HS := n0_; clear n0_))
            obtain ⟨V, n_⟩ := dt_open HS.out
            replace n_ := dt_out n_ i HI.out.2
            obtain ⟨A, c, hv, hc, hC⟩ := sep_row n_
            have HV := Aside0.mk hv
            have HC := Aside0.mk hC
            have HCC := Aside0.mk hc
            have n0_ := Aside0.mk n_; clear HS n_; have HS := n0_; clear n0_
            obtain ⟨k1, k2, k3, k4, k5⟩ := dt_facts (sep_l1 HS.out) i HI.out.2
            rw [hv] at k5
            obtain ⟨x, hx⟩ : ∃ x, I i = x := ⟨_, rfl⟩
            have HX := Aside0.mk hx
            rw [hx] at k1 k2 k3 k4 k5
            clear hv hc hC hx
            have hr := HR.out
            rw [HX.out] at hr
            by_cases hle : inc ≤ x.inc
            · have q1 : decide (x.inc ≥ inc) = true := decide_eq_true hle
              have q2 : decide (inc ≤ x.inc) = true := decide_eq_true hle
              have q3 := eq_true hle
              rw [if_pos ⟨HT.out, hle⟩] at hr
              subst hr
              clear hle HR
              go_wp2
              go_ret
              exact ⟨rfl, dt_back i HI.out.2 HS.out⟩
            · have q1 : decide (x.inc ≥ inc) = false := decide_eq_false hle
              have q2 : decide (inc ≤ x.inc) = false := decide_eq_false hle
              have q3 := eq_false hle
              rw [if_neg (fun h => hle h.2)] at hr
              subst hr
              clear hle HR
              obtain ⟨f1, f2, f3, f4, f5⟩ := dt_frozen (sep_l1 HS.out) i
              go_wp2
              go_ret
              exact ⟨rfl, dt_put i HI.out.2 ⟨(i : Int), inc, now, hold, []⟩ rfl HS.out⟩
end Go.Proofs.Ythoppcefadopeaa.DW
