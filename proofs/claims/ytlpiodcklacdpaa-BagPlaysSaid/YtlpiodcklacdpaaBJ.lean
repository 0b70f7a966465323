/- The bag: away, Take, Drop, Twice. Conditions: those that each theorem names. -/
import Derived.Test.YtlpiodcklacdpaaBI
namespace Go.Proofs.Ytlpiodcklacdpaa.BG
set_option linter.unusedVariables false
set_option linter.unusedSimpArgs false
open Go Go.RowKit Go.Proofs.YtlpiodcklacdpaaS Go.Proofs.YtlpiodcklacdpaaS.Asn Go.Proofs.Ytlpiodcklacdpaa.PA Go.Proofs.YtlpiodcklacdpaaW.PrintWords Go.Proofs.YtlpiodcklacdpaaW.PrintLast Go.Proofs.YtlpiodcklacdpaaW.PrintMore
def It.zero : It := ⟨0, 0, 0, 0, ⟨#[]⟩, 0⟩
def It.val (x : It) : Value := .agg #[.int .u32 x.fi, .int .u16 x.fp, .int .u32 x.ti, .int .u16 x.tp, .string x.by_, .int .u64 x.t]
def awayE (l : List It) (u pick : Int) : It × Int × List It := if (findE l u pick).2 = 0 then (l.getD (findE l u pick).1.toNat It.zero, 0, l.eraseIdx (findE l u pick).1.toNat) else (It.zero, (findE l u pick).2, l)
theorem findE_lt {l : List It} {u pick : Int} (h : (findE l u pick).2 = 0) : ∃ k : Nat, (findE l u pick).1 = k ∧ k < l.length := by
  unfold findE at h ⊢
  by_cases h0 : pick < 0
  · rw [if_pos h0] at h; cases h
  · by_cases h1 : rdy l u = 0
    · rw [if_neg h0, if_pos h1] at h; cases h
    · rw [if_neg h0, if_neg h1]
      exact ⟨_, rfl, (pos_lt (Nat.mod_lt _ (by omega))).1⟩
theorem facts6f {w0 w : World} {ok0 : Nat → Prop} {F : Asn} {g : Nat} {t : TypeId} {a b c d e f : Value} (h : Sep w0 ok0 (pt g #[a, b, c, d, e, f] t ⋆ F) w) :
    w.frozen? ⟨g, 0, none⟩ = false ∧ w.frozen? ⟨g, 1, none⟩ = false ∧ w.frozen? ⟨g, 2, none⟩ = false ∧ w.frozen? ⟨g, 3, none⟩ = false ∧ w.frozen? ⟨g, 4, none⟩ = false ∧ w.frozen? ⟨g, 5, none⟩ = false :=
  ⟨sep_frozen h 0, sep_frozen h 1, sep_frozen h 2, sep_frozen h 3, sep_frozen h 4, sep_frozen h 5⟩
theorem sep_set6 {w0 w : World} {ok0 : Nat → Prop} {F : Asn} {g : Nat} {t : TypeId} {a b c d e f : Value} (h : Sep w0 ok0 (pt g #[a, b, c, d, e, f] t ⋆ F) w) (a' b' c' d' e' f' : Value) :
    Sep w0 ok0 (pt g #[a', b', c', d', e', f'] t ⋆ F) ((((((w.setCell ⟨g, 0, none⟩ a').setCell ⟨g, 1, none⟩ b').setCell ⟨g, 2, none⟩ c').setCell ⟨g, 3, none⟩ d').setCell ⟨g, 4, none⟩ e').setCell ⟨g, 5, none⟩ f') :=
  sep_set (sep_set (sep_set (sep_set (sep_set (sep_set h 0 a') 1 b') 2 c') 3 d') 4 e') 5 f'
set_option maxHeartbeats 1000000 in
theorem bag_away (p : Nat) (l : List It) (room u pick : Int) (w : World) (ok : Nat → Prop) (hp : pick ≤ 9223372036854775807) (h : (bagA p l room ⋆ emp).H w ok) :
    Calls Try.prog 29 #[.pointer (some ⟨p, 0, none⟩), .int .u64 u, .int .i64 pick] w fun e w' => e = .returned (.tuple #[(awayE l u pick).1.val, .int .i64 (awayE l u pick).2.1]) ∧ Sep w ok (bagA p (awayE l u pick).2.2 room ⋆ emp) w' := by
  have HS := Aside0.mk (sep_begin h)
  have HP := Aside0.mk hp
  clear h hp
  obtain ⟨r, hr⟩ : ∃ r, awayE l u pick = r := ⟨_, rfl⟩
  rw [hr]
  unfold awayE at hr
  have HR := Aside0.mk hr
  have hfl := findE_lt (l := l) (u := u) (pick := pick)
  have HFL := Aside0.mk hfl
  obtain ⟨f1, hf1⟩ : ∃ f, findE l u pick = f := ⟨_, rfl⟩
  obtain ⟨fa, fe⟩ := f1
  have HF := Aside0.mk hf1
  clear hr hfl hf1
  go_enter Try.func29, Try.ntmps29
  go_upto_region 1 with (fail)
  have n_ := sep_alloc HS.out #[.int .u32 0, .int .u16 0, .int .u32 0, .int .u16 0, .string ⟨#[]⟩, .int .u64 0] 35
  have n0_ := Aside0.mk n_; clear HS n_; have HS := n0_; clear n0_
  generalize w.alloc (.cells #[.int .u32 0, .int .u16 0, .int .u32 0, .int .u16 0, .string ⟨#[]⟩, .int .u64 0] 35) = wa at HS ⊢
  generalize w.heap.size = g6 at HS ⊢
  go_upto_region 2 with (go_at_call 30; obtain ⟨ok_, hp_, hk_⟩ := sep_use1 (sep_l1 HS.out); have hx_ := bag_find p l room u pick _ ok_ HP.out hp_; rw [HF.out] at hx_; (with_reducible refine Calls.mono hx_ ?_); rintro e w1 ⟨rfl, hq_⟩; have n_ := sep_l1 (back1 hk_ hq_); clear hx_ hp_ hk_ hq_; have n0_ := Aside0.mk n_; clear HS n_; have HS := n0_; clear n0_)
  obtain ⟨k1, k2, k3, k4, k5, k6⟩ := facts6 HS.out
  obtain ⟨q1, q2, q3, q4, q5, q6⟩ := facts6f HS.out
  have hr := HR.out
  have hfl := HFL.out
  rw [HF.out] at hr hfl
  clear HR HFL HF
  by_cases h0 : fe = 0
  · subst h0
    rw [if_pos rfl] at hr
    obtain ⟨k, hk, hkl⟩ := hfl rfl
    have hk' : fa = k := hk
    subst hk'
    clear hk
    obtain ⟨x, hx⟩ : ∃ x, l[k]? = some x := ⟨_, List.getElem?_eq_getElem hkl⟩
    rw [show ((k : Int)).toNat = k from Int.toNat_natCast k, List.getD_eq_getElem?_getD, hx, Option.getD_some] at hr
    obtain ⟨v, n_⟩ := bag_open (sep_l1 HS.out)
    obtain ⟨A, c, rfl, -, hC⟩ := sep_row (sep_l1 n_)
    have HLN := Aside0.mk hC.2.1
    obtain ⟨ad, hA, m1, m2, m3, m4, m5, m6⟩ := it_at hC k x hx
    subst hA
    obtain ⟨b1, b2, b3⟩ := facts2 n_
    have c1b : decide ((k : Int) < (l.length : Int)) = true := decide_eq_true (Int.ofNat_lt.2 hkl); have c1n : decide (k < l.length) = true := decide_eq_true hkl; have c1q : (k < l.length) = True := eq_true hkl; have p0_ := eq_true (Int.natCast_nonneg k)
    have HK := Aside0.mk hkl
    have HRR := Aside0.mk hr
    clear hfl hr hC hx hkl
    have n0_ := Aside0.mk n_; clear HS n_; have HS := n0_; clear n0_
    go_upto_region 5 with (fail)
    have n_ := sep_alloc HS.out #[.int .u32 x.fi, .int .u16 x.fp, .int .u32 x.ti, .int .u16 x.tp, .string x.by_, .int .u64 x.t] 35
    have n0_ := Aside0.mk n_; clear HS n_; have HS := n0_; clear n0_
    generalize w1.alloc (.cells #[.int .u32 x.fi, .int .u16 x.fp, .int .u32 x.ti, .int .u16 x.tp, .string x.by_, .int .u64 x.t] 35) = wb at HS ⊢
    generalize w1.heap.size = g10 at HS ⊢
    clear m1 m2 m3 m4 m5 m6 k1 k2 k3 k4 k5 k6 q1 q2 q3 q4 q5 q6 b1 b2 b3
    obtain ⟨b1, b2, b3⟩ := facts2 (sep_l1 HS.out)
    go_upto_region 6 with (go_at_call 35; obtain ⟨ok_, hp_, hk_⟩ := sep_use1 (sep_l2 HS.out); have hx_ := item_Delete (some ad) c l k (wrap64 ((k : Int) + 1)) _ ok_ (by have := HLN.out; have := HK.out; unfold wrap64; omega) HK.out hp_; generalize l.eraseIdx k = l2 at hx_ HRR; (with_reducible refine Calls.mono hx_ ?_); rintro e w2 ⟨v2, rfl, hq_⟩; have n_ := back1 hk_ hq_; clear hx_ hp_ hk_ hq_ b1 b2 b3; obtain ⟨A2, c2, rfl, -, -⟩ := sep_row n_; have n0_ := Aside0.mk n_; clear HS n_; have HS := n0_; clear n0_; obtain ⟨b1, b2, b3⟩ := facts2 (sep_l2 HS.out))
    have n_ := bag_mk (sep_set (sep_l2 HS.out) 0 (.slice A2 l2.length c2))
    have n0_ := Aside0.mk n_; clear HS n_; have HS := n0_; clear n0_
    generalize w2.setCell ⟨p, 0, none⟩ (.slice A2 l2.length c2) = w3 at HS ⊢
    clear b1 b2 b3
    obtain ⟨k1, k2, k3, k4, k5, k6⟩ := facts6 (sep_l1 HS.out)
    obtain ⟨m1, m2, m3, m4, m5, m6⟩ := facts6 (sep_l2 HS.out)
    obtain ⟨q1, q2, q3, q4, q5, q6⟩ := facts6f (sep_l2 HS.out)
    go_wp2
    have n_ := sep_set6 (sep_l2 HS.out) (.int .u32 x.fi) (.int .u16 x.fp) (.int .u32 x.ti) (.int .u16 x.tp) (.string x.by_) (.int .u64 x.t)
    refine bodyPost_ret (results_ct rfl _ _ g6 35 #[.int .u32 x.fi, .int .u16 x.fp, .int .u32 x.ti, .int .u16 x.tp, .string x.by_, .int .u64 x.t] (0, 0) _ rfl (sep_pt n_) Try.underlying35 rfl (by kernel_rfl)) rfl ?_
    have hr := HRR.out
    subst hr
    exact ⟨rfl, sep_drop (sep_l1 (sep_drop n_))⟩
  · rw [if_neg h0] at hr
    have t1 : decide (fe = 0) = false := decide_eq_false h0
    have t2 : (fe == 0) = false := by simpa using h0
    have t3 := eq_false h0
    clear hfl
    go_wp2
    have n_ := sep_set6 HS.out (.int .u32 0) (.int .u16 0) (.int .u32 0) (.int .u16 0) (.string ⟨#[]⟩) (.int .u64 0)
    refine bodyPost_ret (results_ct rfl _ _ g6 35 #[.int .u32 It.zero.fi, .int .u16 It.zero.fp, .int .u32 It.zero.ti, .int .u16 It.zero.tp, .string It.zero.by_, .int .u64 It.zero.t] (0, 0) _ rfl (sep_pt n_) Try.underlying35 rfl (by kernel_rfl)) rfl ?_
    subst hr
    exact ⟨rfl, sep_drop n_⟩
set_option maxHeartbeats 1000000 in
theorem bag_Take (p : Nat) (l : List It) (room u pick : Int) (w : World) (ok : Nat → Prop) (hp : pick ≤ 9223372036854775807) (h : (bagA p l room ⋆ emp).H w ok) :
    Calls Try.prog 13 #[.pointer (some ⟨p, 0, none⟩), .int .u64 u, .int .i64 pick] w fun e w' => e = .returned (.tuple #[(awayE l u pick).1.val, .int .i64 (awayE l u pick).2.1]) ∧ Sep w ok (bagA p (awayE l u pick).2.2 room ⋆ emp) w' := by
  have HS := Aside0.mk (sep_begin h)
  have HP := Aside0.mk hp
  clear h hp
  obtain ⟨x, fe, l2, hr⟩ : ∃ x fe l2, awayE l u pick = (x, fe, l2) := ⟨_, _, _, rfl⟩
  have HR := Aside0.mk hr
  rw [hr]
  clear hr
  go_enter Try.func13, Try.ntmps13
  go_upto_region 1 with (fail)
  have n_ := sep_alloc HS.out #[.int .u32 0, .int .u16 0, .int .u32 0, .int .u16 0, .string ⟨#[]⟩, .int .u64 0] 35
  have n0_ := Aside0.mk n_; clear HS n_; have HS := n0_; clear n0_
  generalize w.alloc (.cells #[.int .u32 0, .int .u16 0, .int .u32 0, .int .u16 0, .string ⟨#[]⟩, .int .u64 0] 35) = wa at HS ⊢
  generalize w.heap.size = g6 at HS ⊢
  go_wp2_with (go_at_call 29; obtain ⟨ok_, hp_, hk_⟩ := sep_use1 (sep_l1 HS.out); have hx_ := bag_away p l room u pick _ ok_ HP.out hp_; rw [HR.out] at hx_; (with_reducible refine Calls.mono hx_ ?_); rintro e w1 ⟨rfl, hq_⟩; have n_ := sep_l1 (back1 hk_ hq_); clear hx_ hp_ hk_ hq_; have n0_ := Aside0.mk n_; clear HS n_; have HS := n0_; clear n0_; obtain ⟨k1, k2, k3, k4, k5, k6⟩ := facts6 HS.out; obtain ⟨q1, q2, q3, q4, q5, q6⟩ := facts6f HS.out; unfold It.val)
  have n_ := sep_set6 HS.out (.int .u32 x.fi) (.int .u16 x.fp) (.int .u32 x.ti) (.int .u16 x.tp) (.string x.by_) (.int .u64 x.t)
  refine bodyPost_ret (results_ct rfl _ _ g6 35 #[.int .u32 x.fi, .int .u16 x.fp, .int .u32 x.ti, .int .u16 x.tp, .string x.by_, .int .u64 x.t] (0, 0) _ rfl (sep_pt n_) Try.underlying35 rfl (by kernel_rfl)) rfl ?_
  exact ⟨rfl, sep_drop n_⟩
set_option maxHeartbeats 1000000 in
theorem bag_Drop (p : Nat) (l : List It) (room pick : Int) (w : World) (ok : Nat → Prop) (hp : pick ≤ 9223372036854775807) (h : (bagA p l room ⋆ emp).H w ok) :
    Calls Try.prog 20 #[.pointer (some ⟨p, 0, none⟩), .int .i64 pick] w fun e w' => e = .returned (.tuple #[(awayE l 18446744073709551615 pick).1.val, .int .i64 (awayE l 18446744073709551615 pick).2.1]) ∧ Sep w ok (bagA p (awayE l 18446744073709551615 pick).2.2 room ⋆ emp) w' := by
  have HS := Aside0.mk (sep_begin h)
  have HP := Aside0.mk hp
  clear h hp
  obtain ⟨x, fe, l2, hr⟩ : ∃ x fe l2, awayE l 18446744073709551615 pick = (x, fe, l2) := ⟨_, _, _, rfl⟩
  have HR := Aside0.mk hr
  rw [hr]
  clear hr
  go_enter Try.func20, Try.ntmps20
  go_upto_region 1 with (fail)
  have n_ := sep_alloc HS.out #[.int .u32 0, .int .u16 0, .int .u32 0, .int .u16 0, .string ⟨#[]⟩, .int .u64 0] 35
  have n0_ := Aside0.mk n_; clear HS n_; have HS := n0_; clear n0_
  generalize w.alloc (.cells #[.int .u32 0, .int .u16 0, .int .u32 0, .int .u16 0, .string ⟨#[]⟩, .int .u64 0] 35) = wa at HS ⊢
  generalize w.heap.size = g6 at HS ⊢
  go_wp2_with (go_at_call 29; obtain ⟨ok_, hp_, hk_⟩ := sep_use1 (sep_l1 HS.out); have hx_ := bag_away p l room 18446744073709551615 pick _ ok_ HP.out hp_; rw [HR.out] at hx_; (with_reducible refine Calls.mono hx_ ?_); rintro e w1 ⟨rfl, hq_⟩; have n_ := sep_l1 (back1 hk_ hq_); clear hx_ hp_ hk_ hq_; have n0_ := Aside0.mk n_; clear HS n_; have HS := n0_; clear n0_; obtain ⟨k1, k2, k3, k4, k5, k6⟩ := facts6 HS.out; obtain ⟨q1, q2, q3, q4, q5, q6⟩ := facts6f HS.out; unfold It.val)
  have n_ := sep_set6 HS.out (.int .u32 x.fi) (.int .u16 x.fp) (.int .u32 x.ti) (.int .u16 x.tp) (.string x.by_) (.int .u64 x.t)
  refine bodyPost_ret (results_ct rfl _ _ g6 35 #[.int .u32 x.fi, .int .u16 x.fp, .int .u32 x.ti, .int .u16 x.tp, .string x.by_, .int .u64 x.t] (0, 0) _ rfl (sep_pt n_) Try.underlying35 rfl (by kernel_rfl)) rfl ?_
  exact ⟨rfl, sep_drop n_⟩
end Go.Proofs.Ytlpiodcklacdpaa.BG
