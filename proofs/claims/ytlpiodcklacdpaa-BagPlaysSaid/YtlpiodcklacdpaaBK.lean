/- The bag: Put, whatever comes of it; Twice. Conditions: those that each theorem names. -/
import Derived.Test.YtlpiodcklacdpaaBJ
namespace Go.Proofs.Ytlpiodcklacdpaa.BG
set_option linter.unusedVariables false
set_option linter.unusedSimpArgs false
open Go Go.RowKit Go.Proofs.YtlpiodcklacdpaaS Go.Proofs.YtlpiodcklacdpaaS.Asn Go.Proofs.Ytlpiodcklacdpaa.PA Go.Proofs.YtlpiodcklacdpaaW.PrintWords Go.Proofs.YtlpiodcklacdpaaW.PrintLast Go.Proofs.YtlpiodcklacdpaaW.PrintMore
def putE (room : Int) (l : List It) (x : It) : Int := if noneB x.fi x.fp = true ∨ noneB x.ti x.tp = true then 1 else if x.by_.size = 0 ∨ 1024 < x.by_.size then 3 else if room ≤ (l.length : Int) then 4 else 0
def putL (room : Int) (l : List It) (x : It) : List It := if putE room l x = 0 then l ++ [x] else l
theorem bytes_none {b : ByteArray} (h : b.size = 0) : b.toList.isEmpty = true := by
  obtain ⟨⟨l⟩⟩ := b
  cases l with
  | nil => decide +kernel
  | cons a r => simp [ByteArray.size] at h
theorem bag_PutE (p : Nat) (l : List It) (room : Int) (x : It) (w : World) (ok : Nat → Prop) (h6 : room ≤ 256) (h : (bagA p l room ⋆ emp).H w ok) :
    Calls Try.prog 11 #[.pointer (some ⟨p, 0, none⟩), x.val] w fun e w' => e = .returned (.int .i64 (putE room l x)) ∧ Sep w ok (bagA p (putL room l x) room ⋆ emp) w' := by
  unfold putL
  by_cases hgood : noneB x.fi x.fp = false ∧ noneB x.ti x.tp = false ∧ x.by_.size ≠ 0 ∧ x.by_.size ≤ 1024 ∧ (l.length : Int) < room
  · obtain ⟨h1, h2, h3, h4, h5⟩ := hgood
    have he : putE room l x = 0 := by unfold putE; rw [if_neg (by rw [h1, h2]; simp), if_neg (by omega), if_neg (by omega)]
    rw [he, if_pos rfl]
    exact bag_Put p l room x w ok h1 h2 h3 h4 h5 h6 h
  · obtain ⟨r, hr⟩ : ∃ r, putE room l x = r := ⟨_, rfl⟩
    have hr0 : r ≠ 0 := by
      intro h0
      apply hgood
      rw [h0] at hr
      unfold putE at hr
      by_cases a1 : noneB x.fi x.fp = true ∨ noneB x.ti x.tp = true
      · rw [if_pos a1] at hr; cases hr
      by_cases a2 : x.by_.size = 0 ∨ 1024 < x.by_.size
      · rw [if_neg a1, if_pos a2] at hr; cases hr
      by_cases a3 : room ≤ (l.length : Int)
      · rw [if_neg a1, if_neg a2, if_pos a3] at hr; cases hr
      · refine ⟨?_, ?_, ?_, ?_, ?_⟩
        · cases hc : noneB x.fi x.fp
          · rfl
          · exact absurd (.inl hc) a1
        · cases hc : noneB x.ti x.tp
          · rfl
          · exact absurd (.inr hc) a1
        · omega
        · omega
        · omega
    rw [hr, if_neg hr0]
    unfold putE at hr
    have HR := Aside0.mk hr
    have HR0 := Aside0.mk hr0
    clear hr hr0 hgood
    obtain ⟨v, hs⟩ := bag_open (sep_begin h)
    obtain ⟨A, c, rfl, hc, -⟩ := sep_row (sep_l1 hs)
    have HS := Aside0.mk hs
    obtain ⟨c1, hc1⟩ : ∃ b, noneB x.fi x.fp = b := ⟨_, rfl⟩
    obtain ⟨c2, hc2⟩ : ∃ b, noneB x.ti x.tp = b := ⟨_, rfl⟩
    have H1 : Aside0 (addr_Addr_None.f x.fi x.fp = some c1) := ⟨by rw [none_f, hc1]⟩
    have H2 : Aside0 (addr_Addr_None.f x.ti x.tp = some c2) := ⟨by rw [none_f, hc2]⟩
    have hr := HR.out
    rw [hc1, hc2] at hr
    clear HR
    have HR := Aside0.mk hr
    clear h h6 hs hc hr hc1 hc2
    unfold It.val
    go_enter Try.func11, Try.ntmps11
    go_upto_region 1 with (fail)
    have n_ := sep_alloc HS.out #[.int .u32 x.fi, .int .u16 x.fp, .int .u32 x.ti, .int .u16 x.tp, .string x.by_, .int .u64 x.t] 35
    have n0_ := Aside0.mk n_; clear HS n_; have HS := n0_; clear n0_
    generalize w.alloc (.cells #[.int .u32 x.fi, .int .u16 x.fp, .int .u32 x.ti, .int .u16 x.tp, .string x.by_, .int .u64 x.t] 35) = wa at HS ⊢
    generalize w.heap.size = g3 at HS ⊢
    obtain ⟨k1, k2, k3, k4, k5, k6⟩ := facts6 HS.out
    cases c1 with
    | true =>
      go_wp2_with (go_at_call 28; (with_reducible refine Calls.mono (addr_Addr_None.calls x.fi x.fp true _ H1.out) ?_); rintro e w1 ⟨rfl, hb_⟩; have n_ := sep_below HS.out hb_; clear hb_ HS k1 k2 k3 k4 k5 k6; have HS := Aside0.mk n_; clear n_; obtain ⟨k1, k2, k3, k4, k5, k6⟩ := facts6 HS.out)
      go_ret
      have hr := HR.out
      rw [if_pos (by simp)] at hr
      subst hr
      exact ⟨rfl, bag_mk (sep_drop HS.out)⟩
    | false =>
      cases c2 with
      | true =>
        go_wp2_with (first | (go_at_call 28; (with_reducible refine Calls.mono (addr_Addr_None.calls x.fi x.fp false _ H1.out) ?_); rintro e w1 ⟨rfl, hb_⟩; have n_ := sep_below HS.out hb_; clear hb_ HS k1 k2 k3 k4 k5 k6; have HS := Aside0.mk n_; clear n_; obtain ⟨k1, k2, k3, k4, k5, k6⟩ := facts6 HS.out) | (go_at_call 28; (with_reducible refine Calls.mono (addr_Addr_None.calls x.ti x.tp true _ H2.out) ?_); rintro e w1 ⟨rfl, hb_⟩; have n_ := sep_below HS.out hb_; clear hb_ HS k1 k2 k3 k4 k5 k6; have HS := Aside0.mk n_; clear n_; obtain ⟨k1, k2, k3, k4, k5, k6⟩ := facts6 HS.out))
        go_ret
        have hr := HR.out
        rw [if_pos (by simp)] at hr
        subst hr
        exact ⟨rfl, bag_mk (sep_drop HS.out)⟩
      | false =>
        go_upto_region 3 with (first | (go_at_call 28; (with_reducible refine Calls.mono (addr_Addr_None.calls x.fi x.fp false _ H1.out) ?_); rintro e w1 ⟨rfl, hb_⟩; have n_ := sep_below HS.out hb_; clear hb_ HS k1 k2 k3 k4 k5 k6; have HS := Aside0.mk n_; clear n_; obtain ⟨k1, k2, k3, k4, k5, k6⟩ := facts6 HS.out) | (go_at_call 28; (with_reducible refine Calls.mono (addr_Addr_None.calls x.ti x.tp false _ H2.out) ?_); rintro e w1 ⟨rfl, hb_⟩; have n_ := sep_below HS.out hb_; clear hb_ HS k1 k2 k3 k4 k5 k6; have HS := Aside0.mk n_; clear n_; obtain ⟨k1, k2, k3, k4, k5, k6⟩ := facts6 HS.out))
        by_cases h3 : x.by_.size = 0
        · have e1 : x.by_.toList.isEmpty = true := bytes_none h3
          have e4 : (x.by_.toList = []) = True := eq_true (List.isEmpty_iff.1 e1)
          go_wp2
          go_ret
          have hr := HR.out
          rw [if_neg (by simp), if_pos (.inl h3)] at hr
          subst hr
          exact ⟨rfl, bag_mk (sep_drop HS.out)⟩
        · have e1 : x.by_.toList.isEmpty = false := bytes_some h3
          have e4 : (x.by_.toList = []) = False := eq_false (fun h => by rw [h] at e1; cases e1)
          by_cases h4 : 1024 < x.by_.size
          · have e2 : decide ((1024 : Int) < (x.by_.size : Int)) = true := decide_eq_true (by omega)
            have e3 : decide ((1024 : Nat) < x.by_.size) = true := decide_eq_true (by omega)
            go_wp2
            go_ret
            have hr := HR.out
            rw [if_neg (by simp), if_pos (.inr h4)] at hr
            subst hr
            exact ⟨rfl, bag_mk (sep_drop HS.out)⟩
          · have e2 : decide ((1024 : Int) < (x.by_.size : Int)) = false := decide_eq_false (by omega)
            have e3 : decide ((1024 : Nat) < x.by_.size) = false := decide_eq_false (by omega)
            have hr := HR.out
            rw [if_neg (by simp), if_neg (by omega)] at hr
            go_upto_region 5 with (fail)
            replace HS := Aside0.mk (sep_drew HS.out)
            obtain ⟨b1, b2, b3⟩ := facts2 (sep_l1 HS.out)
            obtain ⟨r5, hr5⟩ : ∃ b, decide (room ≤ (l.length : Int)) = b := ⟨_, rfl⟩
            have h5 : r5 = true := by
              cases r5 with
              | true => rfl
              | false => rw [if_neg (of_decide_eq_false hr5)] at hr; exact absurd hr.symm HR0.out
            subst h5
            (first | go_region_held3 (fun w' => w'.cell? ⟨p, 0, none⟩ = some (.slice A l.length c) ∧ w'.cell? ⟨p, 1, none⟩ = some (.int .i64 room)) (exact ⟨b1, b2⟩) (fail) | fail)
            go_wp2
            go_ret
            rw [if_pos (of_decide_eq_true hr5)] at hr
            subst hr
            exact ⟨rfl, bag_mk (sep_drop HS.out)⟩
def twiceE (room : Int) (l : List It) (pick : Int) : Int := if (findE l 18446744073709551615 pick).2 = 0 then putE room l (l.getD (findE l 18446744073709551615 pick).1.toNat It.zero) else (findE l 18446744073709551615 pick).2
def twiceL (room : Int) (l : List It) (pick : Int) : List It := if (findE l 18446744073709551615 pick).2 = 0 then putL room l (l.getD (findE l 18446744073709551615 pick).1.toNat It.zero) else l
set_option maxHeartbeats 1000000 in
theorem bag_Twice (p : Nat) (l : List It) (room pick : Int) (w : World) (ok : Nat → Prop) (h6 : room ≤ 256) (hp : pick ≤ 9223372036854775807) (h : (bagA p l room ⋆ emp).H w ok) :
    Calls Try.prog 22 #[.pointer (some ⟨p, 0, none⟩), .int .i64 pick] w fun e w' => e = .returned (.int .i64 (twiceE room l pick)) ∧ Sep w ok (bagA p (twiceL room l pick) room ⋆ emp) w' := by
  have HS := Aside0.mk (sep_begin h)
  have HP := Aside0.mk hp
  have H6 := Aside0.mk h6
  clear h hp h6
  obtain ⟨r1, hr1⟩ : ∃ r, twiceE room l pick = r := ⟨_, rfl⟩
  obtain ⟨r2, hr2⟩ : ∃ r, twiceL room l pick = r := ⟨_, rfl⟩
  rw [hr1, hr2]
  unfold twiceE at hr1
  unfold twiceL at hr2
  have hfl := findE_lt (l := l) (u := 18446744073709551615) (pick := pick)
  obtain ⟨⟨fa, fe⟩, hf1⟩ : ∃ f, findE l 18446744073709551615 pick = f := ⟨_, rfl⟩
  have HF := Aside0.mk hf1
  rw [hf1] at hr1 hr2 hfl
  have HR := Aside0.mk (And.intro hr1 (And.intro hr2 hfl))
  clear hr1 hr2 hfl hf1
  go_enter Try.func22, Try.ntmps22
  go_upto_region 2 with (go_at_call 30; obtain ⟨ok_, hp_, hk_⟩ := sep_use1 HS.out; have hx_ := bag_find p l room 18446744073709551615 pick _ ok_ HP.out hp_; rw [HF.out] at hx_; (with_reducible refine Calls.mono hx_ ?_); rintro e w1 ⟨rfl, hq_⟩; have n_ := back1 hk_ hq_; clear hx_ hp_ hk_ hq_; have n0_ := Aside0.mk n_; clear HS n_; have HS := n0_; clear n0_)
  obtain ⟨hr1, hr2, hfl⟩ := HR.out
  clear HR HF
  by_cases h0 : fe = 0
  · subst h0
    rw [if_pos rfl] at hr1 hr2
    obtain ⟨k, hk, hkl⟩ := hfl rfl
    have hk' : fa = k := hk
    subst hk'
    clear hk
    obtain ⟨x, hx⟩ : ∃ x, l[k]? = some x := ⟨_, List.getElem?_eq_getElem hkl⟩
    rw [show ((k : Int)).toNat = k from Int.toNat_natCast k, List.getD_eq_getElem?_getD, hx, Option.getD_some] at hr1 hr2
    have HB := HS
    obtain ⟨v, n_⟩ := bag_open HS.out
    obtain ⟨A, c, rfl, -, hC⟩ := sep_row (sep_l1 n_)
    have HLN := Aside0.mk hC.2.1
    obtain ⟨ad, hA, m1, m2, m3, m4, m5, m6⟩ := it_at hC k x hx
    subst hA
    obtain ⟨b1, b2, b3⟩ := facts2 n_
    have c1b : decide ((k : Int) < (l.length : Int)) = true := decide_eq_true (Int.ofNat_lt.2 hkl); have c1n : decide (k < l.length) = true := decide_eq_true hkl; have c1q : (k < l.length) = True := eq_true hkl; have p0_ := eq_true (Int.natCast_nonneg k)
    clear hfl hC hx hkl n_ HS
    have HRR := Aside0.mk (And.intro hr1 hr2)
    clear hr1 hr2
    go_wp2_with (go_at_call 11; obtain ⟨ok_, hp_, hk_⟩ := sep_use1 HB.out; have hx_ := bag_PutE p l room x _ ok_ H6.out hp_; unfold It.val at hx_; (with_reducible refine Calls.mono hx_ ?_); rintro e w2 ⟨rfl, hq_⟩; have n_ := back1 hk_ hq_; clear hx_ hp_ hk_ hq_; clear HB; have HS := Aside0.mk n_; clear n_)
    go_ret
    obtain ⟨hr1, hr2⟩ := HRR.out
    subst hr1
    subst hr2
    exact ⟨rfl, HS.out⟩
  · rw [if_neg h0] at hr1 hr2
    have t1 : decide (fe = 0) = false := decide_eq_false h0
    have t2 : (fe == 0) = false := by simpa using h0
    have t3 := eq_false h0
    clear hfl
    go_wp2
    go_ret
    subst hr1
    subst hr2
    exact ⟨rfl, HS.out⟩
end Go.Proofs.Ytlpiodcklacdpaa.BG
