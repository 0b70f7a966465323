/- The reference's bag: Take, Drop. Conditions: those that each theorem names. -/
import Derived.Test.YtlpiodcklacdpaaRB
import Derived.Test.YtlpiodcklacdpaaLX
namespace Go.Proofs.Ytlpiodcklacdpaa.BG
set_option linter.unusedVariables false
set_option linter.unusedSimpArgs false
open Go Go.RowKit Go.Proofs.YtlpiodcklacdpaaS Go.Proofs.YtlpiodcklacdpaaS.Asn Go.Proofs.Ytlpiodcklacdpaa.PA Go.Proofs.YtlpiodcklacdpaaW.PrintWords Go.Proofs.YtlpiodcklacdpaaW.PrintLast Go.Proofs.YtlpiodcklacdpaaW.PrintMore
/-- One that is ready is taken, told by its place. -/
theorem take_at {l : List It} {u pick : Int} (h : 0 ≤ pick) (h0 : 0 < rdy l u) : ∃ x, l[pos u l (pick.toNat % rdy l u)]? = some x ∧ awayE l u pick = (x, 0, l.eraseIdx (pos u l (pick.toNat % rdy l u))) := by
  have hk := Nat.mod_lt pick.toNat h0
  obtain ⟨h1, -⟩ := pos_lt hk
  obtain ⟨x, hx⟩ : ∃ x, l[pos u l (pick.toNat % rdy l u)]? = some x := ⟨_, List.getElem?_eq_getElem h1⟩
  refine ⟨x, hx, ?_⟩
  unfold awayE
  rw [find_one h h0, if_pos rfl]
  show (l.getD (Int.toNat ((pos u l (pick.toNat % rdy l u) : Nat) : Int)) It.zero, 0, l.eraseIdx (Int.toNat ((pos u l (pick.toNat % rdy l u) : Nat) : Int))) = _
  rw [Int.toNat_natCast, List.getD_eq_getElem?_getD, hx, Option.getD_some]
theorem away_neg {l : List It} {u pick : Int} (h : pick < 0) : awayE l u pick = (It.zero, 1, l) := by
  have hf : findE l u pick = (0, 1) := by unfold findE; rw [if_pos h]
  unfold awayE
  rw [hf]
  rfl
theorem away_none {l : List It} {u pick : Int} (h : 0 ≤ pick) (h0 : rdy l u = 0) : awayE l u pick = (It.zero, 5, l) := by
  have hf : findE l u pick = (0, 5) := by unfold findE; rw [if_neg (show ¬ pick < 0 by omega), if_pos h0]
  unfold awayE
  rw [hf]
  rfl
set_option maxHeartbeats 4000000 in
set_option maxRecDepth 100000 in
theorem rbag_Take (p : Nat) (l : List It) (room u pick : Int) (w : World) (ok : Nat → Prop) (hp : pick ≤ 9223372036854775807) (hm : l.length ≤ 100000) (h : (refA p l room ⋆ emp).H w ok) :
    Calls Try.prog 18 #[.pointer (some ⟨p, 0, none⟩), .int .u64 u, .int .i64 pick] w fun e w' => e = .returned (.tuple #[(awayE l u pick).1.val, .int .i64 (awayE l u pick).2.1]) ∧ Sep w ok (refA p (awayE l u pick).2.2 room ⋆ emp) w' := by
  have HS := Aside0.mk (sep_begin h)
  have HP := Aside0.mk hp
  have HM := Aside0.mk hm
  clear h hp hm
  obtain ⟨r, hr⟩ : ∃ r, awayE l u pick = r := ⟨_, rfl⟩
  rw [hr]
  have HR := Aside0.mk hr
  clear hr
  go_enter Try.func18, Try.ntmps18
  go_upto_region 1 with (fail)
  have n_ := sep_l1 (sep_alloc HS.out #[.int .u32 0, .int .u16 0, .int .u32 0, .int .u16 0, .string ⟨#[]⟩, .int .u64 0] 56)
  have n0_ := Aside0.mk n_; clear HS n_; have HS := n0_; clear n0_
  generalize w.alloc (.cells #[.int .u32 0, .int .u16 0, .int .u32 0, .int .u16 0, .string ⟨#[]⟩, .int .u64 0] 56) = wa at HS ⊢
  generalize w.heap.size = g6 at HS ⊢
  obtain ⟨k1, k2, k3, k4, k5, k6⟩ := facts6 (sep_l1 HS.out)
  obtain ⟨q1, q2, q3, q4, q5, q6⟩ := facts6f (sep_l1 HS.out)
  by_cases h0 : pick < 0
  · have e1 : decide (pick < 0) = true := decide_eq_true h0
    go_wp2
    have n_ := sep_set6 (sep_l1 HS.out) (.int .u32 0) (.int .u16 0) (.int .u32 0) (.int .u16 0) (.string ⟨#[]⟩) (.int .u64 0)
    refine bodyPost_ret (results_ct rfl _ _ g6 56 #[.int .u32 It.zero.fi, .int .u16 It.zero.fp, .int .u32 It.zero.ti, .int .u16 It.zero.tp, .string It.zero.by_, .int .u64 It.zero.t] (0, 0) _ rfl (sep_pt n_) Try.underlying56 rfl (by kernel_rfl)) rfl ?_
    have hr := HR.out
    rw [away_neg (by omega)] at hr
    subst hr
    exact ⟨rfl, sep_drop n_⟩
  · have e1 : decide (pick < 0) = false := decide_eq_false h0
    obtain ⟨k, rfl⟩ : ∃ k : Nat, pick = k := ⟨pick.toNat, by omega⟩
    go_upto_region 4 with (go_at_call 27; obtain ⟨ok_, hp_, hk_⟩ := sep_use1 HS.out; have hx_ := rbag_Ready p l room u _ ok_ hp_; (with_reducible refine Calls.mono hx_ ?_); rintro e w1 ⟨rfl, hq_⟩; have n_ := back1 hk_ hq_; clear hx_ hp_ hk_ hq_ k1 k2 k3 k4 k5 k6 q1 q2 q3 q4 q5 q6; have n0_ := Aside0.mk n_; clear HS n_; have HS := n0_; clear n0_; obtain ⟨k1, k2, k3, k4, k5, k6⟩ := facts6 (sep_l1 HS.out); obtain ⟨q1, q2, q3, q4, q5, q6⟩ := facts6f (sep_l1 HS.out))
    rcases Nat.eq_zero_or_pos (rdy l u) with h1 | h1
    · have e2 : (((rdy l u : Nat) : Int) == 0) = true := by rw [h1]; rfl
      have e3 : decide (((rdy l u : Nat) : Int) = 0) = true := by rw [h1]; rfl
      have e4 := eq_true h1
      go_wp2
      have n_ := sep_set6 (sep_l1 HS.out) (.int .u32 0) (.int .u16 0) (.int .u32 0) (.int .u16 0) (.string ⟨#[]⟩) (.int .u64 0)
      refine bodyPost_ret (results_ct rfl _ _ g6 56 #[.int .u32 It.zero.fi, .int .u16 It.zero.fp, .int .u32 It.zero.ti, .int .u16 It.zero.tp, .string It.zero.by_, .int .u64 It.zero.t] (0, 0) _ rfl (sep_pt n_) Try.underlying56 rfl (by kernel_rfl)) rfl ?_
      have hr := HR.out
      rw [away_none (by omega) h1] at hr
      subst hr
      exact ⟨rfl, sep_drop n_⟩
    · have e2 : (((rdy l u : Nat) : Int) == 0) = false := by rw [beq_eq_false_iff_ne]; omega
      have e3 : decide (((rdy l u : Nat) : Int) = 0) = false := decide_eq_false (by omega)
      have e4 : (rdy l u = 0) = False := eq_false (by omega)
      obtain ⟨x, hx, hr0⟩ := take_at (pick := (k : Int)) (Int.natCast_nonneg k) h1
      have hm : k % rdy l u < rdy l u := Nat.mod_lt _ h1
      have m1 : ((k : Int) % ((rdy l u : Nat) : Int)) = ((k % rdy l u : Nat) : Int) := rfl
      have m2 : Int.tmod (k : Int) ((rdy l u : Nat) : Int) = ((k % rdy l u : Nat) : Int) := by rw [Int.tmod_eq_emod_of_nonneg (by omega)]; rfl
      rw [Int.toNat_natCast] at hx hr0
      have hr := HR.out
      rw [hr0] at hr
      clear HR hr0
      have HR := Aside0.mk (And.intro hr hx)
      clear hr hx
      generalize k % rdy l u = k0 at HR hm m1 m2
      have HK0 := Aside0.mk hm
      clear hm
      go_upto_region 8 with (fail)
      clear k1 k2 k3 k4 k5 k6 q1 q2 q3 q4 q5 q6 e1 e2 e3 e4 m1 m2 h1
      obtain ⟨v, n_⟩ := ref_open HS.out
      obtain ⟨A, c, rfl, hc, hC⟩ := sep_row (sep_l1 n_)
      have HLN := Aside0.mk hC.2.1
      have HCC := Aside0.mk hc
      clear hc hC
      have n0_ := Aside0.mk n_; clear HS n_; have HS := n0_; clear n0_
      go_loopg [9, 10] l.length (fun gg v9 v10 wr => ∃ i k1 : Nat, l.length - i ≤ gg ∧ v9 = .int .i64 (k1 : Int) ∧ v10 = .int .i64 (i : Int) ∧ Aside0 (k1 < rdy (l.drop i) u) ∧ Aside0 (i + pos u (l.drop i) k1 = pos u l k0) ∧ Aside0 (Sep w ok (pt p #[.slice A l.length c, .int .i64 room] 69 ⋆ row itK 56 (.slice A l.length c) l ⋆ pt g6 #[.int .u32 0, .int .u16 0, .int .u32 0, .int .u16 0, .string ⟨#[]⟩, .int .u64 0] 56 ⋆ emp) wr))
      case atStart => exact ⟨0, k0, by omega, rfl, rfl, ⟨by rw [List.drop_zero]; exact HK0.out⟩, ⟨by rw [List.drop_zero, Nat.zero_add]⟩, HS⟩
      case round =>
        clear HS
        obtain ⟨i, k1, hgi, rfl, rfl, HK, HE, HS⟩ := hrel
        obtain ⟨b1, b2, b3⟩ := facts2 HS.out
        have hlt := rdy_lt HK.out
        obtain ⟨y, hy⟩ : ∃ y, l[i]? = some y := ⟨_, List.getElem?_eq_getElem hlt⟩
        have HX := Aside0.mk (pos_drop (u := u) (k := k1) hy)
        have c1b : decide ((i : Int) < (l.length : Int)) = true := decide_eq_true (Int.ofNat_lt.2 hlt); have c1n : decide (i < l.length) = true := decide_eq_true hlt; have c1q : (i < l.length) = True := eq_true hlt; have p0_ := eq_true (Int.natCast_nonneg i)
        obtain ⟨ad, hA, m1, m2, m3, m4, m5, m6⟩ := it_at (sep_row' (sep_l1 HS.out)).2.2 i y hy
        subst hA
        have HI := Aside0.mk (And.intro hlt hgi)
        clear hlt hgi hy
        by_cases hyu : y.t ≤ u
        · have d1 : decide (u < y.t) = false := decide_eq_false (by omega)
          have d2 : (u < y.t) = False := eq_false (by omega)
          have d6 : decide (y.t ≤ u) = true := decide_eq_true hyu
          rcases Nat.eq_zero_or_pos k1 with hk | hk
          · subst hk
            have HU := Aside0.mk (HX.out.1 hyu rfl)
            have HII : Aside0 (i = pos u l k0) := ⟨by have h1 := HE.out; have h2 := HU.out; omega⟩
            clear hyu
            have n_ := sep_l1 (ref_mk HS.out)
            replace n_ := sep_l1 n_
            have n0_ := Aside0.mk n_; clear HS n_; have HS := n0_; clear n0_
            go_upto_region 12 with (fail)
            clear m1 m2 m3 m4 m5 m6 b1 b2 b3 d1 d2 d6
            have hx := HR.out.2
            have hr := HR.out.1
            rw [← HII.out] at hx hr
            clear HR HII HE HU HX
            have HR := Aside0.mk (And.intro hr hx)
            clear hr hx
            go_wp2_with (go_at_call 32; obtain ⟨ok_, hp_, hk_⟩ := sep_use1 HS.out; have hx_ := rbag_cut p l room i x _ ok_ HR.out.2 HM.out hp_; unfold It.val at hx_; (with_reducible refine Calls.mono hx_ ?_); rintro e w2 ⟨rfl, hq_⟩; have n_ := back1 hk_ hq_; clear hx_ hp_ hk_ hq_; have n0_ := Aside0.mk n_; clear HS n_; have HS := n0_; clear n0_; obtain ⟨k1, k2, k3, k4, k5, k6⟩ := facts6 (sep_l1 HS.out); obtain ⟨q1, q2, q3, q4, q5, q6⟩ := facts6f (sep_l1 HS.out))
            have n_ := sep_set6 (sep_l1 HS.out) (.int .u32 x.fi) (.int .u16 x.fp) (.int .u32 x.ti) (.int .u16 x.tp) (.string x.by_) (.int .u64 x.t)
            refine bodyPost_ret (results_ct rfl _ _ g6 56 #[.int .u32 x.fi, .int .u16 x.fp, .int .u32 x.ti, .int .u16 x.tp, .string x.by_, .int .u64 x.t] (0, 0) _ rfl (sep_pt n_) Try.underlying56 rfl (by kernel_rfl)) rfl ?_
            have hr := HR.out.1
            subst hr
            exact ⟨rfl, sep_drop n_⟩
          · have d3 : decide (0 < k1) = true := decide_eq_true hk
            have d4 : decide ((0 : Int) < (k1 : Int)) = true := decide_eq_true (by omega)
            have d5 := eq_true hk
            have HU := Aside0.mk (HX.out.2.1 hyu hk)
            have HH := Aside0.mk hk
            clear hyu hk
            go_wp2
            go_roundg (l.length - (i + 1))
            case measure => have := HI.out; omega
            case rel => exact ⟨i + 1, k1 - 1, Nat.le_refl _, congrArg (Value.int .i64) (by have := HH.out; have := HK.out; have := HLN.out; have := rdy_le (l.drop i) u; rw [List.length_drop] at this; unfold wrap64; omega), congrArg (Value.int .i64) (by have := HI.out; have := HLN.out; unfold wrap64; omega), ⟨HU.out.2 HK.out⟩, ⟨by have := HE.out; rw [HU.out.1] at this; omega⟩, HS⟩
        · have d1 : decide (u < y.t) = true := decide_eq_true (by omega)
          have d2 : (u < y.t) = True := eq_true (by omega)
          have d6 : decide (y.t ≤ u) = false := decide_eq_false hyu
          have HU := Aside0.mk (HX.out.2.2 hyu)
          clear hyu
          go_wp2
          go_roundg (l.length - (i + 1))
          case measure => have := HI.out; omega
          case rel => exact ⟨i + 1, k1, Nat.le_refl _, rfl, congrArg (Value.int .i64) (by have := HI.out; have := HLN.out; unfold wrap64; omega), ⟨HU.out.2 HK.out⟩, ⟨by have := HE.out; rw [HU.out.1] at this; omega⟩, HS⟩
end Go.Proofs.Ytlpiodcklacdpaa.BG
