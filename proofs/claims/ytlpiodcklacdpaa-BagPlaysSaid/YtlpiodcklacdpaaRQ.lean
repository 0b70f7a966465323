/- The reference's bag: Twice, Delay. Conditions: those that each theorem names. -/
import Derived.Test.YtlpiodcklacdpaaRP
namespace Go.Proofs.Ytlpiodcklacdpaa.BG
set_option linter.unusedVariables false
set_option linter.unusedSimpArgs false
open Go Go.RowKit Go.Proofs.YtlpiodcklacdpaaS Go.Proofs.YtlpiodcklacdpaaS.Asn Go.Proofs.Ytlpiodcklacdpaa.PA Go.Proofs.YtlpiodcklacdpaaW.PrintWords Go.Proofs.YtlpiodcklacdpaaW.PrintLast Go.Proofs.YtlpiodcklacdpaaW.PrintMore
def rtwE (room : Int) (l : List It) (pick : Int) : Int := if (pickE l pick).2 = 0 then putE room l (l.getD (pickE l pick).1.toNat It.zero) else (pickE l pick).2
def rtwL (room : Int) (l : List It) (pick : Int) : List It := if (pickE l pick).2 = 0 then putL room l (l.getD (pickE l pick).1.toNat It.zero) else l
set_option maxHeartbeats 1000000 in
theorem rbag_Twice (p : Nat) (l : List It) (room pick : Int) (w : World) (ok : Nat → Prop) (h6 : room ≤ 256) (h : (refA p l room ⋆ emp).H w ok) :
    Calls Try.prog 23 #[.pointer (some ⟨p, 0, none⟩), .int .i64 pick] w fun e w' => e = .returned (.int .i64 (rtwE room l pick)) ∧ Sep w ok (refA p (rtwL room l pick) room ⋆ emp) w' := by
  have HS := Aside0.mk (sep_begin h)
  have H6 := Aside0.mk h6
  clear h h6
  obtain ⟨r1, hr1⟩ : ∃ r, rtwE room l pick = r := ⟨_, rfl⟩
  obtain ⟨r2, hr2⟩ : ∃ r, rtwL room l pick = r := ⟨_, rfl⟩
  rw [hr1, hr2]
  unfold rtwE at hr1
  unfold rtwL at hr2
  have hfl := pickE_lt (l := l) (pick := pick)
  obtain ⟨⟨fa, fe⟩, hf1⟩ : ∃ f, pickE l pick = f := ⟨_, rfl⟩
  have HF := Aside0.mk hf1
  rw [hf1] at hr1 hr2 hfl
  have HR := Aside0.mk (And.intro hr1 (And.intro hr2 hfl))
  clear hr1 hr2 hfl hf1
  go_enter Try.func23, Try.ntmps23
  go_upto_region 2 with (go_at_call 33; obtain ⟨ok_, hp_, hk_⟩ := sep_use1 HS.out; have hx_ := rbag_pick p l room pick _ ok_ hp_; rw [HF.out] at hx_; (with_reducible refine Calls.mono hx_ ?_); rintro e w1 ⟨rfl, hq_⟩; have n_ := back1 hk_ hq_; clear hx_ hp_ hk_ hq_; have n0_ := Aside0.mk n_; clear HS n_; have HS := n0_; clear n0_)
  obtain ⟨hr1, hr2, hfl⟩ := HR.out
  clear HR HF
  by_cases h0 : fe = 0
  · subst h0
    rw [if_pos rfl] at hr1 hr2
    obtain ⟨k, hk, hkl⟩ := hfl rfl
    have hk' : fa = k := hk
    subst hk'
    clear hk
    obtain ⟨x, hx⟩ : ∃ x, l[k]? = some x := ⟨_, List.getElem?_eq_getElem hkl⟩
    rw [show ((k : Int)).toNat = k from Int.toNat_natCast k, List.getD_eq_getElem?_getD, hx, Option.getD_some] at hr1 hr2
    have HB := HS
    obtain ⟨v, n_⟩ := ref_open HS.out
    obtain ⟨A, c, rfl, -, hC⟩ := sep_row (sep_l1 n_)
    have HLN := Aside0.mk hC.2.1
    obtain ⟨ad, hA, m1, m2, m3, m4, m5, m6⟩ := it_at hC k x hx
    subst hA
    obtain ⟨b1, b2, b3⟩ := facts2 n_
    have c1b : decide ((k : Int) < (l.length : Int)) = true := decide_eq_true (Int.ofNat_lt.2 hkl); have c1n : decide (k < l.length) = true := decide_eq_true hkl; have c1q : (k < l.length) = True := eq_true hkl; have p0_ := eq_true (Int.natCast_nonneg k)
    clear hfl hC hx hkl n_ HS
    have HRR := Aside0.mk (And.intro hr1 hr2)
    clear hr1 hr2
    go_wp2_with (go_at_call 26; obtain ⟨ok_, hp_, hk_⟩ := sep_use1 HB.out; have hx_ := rbag_Put p l room x _ ok_ H6.out hp_; unfold It.val at hx_; (with_reducible refine Calls.mono hx_ ?_); rintro e w2 ⟨rfl, hq_⟩; have n_ := back1 hk_ hq_; clear hx_ hp_ hk_ hq_; clear HB; have HS := Aside0.mk n_; clear n_)
    go_ret
    obtain ⟨hr1, hr2⟩ := HRR.out
    subst hr1
    subst hr2
    exact ⟨rfl, HS.out⟩
  · rw [if_neg h0] at hr1 hr2
    have t1 : decide (fe = 0) = false := decide_eq_false h0
    have t2 : (fe == 0) = false := by simpa using h0
    have t3 := eq_false h0
    clear hfl
    go_wp2
    go_ret
    subst hr1
    subst hr2
    exact ⟨rfl, HS.out⟩
theorem sep_time' {w0 W : World} {ok0 : Nat → Prop} {F : Asn} {g c : Nat} {l : List It} (HS : Sep w0 ok0 (row itK 56 (.slice (some ⟨g, 0, none⟩) l.length c) l ⋆ F) W) (k : Nat) (x : It) (t' : Int) (hx : l[k]? = some x) :
    Sep w0 ok0 (row itK 56 (.slice (some ⟨g, 0, none⟩) l.length c) (l.set k { x with t := t' }) ⋆ F) (W.setCell ⟨g, k * 6 + 5, none⟩ (.int .u64 t')) := by
  obtain ⟨hi, -⟩ := List.getElem?_eq_some_iff.1 hx
  have hC := (sep_row' HS).2.2
  obtain ⟨ok, hr, hh⟩ := sep_grown HS
  obtain ⟨ad, cc, had, hc, hk, hcell⟩ := Kd.C_get hC x (k : Int) (Int.natCast_nonneg k) (Int.ofNat_lt.2 hi)
  cases had
  rw [Int.toNat_natCast, List.getD_eq_getElem?_getD, hx, Option.getD_some] at hk
  rw [itK_open hk, Int.toNat_natCast] at hcell
  obtain ⟨h1, h2⟩ := Kd.R_seg (d := itK) (x' := { x with t := t' }) (seg := [.int .u64 t']) (j := 5) (c := x.cells) (okp := fun _ => False) hr (k : Int) (Int.natCast_nonneg k) (Int.ofNat_lt.2 hi) rfl (fun j u hu => by have := hcell j u hu; rw [add_at, Nat.zero_add] at this; exact this) (Nat.le_refl 6) (itK_M W 0 _ { x with t := t' }) (fun _ h => h.elim)
  exact hh _ _ _ (Kd.R_mono h1 (fun k hk => .inl hk)) ⟨h2.os, h2.tape, h2.output, h2.size, fun k hk => absurd hk (Nat.not_lt_zero _)⟩ h2
def rdelL (l : List It) (pick by_ : Int) : List It := if (pickE l pick).2 = 0 then l.modify (pickE l pick).1.toNat (fun x => x.later by_) else l
set_option maxHeartbeats 1000000 in
theorem rbag_Delay (p : Nat) (l : List It) (room pick by_ : Int) (w : World) (ok : Nat → Prop) (hb0 : 0 ≤ by_) (ht : ∀ x ∈ l, 0 ≤ x.t) (h : (refA p l room ⋆ emp).H w ok) :
    Calls Try.prog 24 #[.pointer (some ⟨p, 0, none⟩), .int .i64 pick, .int .u64 by_] w fun e w' => e = .returned (.int .i64 (pickE l pick).2) ∧ Sep w ok (refA p (rdelL l pick by_) room ⋆ emp) w' := by
  have HS := Aside0.mk (sep_begin h)
  have HB0 := Aside0.mk hb0
  have HT := Aside0.mk ht
  clear h hb0 ht
  obtain ⟨r2, hr2⟩ : ∃ r, rdelL l pick by_ = r := ⟨_, rfl⟩
  rw [hr2]
  unfold rdelL at hr2
  have hfl := pickE_lt (l := l) (pick := pick)
  obtain ⟨⟨fa, fe⟩, hf1⟩ : ∃ f, pickE l pick = f := ⟨_, rfl⟩
  have HF := Aside0.mk hf1
  rw [hf1] at hr2 hfl
  rw [hf1]
  have HR := Aside0.mk (And.intro hr2 hfl)
  clear hr2 hfl hf1
  go_enter Try.func24, Try.ntmps24
  go_upto_region 2 with (go_at_call 33; obtain ⟨ok_, hp_, hk_⟩ := sep_use1 HS.out; have hx_ := rbag_pick p l room pick _ ok_ hp_; rw [HF.out] at hx_; (with_reducible refine Calls.mono hx_ ?_); rintro e w1 ⟨rfl, hq_⟩; have n_ := back1 hk_ hq_; clear hx_ hp_ hk_ hq_; have n0_ := Aside0.mk n_; clear HS n_; have HS := n0_; clear n0_)
  obtain ⟨hr2, hfl⟩ := HR.out
  clear HR HF
  by_cases h0 : fe = 0
  · subst h0
    rw [if_pos rfl] at hr2
    obtain ⟨k, hk, hkl⟩ := hfl rfl
    have hk' : fa = k := hk
    subst hk'
    clear hk
    obtain ⟨x, hx⟩ : ∃ x, l[k]? = some x := ⟨_, List.getElem?_eq_getElem hkl⟩
    rw [show ((k : Int)).toNat = k from Int.toNat_natCast k, modify_at _ hx] at hr2
    obtain ⟨v, n_⟩ := ref_open HS.out
    obtain ⟨A, c, rfl, -, hC⟩ := sep_row (sep_l1 n_)
    have HLN := Aside0.mk hC.2.1
    obtain ⟨ad, hA, m1, m2, m3, m4, m5, m6⟩ := it_at hC k x hx
    subst hA
    obtain ⟨g, hg⟩ : ∃ g, ad = ⟨g, 0, none⟩ := by
      obtain ⟨_, _, ⟨_, _, hr, _⟩, _⟩ := sep_l1 n_
      obtain ⟨g, cap, he, -⟩ := Kd.R_form hr (by omega)
      cases he
      exact ⟨g, rfl⟩
    have fz : w1.frozen? ⟨(ad.add (k * 6)).block, (ad.add (k * 6)).off + 5, none⟩ = false := by
      subst hg
      obtain ⟨cur, hcur, -⟩ := sep_block itK (sep_l1 n_)
      rw [elem_addr]
      exact blk_frozen hcur _
    have HG := Aside0.mk hg
    clear hg
    obtain ⟨b1, b2, b3⟩ := facts2 n_
    have c1b : decide ((k : Int) < (l.length : Int)) = true := decide_eq_true (Int.ofNat_lt.2 hkl); have c1n : decide (k < l.length) = true := decide_eq_true hkl; have c1q : (k < l.length) = True := eq_true hkl; have p0_ := eq_true (Int.natCast_nonneg k)
    have HKK := Aside0.mk hx
    have htx := HT.out x (List.mem_of_getElem? hx)
    have hb := HB0.out
    clear hfl hC hx hkl
    have n0_ := Aside0.mk n_; clear HS n_; have HS := n0_; clear n0_
    have HRR := Aside0.mk hr2
    clear hr2
    by_cases hbig : 4611686018427387904 < by_
    · have s1 : decide (4611686018427387904 < by_) = true := decide_eq_true hbig
      have hl : later x.t by_ = 4611686018427387904 := by unfold later latest; omega
      have HLT := Aside0.mk hl
      clear hl hbig htx hb
      go_wp2
      go_ret
      have hg := HG.out
      have hr2 := HRR.out
      subst hg
      rw [elem_addr]
      have n_ := sep_l1 (sep_time' (sep_l1 HS.out) k x 4611686018427387904 HKK.out)
      unfold It.later at hr2
      rw [HLT.out] at hr2
      subst hr2
      exact ⟨rfl, ref_mk n_⟩
    · have s1 : decide (4611686018427387904 < by_) = false := decide_eq_false hbig
      have w1_ : IntKind.u64.wrap (4611686018427387904 - by_) = 4611686018427387904 - by_ := by rw [IntKind.wrap_u64]; omega
      by_cases hsum : 4611686018427387904 - by_ < x.t
      · have s2 : decide (4611686018427387904 - by_ < x.t) = true := decide_eq_true hsum
        have hl : later x.t by_ = 4611686018427387904 := by unfold later latest; omega
        have HLT := Aside0.mk hl
        clear hl hbig hsum htx hb
        go_wp2
        go_ret
        have hg := HG.out
        have hr2 := HRR.out
        subst hg
        rw [elem_addr]
        have n_ := sep_l1 (sep_time' (sep_l1 HS.out) k x 4611686018427387904 HKK.out)
        unfold It.later at hr2
        rw [HLT.out] at hr2
        subst hr2
        exact ⟨rfl, ref_mk n_⟩
      · have s2 : decide (4611686018427387904 - by_ < x.t) = false := decide_eq_false hsum
        have hl : later x.t by_ = x.t + by_ := by unfold later latest; omega
        have w2_ : IntKind.u64.wrap (x.t + by_) = x.t + by_ := by rw [IntKind.wrap_u64]; omega
        have HLT := Aside0.mk hl
        clear hl hbig hsum htx hb
        go_upto_region 6 with (fail)
        replace fz : w1.drew.frozen? ⟨(ad.add (k * 6)).block, (ad.add (k * 6)).off + 5, none⟩ = false := fz
        replace m6 : w1.drew.cell? ⟨(ad.add (k * 6)).block, (ad.add (k * 6)).off + 5, none⟩ = some (.int .u64 x.t) := m6
        replace b1 : w1.drew.cell? ⟨p, 0, none⟩ = some (.slice (some ad) l.length c) := b1
        go_region
        all_goals go_wp2
        all_goals
          go_ret
          have hg := HG.out
          have hr2 := HRR.out
          subst hg
          rw [elem_addr]
          have n_ := sep_l1 (sep_drew (sep_time' (sep_l1 HS.out) k x (x.t + by_) HKK.out))
          unfold It.later at hr2
          rw [HLT.out] at hr2
          subst hr2
          exact ⟨rfl, ref_mk n_⟩
  · rw [if_neg h0] at hr2
    have t1 : decide (fe = 0) = false := decide_eq_false h0
    have t2 : (fe == 0) = false := by simpa using h0
    have t3 := eq_false h0
    clear hfl
    go_wp2
    go_ret
    subst hr2
    exact ⟨rfl, HS.out⟩
end Go.Proofs.Ytlpiodcklacdpaa.BG
