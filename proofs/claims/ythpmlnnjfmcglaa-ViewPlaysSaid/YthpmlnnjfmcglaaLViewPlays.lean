/- ViewPlays, walked. Conditions: those that the theorem names. -/
import Derived.Test.YthpmlnnjfmcglaaUZ
namespace Go.Proofs.Ythpmlnnjfmcglaa.VW
set_option linter.unusedVariables false
set_option linter.unusedSimpArgs false
open Go Go.RowKit Go.Proofs.YthpmlnnjfmcglaaS Go.Proofs.YthpmlnnjfmcglaaS.Asn Go.Proofs.Ythpmlnnjfmcglaa.PA Go.Proofs.YthpmlnnjfmcglaaW.PrintWords Go.Proofs.YthpmlnnjfmcglaaW.PrintLast Go.Proofs.YthpmlnnjfmcglaaW.PrintMore
theorem keepP {w0 w' : World} {ok0 : Nat → Prop} {F : Asn} {gp gq : Nat} {y : Rec} (h : Sep w0 ok0 (pt gq #[.int .i64 y.id, .int .i64 y.st, .int .u32 y.inc, .int .u32 y.ip, .int .u16 y.po] 66 ⋆ pt gp #[.int .i64 y.id, .int .i64 y.st, .int .u32 y.inc, .int .u32 y.ip, .int .u16 y.po] 31 ⋆ F) w') : w'.cell? ⟨gp, 0, none⟩ = some (.int .i64 y.id) ∧ w'.cell? ⟨gp, 1, none⟩ = some (.int .i64 y.st) ∧ w'.cell? ⟨gp, 2, none⟩ = some (.int .u32 y.inc) ∧ w'.cell? ⟨gp, 3, none⟩ = some (.int .u32 y.ip) ∧ w'.cell? ⟨gp, 4, none⟩ = some (.int .u16 y.po) ∧ w'.cell? ⟨gq, 0, none⟩ = some (.int .i64 y.id) ∧ w'.cell? ⟨gq, 1, none⟩ = some (.int .i64 y.st) ∧ w'.cell? ⟨gq, 2, none⟩ = some (.int .u32 y.inc) ∧ w'.cell? ⟨gq, 3, none⟩ = some (.int .u32 y.ip) ∧ w'.cell? ⟨gq, 4, none⟩ = some (.int .u16 y.po) := by
  obtain ⟨k1, k2, k3, k4, k5⟩ := facts5 (sep_l1 h)
  obtain ⟨q1, q2, q3, q4, q5⟩ := facts5 h
  exact ⟨k1, k2, k3, k4, k5, q1, q2, q3, q4, q5⟩
set_option maxHeartbeats 8000000 in
set_option maxRecDepth 100000 in
theorem plays_walk (A1 : Option Addr) (c1 : Nat) (l : List Th) (A2 : Option Addr) (c2 : Nat) (m : List (List Th)) (w : World) (hr1 : thK.C w A1 l.length l) (hc1 : l.length ≤ c1) (hok : ∀ x ∈ l, thOk x) (hr2 : ttK.C w A2 m.length m) (hc2 : m.length ≤ c2) (hok2 : ∀ d ∈ m, ∀ t ∈ d, thOk t) :
    Calls Try.prog 6 #[.slice A1 l.length c1, .slice A2 m.length c2] w fun e w' => e = .returned (.bool true) ∧ Below w.heap.size w w' := by
  have HS := Aside0.mk (sep_start w)
  have HR1 := Aside0.mk hr1
  have HOK := Aside0.mk hok
  have HLN := Aside0.mk hr1.2.1
  have HR2 := Aside0.mk hr2
  have HOK2 := Aside0.mk hok2
  have HLN2 := Aside0.mk hr2.2.1
  clear hr1 hc1 hok hr2 hc2 hok2
  go_enter Try.func6, Try.ntmps6
  go_upto_region 5 with (first | (go_at_call 9; (with_reducible refine Calls.mono (examples_walk _) ?_); rintro e w1 ⟨rfl, hb_⟩; have n_ := sep_below HS.out hb_; clear hb_; have n0_ := Aside0.mk n_; clear HS n_; have HS := n0_; clear n0_) | (go_at_call 10; (with_reducible refine Calls.mono (view_New _) ?_); rintro e w2 ⟨p, rfl, hm_⟩; have n_ := sep_made_of HS.out (sep_only hm_); clear hm_; have n0_ := Aside0.mk n_; clear HS n_; have HS := n0_; clear n0_))
  go_upto_region 9 with (fail)
  have n_ := sep_l1 (rview_mk (x := RV.new) (sep_alloc (sep_row_nil (d := recK) (e := 66) (sep_row_nil (d := evK) (e := 94) HS.out)) #[.slice none 0 0, .slice none 0 0] 61))
  have n0_ := Aside0.mk n_; clear HS n_; have HS := n0_; clear n0_
  generalize w2.alloc (.cells #[.slice none 0 0, .slice none 0 0] 61) = wa at HS ⊢
  generalize w2.heap.size = q at HS ⊢
  go_loopg [8] l.length (fun gg v8 wr => ∃ i : Nat, i ≤ l.length ∧ i ≤ 60 ∧ l.length - i ≤ gg ∧ v8 = .int .i64 (i : Int) ∧ ∃ s x, Aside0 (Bd s x (i + 20 * min i 10)) ∧ Aside0 (Sep w (fun _ => False) (viewA p s ⋆ viewR q x ⋆ emp) wr))
  case atStart => exact ⟨0, Nat.zero_le _, by decide, by omega, rfl, VS.new, RV.new, ⟨Rel_new, by decide⟩, HS⟩
  case round =>
    clear HS
    obtain ⟨i, hi, hi60, hgi, rfl, s, x, HB, HS⟩ := hrel
    by_cases hlt : i < l.length
    · have c1b : decide ((i : Int) < (l.length : Int)) = true := decide_eq_true (Int.ofNat_lt.2 hlt); have c1n : decide (i < l.length) = true := decide_eq_true hlt; have c1q : (i < l.length) = True := eq_true hlt; have p0_ := eq_true (Int.natCast_nonneg i)
      by_cases h60 : i < 60
      · have c6b : decide ((i : Int) < 60) = true := decide_eq_true (by omega)
        have c6q : (i < 60) = True := eq_true h60
        have c6r : ((i : Int) < 60) = True := eq_true (by omega)
        obtain ⟨t, ht⟩ : ∃ t, l[i]? = some t := ⟨_, List.getElem?_eq_getElem hlt⟩
        have HTO := Aside0.mk (HOK.out t (List.mem_of_getElem? ht))
        obtain ⟨ad, hA, k0, k1, k2, k3, k4, k5⟩ := th_now HR1.out (sep_below_of HS.out) i t ht
        subst hA
        obtain ⟨r, hr⟩ : ∃ r, thE t = r := ⟨_, rfl⟩
        have hf := thing_f t HTO.out
        rw [hr] at hf
        have HF := Aside0.mk hf
        have HI := Aside0.mk (And.intro hlt (And.intro h60 hgi))
        clear hi hi60 hgi hlt h60 ht hr hf
        go_upto_region 12 with (go_at_call 11; (with_reducible refine Calls.mono (scuttlebuttlaw11_Thing_thing.calls t.r.id t.r.st t.r.inc t.r.ip t.r.po t.own r.id r.st r.inc r.ip r.po _ HF.out) ?_); rintro e w1 ⟨rfl, hb_⟩; have n_ := sep_below HS.out hb_; clear hb_; have n0_ := Aside0.mk n_; clear HS n_; have HS := n0_; clear n0_; skip)
        clear k0 k1 k2 k3 k4 k5
        have n_ := sep_l2 (sep_l2 (sep_alloc HS.out #[.int .i64 r.id, .int .i64 r.st, .int .u32 r.inc, .int .u32 r.ip, .int .u16 r.po] 31))
        have n0_ := Aside0.mk n_; clear HS n_; have HS := n0_; clear n0_
        generalize w1.alloc (.cells #[.int .i64 r.id, .int .i64 r.st, .int .u32 r.inc, .int .u32 r.ip, .int .u16 r.po] 31) = wb at HS ⊢
        generalize w1.heap.size = g9 at HS ⊢
        obtain ⟨m1, m2, m3, m4, m5⟩ := facts5 (sep_l2 HS.out)
        obtain ⟨e1, e2, hrel2⟩ := rel_take HB.out.rel r
        have HB2 := Aside0.mk (Bd_take HB.out r)
        obtain ⟨⟨tb, te, s2⟩, ht2⟩ : ∃ z, takeE s r = z := ⟨_, rfl⟩
        obtain ⟨⟨ub, ue, x2⟩, hu2⟩ : ∃ z, rtake x r = z := ⟨_, rfl⟩
        rw [ht2, hu2] at e1 e2 HB2
        dsimp only at e1 e2 HB2
        subst e1
        subst e2
        have HT2 := Aside0.mk ht2
        have HU2 := Aside0.mk hu2
        clear ht2 hu2 hrel2
        go_upto_region 13 with (go_at_call 14; obtain ⟨ok_, hp_, hk_⟩ := sep_use1 HS.out; have hx_ := view_Take p s r _ ok_ (Bd_E HB.out).1 (by have := (Bd_E HB.out).2; have := HI.out; omega) hp_; rw [HT2.out] at hx_; dsimp only at hx_; (with_reducible refine Calls.mono hx_ ?_); rintro e w1 ⟨rfl, hq_⟩; have n_ := back1 hk_ hq_; clear hx_ hp_ hk_ hq_; have n0_ := Aside0.mk n_; clear HS n_; have HS := n0_; clear n0_; clear m1 m2 m3 m4 m5; obtain ⟨m1, m2, m3, m4, m5⟩ := facts5 (sep_l2 HS.out))
        go_upto_region 14 with (first | (go_at_call 21; (with_reducible refine Calls.mono (scuttlebuttlaw11_refRecord.calls r.id r.st r.inc r.ip r.po r.id r.st r.inc r.ip r.po _ rfl) ?_); rintro e w1 ⟨rfl, hb_⟩; have n_ := sep_below HS.out hb_; clear hb_; have n0_ := Aside0.mk n_; clear HS n_; have HS := n0_; clear n0_; clear m1 m2 m3 m4 m5; obtain ⟨m1, m2, m3, m4, m5⟩ := facts5 (sep_l2 HS.out)) | (go_at_call 20; obtain ⟨ok_, hp_, hk_⟩ := sep_use1 (sep_l1 HS.out); have hx_ := rtake_walk q x r _ ok_ (by have := Bd_L HB.out; omega) (by have := HB.out.ev; have := HI.out; omega) hp_; rw [HU2.out] at hx_; dsimp only at hx_; (with_reducible refine Calls.mono hx_ ?_); rintro e w1 ⟨rfl, hq_⟩; have n_ := sep_l1 (back1 hk_ hq_); clear hx_ hp_ hk_ hq_; have n0_ := Aside0.mk n_; clear HS n_; have HS := n0_; clear n0_; clear m1 m2 m3 m4 m5; obtain ⟨m1, m2, m3, m4, m5⟩ := facts5 (sep_l2 HS.out)))
        obtain ⟨⟨y, th⟩, ho⟩ : ∃ z, ofE s2 r.id = z := ⟨_, rfl⟩
        have hol : rofL x2.L r.id = (y, th) := by rw [← rof_eq, rel_of HB2.out.rel, ho]
        have HO := Aside0.mk ho
        have HOL := Aside0.mk hol
        clear ho hol
        go_upto_region 15 with (go_at_call 12; obtain ⟨ok_, hp_, hk_⟩ := sep_use1 HS.out; have hx_ := view_Of p s2 r.id _ ok_ hp_; rw [HO.out] at hx_; dsimp only at hx_; (with_reducible refine Calls.mono hx_ ?_); rintro e w1 ⟨rfl, hq_⟩; have n_ := back1 hk_ hq_; clear hx_ hp_ hk_ hq_; have n0_ := Aside0.mk n_; clear HS n_; have HS := n0_; clear n0_; clear m1 m2 m3 m4 m5; obtain ⟨m1, m2, m3, m4, m5⟩ := facts5 (sep_l2 HS.out))
        have n_ := sep_l2 (sep_l2 (sep_alloc HS.out #[.int .i64 y.id, .int .i64 y.st, .int .u32 y.inc, .int .u32 y.ip, .int .u16 y.po] 31))
        have n0_ := Aside0.mk n_; clear HS n_; have HS := n0_; clear n0_
        generalize w1.alloc (.cells #[.int .i64 y.id, .int .i64 y.st, .int .u32 y.inc, .int .u32 y.ip, .int .u16 y.po] 31) = wc at HS ⊢
        generalize w1.heap.size = gp at HS ⊢
        clear m1 m2 m3 m4 m5; obtain ⟨m1, m2, m3, m4, m5⟩ := facts5 (sep_l3 HS.out)
        go_upto_region 16 with (go_at_call 22; obtain ⟨Ax, cx, Ay, cy, hcx, hcy, q_⟩ := rview_open (sep_l1 HS.out); have hx_ := rof_walk q Ax cx x2.L r.id _ (rv_facts q_).1 (sep_row' (sep_l1 q_)).2.2 (by have := Bd_L HB2.out; omega); rw [HOL.out] at hx_; dsimp only at hx_; (with_reducible refine Calls.mono hx_ ?_); rintro e w1 ⟨rfl, hb_⟩; have n_ := sep_below HS.out hb_; clear hx_ hb_ q_ hcx hcy; have n0_ := Aside0.mk n_; clear HS n_; have HS := n0_; clear n0_)
        have n_ := sep_l1 (sep_l3 (sep_alloc HS.out #[.int .i64 y.id, .int .i64 y.st, .int .u32 y.inc, .int .u32 y.ip, .int .u16 y.po] 66))
        have n0_ := Aside0.mk n_; clear HS n_; have HS := n0_; clear n0_
        generalize w1.alloc (.cells #[.int .i64 y.id, .int .i64 y.st, .int .u32 y.inc, .int .u32 y.ip, .int .u16 y.po] 66) = wd at HS ⊢
        generalize w1.heap.size = gq at HS ⊢
        clear m1 m2 m3 m4 m5
        have n_ := sep_drew HS.out
        have n0_ := Aside0.mk n_; clear HS n_; have HS := n0_; clear n0_
        have u1_ : (ub != ub) = false := by simp
        have u2_ : (ue != ue) = false := by simp
        have u3_ : (th != th) = false := by simp
        go_region_held3 (fun w' => w'.cell? ⟨gp, 0, none⟩ = some (.int .i64 y.id) ∧ w'.cell? ⟨gp, 1, none⟩ = some (.int .i64 y.st) ∧ w'.cell? ⟨gp, 2, none⟩ = some (.int .u32 y.inc) ∧ w'.cell? ⟨gp, 3, none⟩ = some (.int .u32 y.ip) ∧ w'.cell? ⟨gp, 4, none⟩ = some (.int .u16 y.po) ∧ w'.cell? ⟨gq, 0, none⟩ = some (.int .i64 y.id) ∧ w'.cell? ⟨gq, 1, none⟩ = some (.int .i64 y.st) ∧ w'.cell? ⟨gq, 2, none⟩ = some (.int .u32 y.inc) ∧ w'.cell? ⟨gq, 3, none⟩ = some (.int .u32 y.ip) ∧ w'.cell? ⟨gq, 4, none⟩ = some (.int .u16 y.po)) (exact keepP HS.out) (first | (go_at_call 21; (with_reducible refine Calls.mono (scuttlebuttlaw11_refRecord.calls y.id y.st y.inc y.ip y.po y.id y.st y.inc y.ip y.po _ rfl) ?_); rintro e w1 ⟨rfl, hb_⟩; have n_ := sep_below HS.out hb_; clear hb_; have n0_ := Aside0.mk n_; clear HS n_; have HS := n0_; clear n0_; skip) | fail)
        all_goals
          clear u1_ u2_ u3_
          have n_ := sep_drop (sep_l2 (sep_drop (sep_drop HS.out)))
          have n0_ := Aside0.mk n_; clear HS n_; have HS := n0_; clear n0_
          go_upto_region 18 with (fail)
          by_cases hm : i < m.length ∧ i < 10
          · have h1 := hm.1
            have h2 := hm.2
            have c8 : decide ((i : Int) < (m.length : Int)) = true := decide_eq_true (by omega)
            have c8n : decide (i < m.length) = true := decide_eq_true h1
            have c8q := eq_true h1
            have c8r : ((i : Int) < (m.length : Int)) = True := eq_true (by omega)
            have c9 : decide ((i : Int) < 10) = true := decide_eq_true (by omega)
            have c9n : decide (i < 10) = true := decide_eq_true (by omega)
            have c9q : (i < 10) = True := eq_true (by omega)
            have c9r : ((i : Int) < 10) = True := eq_true (by omega)
            obtain ⟨d, hd⟩ : ∃ d, m[i]? = some d := ⟨_, List.getElem?_eq_getElem h1⟩
            have HD := Aside0.mk (And.intro hd h2)
            obtain ⟨ad2, A3, c3, hA2, hcl3, hc3, hC3⟩ := tt_at HR2.out (Below.refl _ w) i d hd
            subst hA2
            have HC3 := Aside0.mk hC3
            have HCL := Aside0.mk hcl3
            have HDN := Aside0.mk hC3.2.1
            have c10q : (i < m.length) = True := eq_true h1
            have HOKD := Aside0.mk (HOK2.out d (List.mem_of_getElem? hd))
            have p1_ := eq_true (Int.natCast_nonneg i)
            clear h1 h2 hm hd hc3 hC3 hcl3
            have n_ := sep_row_nil (d := recK) (e := 31) (sep_row_nil (d := recK) (e := 66) HS.out)
            have n0_ := Aside0.mk n_; clear HS n_; have HS := n0_; clear n0_
            go_upto_region 22 with (fail)
            go_loopg [18, 19, 20] d.length (fun gg v18 v19 v20 wr => ∃ k : Nat, k ≤ d.length ∧ k ≤ 20 ∧ d.length - k ≤ gg ∧ v20 = .int .i64 (k : Int) ∧ Aside0 (Sep w (fun _ => False) (row recK 31 v18 (thL d k) ⋆ row recK 66 v19 (thL d k) ⋆ viewA p s2 ⋆ viewR q x2 ⋆ emp) wr))
            case atStart => exact ⟨0, Nat.zero_le _, by decide, by omega, rfl, HS⟩
            case round =>
              clear HS
              obtain ⟨k, hk, hk20, hgk, rfl, HS⟩ := hrel
              have kc := cell_now HCL.out (sep_below_of HS.out)
              by_cases hlk : k < d.length
              · have c1b : decide ((k : Int) < (d.length : Int)) = true := decide_eq_true (Int.ofNat_lt.2 hlk); have c1n : decide (k < d.length) = true := decide_eq_true hlk; have c1q : (k < d.length) = True := eq_true hlk; have p0_ := eq_true (Int.natCast_nonneg k)
                by_cases hk2 : k < 20
                · have d6b : decide ((k : Int) < 20) = true := decide_eq_true (by omega)
                  have d6q : (k < 20) = True := eq_true hk2
                  have d6r : ((k : Int) < 20) = True := eq_true (by omega)
                  obtain ⟨t, ht⟩ : ∃ t, d[k]? = some t := ⟨_, List.getElem?_eq_getElem hlk⟩
                  have HTO := Aside0.mk (HOKD.out t (List.mem_of_getElem? ht))
                  obtain ⟨ad3, hA3, k0, k1, k2, k3, k4, k5⟩ := th_now HC3.out (sep_below_of HS.out) k t ht
                  subst hA3
                  obtain ⟨r, hr⟩ : ∃ r, thE t = r := ⟨_, rfl⟩
                  have hf := thing_f t HTO.out
                  have hsu := thL_succ d k t ht
                  rw [hr] at hf hsu
                  have HF := Aside0.mk hf
                  have HSU := Aside0.mk hsu
                  have HIK := Aside0.mk (And.intro hlk (And.intro hk2 hgk))
                  have HTT := Aside0.mk ht
                  clear hk hk20 hgk hlk hk2 ht hr hf hsu
                  go_upto_region 25 with (first | (go_at_call 11; (with_reducible refine Calls.mono (scuttlebuttlaw11_Thing_thing.calls t.r.id t.r.st t.r.inc t.r.ip t.r.po t.own r.id r.st r.inc r.ip r.po _ HF.out) ?_); rintro e w1 ⟨rfl, hb_⟩; have n_ := sep_below HS.out hb_; clear hb_; have n0_ := Aside0.mk n_; clear HS n_; have HS := n0_; clear n0_; skip) | ((with_reducible refine gate_builtin (b := .append) (xs := #[.tmp 119, .tmp 128]) rfl ?_); at_builtin; refine wp_append recK rfl (.tmp 119) (.tmp 128) 47 31 z31 32 rfl Try.underlying47 info31 rfl (by decide) (by decide) _ (thL d k) r (r).cells (by rfl) (by rfl) (recK_M _ _ _ _) HS.out (by have := thL_len d k; have := HIK.out; omega) ?_; intro v1_ w4 n_; have n0_ := Aside0.mk n_; clear HS n_; have HS := n0_; clear n0_))
                  have n_ := sep_l1 HS.out
                  have n0_ := Aside0.mk n_; clear HS n_; have HS := n0_; clear n0_
                  clear kc k0 k1 k2 k3 k4 k5
                  have kc := cell_now HCL.out (sep_below_of HS.out)
                  obtain ⟨ad4, hA4, k0, k1, k2, k3, k4, k5⟩ := th_now HC3.out (sep_below_of HS.out) k t HTT.out
                  cases hA4
                  go_wp2_with (first | (go_at_call 11; (with_reducible refine Calls.mono (scuttlebuttlaw11_Thing_thing.calls t.r.id t.r.st t.r.inc t.r.ip t.r.po t.own r.id r.st r.inc r.ip r.po _ HF.out) ?_); rintro e w1 ⟨rfl, hb_⟩; have n_ := sep_below HS.out hb_; clear hb_; have n0_ := Aside0.mk n_; clear HS n_; have HS := n0_; clear n0_; skip) | (go_at_call 21; (with_reducible refine Calls.mono (scuttlebuttlaw11_refRecord.calls r.id r.st r.inc r.ip r.po r.id r.st r.inc r.ip r.po _ rfl) ?_); rintro e w1 ⟨rfl, hb_⟩; have n_ := sep_below HS.out hb_; clear hb_; have n0_ := Aside0.mk n_; clear HS n_; have HS := n0_; clear n0_; skip) | ((with_reducible refine gate_builtin (b := .append) (xs := #[.tmp 130, .tmp 140]) rfl ?_); at_builtin; refine wp_append recK rfl (.tmp 130) (.tmp 140) 58 66 z31 32 rfl Try.underlying58 info66 rfl (by decide) (by decide) _ (thL d k) r r.cells (by rfl) (by rfl) (recK_M _ _ _ _) HS.out (by have := thL_len d k; have := HIK.out; omega) ?_; intro v2_ w5 n_; have n0_ := Aside0.mk n_; clear HS n_; have HS := n0_; clear n0_))
                  have n_ := sep_l1 HS.out
                  rw [← HSU.out] at n_
                  have n0_ := Aside0.mk n_; clear HS n_; have HS := n0_; clear n0_
                  go_roundg (d.length - (k + 1))
                  case measure => have := HIK.out; omega
                  case rel => exact ⟨k + 1, HIK.out.1, HIK.out.2.1, Nat.le_refl _, congrArg (Value.int .i64) (by have := HIK.out; unfold wrap64; omega), HS⟩
                · have d6b : decide ((k : Int) < 20) = false := decide_eq_false (by omega)
                  have d6n : decide (k < 20) = false := decide_eq_false hk2
                  have d6q : (k < 20) = False := eq_false hk2
                  have d6r : ((k : Int) < 20) = False := eq_false (by omega)
                  clear hlk hk2
                  obtain ⟨ll, hll⟩ : ∃ ll, thL d (k) = ll := ⟨_, rfl⟩
                  have hk9 := thL_len d (k)
                  rw [hll] at HS hk9
                  have hrm := rel_merge HB2.out.rel ll
                  have HB3 := Aside0.mk (Bd_merge HB2.out ll)
                  have ho3 := (rmg_ok x2 ll ll.length).2.2
                  rw [List.take_length] at ho3
                  have ho4 : (rmerge x2 ll).1.length ≤ ll.length := by unfold rmerge; split; exact Nat.zero_le _; exact ho3
                  obtain ⟨⟨o3, g3, s3⟩, hm3⟩ : ∃ z, mergeE s2 ll = z := ⟨_, rfl⟩
                  obtain ⟨⟨o4, g4, x3⟩, hr3⟩ : ∃ z, rmerge x2 ll = z := ⟨_, rfl⟩
                  rw [hm3, hr3] at hrm HB3
                  rw [hr3] at ho4
                  dsimp only at hrm HB3 ho4
                  obtain ⟨rfl, rfl, -⟩ := hrm
                  have HM3 := Aside0.mk hm3
                  have HR3 := Aside0.mk hr3
                  have HKL : Aside0 (ll.length ≤ 20 ∧ i < 10 ∧ o4.length ≤ 20) := ⟨by omega, HD.out.2, by omega⟩
                  clear hk hk20 hgk hll hk9 ho3 ho4 hm3 hr3
                  obtain ⟨Al, cl, rfl, hcl, -⟩ := sep_row HS.out
                  obtain ⟨Ar, cr, rfl, hcr, -⟩ := sep_row (sep_l1 HS.out)
                  clear hcl hcr
                  have n_ := sep_l2 HS.out
                  have n0_ := Aside0.mk n_; clear HS n_; have HS := n0_; clear n0_
                  go_upto_region 27 with (go_at_call 23; obtain ⟨ok_, hp_, hk_⟩ := sep_use2 HS.out; have hx_ := view_Merge p s2 Al cl ll _ ok_ (Bd_E HB2.out).1 (by have := (Bd_E HB2.out).2; have := HI.out; omega) (by have := HKL.out; omega) hp_; rw [HM3.out] at hx_; dsimp only at hx_; (with_reducible refine Calls.mono hx_ ?_); rintro e w1 ⟨v5_, rfl, hq_⟩; have n_ := back3 hk_ hq_; clear hx_ hp_ hk_ hq_; obtain ⟨Am, cm, rfl, -, -⟩ := sep_row n_; replace n_ := sep_l4 (sep_l3 n_); have n0_ := Aside0.mk n_; clear HS n_; have HS := n0_; clear n0_)
                  go_upto_region 28 with (go_at_call 24; obtain ⟨ok_, hp_, hk_⟩ := sep_use2 HS.out; have hx_ := rview_Merge q x2 Ar cr ll _ ok_ (by have := HB2.out.ev; have := HI.out; omega) (by have := Bd_L HB2.out; omega) (by have := HKL.out; omega) hp_; rw [HR3.out] at hx_; dsimp only at hx_; (with_reducible refine Calls.mono hx_ ?_); rintro e w1 ⟨v6_, rfl, hq_⟩; have n_ := back3 hk_ hq_; clear hx_ hp_ hk_ hq_; obtain ⟨An, cn, rfl, -, -⟩ := sep_row n_; have n0_ := Aside0.mk n_; clear HS n_; have HS := n0_; clear n0_)
                  have u4_ : (g4 != g4) = false := by simp
                  go_upto_region 31 with (go_at_call 25; have hx_ := alike_walk Am An cm cn o4 _ (sep_row' (sep_l3 HS.out)).2.2 (sep_row' HS.out).2.2 (by have := HKL.out; omega); (with_reducible refine Calls.mono hx_ ?_); rintro e w1 ⟨rfl, hb_⟩; have n_ := sep_below HS.out hb_; clear hx_ hb_; have n0_ := Aside0.mk n_; clear HS n_; have HS := n0_; clear n0_)
                  clear u4_
                  have n_ := sep_l1 (sep_drop (sep_l2 (sep_drop (sep_l1 (sep_drop (sep_l1 (sep_drop HS.out)))))))
                  have n0_ := Aside0.mk n_; clear HS n_; have HS := n0_; clear n0_
                  obtain ⟨Ax, cx, Ay, cy, hcx, hcy, n_⟩ := rview_open (sep_l1 HS.out)
                  have HCX := Aside0.mk (And.intro hcx hcy)
                  have HMX := Aside0.mk HB3.out.rel.mem
                  have HLX : Aside0 (liveL x3.L x3.L.length = liveE s3) := ⟨by rw [← rel_live HB3.out.rel]; unfold liveL rlive; rw [List.take_length]⟩
                  have HEX := Aside0.mk HB3.out.rel.ev
                  have HSX := Aside0.mk HB3.out.rel.seen
                  have HL33 := Aside0.mk (Bd_L HB3.out)
                  have HE9 : Aside0 (x3.E.length ≤ 1000 ∧ s3.E.length ≤ 128) := ⟨by have := HB3.out.ev; have := HI.out; have := HKL.out; omega, (Bd_E HB3.out).1⟩
                  clear hcx hcy
                  have n0_ := Aside0.mk n_; clear HS n_; have HS := n0_; clear n0_
                  go_upto_region 31 with (fail)
                  have n_ := sep_drew HS.out
                  have n0_ := Aside0.mk n_; clear HS n_; have HS := n0_; clear n0_
                  have kp := (rv_facts HS.out).1
                  go_region_held3 (fun w' => w'.cell? ⟨q, 0, none⟩ = some (.slice Ax x3.L.length cx)) (first | exact kp | exact (rv_facts HS.out).1 | exact (rv_facts (sep_l2 HS.out)).1) (first | (go_at_call 17; obtain ⟨ok_, hp_, hk_⟩ := sep_use1 (sep_l3 HS.out); have hx_ := view_Members p s3 _ ok_ hp_; rw [HMX.out] at hx_; (with_reducible refine Calls.mono hx_ ?_); rintro e w1 ⟨v_, rfl, hq_⟩; have n_ := back2 hk_ hq_; clear hx_ hp_ hk_ hq_; obtain ⟨Am, cm, rfl, -, -⟩ := sep_row n_; have n0_ := Aside0.mk n_; clear HS n_; have HS := n0_; clear n0_) | (go_at_call 25; have hx_ := alike_walk Am Ax cm cx x3.L _ (sep_row' HS.out).2.2 (sep_row' (sep_l3 HS.out)).2.2 (by have := HL33.out; omega); (with_reducible refine Calls.mono hx_ ?_); rintro e w1 ⟨rfl, hb_⟩; have n_ := sep_below HS.out hb_; clear hx_ hb_; have n0_ := Aside0.mk n_; clear HS n_; have HS := n0_; clear n0_) | fail)
                  all_goals
                    have n_ := sep_l3 (sep_l3 (sep_l3 (sep_drop HS.out)))
                    clear kp
                    have n0_ := Aside0.mk n_; clear HS n_; have HS := n0_; clear n0_
                    go_upto_region 33 with (first | (go_at_call 19; obtain ⟨ok_, hp_, hk_⟩ := sep_use1 (sep_l3 HS.out); have hx_ := view_Live p s3 _ ok_ hp_; (with_reducible refine Calls.mono hx_ ?_); rintro e w1 ⟨v_, rfl, hq_⟩; have n_ := back2 hk_ hq_; clear hx_ hp_ hk_ hq_; obtain ⟨Bl, bl, rfl, -, -⟩ := sep_row n_; have n0_ := Aside0.mk n_; clear HS n_; have HS := n0_; clear n0_) | (go_at_call 26; have hx_ := rlive_walk q Ax cx x3.L _ (rv_facts (sep_l2 HS.out)).1 (sep_row' (sep_l3 HS.out)).2.2 (by have := HL33.out; omega); rw [HLX.out] at hx_; (with_reducible refine Calls.mono hx_ ?_); rintro e w1 ⟨v_, rfl, hq_⟩; have n_ := sep_l1 (sep_made_of HS.out (sep_only hq_)); clear hx_ hq_; obtain ⟨Cl, cl, rfl, -, -⟩ := sep_row (sep_l1 n_); have n0_ := Aside0.mk n_; clear HS n_; have HS := n0_; clear n0_) | (go_at_call 18; obtain ⟨ok_, hp_, hk_⟩ := sep_use2 HS.out; have hx_ := live_same Bl Cl bl cl (liveE s3) _ ok_ hp_; (with_reducible refine Calls.mono hx_ ?_); rintro e w1 ⟨rfl, hq_⟩; have n_ := back2 hk_ hq_; clear hx_ hp_ hk_ hq_; replace n_ := sep_drop (sep_drop n_); have n0_ := Aside0.mk n_; clear HS n_; have HS := n0_; clear n0_))
                    have n_ := sep_l3 (sep_l3 (sep_l3 HS.out))
                    have n0_ := Aside0.mk n_; clear HS n_; have HS := n0_; clear n0_
                    go_upto_region 34 with (first | (go_at_call 16; obtain ⟨ok_, hp_, hk_⟩ := sep_use1 (sep_l3 HS.out); have hx_ := view_Events p s3 _ ok_ (by have := HE9.out; omega) hp_; (with_reducible refine Calls.mono hx_ ?_); rintro e w1 ⟨v_, rfl, hq_⟩; have n_ := back2 hk_ hq_; clear hx_ hp_ hk_ hq_; obtain ⟨Be, be, rfl, -, -⟩ := sep_row n_; have n0_ := Aside0.mk n_; clear HS n_; have HS := n0_; clear n0_) | (go_at_call 28; have hx_ := revents_walk q Ay cy x3.E _ (rv_facts (sep_l2 HS.out)).2.1 (sep_row' (sep_l4 HS.out)).2.2 HE9.out.1 HCX.out.2; rw [← HEX.out] at hx_; (with_reducible refine Calls.mono hx_ ?_); rintro e w1 ⟨⟨Ce, ce, rfl, hce_⟩, hb_⟩; have n_ := sep_below HS.out hb_; have HCE := Aside0.mk (Kd.C_below hce_ hb_); clear hx_ hb_ hce_; have n0_ := Aside0.mk n_; clear HS n_; have HS := n0_; clear n0_) | (go_at_call 27; have hx_ := events_walk Be Ce be ce s3.E _ (sep_row' HS.out).2.2 HCE.out (by have := HE9.out; omega); (with_reducible refine Calls.mono hx_ ?_); rintro e w1 ⟨rfl, hb_⟩; have n_ := sep_drop (sep_below HS.out hb_); clear hx_ hb_ HCE; have n0_ := Aside0.mk n_; clear HS n_; have HS := n0_; clear n0_))
                    have n_ := sep_drew HS.out
                    have n0_ := Aside0.mk n_; clear HS n_; have HS := n0_; clear n0_
                    have kp := (rv_facts (sep_l1 HS.out)).2.1
                    have w1_ : IntKind.u64.wrap ((x3.E.length : Nat) : Int) = (x3.E.length : Int) := by have := HE9.out; rw [IntKind.wrap_u64]; omega
                    have u1_ : (((x3.E.length : Nat) : Int) != ((x3.E.length : Nat) : Int)) = false := by simp
                    go_region_held3 (fun w' => w'.cell? ⟨q, 1, none⟩ = some (.slice Ay x3.E.length cy)) (first | exact kp | exact (rv_facts (sep_l1 HS.out)).2.1) (first | (go_at_call 13; obtain ⟨ok_, hp_, hk_⟩ := sep_use1 HS.out; have hx_ := view_Seen p s3 _ ok_ hp_; rw [HSX.out] at hx_; (with_reducible refine Calls.mono hx_ ?_); rintro e w1 ⟨rfl, hq_⟩; have n_ := back1 hk_ hq_; clear hx_ hp_ hk_ hq_; have n0_ := Aside0.mk n_; clear HS n_; have HS := n0_; clear n0_) | fail)
                    all_goals
                      clear kp w1_ u1_
                      have n_ := sep_l1 (rview_mk (sep_l3 (sep_l3 (sep_l3 HS.out))))
                      have n0_ := Aside0.mk n_; clear HS n_; have HS := n0_; clear n0_
                      go_wp2
                      go_roundg (l.length - (i + 1))
                      case measure => have := HI.out; omega
                      case rel => exact ⟨i + 1, HI.out.1, HI.out.2.1, Nat.le_refl _, congrArg (Value.int .i64) (by have := HI.out; unfold wrap64; omega), s3, x3, ⟨HB3.out.rel, by have := HB3.out.ev; have := HKL.out; have := HI.out; omega⟩, HS⟩
              · obtain rfl : k = d.length := by omega
                have d2b : decide ((d.length : Int) < (d.length : Int)) = false := decide_eq_false (by omega)
                clear hlk
                obtain ⟨ll, hll⟩ : ∃ ll, thL d (d.length) = ll := ⟨_, rfl⟩
                have hk9 := thL_len d (d.length)
                rw [hll] at HS hk9
                have hrm := rel_merge HB2.out.rel ll
                have HB3 := Aside0.mk (Bd_merge HB2.out ll)
                have ho3 := (rmg_ok x2 ll ll.length).2.2
                rw [List.take_length] at ho3
                have ho4 : (rmerge x2 ll).1.length ≤ ll.length := by unfold rmerge; split; exact Nat.zero_le _; exact ho3
                obtain ⟨⟨o3, g3, s3⟩, hm3⟩ : ∃ z, mergeE s2 ll = z := ⟨_, rfl⟩
                obtain ⟨⟨o4, g4, x3⟩, hr3⟩ : ∃ z, rmerge x2 ll = z := ⟨_, rfl⟩
                rw [hm3, hr3] at hrm HB3
                rw [hr3] at ho4
                dsimp only at hrm HB3 ho4
                obtain ⟨rfl, rfl, -⟩ := hrm
                have HM3 := Aside0.mk hm3
                have HR3 := Aside0.mk hr3
                have HKL : Aside0 (ll.length ≤ 20 ∧ i < 10 ∧ o4.length ≤ 20) := ⟨by omega, HD.out.2, by omega⟩
                clear hk hk20 hgk hll hk9 ho3 ho4 hm3 hr3
                obtain ⟨Al, cl, rfl, hcl, -⟩ := sep_row HS.out
                obtain ⟨Ar, cr, rfl, hcr, -⟩ := sep_row (sep_l1 HS.out)
                clear hcl hcr
                have n_ := sep_l2 HS.out
                have n0_ := Aside0.mk n_; clear HS n_; have HS := n0_; clear n0_
                go_upto_region 27 with (go_at_call 23; obtain ⟨ok_, hp_, hk_⟩ := sep_use2 HS.out; have hx_ := view_Merge p s2 Al cl ll _ ok_ (Bd_E HB2.out).1 (by have := (Bd_E HB2.out).2; have := HI.out; omega) (by have := HKL.out; omega) hp_; rw [HM3.out] at hx_; dsimp only at hx_; (with_reducible refine Calls.mono hx_ ?_); rintro e w1 ⟨v5_, rfl, hq_⟩; have n_ := back3 hk_ hq_; clear hx_ hp_ hk_ hq_; obtain ⟨Am, cm, rfl, -, -⟩ := sep_row n_; replace n_ := sep_l4 (sep_l3 n_); have n0_ := Aside0.mk n_; clear HS n_; have HS := n0_; clear n0_)
                go_upto_region 28 with (go_at_call 24; obtain ⟨ok_, hp_, hk_⟩ := sep_use2 HS.out; have hx_ := rview_Merge q x2 Ar cr ll _ ok_ (by have := HB2.out.ev; have := HI.out; omega) (by have := Bd_L HB2.out; omega) (by have := HKL.out; omega) hp_; rw [HR3.out] at hx_; dsimp only at hx_; (with_reducible refine Calls.mono hx_ ?_); rintro e w1 ⟨v6_, rfl, hq_⟩; have n_ := back3 hk_ hq_; clear hx_ hp_ hk_ hq_; obtain ⟨An, cn, rfl, -, -⟩ := sep_row n_; have n0_ := Aside0.mk n_; clear HS n_; have HS := n0_; clear n0_)
                have u4_ : (g4 != g4) = false := by simp
                go_upto_region 31 with (go_at_call 25; have hx_ := alike_walk Am An cm cn o4 _ (sep_row' (sep_l3 HS.out)).2.2 (sep_row' HS.out).2.2 (by have := HKL.out; omega); (with_reducible refine Calls.mono hx_ ?_); rintro e w1 ⟨rfl, hb_⟩; have n_ := sep_below HS.out hb_; clear hx_ hb_; have n0_ := Aside0.mk n_; clear HS n_; have HS := n0_; clear n0_)
                clear u4_
                have n_ := sep_l1 (sep_drop (sep_l2 (sep_drop (sep_l1 (sep_drop (sep_l1 (sep_drop HS.out)))))))
                have n0_ := Aside0.mk n_; clear HS n_; have HS := n0_; clear n0_
                obtain ⟨Ax, cx, Ay, cy, hcx, hcy, n_⟩ := rview_open (sep_l1 HS.out)
                have HCX := Aside0.mk (And.intro hcx hcy)
                have HMX := Aside0.mk HB3.out.rel.mem
                have HLX : Aside0 (liveL x3.L x3.L.length = liveE s3) := ⟨by rw [← rel_live HB3.out.rel]; unfold liveL rlive; rw [List.take_length]⟩
                have HEX := Aside0.mk HB3.out.rel.ev
                have HSX := Aside0.mk HB3.out.rel.seen
                have HL33 := Aside0.mk (Bd_L HB3.out)
                have HE9 : Aside0 (x3.E.length ≤ 1000 ∧ s3.E.length ≤ 128) := ⟨by have := HB3.out.ev; have := HI.out; have := HKL.out; omega, (Bd_E HB3.out).1⟩
                clear hcx hcy
                have n0_ := Aside0.mk n_; clear HS n_; have HS := n0_; clear n0_
                go_upto_region 31 with (fail)
                have n_ := sep_drew HS.out
                have n0_ := Aside0.mk n_; clear HS n_; have HS := n0_; clear n0_
                have kp := (rv_facts HS.out).1
                go_region_held3 (fun w' => w'.cell? ⟨q, 0, none⟩ = some (.slice Ax x3.L.length cx)) (first | exact kp | exact (rv_facts HS.out).1 | exact (rv_facts (sep_l2 HS.out)).1) (first | (go_at_call 17; obtain ⟨ok_, hp_, hk_⟩ := sep_use1 (sep_l3 HS.out); have hx_ := view_Members p s3 _ ok_ hp_; rw [HMX.out] at hx_; (with_reducible refine Calls.mono hx_ ?_); rintro e w1 ⟨v_, rfl, hq_⟩; have n_ := back2 hk_ hq_; clear hx_ hp_ hk_ hq_; obtain ⟨Am, cm, rfl, -, -⟩ := sep_row n_; have n0_ := Aside0.mk n_; clear HS n_; have HS := n0_; clear n0_) | (go_at_call 25; have hx_ := alike_walk Am Ax cm cx x3.L _ (sep_row' HS.out).2.2 (sep_row' (sep_l3 HS.out)).2.2 (by have := HL33.out; omega); (with_reducible refine Calls.mono hx_ ?_); rintro e w1 ⟨rfl, hb_⟩; have n_ := sep_below HS.out hb_; clear hx_ hb_; have n0_ := Aside0.mk n_; clear HS n_; have HS := n0_; clear n0_) | fail)
                all_goals
                  have n_ := sep_l3 (sep_l3 (sep_l3 (sep_drop HS.out)))
                  clear kp
                  have n0_ := Aside0.mk n_; clear HS n_; have HS := n0_; clear n0_
                  go_upto_region 33 with (first | (go_at_call 19; obtain ⟨ok_, hp_, hk_⟩ := sep_use1 (sep_l3 HS.out); have hx_ := view_Live p s3 _ ok_ hp_; (with_reducible refine Calls.mono hx_ ?_); rintro e w1 ⟨v_, rfl, hq_⟩; have n_ := back2 hk_ hq_; clear hx_ hp_ hk_ hq_; obtain ⟨Bl, bl, rfl, -, -⟩ := sep_row n_; have n0_ := Aside0.mk n_; clear HS n_; have HS := n0_; clear n0_) | (go_at_call 26; have hx_ := rlive_walk q Ax cx x3.L _ (rv_facts (sep_l2 HS.out)).1 (sep_row' (sep_l3 HS.out)).2.2 (by have := HL33.out; omega); rw [HLX.out] at hx_; (with_reducible refine Calls.mono hx_ ?_); rintro e w1 ⟨v_, rfl, hq_⟩; have n_ := sep_l1 (sep_made_of HS.out (sep_only hq_)); clear hx_ hq_; obtain ⟨Cl, cl, rfl, -, -⟩ := sep_row (sep_l1 n_); have n0_ := Aside0.mk n_; clear HS n_; have HS := n0_; clear n0_) | (go_at_call 18; obtain ⟨ok_, hp_, hk_⟩ := sep_use2 HS.out; have hx_ := live_same Bl Cl bl cl (liveE s3) _ ok_ hp_; (with_reducible refine Calls.mono hx_ ?_); rintro e w1 ⟨rfl, hq_⟩; have n_ := back2 hk_ hq_; clear hx_ hp_ hk_ hq_; replace n_ := sep_drop (sep_drop n_); have n0_ := Aside0.mk n_; clear HS n_; have HS := n0_; clear n0_))
                  have n_ := sep_l3 (sep_l3 (sep_l3 HS.out))
                  have n0_ := Aside0.mk n_; clear HS n_; have HS := n0_; clear n0_
                  go_upto_region 34 with (first | (go_at_call 16; obtain ⟨ok_, hp_, hk_⟩ := sep_use1 (sep_l3 HS.out); have hx_ := view_Events p s3 _ ok_ (by have := HE9.out; omega) hp_; (with_reducible refine Calls.mono hx_ ?_); rintro e w1 ⟨v_, rfl, hq_⟩; have n_ := back2 hk_ hq_; clear hx_ hp_ hk_ hq_; obtain ⟨Be, be, rfl, -, -⟩ := sep_row n_; have n0_ := Aside0.mk n_; clear HS n_; have HS := n0_; clear n0_) | (go_at_call 28; have hx_ := revents_walk q Ay cy x3.E _ (rv_facts (sep_l2 HS.out)).2.1 (sep_row' (sep_l4 HS.out)).2.2 HE9.out.1 HCX.out.2; rw [← HEX.out] at hx_; (with_reducible refine Calls.mono hx_ ?_); rintro e w1 ⟨⟨Ce, ce, rfl, hce_⟩, hb_⟩; have n_ := sep_below HS.out hb_; have HCE := Aside0.mk (Kd.C_below hce_ hb_); clear hx_ hb_ hce_; have n0_ := Aside0.mk n_; clear HS n_; have HS := n0_; clear n0_) | (go_at_call 27; have hx_ := events_walk Be Ce be ce s3.E _ (sep_row' HS.out).2.2 HCE.out (by have := HE9.out; omega); (with_reducible refine Calls.mono hx_ ?_); rintro e w1 ⟨rfl, hb_⟩; have n_ := sep_drop (sep_below HS.out hb_); clear hx_ hb_ HCE; have n0_ := Aside0.mk n_; clear HS n_; have HS := n0_; clear n0_))
                  have n_ := sep_drew HS.out
                  have n0_ := Aside0.mk n_; clear HS n_; have HS := n0_; clear n0_
                  have kp := (rv_facts (sep_l1 HS.out)).2.1
                  have w1_ : IntKind.u64.wrap ((x3.E.length : Nat) : Int) = (x3.E.length : Int) := by have := HE9.out; rw [IntKind.wrap_u64]; omega
                  have u1_ : (((x3.E.length : Nat) : Int) != ((x3.E.length : Nat) : Int)) = false := by simp
                  go_region_held3 (fun w' => w'.cell? ⟨q, 1, none⟩ = some (.slice Ay x3.E.length cy)) (first | exact kp | exact (rv_facts (sep_l1 HS.out)).2.1) (first | (go_at_call 13; obtain ⟨ok_, hp_, hk_⟩ := sep_use1 HS.out; have hx_ := view_Seen p s3 _ ok_ hp_; rw [HSX.out] at hx_; (with_reducible refine Calls.mono hx_ ?_); rintro e w1 ⟨rfl, hq_⟩; have n_ := back1 hk_ hq_; clear hx_ hp_ hk_ hq_; have n0_ := Aside0.mk n_; clear HS n_; have HS := n0_; clear n0_) | fail)
                  all_goals
                    clear kp w1_ u1_
                    have n_ := sep_l1 (rview_mk (sep_l3 (sep_l3 (sep_l3 HS.out))))
                    have n0_ := Aside0.mk n_; clear HS n_; have HS := n0_; clear n0_
                    go_wp2
                    go_roundg (l.length - (i + 1))
                    case measure => have := HI.out; omega
                    case rel => exact ⟨i + 1, HI.out.1, HI.out.2.1, Nat.le_refl _, congrArg (Value.int .i64) (by have := HI.out; unfold wrap64; omega), s3, x3, ⟨HB3.out.rel, by have := HB3.out.ev; have := HKL.out; have := HI.out; omega⟩, HS⟩
          · have HKL : Aside0 (0 ≤ 20) := ⟨by decide⟩
            rcases Nat.lt_or_ge i m.length with h1 | h1
            · have c8 : decide ((i : Int) < (m.length : Int)) = true := decide_eq_true (by omega)
              have c8n : decide (i < m.length) = true := decide_eq_true h1
              have c8q := eq_true h1
              have c9 : decide ((i : Int) < 10) = false := decide_eq_false (by omega)
              have c9n : decide (i < 10) = false := decide_eq_false (by omega)
              have c9q : (i < 10) = False := eq_false (by omega)
              have c9r : ((i : Int) < 10) = False := eq_false (by omega)
              clear h1 hm
              obtain ⟨Ax, cx, Ay, cy, hcx, hcy, n_⟩ := rview_open (sep_l1 HS.out)
              have HCX := Aside0.mk (And.intro hcx hcy)
              have HMX := Aside0.mk HB2.out.rel.mem
              have HLX : Aside0 (liveL x2.L x2.L.length = liveE s2) := ⟨by rw [← rel_live HB2.out.rel]; unfold liveL rlive; rw [List.take_length]⟩
              have HEX := Aside0.mk HB2.out.rel.ev
              have HSX := Aside0.mk HB2.out.rel.seen
              have HL33 := Aside0.mk (Bd_L HB2.out)
              have HE9 : Aside0 (x2.E.length ≤ 1000 ∧ s2.E.length ≤ 128) := ⟨by have := HB2.out.ev; have := HI.out; have := HKL.out; omega, (Bd_E HB2.out).1⟩
              clear hcx hcy
              have n0_ := Aside0.mk n_; clear HS n_; have HS := n0_; clear n0_
              go_upto_region 31 with (fail)
              have n_ := sep_drew HS.out
              have n0_ := Aside0.mk n_; clear HS n_; have HS := n0_; clear n0_
              have kp := (rv_facts HS.out).1
              go_region_held3 (fun w' => w'.cell? ⟨q, 0, none⟩ = some (.slice Ax x2.L.length cx)) (first | exact kp | exact (rv_facts HS.out).1 | exact (rv_facts (sep_l2 HS.out)).1) (first | (go_at_call 17; obtain ⟨ok_, hp_, hk_⟩ := sep_use1 (sep_l3 HS.out); have hx_ := view_Members p s2 _ ok_ hp_; rw [HMX.out] at hx_; (with_reducible refine Calls.mono hx_ ?_); rintro e w1 ⟨v_, rfl, hq_⟩; have n_ := back2 hk_ hq_; clear hx_ hp_ hk_ hq_; obtain ⟨Am, cm, rfl, -, -⟩ := sep_row n_; have n0_ := Aside0.mk n_; clear HS n_; have HS := n0_; clear n0_) | (go_at_call 25; have hx_ := alike_walk Am Ax cm cx x2.L _ (sep_row' HS.out).2.2 (sep_row' (sep_l3 HS.out)).2.2 (by have := HL33.out; omega); (with_reducible refine Calls.mono hx_ ?_); rintro e w1 ⟨rfl, hb_⟩; have n_ := sep_below HS.out hb_; clear hx_ hb_; have n0_ := Aside0.mk n_; clear HS n_; have HS := n0_; clear n0_) | fail)
              all_goals
                have n_ := sep_l3 (sep_l3 (sep_l3 (sep_drop HS.out)))
                clear kp
                have n0_ := Aside0.mk n_; clear HS n_; have HS := n0_; clear n0_
                go_upto_region 33 with (first | (go_at_call 19; obtain ⟨ok_, hp_, hk_⟩ := sep_use1 (sep_l3 HS.out); have hx_ := view_Live p s2 _ ok_ hp_; (with_reducible refine Calls.mono hx_ ?_); rintro e w1 ⟨v_, rfl, hq_⟩; have n_ := back2 hk_ hq_; clear hx_ hp_ hk_ hq_; obtain ⟨Bl, bl, rfl, -, -⟩ := sep_row n_; have n0_ := Aside0.mk n_; clear HS n_; have HS := n0_; clear n0_) | (go_at_call 26; have hx_ := rlive_walk q Ax cx x2.L _ (rv_facts (sep_l2 HS.out)).1 (sep_row' (sep_l3 HS.out)).2.2 (by have := HL33.out; omega); rw [HLX.out] at hx_; (with_reducible refine Calls.mono hx_ ?_); rintro e w1 ⟨v_, rfl, hq_⟩; have n_ := sep_l1 (sep_made_of HS.out (sep_only hq_)); clear hx_ hq_; obtain ⟨Cl, cl, rfl, -, -⟩ := sep_row (sep_l1 n_); have n0_ := Aside0.mk n_; clear HS n_; have HS := n0_; clear n0_) | (go_at_call 18; obtain ⟨ok_, hp_, hk_⟩ := sep_use2 HS.out; have hx_ := live_same Bl Cl bl cl (liveE s2) _ ok_ hp_; (with_reducible refine Calls.mono hx_ ?_); rintro e w1 ⟨rfl, hq_⟩; have n_ := back2 hk_ hq_; clear hx_ hp_ hk_ hq_; replace n_ := sep_drop (sep_drop n_); have n0_ := Aside0.mk n_; clear HS n_; have HS := n0_; clear n0_))
                have n_ := sep_l3 (sep_l3 (sep_l3 HS.out))
                have n0_ := Aside0.mk n_; clear HS n_; have HS := n0_; clear n0_
                go_upto_region 34 with (first | (go_at_call 16; obtain ⟨ok_, hp_, hk_⟩ := sep_use1 (sep_l3 HS.out); have hx_ := view_Events p s2 _ ok_ (by have := HE9.out; omega) hp_; (with_reducible refine Calls.mono hx_ ?_); rintro e w1 ⟨v_, rfl, hq_⟩; have n_ := back2 hk_ hq_; clear hx_ hp_ hk_ hq_; obtain ⟨Be, be, rfl, -, -⟩ := sep_row n_; have n0_ := Aside0.mk n_; clear HS n_; have HS := n0_; clear n0_) | (go_at_call 28; have hx_ := revents_walk q Ay cy x2.E _ (rv_facts (sep_l2 HS.out)).2.1 (sep_row' (sep_l4 HS.out)).2.2 HE9.out.1 HCX.out.2; rw [← HEX.out] at hx_; (with_reducible refine Calls.mono hx_ ?_); rintro e w1 ⟨⟨Ce, ce, rfl, hce_⟩, hb_⟩; have n_ := sep_below HS.out hb_; have HCE := Aside0.mk (Kd.C_below hce_ hb_); clear hx_ hb_ hce_; have n0_ := Aside0.mk n_; clear HS n_; have HS := n0_; clear n0_) | (go_at_call 27; have hx_ := events_walk Be Ce be ce s2.E _ (sep_row' HS.out).2.2 HCE.out (by have := HE9.out; omega); (with_reducible refine Calls.mono hx_ ?_); rintro e w1 ⟨rfl, hb_⟩; have n_ := sep_drop (sep_below HS.out hb_); clear hx_ hb_ HCE; have n0_ := Aside0.mk n_; clear HS n_; have HS := n0_; clear n0_))
                have n_ := sep_drew HS.out
                have n0_ := Aside0.mk n_; clear HS n_; have HS := n0_; clear n0_
                have kp := (rv_facts (sep_l1 HS.out)).2.1
                have w1_ : IntKind.u64.wrap ((x2.E.length : Nat) : Int) = (x2.E.length : Int) := by have := HE9.out; rw [IntKind.wrap_u64]; omega
                have u1_ : (((x2.E.length : Nat) : Int) != ((x2.E.length : Nat) : Int)) = false := by simp
                go_region_held3 (fun w' => w'.cell? ⟨q, 1, none⟩ = some (.slice Ay x2.E.length cy)) (first | exact kp | exact (rv_facts (sep_l1 HS.out)).2.1) (first | (go_at_call 13; obtain ⟨ok_, hp_, hk_⟩ := sep_use1 HS.out; have hx_ := view_Seen p s2 _ ok_ hp_; rw [HSX.out] at hx_; (with_reducible refine Calls.mono hx_ ?_); rintro e w1 ⟨rfl, hq_⟩; have n_ := back1 hk_ hq_; clear hx_ hp_ hk_ hq_; have n0_ := Aside0.mk n_; clear HS n_; have HS := n0_; clear n0_) | fail)
                all_goals
                  clear kp w1_ u1_
                  have n_ := sep_l1 (rview_mk (sep_l3 (sep_l3 (sep_l3 HS.out))))
                  have n0_ := Aside0.mk n_; clear HS n_; have HS := n0_; clear n0_
                  go_wp2
                  go_roundg (l.length - (i + 1))
                  case measure => have := HI.out; omega
                  case rel => exact ⟨i + 1, HI.out.1, HI.out.2.1, Nat.le_refl _, congrArg (Value.int .i64) (by have := HI.out; unfold wrap64; omega), s2, x2, ⟨HB2.out.rel, by have := HB2.out.ev; have := HKL.out; have := HI.out; omega⟩, HS⟩
            · have c8 : decide ((i : Int) < (m.length : Int)) = false := decide_eq_false (by omega)
              have c8n : decide (i < m.length) = false := decide_eq_false (by omega)
              have c8q : (i < m.length) = False := eq_false (by omega)
              have c8r : ((i : Int) < (m.length : Int)) = False := eq_false (by omega)
              clear h1 hm
              obtain ⟨Ax, cx, Ay, cy, hcx, hcy, n_⟩ := rview_open (sep_l1 HS.out)
              have HCX := Aside0.mk (And.intro hcx hcy)
              have HMX := Aside0.mk HB2.out.rel.mem
              have HLX : Aside0 (liveL x2.L x2.L.length = liveE s2) := ⟨by rw [← rel_live HB2.out.rel]; unfold liveL rlive; rw [List.take_length]⟩
              have HEX := Aside0.mk HB2.out.rel.ev
              have HSX := Aside0.mk HB2.out.rel.seen
              have HL33 := Aside0.mk (Bd_L HB2.out)
              have HE9 : Aside0 (x2.E.length ≤ 1000 ∧ s2.E.length ≤ 128) := ⟨by have := HB2.out.ev; have := HI.out; have := HKL.out; omega, (Bd_E HB2.out).1⟩
              clear hcx hcy
              have n0_ := Aside0.mk n_; clear HS n_; have HS := n0_; clear n0_
              go_upto_region 31 with (fail)
              have n_ := sep_drew HS.out
              have n0_ := Aside0.mk n_; clear HS n_; have HS := n0_; clear n0_
              have kp := (rv_facts HS.out).1
              go_region_held3 (fun w' => w'.cell? ⟨q, 0, none⟩ = some (.slice Ax x2.L.length cx)) (first | exact kp | exact (rv_facts HS.out).1 | exact (rv_facts (sep_l2 HS.out)).1) (first | (go_at_call 17; obtain ⟨ok_, hp_, hk_⟩ := sep_use1 (sep_l3 HS.out); have hx_ := view_Members p s2 _ ok_ hp_; rw [HMX.out] at hx_; (with_reducible refine Calls.mono hx_ ?_); rintro e w1 ⟨v_, rfl, hq_⟩; have n_ := back2 hk_ hq_; clear hx_ hp_ hk_ hq_; obtain ⟨Am, cm, rfl, -, -⟩ := sep_row n_; have n0_ := Aside0.mk n_; clear HS n_; have HS := n0_; clear n0_) | (go_at_call 25; have hx_ := alike_walk Am Ax cm cx x2.L _ (sep_row' HS.out).2.2 (sep_row' (sep_l3 HS.out)).2.2 (by have := HL33.out; omega); (with_reducible refine Calls.mono hx_ ?_); rintro e w1 ⟨rfl, hb_⟩; have n_ := sep_below HS.out hb_; clear hx_ hb_; have n0_ := Aside0.mk n_; clear HS n_; have HS := n0_; clear n0_) | fail)
              all_goals
                have n_ := sep_l3 (sep_l3 (sep_l3 (sep_drop HS.out)))
                clear kp
                have n0_ := Aside0.mk n_; clear HS n_; have HS := n0_; clear n0_
                go_upto_region 33 with (first | (go_at_call 19; obtain ⟨ok_, hp_, hk_⟩ := sep_use1 (sep_l3 HS.out); have hx_ := view_Live p s2 _ ok_ hp_; (with_reducible refine Calls.mono hx_ ?_); rintro e w1 ⟨v_, rfl, hq_⟩; have n_ := back2 hk_ hq_; clear hx_ hp_ hk_ hq_; obtain ⟨Bl, bl, rfl, -, -⟩ := sep_row n_; have n0_ := Aside0.mk n_; clear HS n_; have HS := n0_; clear n0_) | (go_at_call 26; have hx_ := rlive_walk q Ax cx x2.L _ (rv_facts (sep_l2 HS.out)).1 (sep_row' (sep_l3 HS.out)).2.2 (by have := HL33.out; omega); rw [HLX.out] at hx_; (with_reducible refine Calls.mono hx_ ?_); rintro e w1 ⟨v_, rfl, hq_⟩; have n_ := sep_l1 (sep_made_of HS.out (sep_only hq_)); clear hx_ hq_; obtain ⟨Cl, cl, rfl, -, -⟩ := sep_row (sep_l1 n_); have n0_ := Aside0.mk n_; clear HS n_; have HS := n0_; clear n0_) | (go_at_call 18; obtain ⟨ok_, hp_, hk_⟩ := sep_use2 HS.out; have hx_ := live_same Bl Cl bl cl (liveE s2) _ ok_ hp_; (with_reducible refine Calls.mono hx_ ?_); rintro e w1 ⟨rfl, hq_⟩; have n_ := back2 hk_ hq_; clear hx_ hp_ hk_ hq_; replace n_ := sep_drop (sep_drop n_); have n0_ := Aside0.mk n_; clear HS n_; have HS := n0_; clear n0_))
                have n_ := sep_l3 (sep_l3 (sep_l3 HS.out))
                have n0_ := Aside0.mk n_; clear HS n_; have HS := n0_; clear n0_
                go_upto_region 34 with (first | (go_at_call 16; obtain ⟨ok_, hp_, hk_⟩ := sep_use1 (sep_l3 HS.out); have hx_ := view_Events p s2 _ ok_ (by have := HE9.out; omega) hp_; (with_reducible refine Calls.mono hx_ ?_); rintro e w1 ⟨v_, rfl, hq_⟩; have n_ := back2 hk_ hq_; clear hx_ hp_ hk_ hq_; obtain ⟨Be, be, rfl, -, -⟩ := sep_row n_; have n0_ := Aside0.mk n_; clear HS n_; have HS := n0_; clear n0_) | (go_at_call 28; have hx_ := revents_walk q Ay cy x2.E _ (rv_facts (sep_l2 HS.out)).2.1 (sep_row' (sep_l4 HS.out)).2.2 HE9.out.1 HCX.out.2; rw [← HEX.out] at hx_; (with_reducible refine Calls.mono hx_ ?_); rintro e w1 ⟨⟨Ce, ce, rfl, hce_⟩, hb_⟩; have n_ := sep_below HS.out hb_; have HCE := Aside0.mk (Kd.C_below hce_ hb_); clear hx_ hb_ hce_; have n0_ := Aside0.mk n_; clear HS n_; have HS := n0_; clear n0_) | (go_at_call 27; have hx_ := events_walk Be Ce be ce s2.E _ (sep_row' HS.out).2.2 HCE.out (by have := HE9.out; omega); (with_reducible refine Calls.mono hx_ ?_); rintro e w1 ⟨rfl, hb_⟩; have n_ := sep_drop (sep_below HS.out hb_); clear hx_ hb_ HCE; have n0_ := Aside0.mk n_; clear HS n_; have HS := n0_; clear n0_))
                have n_ := sep_drew HS.out
                have n0_ := Aside0.mk n_; clear HS n_; have HS := n0_; clear n0_
                have kp := (rv_facts (sep_l1 HS.out)).2.1
                have w1_ : IntKind.u64.wrap ((x2.E.length : Nat) : Int) = (x2.E.length : Int) := by have := HE9.out; rw [IntKind.wrap_u64]; omega
                have u1_ : (((x2.E.length : Nat) : Int) != ((x2.E.length : Nat) : Int)) = false := by simp
                go_region_held3 (fun w' => w'.cell? ⟨q, 1, none⟩ = some (.slice Ay x2.E.length cy)) (first | exact kp | exact (rv_facts (sep_l1 HS.out)).2.1) (first | (go_at_call 13; obtain ⟨ok_, hp_, hk_⟩ := sep_use1 HS.out; have hx_ := view_Seen p s2 _ ok_ hp_; rw [HSX.out] at hx_; (with_reducible refine Calls.mono hx_ ?_); rintro e w1 ⟨rfl, hq_⟩; have n_ := back1 hk_ hq_; clear hx_ hp_ hk_ hq_; have n0_ := Aside0.mk n_; clear HS n_; have HS := n0_; clear n0_) | fail)
                all_goals
                  clear kp w1_ u1_
                  have n_ := sep_l1 (rview_mk (sep_l3 (sep_l3 (sep_l3 HS.out))))
                  have n0_ := Aside0.mk n_; clear HS n_; have HS := n0_; clear n0_
                  go_wp2
                  go_roundg (l.length - (i + 1))
                  case measure => have := HI.out; omega
                  case rel => exact ⟨i + 1, HI.out.1, HI.out.2.1, Nat.le_refl _, congrArg (Value.int .i64) (by have := HI.out; unfold wrap64; omega), s2, x2, ⟨HB2.out.rel, by have := HB2.out.ev; have := HKL.out; have := HI.out; omega⟩, HS⟩
      · obtain rfl : i = 60 := by omega
        have c6b : decide (((60 : Nat) : Int) < 60) = false := by decide
        clear hi hi60 hgi h60
        go_wp2
        go_ret
        exact ⟨rfl, sep_below_of HS.out⟩
    · obtain rfl : i = l.length := by omega
      have c2b : decide ((l.length : Int) < (l.length : Int)) = false := decide_eq_false (by omega)
      clear hi hi60 hgi hlt
      go_wp2
      go_ret
      exact ⟨rfl, sep_below_of HS.out⟩
end Go.Proofs.Ythpmlnnjfmcglaa.VW
