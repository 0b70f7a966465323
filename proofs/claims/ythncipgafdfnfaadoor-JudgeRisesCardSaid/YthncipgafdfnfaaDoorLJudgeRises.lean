/- JudgeRises, walked. Conditions: those that the theorem names. -/
import Derived.Test.YthncipgafdfnfaaDoorXO
namespace Go.Proofs.YthncipgafdfnfaaDoor.JW
set_option linter.unusedVariables false
set_option linter.unusedSimpArgs false
open Go Go.RowKit Go.Proofs.YthncipgafdfnfaaDoorS Go.Proofs.YthncipgafdfnfaaDoorS.Asn Go.Proofs.YthncipgafdfnfaaDoor.PA Go.Proofs.YthncipgafdfnfaaDoorW.PrintWords Go.Proofs.YthncipgafdfnfaaDoorW.PrintLast Go.Proofs.YthncipgafdfnfaaDoorW.PrintMore
theorem firstE_find (l : List Rec) (id : Int) : firstE l id = match l.find? (isId id) with | some y => (y, true) | none => (Rec.zero, false) := by
  unfold firstE
  cases h : l.any (isId id) with
  | false =>
    rw [idx_none _ _ h, if_pos (by decide)]
    have : l.find? (isId id) = none := by
      rw [List.find?_eq_none]
      intro x hx hp
      rw [List.any_eq_false] at h
      exact h x hx hp
    rw [this]
  | true =>
    obtain ⟨k, y, e, hy, hp, hk⟩ := idx_at _ _ h
    rw [e, if_neg (by omega), Int.toNat_natCast, List.getD_eq_getElem?_getD, hy, Option.getD_some]
    have : l.find? (isId id) = some y := by
      unfold idx at e
      rw [if_pos h] at e
      have e : l.findIdx (isId id) = k := by omega
      have hl : l.findIdx (isId id) < l.length := by omega
      have := (List.findIdx_eq hl).1 rfl
      rw [List.find?_eq_some_iff_getElem]
      refine ⟨hp, k, hk, (List.getElem?_eq_some_iff.1 hy).2, fun j hj => ?_⟩
      have := this.2 j (by omega)
      simpa using this
    rw [this]
theorem first_some {l : List Rec} {id : Int} {y : Rec} (h : l.find? (isId id) = some y) : firstE l id = (y, true) := by rw [firstE_find, h]
theorem rises_iff (a b : List Rec) : risesE a b = true ↔ ∀ r ∈ a, ∃ x, b.find? (isId r.id) = some x ∧ 0 ≤ order x r := by
  unfold risesE
  rw [Bool.not_eq_true', List.any_eq_false]
  refine forall_congr' fun r => forall_congr' fun hr => ?_
  unfold badB
  rw [firstE_find]
  cases h : b.find? (isId r.id) with
  | none => simp
  | some x => simp
theorem find_id {l : List Rec} {id : Int} {y : Rec} (h : l.find? (isId id) = some y) : y ∈ l ∧ y.id = id := ⟨List.mem_of_find?_eq_some h, of_decide_eq_true (show decide (y.id = id) = true from List.find?_some (p := isId id) h)⟩
theorem rises_trans (a b c : List Rec) (h1 : risesE a b = true) (h2 : risesE b c = true) : risesE a c = true := by
  rw [rises_iff] at *
  intro r hr
  obtain ⟨x, hx, ho⟩ := h1 r hr
  obtain ⟨hm, hi⟩ := find_id hx
  obtain ⟨z, hz, hp⟩ := h2 x hm
  rw [hi] at hz
  exact ⟨z, hz, order_trans z x r hp ho⟩
theorem Once_find {l : List Rec} (h : Once l) {r : Rec} (hr : r ∈ l) : l.find? (isId r.id) = some r := by
  induction l with
  | nil => cases hr
  | cons y l ih =>
    obtain ⟨h1, h2⟩ := List.pairwise_cons.1 h
    rcases List.mem_cons.1 hr with rfl | hr
    · rw [List.find?_cons_of_pos (by exact decide_eq_true rfl)]
    · rw [List.find?_cons_of_neg (by have := h1 r hr; simp [isId, this])]
      exact ih h2 hr
theorem rises_self (l : List Rec) (h : Once l) : risesE l l = true := by
  rw [rises_iff]
  exact fun r hr => ⟨r, Once_find h hr, by rw [order_self]; exact Int.le_refl 0⟩
theorem rises_nil (l : List Rec) : risesE [] l = true := rfl
theorem rises_less (y : Rec) (l : List Rec) (h : Once (y :: l)) : risesE (y :: l) l = false := by
  obtain ⟨h1, h2⟩ := List.pairwise_cons.1 h
  cases q : risesE (y :: l) l with
  | false => rfl
  | true =>
    rw [rises_iff] at q
    obtain ⟨x, hx, -⟩ := q y List.mem_cons_self
    obtain ⟨hm, hi⟩ := find_id hx
    exact absurd hi.symm (h1 x hm)
theorem recC_tail {w : World} {g : Nat} {h : Rec} {t : List Rec} (hC : recK.C w (some ⟨g, 0, none⟩) (h :: t).length (h :: t)) : recK.C w (some ⟨g, 5, none⟩) t.length t := by
  obtain ⟨h0, h1, h2⟩ := hC
  obtain ⟨ad, he, hc⟩ := h2 (by simp)
  cases he
  refine ⟨rfl, by simp at h1; omega, fun hn => ⟨_, rfl, fun j p hjp => ?_⟩⟩
  obtain ⟨cs, hl, hk, hcell⟩ := hc (j + 1) p hjp
  refine ⟨cs, hl, hk, fun q u hu => ?_⟩
  have := hcell q u hu
  rw [add_at] at this
  rw [Addr.add_mid, show 5 + (j * recK.sz + q) = (j + 1) * recK.sz + q by rw [show recK.sz = 5 from rfl]; omega]
  exact this
theorem rises_nilw (B : Option Addr) (cb : Nat) (lb : List Rec) (w : World) (h : recK.C w B lb.length lb) : Calls Tryd.prog 11 #[.slice none 0 0, .slice B lb.length cb] w fun e w' => e = .returned (.bool true) ∧ Below w.heap.size w w' := rises_walk none B 0 cb [] lb w (rec_nil w) h
theorem c_less (g ca : Nat) (a : List Rec) (w : World) (hC : recK.C w (some ⟨g, 0, none⟩) a.length a) (h0 : 0 < a.length) (ho : Once a) : Calls Tryd.prog 11 #[.slice (some ⟨g, 0, none⟩) a.length ca, .slice (some ⟨g, 5, none⟩) (a.length - 1) (ca - 1)] w fun e w' => e = .returned (.bool false) ∧ Below w.heap.size w w' := by
  match a, h0 with
  | y :: l, _ =>
    have hx := rises_walk (some ⟨g, 0, none⟩) (some ⟨g, 5, none⟩) ca (ca - 1) (y :: l) l w hC (recC_tail hC)
    rw [rises_less y l ho] at hx
    exact hx
theorem c_less1 (g : Nat) (a : List Rec) (w : World) (hC : recK.C w (some ⟨g, 0, none⟩) a.length a) (h0 : 0 < a.length) (ho : Once a) (h1 : a.length ≤ 1) : Calls Tryd.prog 11 #[.slice (some ⟨g, 0, none⟩) a.length 1, .slice (some ⟨g, 0, none⟩) (a.length - 1) 0] w fun e w' => e = .returned (.bool false) ∧ Below w.heap.size w w' := by
  match a, h0, h1 with
  | [y], _, _ =>
    have hx := rises_walk (some ⟨g, 0, none⟩) (some ⟨g, 0, none⟩) 1 0 [y] [] w hC ⟨rfl, by simp, fun hn => absurd hn (by simp)⟩
    rw [rises_less y [] ho] at hx
    exact hx
set_option maxHeartbeats 4000000 in
set_option maxRecDepth 100000 in
theorem judgeRises_walk (Ax : Option Addr) (cx : Nat) (x : List Th) (Ay : Option Addr) (cy : Nat) (y : List Th) (Az : Option Addr) (cz : Nat) (z : List Th) (w : World) (hx : thK.C w Ax x.length x) (hcx : x.length ≤ cx) (hox : ∀ d ∈ x, thOk d) (hy : thK.C w Ay y.length y) (hcy : y.length ≤ cy) (hoy : ∀ d ∈ y, thOk d) (hz : thK.C w Az z.length z) (hcz : z.length ≤ cz) (hoz : ∀ d ∈ z, thOk d) :
    Calls Tryd.prog 3 #[.slice Ax x.length cx, .slice Ay y.length cy, .slice Az z.length cz] w fun e w' => e = .returned (.bool true) ∧ Below w.heap.size w w' := by
  have HS := Aside0.mk (sep_start w)
  have HX := Aside0.mk hx
  have HY := Aside0.mk hy
  have HZ := Aside0.mk hz
  have HOX := Aside0.mk hox
  have HOY := Aside0.mk hoy
  have HOZ := Aside0.mk hoz
  clear hx hcx hox hy hcy hoy hz hcz hoz
  go_enter Tryd.func3, Tryd.ntmps3
  go_upto_region 4 with (go_at_call 8; (with_reducible refine Calls.mono (examples_walk _) ?_); rintro e w1 ⟨rfl, hb_⟩; have n_ := sep_below HS.out hb_; clear hb_; have n0_ := Aside0.mk n_; clear HS n_; have HS := n0_; clear n0_; skip)
  go_upto_region 5 with (first | (go_at_call 10; (have hx_ := things_walk Ax cx x _ (Kd.C_below HX.out (sep_below_of HS.out)) HOX.out; (with_reducible refine Calls.mono hx_ ?_); rintro e w1 ⟨va, rfl, hm_⟩; have n_ := sep_made_of HS.out (sep_only hm_); clear hm_ hx_; obtain ⟨At, ct, rfl, -, -⟩ := sep_row n_; have n0_ := Aside0.mk n_; clear HS n_; have HS := n0_; clear n0_)) | (go_at_call 9; (have hx_ := ones_walk At ct (thingsE x) _ (sep_row' HS.out).2.2 (Nat.le_trans (thingsE_len x) (by decide)); (with_reducible refine Calls.mono hx_ ?_); rintro e w1 ⟨va, rfl, hm_⟩; have n_ := sep_drop (sep_l1 (sep_made_of HS.out (sep_only hm_))); clear hm_ hx_; have n0_ := Aside0.mk n_; clear HS n_; have HS := n0_; clear n0_)))
  obtain ⟨Aa, ca, rfl, -, -⟩ := sep_row HS.out
  go_upto_region 6 with (first | (go_at_call 10; (have hx_ := things_walk Ay cy y _ (Kd.C_below HY.out (sep_below_of HS.out)) HOY.out; (with_reducible refine Calls.mono hx_ ?_); rintro e w1 ⟨vb, rfl, hm_⟩; have n_ := sep_made_of HS.out (sep_only hm_); clear hm_ hx_; obtain ⟨At, ct, rfl, -, -⟩ := sep_row n_; have n0_ := Aside0.mk n_; clear HS n_; have HS := n0_; clear n0_)) | (go_at_call 9; (have hx_ := ones_walk At ct (thingsE y) _ (sep_row' HS.out).2.2 (Nat.le_trans (thingsE_len y) (by decide)); (with_reducible refine Calls.mono hx_ ?_); rintro e w1 ⟨vb, rfl, hm_⟩; have n_ := sep_drop (sep_l1 (sep_made_of HS.out (sep_only hm_))); clear hm_ hx_; have n0_ := Aside0.mk n_; clear HS n_; have HS := n0_; clear n0_)))
  obtain ⟨Ab, cb, rfl, -, -⟩ := sep_row HS.out
  go_upto_region 7 with (first | (go_at_call 10; (have hx_ := things_walk Az cz z _ (Kd.C_below HZ.out (sep_below_of HS.out)) HOZ.out; (with_reducible refine Calls.mono hx_ ?_); rintro e w1 ⟨vc, rfl, hm_⟩; have n_ := sep_made_of HS.out (sep_only hm_); clear hm_ hx_; obtain ⟨At, ct, rfl, -, -⟩ := sep_row n_; have n0_ := Aside0.mk n_; clear HS n_; have HS := n0_; clear n0_)) | (go_at_call 9; (have hx_ := ones_walk At ct (thingsE z) _ (sep_row' HS.out).2.2 (Nat.le_trans (thingsE_len z) (by decide)); (with_reducible refine Calls.mono hx_ ?_); rintro e w1 ⟨vc, rfl, hm_⟩; have n_ := sep_drop (sep_l1 (sep_made_of HS.out (sep_only hm_))); clear hm_ hx_; have n0_ := Aside0.mk n_; clear HS n_; have HS := n0_; clear n0_)))
  obtain ⟨Ac, cc, rfl, -, -⟩ := sep_row HS.out
  have HON := Aside0.mk (Once_ones (thingsE x))
  generalize onesE (thingsE x) = a at HS HON ⊢
  generalize onesE (thingsE y) = b at HS ⊢
  generalize onesE (thingsE z) = c at HS ⊢
  obtain ⟨ra, hra⟩ : ∃ q, risesE a b = q := ⟨_, rfl⟩
  obtain ⟨rb, hrb⟩ : ∃ q, risesE b c = q := ⟨_, rfl⟩
  obtain ⟨rc, hrc⟩ : ∃ q, risesE a c = q := ⟨_, rfl⟩
  have HT : Aside0 (ra = true → rb = true → rc = true) := ⟨fun h1 h2 => by rw [← hrc]; exact rises_trans a b c (hra.trans h1) (hrb.trans h2)⟩
  have HAB := Aside0.mk hra
  have HBC := Aside0.mk hrb
  have HAC := Aside0.mk hrc
  have HAA := Aside0.mk (rises_self a HON.out)
  clear hra hrb hrc
  rcases Nat.eq_zero_or_pos a.length with h0 | h0
  · have e1 : decide ((a.length : Int) > 0) = false := decide_eq_false (by omega)
    have e2 : decide (0 < (a.length : Int)) = false := decide_eq_false (by omega)
    have e3 : (0 < (a.length : Int)) = False := eq_false (by omega)
    have e4 := eq_false (show ¬ 0 < a.length by omega)
    clear h0
    go_upto_region 10 with (fail)
    cases ra with
    | false =>
      go_wp2_with (first
        | (go_at_call 11; (have hx_ := rises_walk _ Ab ca cb a b w1 (sep_row' (sep_l2 HS.out)).2.2 (sep_row' (sep_l1 HS.out)).2.2; rw [HAB.out] at hx_; (with_reducible refine Calls.mono hx_ ?_); rintro e w1 ⟨rfl, hb_⟩; have n_ := sep_below HS.out hb_; clear hb_ hx_; have n0_ := Aside0.mk n_; clear HS n_; have HS := n0_; clear n0_))
        | (go_at_call 11; (have hx_ := rises_walk Ab Ac cb cc b c w1 (sep_row' (sep_l1 HS.out)).2.2 (sep_row' (id HS.out)).2.2; rw [HBC.out] at hx_; (with_reducible refine Calls.mono hx_ ?_); rintro e w1 ⟨rfl, hb_⟩; have n_ := sep_below HS.out hb_; clear hb_ hx_; have n0_ := Aside0.mk n_; clear HS n_; have HS := n0_; clear n0_))
        | (go_at_call 11; (have hx_ := rises_walk _ Ac ca cc a c w1 (sep_row' (sep_l2 HS.out)).2.2 (sep_row' (id HS.out)).2.2; rw [HAC.out] at hx_; (with_reducible refine Calls.mono hx_ ?_); rintro e w1 ⟨rfl, hb_⟩; have n_ := sep_below HS.out hb_; clear hb_ hx_; have n0_ := Aside0.mk n_; clear HS n_; have HS := n0_; clear n0_))
        | (go_at_call 11; (have hx_ := rises_walk _ _ ca ca a a w1 (sep_row' (sep_l2 HS.out)).2.2 (sep_row' (sep_l2 HS.out)).2.2; rw [HAA.out] at hx_; (with_reducible refine Calls.mono hx_ ?_); rintro e w1 ⟨rfl, hb_⟩; have n_ := sep_below HS.out hb_; clear hb_ hx_; have n0_ := Aside0.mk n_; clear HS n_; have HS := n0_; clear n0_))
        | (go_at_call 11; (have hx_ := rises_nilw _ ca a w1 (sep_row' (sep_l2 HS.out)).2.2; (with_reducible refine Calls.mono hx_ ?_); rintro e w1 ⟨rfl, hb_⟩; have n_ := sep_below HS.out hb_; clear hb_ hx_; have n0_ := Aside0.mk n_; clear HS n_; have HS := n0_; clear n0_)))
      go_ret
      exact ⟨rfl, sep_below_of HS.out⟩
    | true =>
      cases rb with
      | false =>
        go_wp2_with (first
          | (go_at_call 11; (have hx_ := rises_walk _ Ab ca cb a b w1 (sep_row' (sep_l2 HS.out)).2.2 (sep_row' (sep_l1 HS.out)).2.2; rw [HAB.out] at hx_; (with_reducible refine Calls.mono hx_ ?_); rintro e w1 ⟨rfl, hb_⟩; have n_ := sep_below HS.out hb_; clear hb_ hx_; have n0_ := Aside0.mk n_; clear HS n_; have HS := n0_; clear n0_))
          | (go_at_call 11; (have hx_ := rises_walk Ab Ac cb cc b c w1 (sep_row' (sep_l1 HS.out)).2.2 (sep_row' (id HS.out)).2.2; rw [HBC.out] at hx_; (with_reducible refine Calls.mono hx_ ?_); rintro e w1 ⟨rfl, hb_⟩; have n_ := sep_below HS.out hb_; clear hb_ hx_; have n0_ := Aside0.mk n_; clear HS n_; have HS := n0_; clear n0_))
          | (go_at_call 11; (have hx_ := rises_walk _ Ac ca cc a c w1 (sep_row' (sep_l2 HS.out)).2.2 (sep_row' (id HS.out)).2.2; rw [HAC.out] at hx_; (with_reducible refine Calls.mono hx_ ?_); rintro e w1 ⟨rfl, hb_⟩; have n_ := sep_below HS.out hb_; clear hb_ hx_; have n0_ := Aside0.mk n_; clear HS n_; have HS := n0_; clear n0_))
          | (go_at_call 11; (have hx_ := rises_walk _ _ ca ca a a w1 (sep_row' (sep_l2 HS.out)).2.2 (sep_row' (sep_l2 HS.out)).2.2; rw [HAA.out] at hx_; (with_reducible refine Calls.mono hx_ ?_); rintro e w1 ⟨rfl, hb_⟩; have n_ := sep_below HS.out hb_; clear hb_ hx_; have n0_ := Aside0.mk n_; clear HS n_; have HS := n0_; clear n0_))
          | (go_at_call 11; (have hx_ := rises_nilw _ ca a w1 (sep_row' (sep_l2 HS.out)).2.2; (with_reducible refine Calls.mono hx_ ?_); rintro e w1 ⟨rfl, hb_⟩; have n_ := sep_below HS.out hb_; clear hb_ hx_; have n0_ := Aside0.mk n_; clear HS n_; have HS := n0_; clear n0_)))
        go_ret
        exact ⟨rfl, sep_below_of HS.out⟩
      | true =>
        obtain rfl := HT.out rfl rfl
        go_wp2_with (first
          | (go_at_call 11; (have hx_ := rises_walk _ Ab ca cb a b w1 (sep_row' (sep_l2 HS.out)).2.2 (sep_row' (sep_l1 HS.out)).2.2; rw [HAB.out] at hx_; (with_reducible refine Calls.mono hx_ ?_); rintro e w1 ⟨rfl, hb_⟩; have n_ := sep_below HS.out hb_; clear hb_ hx_; have n0_ := Aside0.mk n_; clear HS n_; have HS := n0_; clear n0_))
          | (go_at_call 11; (have hx_ := rises_walk Ab Ac cb cc b c w1 (sep_row' (sep_l1 HS.out)).2.2 (sep_row' (id HS.out)).2.2; rw [HBC.out] at hx_; (with_reducible refine Calls.mono hx_ ?_); rintro e w1 ⟨rfl, hb_⟩; have n_ := sep_below HS.out hb_; clear hb_ hx_; have n0_ := Aside0.mk n_; clear HS n_; have HS := n0_; clear n0_))
          | (go_at_call 11; (have hx_ := rises_walk _ Ac ca cc a c w1 (sep_row' (sep_l2 HS.out)).2.2 (sep_row' (id HS.out)).2.2; rw [HAC.out] at hx_; (with_reducible refine Calls.mono hx_ ?_); rintro e w1 ⟨rfl, hb_⟩; have n_ := sep_below HS.out hb_; clear hb_ hx_; have n0_ := Aside0.mk n_; clear HS n_; have HS := n0_; clear n0_))
          | (go_at_call 11; (have hx_ := rises_walk _ _ ca ca a a w1 (sep_row' (sep_l2 HS.out)).2.2 (sep_row' (sep_l2 HS.out)).2.2; rw [HAA.out] at hx_; (with_reducible refine Calls.mono hx_ ?_); rintro e w1 ⟨rfl, hb_⟩; have n_ := sep_below HS.out hb_; clear hb_ hx_; have n0_ := Aside0.mk n_; clear HS n_; have HS := n0_; clear n0_))
          | (go_at_call 11; (have hx_ := rises_nilw _ ca a w1 (sep_row' (sep_l2 HS.out)).2.2; (with_reducible refine Calls.mono hx_ ?_); rintro e w1 ⟨rfl, hb_⟩; have n_ := sep_below HS.out hb_; clear hb_ hx_; have n0_ := Aside0.mk n_; clear HS n_; have HS := n0_; clear n0_)))
        go_ret
        exact ⟨rfl, sep_below_of HS.out⟩
  · obtain ⟨ga, rfl⟩ := row_addr (sep_l2 HS.out) h0
    have e1 : decide ((a.length : Int) > 0) = true := decide_eq_true (by omega)
    have e2 : decide (0 < (a.length : Int)) = true := decide_eq_true (by omega)
    have e3 : (0 < (a.length : Int)) = True := eq_true (by omega)
    have e4 := eq_true h0
    have e5 : ((a.length : Int) < 1) = False := eq_false (by omega)
    have e6 : (1 ≤ (a.length : Int)) = True := eq_true (by omega)
    have H0 := Aside0.mk h0
    have hle := (sep_row' (sep_l2 HS.out)).2.1
    clear h0
    by_cases hc : ca = 1
    · subst hc
      have H1 := Aside0.mk hle
      clear hle
      go_upto_region 10 with (go_at_call 11; (have hx_ := c_less1 ga a w1 (sep_row' (sep_l2 HS.out)).2.2 H0.out HON.out H1.out; (with_reducible refine Calls.mono hx_ ?_); rintro e w1 ⟨rfl, hb_⟩; have n_ := sep_below HS.out hb_; clear hb_ hx_; have n0_ := Aside0.mk n_; clear HS n_; have HS := n0_; clear n0_))
      cases ra with
      | false =>
        go_wp2_with (first
          | (go_at_call 11; (have hx_ := rises_walk _ Ab 1 cb a b w1 (sep_row' (sep_l2 HS.out)).2.2 (sep_row' (sep_l1 HS.out)).2.2; rw [HAB.out] at hx_; (with_reducible refine Calls.mono hx_ ?_); rintro e w1 ⟨rfl, hb_⟩; have n_ := sep_below HS.out hb_; clear hb_ hx_; have n0_ := Aside0.mk n_; clear HS n_; have HS := n0_; clear n0_))
          | (go_at_call 11; (have hx_ := rises_walk Ab Ac cb cc b c w1 (sep_row' (sep_l1 HS.out)).2.2 (sep_row' (id HS.out)).2.2; rw [HBC.out] at hx_; (with_reducible refine Calls.mono hx_ ?_); rintro e w1 ⟨rfl, hb_⟩; have n_ := sep_below HS.out hb_; clear hb_ hx_; have n0_ := Aside0.mk n_; clear HS n_; have HS := n0_; clear n0_))
          | (go_at_call 11; (have hx_ := rises_walk _ Ac 1 cc a c w1 (sep_row' (sep_l2 HS.out)).2.2 (sep_row' (id HS.out)).2.2; rw [HAC.out] at hx_; (with_reducible refine Calls.mono hx_ ?_); rintro e w1 ⟨rfl, hb_⟩; have n_ := sep_below HS.out hb_; clear hb_ hx_; have n0_ := Aside0.mk n_; clear HS n_; have HS := n0_; clear n0_))
          | (go_at_call 11; (have hx_ := rises_walk _ _ 1 1 a a w1 (sep_row' (sep_l2 HS.out)).2.2 (sep_row' (sep_l2 HS.out)).2.2; rw [HAA.out] at hx_; (with_reducible refine Calls.mono hx_ ?_); rintro e w1 ⟨rfl, hb_⟩; have n_ := sep_below HS.out hb_; clear hb_ hx_; have n0_ := Aside0.mk n_; clear HS n_; have HS := n0_; clear n0_))
          | (go_at_call 11; (have hx_ := rises_nilw _ 1 a w1 (sep_row' (sep_l2 HS.out)).2.2; (with_reducible refine Calls.mono hx_ ?_); rintro e w1 ⟨rfl, hb_⟩; have n_ := sep_below HS.out hb_; clear hb_ hx_; have n0_ := Aside0.mk n_; clear HS n_; have HS := n0_; clear n0_)))
        go_ret
        exact ⟨rfl, sep_below_of HS.out⟩
      | true =>
        cases rb with
        | false =>
          go_wp2_with (first
            | (go_at_call 11; (have hx_ := rises_walk _ Ab 1 cb a b w1 (sep_row' (sep_l2 HS.out)).2.2 (sep_row' (sep_l1 HS.out)).2.2; rw [HAB.out] at hx_; (with_reducible refine Calls.mono hx_ ?_); rintro e w1 ⟨rfl, hb_⟩; have n_ := sep_below HS.out hb_; clear hb_ hx_; have n0_ := Aside0.mk n_; clear HS n_; have HS := n0_; clear n0_))
            | (go_at_call 11; (have hx_ := rises_walk Ab Ac cb cc b c w1 (sep_row' (sep_l1 HS.out)).2.2 (sep_row' (id HS.out)).2.2; rw [HBC.out] at hx_; (with_reducible refine Calls.mono hx_ ?_); rintro e w1 ⟨rfl, hb_⟩; have n_ := sep_below HS.out hb_; clear hb_ hx_; have n0_ := Aside0.mk n_; clear HS n_; have HS := n0_; clear n0_))
            | (go_at_call 11; (have hx_ := rises_walk _ Ac 1 cc a c w1 (sep_row' (sep_l2 HS.out)).2.2 (sep_row' (id HS.out)).2.2; rw [HAC.out] at hx_; (with_reducible refine Calls.mono hx_ ?_); rintro e w1 ⟨rfl, hb_⟩; have n_ := sep_below HS.out hb_; clear hb_ hx_; have n0_ := Aside0.mk n_; clear HS n_; have HS := n0_; clear n0_))
            | (go_at_call 11; (have hx_ := rises_walk _ _ 1 1 a a w1 (sep_row' (sep_l2 HS.out)).2.2 (sep_row' (sep_l2 HS.out)).2.2; rw [HAA.out] at hx_; (with_reducible refine Calls.mono hx_ ?_); rintro e w1 ⟨rfl, hb_⟩; have n_ := sep_below HS.out hb_; clear hb_ hx_; have n0_ := Aside0.mk n_; clear HS n_; have HS := n0_; clear n0_))
            | (go_at_call 11; (have hx_ := rises_nilw _ 1 a w1 (sep_row' (sep_l2 HS.out)).2.2; (with_reducible refine Calls.mono hx_ ?_); rintro e w1 ⟨rfl, hb_⟩; have n_ := sep_below HS.out hb_; clear hb_ hx_; have n0_ := Aside0.mk n_; clear HS n_; have HS := n0_; clear n0_)))
          go_ret
          exact ⟨rfl, sep_below_of HS.out⟩
        | true =>
          obtain rfl := HT.out rfl rfl
          go_wp2_with (first
            | (go_at_call 11; (have hx_ := rises_walk _ Ab 1 cb a b w1 (sep_row' (sep_l2 HS.out)).2.2 (sep_row' (sep_l1 HS.out)).2.2; rw [HAB.out] at hx_; (with_reducible refine Calls.mono hx_ ?_); rintro e w1 ⟨rfl, hb_⟩; have n_ := sep_below HS.out hb_; clear hb_ hx_; have n0_ := Aside0.mk n_; clear HS n_; have HS := n0_; clear n0_))
            | (go_at_call 11; (have hx_ := rises_walk Ab Ac cb cc b c w1 (sep_row' (sep_l1 HS.out)).2.2 (sep_row' (id HS.out)).2.2; rw [HBC.out] at hx_; (with_reducible refine Calls.mono hx_ ?_); rintro e w1 ⟨rfl, hb_⟩; have n_ := sep_below HS.out hb_; clear hb_ hx_; have n0_ := Aside0.mk n_; clear HS n_; have HS := n0_; clear n0_))
            | (go_at_call 11; (have hx_ := rises_walk _ Ac 1 cc a c w1 (sep_row' (sep_l2 HS.out)).2.2 (sep_row' (id HS.out)).2.2; rw [HAC.out] at hx_; (with_reducible refine Calls.mono hx_ ?_); rintro e w1 ⟨rfl, hb_⟩; have n_ := sep_below HS.out hb_; clear hb_ hx_; have n0_ := Aside0.mk n_; clear HS n_; have HS := n0_; clear n0_))
            | (go_at_call 11; (have hx_ := rises_walk _ _ 1 1 a a w1 (sep_row' (sep_l2 HS.out)).2.2 (sep_row' (sep_l2 HS.out)).2.2; rw [HAA.out] at hx_; (with_reducible refine Calls.mono hx_ ?_); rintro e w1 ⟨rfl, hb_⟩; have n_ := sep_below HS.out hb_; clear hb_ hx_; have n0_ := Aside0.mk n_; clear HS n_; have HS := n0_; clear n0_))
            | (go_at_call 11; (have hx_ := rises_nilw _ 1 a w1 (sep_row' (sep_l2 HS.out)).2.2; (with_reducible refine Calls.mono hx_ ?_); rintro e w1 ⟨rfl, hb_⟩; have n_ := sep_below HS.out hb_; clear hb_ hx_; have n0_ := Aside0.mk n_; clear HS n_; have HS := n0_; clear n0_)))
          go_ret
          exact ⟨rfl, sep_below_of HS.out⟩
    · have e7 := eq_false hc
      clear hle hc
      go_upto_region 10 with (go_at_call 11; (have hx_ := c_less ga ca a w1 (sep_row' (sep_l2 HS.out)).2.2 H0.out HON.out; (with_reducible refine Calls.mono hx_ ?_); rintro e w1 ⟨rfl, hb_⟩; have n_ := sep_below HS.out hb_; clear hb_ hx_; have n0_ := Aside0.mk n_; clear HS n_; have HS := n0_; clear n0_))
      cases ra with
      | false =>
        go_wp2_with (first
          | (go_at_call 11; (have hx_ := rises_walk _ Ab ca cb a b w1 (sep_row' (sep_l2 HS.out)).2.2 (sep_row' (sep_l1 HS.out)).2.2; rw [HAB.out] at hx_; (with_reducible refine Calls.mono hx_ ?_); rintro e w1 ⟨rfl, hb_⟩; have n_ := sep_below HS.out hb_; clear hb_ hx_; have n0_ := Aside0.mk n_; clear HS n_; have HS := n0_; clear n0_))
          | (go_at_call 11; (have hx_ := rises_walk Ab Ac cb cc b c w1 (sep_row' (sep_l1 HS.out)).2.2 (sep_row' (id HS.out)).2.2; rw [HBC.out] at hx_; (with_reducible refine Calls.mono hx_ ?_); rintro e w1 ⟨rfl, hb_⟩; have n_ := sep_below HS.out hb_; clear hb_ hx_; have n0_ := Aside0.mk n_; clear HS n_; have HS := n0_; clear n0_))
          | (go_at_call 11; (have hx_ := rises_walk _ Ac ca cc a c w1 (sep_row' (sep_l2 HS.out)).2.2 (sep_row' (id HS.out)).2.2; rw [HAC.out] at hx_; (with_reducible refine Calls.mono hx_ ?_); rintro e w1 ⟨rfl, hb_⟩; have n_ := sep_below HS.out hb_; clear hb_ hx_; have n0_ := Aside0.mk n_; clear HS n_; have HS := n0_; clear n0_))
          | (go_at_call 11; (have hx_ := rises_walk _ _ ca ca a a w1 (sep_row' (sep_l2 HS.out)).2.2 (sep_row' (sep_l2 HS.out)).2.2; rw [HAA.out] at hx_; (with_reducible refine Calls.mono hx_ ?_); rintro e w1 ⟨rfl, hb_⟩; have n_ := sep_below HS.out hb_; clear hb_ hx_; have n0_ := Aside0.mk n_; clear HS n_; have HS := n0_; clear n0_))
          | (go_at_call 11; (have hx_ := rises_nilw _ ca a w1 (sep_row' (sep_l2 HS.out)).2.2; (with_reducible refine Calls.mono hx_ ?_); rintro e w1 ⟨rfl, hb_⟩; have n_ := sep_below HS.out hb_; clear hb_ hx_; have n0_ := Aside0.mk n_; clear HS n_; have HS := n0_; clear n0_)))
        go_ret
        exact ⟨rfl, sep_below_of HS.out⟩
      | true =>
        cases rb with
        | false =>
          go_wp2_with (first
            | (go_at_call 11; (have hx_ := rises_walk _ Ab ca cb a b w1 (sep_row' (sep_l2 HS.out)).2.2 (sep_row' (sep_l1 HS.out)).2.2; rw [HAB.out] at hx_; (with_reducible refine Calls.mono hx_ ?_); rintro e w1 ⟨rfl, hb_⟩; have n_ := sep_below HS.out hb_; clear hb_ hx_; have n0_ := Aside0.mk n_; clear HS n_; have HS := n0_; clear n0_))
            | (go_at_call 11; (have hx_ := rises_walk Ab Ac cb cc b c w1 (sep_row' (sep_l1 HS.out)).2.2 (sep_row' (id HS.out)).2.2; rw [HBC.out] at hx_; (with_reducible refine Calls.mono hx_ ?_); rintro e w1 ⟨rfl, hb_⟩; have n_ := sep_below HS.out hb_; clear hb_ hx_; have n0_ := Aside0.mk n_; clear HS n_; have HS := n0_; clear n0_))
            | (go_at_call 11; (have hx_ := rises_walk _ Ac ca cc a c w1 (sep_row' (sep_l2 HS.out)).2.2 (sep_row' (id HS.out)).2.2; rw [HAC.out] at hx_; (with_reducible refine Calls.mono hx_ ?_); rintro e w1 ⟨rfl, hb_⟩; have n_ := sep_below HS.out hb_; clear hb_ hx_; have n0_ := Aside0.mk n_; clear HS n_; have HS := n0_; clear n0_))
            | (go_at_call 11; (have hx_ := rises_walk _ _ ca ca a a w1 (sep_row' (sep_l2 HS.out)).2.2 (sep_row' (sep_l2 HS.out)).2.2; rw [HAA.out] at hx_; (with_reducible refine Calls.mono hx_ ?_); rintro e w1 ⟨rfl, hb_⟩; have n_ := sep_below HS.out hb_; clear hb_ hx_; have n0_ := Aside0.mk n_; clear HS n_; have HS := n0_; clear n0_))
            | (go_at_call 11; (have hx_ := rises_nilw _ ca a w1 (sep_row' (sep_l2 HS.out)).2.2; (with_reducible refine Calls.mono hx_ ?_); rintro e w1 ⟨rfl, hb_⟩; have n_ := sep_below HS.out hb_; clear hb_ hx_; have n0_ := Aside0.mk n_; clear HS n_; have HS := n0_; clear n0_)))
          go_ret
          exact ⟨rfl, sep_below_of HS.out⟩
        | true =>
          obtain rfl := HT.out rfl rfl
          go_wp2_with (first
            | (go_at_call 11; (have hx_ := rises_walk _ Ab ca cb a b w1 (sep_row' (sep_l2 HS.out)).2.2 (sep_row' (sep_l1 HS.out)).2.2; rw [HAB.out] at hx_; (with_reducible refine Calls.mono hx_ ?_); rintro e w1 ⟨rfl, hb_⟩; have n_ := sep_below HS.out hb_; clear hb_ hx_; have n0_ := Aside0.mk n_; clear HS n_; have HS := n0_; clear n0_))
            | (go_at_call 11; (have hx_ := rises_walk Ab Ac cb cc b c w1 (sep_row' (sep_l1 HS.out)).2.2 (sep_row' (id HS.out)).2.2; rw [HBC.out] at hx_; (with_reducible refine Calls.mono hx_ ?_); rintro e w1 ⟨rfl, hb_⟩; have n_ := sep_below HS.out hb_; clear hb_ hx_; have n0_ := Aside0.mk n_; clear HS n_; have HS := n0_; clear n0_))
            | (go_at_call 11; (have hx_ := rises_walk _ Ac ca cc a c w1 (sep_row' (sep_l2 HS.out)).2.2 (sep_row' (id HS.out)).2.2; rw [HAC.out] at hx_; (with_reducible refine Calls.mono hx_ ?_); rintro e w1 ⟨rfl, hb_⟩; have n_ := sep_below HS.out hb_; clear hb_ hx_; have n0_ := Aside0.mk n_; clear HS n_; have HS := n0_; clear n0_))
            | (go_at_call 11; (have hx_ := rises_walk _ _ ca ca a a w1 (sep_row' (sep_l2 HS.out)).2.2 (sep_row' (sep_l2 HS.out)).2.2; rw [HAA.out] at hx_; (with_reducible refine Calls.mono hx_ ?_); rintro e w1 ⟨rfl, hb_⟩; have n_ := sep_below HS.out hb_; clear hb_ hx_; have n0_ := Aside0.mk n_; clear HS n_; have HS := n0_; clear n0_))
            | (go_at_call 11; (have hx_ := rises_nilw _ ca a w1 (sep_row' (sep_l2 HS.out)).2.2; (with_reducible refine Calls.mono hx_ ?_); rintro e w1 ⟨rfl, hb_⟩; have n_ := sep_below HS.out hb_; clear hb_ hx_; have n0_ := Aside0.mk n_; clear HS n_; have HS := n0_; clear n0_)))
          go_ret
          exact ⟨rfl, sep_below_of HS.out⟩
#print axioms judgeRises_walk
end Go.Proofs.YthncipgafdfnfaaDoor.JW
