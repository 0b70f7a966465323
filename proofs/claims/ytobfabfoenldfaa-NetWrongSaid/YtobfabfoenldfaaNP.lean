/- Nets: New. Conditions: those that each theorem names. -/
import Derived.Test.YtobfabfoenldfaaNO
namespace Go.Proofs.Ytobfabfoenldfaa.NW
set_option linter.unusedVariables false
set_option linter.unusedSimpArgs false
open Go Go.RowKit Go.Proofs.YtobfabfoenldfaaS Go.Proofs.YtobfabfoenldfaaS.Asn Go.Proofs.Ytobfabfoenldfaa.PA Go.Proofs.YtobfabfoenldfaaW.PrintWords Go.Proofs.YtobfabfoenldfaaW.PrintLast Go.Proofs.YtobfabfoenldfaaW.PrintMore


open Go.Proofs.Ytobfabfoenldfaa.BG
set_option maxRecDepth 100000 in
theorem net_New_nil (v : Value) (room : Int) (w : World) :
    Calls Try.prog 10 #[.slice none 0 0, v, .int .i64 room] w fun e w' => e = .returned (.tuple #[.pointer none, .int .i64 1]) ∧ Below w.heap.size w w' := by
  have HS := Aside0.mk (sep_start w)
  go_enter Try.func10, Try.ntmps10
  go_upto_region 3 with (refine Go.Proofs.YtobfabfoenldfaaX.wp_scope_k ?_; intro J hJ; have HJ := Aside0.mk hJ; clear hJ)
  go_wp2
  refine wp_goto ?_
  refine HJ.out 0 _ _ _ rfl ?_
  go_wp2
  rw [Go.Proofs.YtobfabfoenldfaaX.jumps_ret]
  go_ret2
  exact ⟨rfl, sep_below_of (sep_skip HS.out _)⟩
/-- Whether a host may be behind those. -/
def hostBad (prev : List Hs) (nb : Nat) (h : Hs) : Bool := prev.any (adH ⟨h.ip, h.po⟩) || noneB h.ip h.po || decide (h.bx < 0) || decide ((nb : Int) < h.bx)
def hostsBad (nb : Nat) : List Hs → List Hs → Bool
  | _, [] => false
  | prev, h :: t => hostBad prev nb h || hostsBad nb (prev ++ [h]) t
/-- Whether a box may be behind those. -/
def specBad (hs : List Hs) (prev : List Int) (s : Sp) : Bool := s.hold == 0 || owned prev s.ip (-1) || hs.any (ipH s.ip)
def specsBad (hs : List Hs) : List Int → List Sp → Bool
  | _, [] => false
  | prev, s :: t => specBad hs prev s || specsBad hs (prev ++ [s.ip]) t
def Right (s : Sp) : Prop := (0 ≤ s.mp ∧ s.mp < 3) ∧ (0 ≤ s.fl ∧ s.fl < 3) ∧ s.ip ≠ 0 ∧ (0 ≤ s.hold ∧ s.hold ≤ 1000000) ∧ 1 ≤ s.room ∧ s.room ≤ 64
def Sp.bx (s : Sp) : Bx := ⟨s.mp, s.fl, s.ip, s.hold, s.room, []⟩
/-- Boxes at their blocks. -/
def boxesA : List Nat → List Bx → Asn
  | q :: qs, B :: Bs => boxA q B ⋆ boxesA qs Bs
  | _, _ => emp
theorem boxes_ips : ∀ {qs : List Nat} {Bs : List Bx} {w0 w : World} {ok0 : Nat → Prop} {F : Asn}, qs.length = Bs.length → Sep w0 ok0 (boxesA qs Bs ⋆ F) w → ∀ (j q : Nat), qs[j]? = some q → w.cell? ⟨q, 2, none⟩ = some (.int .u32 ((Bs.map Bx.ip).getD j 0))
  | [], _, _, _, _, _, _, _, j, q, hq => by cases j <;> cases hq
  | q0 :: qs, [], _, _, _, _, hl, _, _, _, _ => by cases hl
  | q0 :: qs, B :: Bs, w0, w, ok0, F, hl, h, 0, q, hq => by
    obtain rfl : q0 = q := by simpa using hq
    exact (box_cells (sep_flat h)).2.2.1
  | q0 :: qs, B :: Bs, w0, w, ok0, F, hl, h, j + 1, q, hq => by
    have := boxes_ips (qs := qs) (Bs := Bs) (by simpa using hl) (sep_l1 (sep_flat h)) j q (by simpa using hq)
    simpa using this
theorem sep_emp {w0 w : World} {ok0 : Nat → Prop} {F : Asn} (h : Sep w0 ok0 F w) : Sep w0 ok0 (emp ⋆ F) w := sep_new (A := emp) h (Below.refl _ _) (ok := fun _ => False) trivial (fun _ h => h.elim)
theorem boxes_snoc : ∀ {qs : List Nat} {Bs : List Bx} {w0 w : World} {ok0 : Nat → Prop} {F : Asn} {q : Nat} {B : Bx}, qs.length = Bs.length → Sep w0 ok0 (boxesA qs Bs ⋆ boxA q B ⋆ F) w → Sep w0 ok0 (boxesA (qs ++ [q]) (Bs ++ [B]) ⋆ F) w
  | [], [], _, _, _, _, _, _, _, h => sep_fold (sep_l1 h)
  | [], _ :: _, _, _, _, _, _, _, hl, _ => by cases hl
  | _ :: _, [], _, _, _, _, _, _, hl, _ => by cases hl
  | q0 :: qs, B0 :: Bs, w0, w, ok0, F, q, B, hl, h => by
    have h1 := sep_l2 (sep_l2 (sep_flat h))
    exact sep_fold (sep_l1 (boxes_snoc (qs := qs) (Bs := Bs) (by simpa using hl) h1))
def NewR (w : World) (hs : List Hs) (sp : List Sp) (room : Int) (e : Ending) (w' : World) : Prop :=
  if (hostsBad sp.length [] hs || specsBad hs [] sp) = true then e = .returned (.tuple #[.pointer none, .int .i64 1]) ∧ Below w.heap.size w w'
  else ∃ (p pb : Nat) (qs : List Nat), e = .returned (.tuple #[.pointer (some ⟨p, 0, none⟩), .int .i64 0]) ∧ qs.length = sp.length ∧ Sep w (fun _ => False) (netA p hs qs pb ⋆ bagA pb [] room ⋆ boxesA qs (sp.map Sp.bx) ⋆ emp) w'
theorem hb_step {nb kk : Nat} {P hs : List Hs} {y : Hs} (h : hs[kk]? = some y) : hostsBad nb P (hs.drop kk) = (hostBad P nb y || hostsBad nb (P ++ [y]) (hs.drop (kk + 1))) := by
  obtain ⟨hk, he⟩ := List.getElem?_eq_some_iff.1 h
  rw [List.drop_eq_getElem_cons hk, he]
  rfl
theorem sb_step {kk : Nat} {hs : List Hs} {P : List Int} {sp : List Sp} {y : Sp} (h : sp[kk]? = some y) : specsBad hs P (sp.drop kk) = (specBad hs P y || specsBad hs (P ++ [y.ip]) (sp.drop (kk + 1))) := by
  obtain ⟨hk, he⟩ := List.getElem?_eq_some_iff.1 h
  rw [List.drop_eq_getElem_cons hk, he]
  rfl
theorem keepW {w0 w' : World} {ok0 : Nat → Prop} {B C F : Asn} {p pb g11 : Nat} {v1 v2 : Value} {y : Hs} (h : Sep w0 ok0 (pt p #[v1, v2, .pointer (some ⟨pb, 0, none⟩)] 67 ⋆ B ⋆ C ⋆ pt g11 #[.int .u32 y.ip, .int .u16 y.po, .int .i64 y.bx] 34 ⋆ F) w') : w'.cell? ⟨g11, 0, none⟩ = some (.int .u32 y.ip) ∧ w'.cell? ⟨g11, 1, none⟩ = some (.int .u16 y.po) ∧ w'.cell? ⟨g11, 2, none⟩ = some (.int .i64 y.bx) ∧ w'.frozen? ⟨p, 0, none⟩ = false :=
  ⟨sep_cell (sep_l3 h) 0, sep_cell (sep_l3 h) 1, sep_cell (sep_l3 h) 2, sep_frozen h 0⟩
theorem bx_ips {w0 w : World} {ok0 : Nat → Prop} {X Y Z F : Asn} {qs : List Nat} {P sp : List Sp} {kk : Nat} (hq : qs.length = kk) (hP : sp.take kk = P) (hk : kk < sp.length) (h : Sep w0 ok0 (X ⋆ Y ⋆ Z ⋆ boxesA qs (P.map Sp.bx) ⋆ F) w) : ∀ (j q : Nat), qs[j]? = some q → w.cell? ⟨q, 2, none⟩ = some (.int .u32 ((P.map Sp.ip).getD j 0)) := by
  have hl : qs.length = (P.map Sp.bx).length := by rw [List.length_map, hq, ← hP, List.length_take]; omega
  have := boxes_ips hl (sep_l3 h)
  rwa [List.map_map] at this
set_option maxHeartbeats 4000000 in
set_option maxRecDepth 100000 in
theorem net_New (A A2 : Option Addr) (c c2 : Nat) (hs : List Hs) (sp : List Sp) (room : Int) (w : World) (h1 : 1 ≤ hs.length ∧ hs.length ≤ 32) (h2 : sp.length ≤ 16) (hr : 1 ≤ room ∧ room ≤ 256) (hR : ∀ s ∈ sp, Right s) (hC : hosK.C w A hs.length hs) (hC2 : spK.C w A2 sp.length sp) :
    Calls Try.prog 10 #[.slice A hs.length c, .slice A2 sp.length c2, .int .i64 room] w fun e w' => NewR w hs sp room e w' := by
  have HS := Aside0.mk (sep_start w)
  have HC := Aside0.mk (And.intro hC hC2)
  have HR := Aside0.mk (And.intro hR (And.intro h1 (And.intro h2 hr)))
  have e1 : decide ((hs.length : Int) < 1) = false := decide_eq_false (by omega)
  have e2 : ((hs.length : Int) < 1) = False := eq_false (by omega)
  have e3 : decide (32 < (hs.length : Int)) = false := decide_eq_false (by omega)
  have e4 : (32 < (hs.length : Int)) = False := eq_false (by omega)
  have e5 : decide (16 < (sp.length : Int)) = false := decide_eq_false (by omega)
  have e6 : (16 < (sp.length : Int)) = False := eq_false (by omega)
  have e7 : decide (32 < hs.length) = false := decide_eq_false (by omega)
  have e8 : decide (16 < sp.length) = false := decide_eq_false (by omega)
  clear h1 h2 hr hR hC hC2
  go_enter Try.func10, Try.ntmps10
  go_upto_region 3 with (refine Go.Proofs.YtobfabfoenldfaaX.wp_scope_k ?_; intro J hJ; have HJ := Aside0.mk hJ; clear hJ)
  have n_ := sep_allocg HS.out #[.slice none 0 0, .slice none 0 0, .pointer none] 67 _ rfl
  have n0_ := Aside0.mk n_; clear HS n_; have HS := n0_; clear n0_
  generalize hw_ : World.alloc _ _ = wa at HS ⊢
  clear hw_
  generalize hp_ : Array.size (World.heap _) = p at HS ⊢
  clear hp_
  go_upto_region 4 with (fail)
  go_upto_region 6 with (go_at_call 23; (with_reducible refine Calls.mono (bag_New room _ HR.out.2.2.2.1 HR.out.2.2.2.2) ?_); rintro e w1 ⟨pb, rfl, hm_⟩; have n_ := sep_l1 (sep_made_of HS.out (sep_only hm_)); clear hm_; have n0_ := Aside0.mk n_; clear HS n_; have HS := n0_; clear n0_; have z2 := sep_cell HS.out 2; have f2 := sep_frozen HS.out 2)
  have n_ := sep_set HS.out 2 (.pointer (some ⟨pb, 0, none⟩))
  clear z2 f2 e1 e2 e3 e4 e5 e6 e7 e8
  have n0_ := Aside0.mk n_; clear HS n_; have HS := n0_; clear n0_
  generalize World.setCell _ _ _ = wb at HS ⊢
  have n_ := sep_l1 (sep_row_nil (d := hosK) (e := 34) HS.out)
  have n0_ := Aside0.mk n_; clear HS n_; have HS := n0_; clear n0_
  go_upto_region 7 with (fail)
  go_loopg [44] hs.length (fun gg s44 wr => ∃ kk : Nat, kk ≤ hs.length ∧ hs.length - kk ≤ gg ∧ s44 = .int .i64 kk ∧ Aside0 (hostsBad sp.length (hs.take kk) (hs.drop kk) = hostsBad sp.length [] hs) ∧ Aside0 (∃ v1, Sep w (fun _ => False) (pt p #[v1, .slice none 0 0, .pointer (some ⟨pb, 0, none⟩)] 67 ⋆ row hosK 34 v1 (hs.take kk) ⋆ bagA pb [] room ⋆ emp) wr))
  case atStart => exact ⟨0, Nat.zero_le _, by omega, rfl, ⟨by rw [List.take_zero, List.drop_zero]⟩, ⟨_, HS.out⟩⟩
  case round =>
    clear HS
    obtain ⟨kk, hkk, hg, rfl, HB, HE⟩ := hrel
    obtain ⟨v1, hv⟩ := HE.out
    obtain ⟨P, hP⟩ : ∃ P, hs.take kk = P := ⟨_, rfl⟩
    rw [hP] at hv HB
    have HP := Aside0.mk hP
    obtain ⟨A1, c1, rfl, hc1, -⟩ := sep_row (sep_l1 hv)
    have HS := Aside0.mk hv
    clear HE hv hc1 hP
    by_cases hlt : kk < hs.length
    · have c1b : decide ((kk : Int) < (hs.length : Int)) = true := decide_eq_true (Int.ofNat_lt.2 hlt); have c1n : decide (kk < hs.length) = true := decide_eq_true hlt; have c1i : ((kk : Int) < (hs.length : Int)) = True := eq_true (Int.ofNat_lt.2 hlt); have c1q : (kk < hs.length) = True := eq_true hlt; have p0_ := eq_true (Int.natCast_nonneg kk)
      obtain ⟨y, hy⟩ : ∃ y, hs[kk]? = some y := ⟨_, List.getElem?_eq_getElem hlt⟩
      obtain ⟨ad, rfl, k0, k1, k2⟩ := hos_at (Kd.C_below HC.out.1 (sep_below_of HS.out)) kk y hy
      have HI := Aside0.mk (And.intro hlt (And.intro hg hy))
      clear hlt hkk hg hy
      go_upto_region 9 with (fail)
      have n_ := sep_l3 (sep_l3 (sep_l3 (sep_allocg HS.out #[.int .u32 y.ip, .int .u16 y.po, .int .i64 y.bx] 34 _ rfl)))
      have n0_ := Aside0.mk n_; clear HS n_; have HS := n0_; clear n0_
      generalize hw_ : World.alloc _ _ = wc at HS ⊢
      clear hw_
      generalize hp_ : Array.size (World.heap _) = g11 at HS ⊢
      clear hp_ k0 k1 k2
      have m0 : wc.cell? ⟨g11, 0, none⟩ = some (.int .u32 y.ip) := sep_cell (sep_l3 HS.out) 0
      have m1 : wc.cell? ⟨g11, 1, none⟩ = some (.int .u16 y.po) := sep_cell (sep_l3 HS.out) 1
      have p0 : wc.cell? ⟨p, 0, none⟩ = some (.slice A1 P.length c1) := sep_cell HS.out 0
      obtain ⟨tw, htw⟩ : ∃ tw, P.any (adH ⟨y.ip, y.po⟩) = tw := ⟨_, rfl⟩
      obtain ⟨nn, hnn⟩ : ∃ nn, noneB y.ip y.po = nn := ⟨_, rfl⟩
      have HNN : Aside0 (addr_Addr_None.f y.ip y.po = some nn) := ⟨by rw [none_f, hnn]⟩
      have HT := Aside0.mk (And.intro htw hnn)
      go_upto_region 10 with (go_at_call 24; have hx_ := con_25 g11 ⟨y.ip, y.po⟩ A1 c1 P _ m0 m1 (sep_row' (sep_l1 HS.out)).2.2; rw [htw] at hx_; (with_reducible refine Calls.mono hx_ ?_); rintro e w1 ⟨rfl, hb_⟩; have n_ := sep_below HS.out hb_; clear hx_ hb_; have n0_ := Aside0.mk n_; clear HS n_; have HS := n0_; clear n0_)
      clear m0 m1 p0 htw hnn
      have m0 := sep_cell (sep_l3 HS.out) 0
      have m1 := sep_cell (sep_l3 HS.out) 1
      have m2 := sep_cell (sep_l3 HS.out) 2
      cases tw with
      | true =>
        have hb : hostBad P sp.length y = true := by unfold hostBad; rw [HT.out.1]; rfl
        have HBB : Aside0 (hostsBad sp.length [] hs = true) := ⟨by rw [← HB.out, hb_step HI.out.2.2, hb]; rfl⟩
        clear hb
        go_wp2_with ((go_at_call 26; (with_reducible refine Calls.mono (addr_Addr_None.calls y.ip y.po _ _ HNN.out) ?_); rintro e w1 ⟨rfl, hb_⟩; have n_ := sep_below HS.out hb_; clear hb_; have n0_ := Aside0.mk n_; clear HS n_; have HS := n0_; clear n0_; (clear m0 m1 m2; have m2 := sep_cell (sep_l3 HS.out) 2 )))
        refine wp_goto ?_
        refine HJ.out 0 _ _ _ rfl ?_
        go_wp2
        rw [Go.Proofs.YtobfabfoenldfaaX.jumps_ret]
        go_ret2
        unfold NewR
        rw [if_pos (by rw [HBB.out]; rfl)]
        exact ⟨rfl, sep_below_of HS.out⟩
      | false =>
        cases nn with
        | true =>
          have hb : hostBad P sp.length y = true := by unfold hostBad; rw [HT.out.1, HT.out.2]; rfl
          have HBB : Aside0 (hostsBad sp.length [] hs = true) := ⟨by rw [← HB.out, hb_step HI.out.2.2, hb]; rfl⟩
          clear hb
          go_wp2_with ((go_at_call 26; (with_reducible refine Calls.mono (addr_Addr_None.calls y.ip y.po _ _ HNN.out) ?_); rintro e w1 ⟨rfl, hb_⟩; have n_ := sep_below HS.out hb_; clear hb_; have n0_ := Aside0.mk n_; clear HS n_; have HS := n0_; clear n0_; (clear m0 m1 m2; have m2 := sep_cell (sep_l3 HS.out) 2 )))
          refine wp_goto ?_
          refine HJ.out 0 _ _ _ rfl ?_
          go_wp2
          rw [Go.Proofs.YtobfabfoenldfaaX.jumps_ret]
          go_ret2
          unfold NewR
          rw [if_pos (by rw [HBB.out]; rfl)]
          exact ⟨rfl, sep_below_of HS.out⟩
        | false =>
          by_cases d1 : y.bx < 0
          · have hb : hostBad P sp.length y = true := by unfold hostBad; rw [HT.out.1, HT.out.2, decide_eq_true d1]; rfl
            have q1 : decide (y.bx < 0) = true := decide_eq_true d1
            have q2 := eq_true d1
            clear d1
            have HBB : Aside0 (hostsBad sp.length [] hs = true) := ⟨by rw [← HB.out, hb_step HI.out.2.2, hb]; rfl⟩
            clear hb
            go_wp2_with ((go_at_call 26; (with_reducible refine Calls.mono (addr_Addr_None.calls y.ip y.po _ _ HNN.out) ?_); rintro e w1 ⟨rfl, hb_⟩; have n_ := sep_below HS.out hb_; clear hb_; have n0_ := Aside0.mk n_; clear HS n_; have HS := n0_; clear n0_; (clear m0 m1 m2; have m2 := sep_cell (sep_l3 HS.out) 2 )))
            refine wp_goto ?_
            refine HJ.out 0 _ _ _ rfl ?_
            go_wp2
            rw [Go.Proofs.YtobfabfoenldfaaX.jumps_ret]
            go_ret2
            unfold NewR
            rw [if_pos (by rw [HBB.out]; rfl)]
            exact ⟨rfl, sep_below_of HS.out⟩
          have q1 : decide (y.bx < 0) = false := decide_eq_false d1
          have q2 := eq_false d1
          by_cases d2 : (sp.length : Int) < y.bx
          · have hb : hostBad P sp.length y = true := by unfold hostBad; rw [decide_eq_true d2, Bool.or_true]
            have q3 : decide ((sp.length : Int) < y.bx) = true := decide_eq_true d2
            have q4 := eq_true d2
            clear d1 d2
            have HBB : Aside0 (hostsBad sp.length [] hs = true) := ⟨by rw [← HB.out, hb_step HI.out.2.2, hb]; rfl⟩
            clear hb
            go_wp2_with ((go_at_call 26; (with_reducible refine Calls.mono (addr_Addr_None.calls y.ip y.po _ _ HNN.out) ?_); rintro e w1 ⟨rfl, hb_⟩; have n_ := sep_below HS.out hb_; clear hb_; have n0_ := Aside0.mk n_; clear HS n_; have HS := n0_; clear n0_; (clear m0 m1 m2; have m2 := sep_cell (sep_l3 HS.out) 2 )))
            refine wp_goto ?_
            refine HJ.out 0 _ _ _ rfl ?_
            go_wp2
            rw [Go.Proofs.YtobfabfoenldfaaX.jumps_ret]
            go_ret2
            unfold NewR
            rw [if_pos (by rw [HBB.out]; rfl)]
            exact ⟨rfl, sep_below_of HS.out⟩
          have q3 : decide ((sp.length : Int) < y.bx) = false := decide_eq_false d2
          have q4 := eq_false d2
          have HG : Aside0 (hostBad P sp.length y = false) := ⟨by unfold hostBad; rw [HT.out.1, HT.out.2, q1, q3]; rfl⟩
          clear d1 d2
          go_upto_region 11 with ((go_at_call 26; (with_reducible refine Calls.mono (addr_Addr_None.calls y.ip y.po _ _ HNN.out) ?_); rintro e w1 ⟨rfl, hb_⟩; have n_ := sep_below HS.out hb_; clear hb_; have n0_ := Aside0.mk n_; clear HS n_; have HS := n0_; clear n0_; (clear m0 m1 m2; have m2 := sep_cell (sep_l3 HS.out) 2 )))
          clear m2 q1 q2 q3 q4
          have n_ := sep_drew HS.out
          have n0_ := Aside0.mk n_; clear HS n_; have HS := n0_; clear n0_
          have m := keepW HS.out
          refine wp_region_held_drew (S := (fun w' => w'.cell? ⟨g11, 0, none⟩ = some (.int .u32 y.ip) ∧ w'.cell? ⟨g11, 1, none⟩ = some (.int .u16 y.po) ∧ w'.cell? ⟨g11, 2, none⟩ = some (.int .i64 y.bx) ∧ w'.frozen? ⟨p, 0, none⟩ = false)) (by kernel_rfl) m (fun hHeld => ?_)
          clear m
          generalize World.drew _ = wd at HS hHeld ⊢
          (try clear m0 m1 m2 f0 p0); obtain ⟨m0, m1, m2, f0⟩ := keepW HS.out; have p0 := sep_cell HS.out 0
          (refine h_take 0 (by assumption) rfl (by decide +kernel) (by decide +kernel) (by decide +kernel) (fun _ _ _ h => h) (by rfl) (by intro w hSw; (try dsimp only at hSw); go_simp; all_goals (with_reducible rfl)) ?_; simp only [Act.put, List.setIfInBounds_toArray, List.set_cons_zero, List.set_cons_succ])
          (refine h_take 1 (by assumption) rfl (by decide +kernel) (by decide +kernel) (by decide +kernel) (fun _ _ _ h => h) (by rfl) (by intro w hSw; (try dsimp only at hSw); go_simp; all_goals (with_reducible rfl)) ?_; simp only [Act.put, List.setIfInBounds_toArray, List.set_cons_zero, List.set_cons_succ])
          (refine h_take 2 (by assumption) rfl (by decide +kernel) (by decide +kernel) (by decide +kernel) (fun _ _ _ h => h) (by rfl) (by intro w hSw; (try dsimp only at hSw); go_simp; all_goals (with_reducible rfl)) ?_; simp only [Act.put, List.setIfInBounds_toArray, List.set_cons_zero, List.set_cons_succ])
          (refine h_take 3 (by assumption) rfl (by decide +kernel) (by decide +kernel) (by decide +kernel) (fun _ _ _ h => h) (by rfl) (by intro w hSw; (try dsimp only at hSw); go_simp; all_goals (with_reducible rfl)) ?_; simp only [Act.put, List.setIfInBounds_toArray, List.set_cons_zero, List.set_cons_succ])
          (refine h_take 5 (by assumption) rfl (by decide +kernel) (by decide +kernel) (by decide +kernel) (fun _ _ _ h => h) (by rfl) (by intro w hSw; (try dsimp only at hSw); go_simp; all_goals (with_reducible rfl)) ?_; simp only [Act.put, List.setIfInBounds_toArray, List.set_cons_zero, List.set_cons_succ])
          refine h_two 4 6 (by kernel_rfl) rfl rfl (by rfl) (by rfl) (fun K hK => ?_) (fun K hK => ?_)
          · go_simp
            clear hHeld
            ((first | refine hK.out _ _ (⟨m0, m1, m2, f0⟩) (fun hHeld => ?_) | (go_wp2_with fail; refine hK.out _ _ (⟨m0, m1, m2, f0⟩) (fun hHeld => ?_))); clear hK K; (try simp only [Act.put, List.setIfInBounds_toArray, List.set_cons_zero, List.set_cons_succ]))
            refine h_raw 6 (by kernel_rfl) rfl (fun K hK => ?_)
            go_simp; have n_ := sep_alloc HS.out #[.int .u32 y.ip, .int .u16 y.po, .int .i64 y.bx] 34; clear hHeld; have n0_ := Aside0.mk n_; clear HS n_; have HS := n0_; clear n0_; (try clear m0 m1 m2 f0 p0); obtain ⟨m0, m1, m2, f0⟩ := keepW (sep_drop HS.out); have p0 := sep_cell (sep_drop HS.out) 0; ((first | refine hK.out _ _ (⟨m0, m1, m2, f0⟩) (fun hHeld => ?_) | (go_wp2_with fail; refine hK.out _ _ (⟨m0, m1, m2, f0⟩) (fun hHeld => ?_))); clear hK K; (try simp only [Act.put, List.setIfInBounds_toArray, List.set_cons_zero, List.set_cons_succ])); clear m0 m1 m2 f0 p0; generalize hz_ : Array.size (World.heap _) = g9 at HS ⊢; clear hz_; generalize World.alloc _ _ = w2 at HS hHeld ⊢; (try clear m0 m1 m2 f0 p0); obtain ⟨m0, m1, m2, f0⟩ := keepW (sep_drop HS.out); have p0 := sep_cell (sep_drop HS.out) 0
            refine h_raw 7 (by kernel_rfl) rfl (fun K hK => ?_)
            refine step_append_rows (w0 := w) (ok0 := fun _ => False) hosK (by rfl) (.tmp 76) (.tmp 78) 35 34 v34 16 rfl Try.underlying35 info34 rfl (by decide) (by decide) _ P [y] (some ⟨g9, 0, none⟩) 1 1 (by rfl) (by rfl) (sep_l2 HS.out) (lit1 y.cells HS.out rfl rfl (hosK_K _ _)) (fun x cs hk => by rw [hosK_open hk]; exact hosK_M _ _ _ _) (by have := HI.out.1; have := HR.out.2.1; have := HP.out; rw [← this, List.length_take]; omega) (fun v9 w5 hs => ?_)
            clear HS m0 m1 m2 f0 p0
            obtain ⟨M2, hM2⟩ : ∃ M2, P ++ [y] = M2 := ⟨_, rfl⟩
            rw [hM2] at hs
            have HM2 := Aside0.mk hM2
            obtain ⟨A9, c9, rfl, hc9, -⟩ := sep_row hs
            clear hM2 hc9
            have n_ := sep_l1 (sep_drop (sep_l1 hs))
            have HS := Aside0.mk n_
            clear n_ hs hHeld
            (try clear m0 m1 m2 f0 p0); obtain ⟨m0, m1, m2, f0⟩ := keepW HS.out; have p0 := sep_cell HS.out 0
            ((first | refine hK.out _ _ (⟨m0, m1, m2, f0⟩) (fun hHeld => ?_) | (go_wp2_with fail; refine hK.out _ _ (⟨m0, m1, m2, f0⟩) (fun hHeld => ?_))); clear hK K; (try simp only [Act.put, List.setIfInBounds_toArray, List.set_cons_zero, List.set_cons_succ]))
            (refine h_take 8 (by assumption) rfl (by decide +kernel) (by decide +kernel) (by decide +kernel) (fun _ _ _ h => h) (by rfl) (by intro w hSw; (try dsimp only at hSw); go_simp; all_goals (with_reducible rfl)) ?_; simp only [Act.put, List.setIfInBounds_toArray, List.set_cons_zero, List.set_cons_succ])
            (refine h_take 9 (by assumption) rfl (by decide +kernel) (by decide +kernel) (by decide +kernel) (fun _ _ _ h => h) (by rfl) (by intro w hSw; (try dsimp only at hSw); go_simp; all_goals (with_reducible rfl)) ?_; simp only [Act.put, List.setIfInBounds_toArray, List.set_cons_zero, List.set_cons_succ])
            (refine h_one 10 (by kernel_rfl) rfl (by rfl) (fun K hK => ?_); go_simp; skip; clear hHeld; ((first | refine hK.out _ _ (keepW (sep_set HS.out 0 _)) (fun hHeld => ?_) | (go_wp2_with fail; refine hK.out _ _ (keepW (sep_set HS.out 0 _)) (fun hHeld => ?_))); clear hK K; (try simp only [Act.put, List.setIfInBounds_toArray, List.set_cons_zero, List.set_cons_succ])))
            refine wpAnyH_done (by kernel_rfl) ?_ _
            have n_ := sep_set HS.out 0 (.slice A9 M2.length c9)
            clear hHeld m0 m1 m2 f0 p0
            have n0_ := Aside0.mk n_; clear HS n_; have HS := n0_; clear n0_
            generalize World.setCell _ _ _ = w6 at HS ⊢
            go_wp2
            go_roundg (hs.length - (kk + 1))
            case measure => have := HI.out; omega
            case rel =>
              refine ⟨kk + 1, by have := HI.out; omega, Nat.le_refl _, congrArg (Value.int .i64) (by have := HI.out; have := HR.out; unfold wrap64; omega), ⟨?_⟩, ⟨.slice A9 M2.length c9, ?_⟩⟩
              · rw [← HB.out, hb_step HI.out.2.2, HG.out, Bool.false_or, List.take_add_one, HI.out.2.2, HP.out]
                rfl
              · rw [List.take_add_one, HI.out.2.2, HP.out]
                have e : P ++ (some y).toList = M2 := HM2.out
                rw [e]
                exact sep_drop (sep_l3 HS.out)
          · go_simp; have n_ := sep_alloc HS.out #[.int .u32 y.ip, .int .u16 y.po, .int .i64 y.bx] 34; clear hHeld; have n0_ := Aside0.mk n_; clear HS n_; have HS := n0_; clear n0_; (try clear m0 m1 m2 f0 p0); obtain ⟨m0, m1, m2, f0⟩ := keepW (sep_drop HS.out); have p0 := sep_cell (sep_drop HS.out) 0; ((first | refine hK.out _ _ (⟨m0, m1, m2, f0⟩) (fun hHeld => ?_) | (go_wp2_with fail; refine hK.out _ _ (⟨m0, m1, m2, f0⟩) (fun hHeld => ?_))); clear hK K; (try simp only [Act.put, List.setIfInBounds_toArray, List.set_cons_zero, List.set_cons_succ])); clear m0 m1 m2 f0 p0; generalize hz_ : Array.size (World.heap _) = g9 at HS ⊢; clear hz_; generalize World.alloc _ _ = w2 at HS hHeld ⊢; (try clear m0 m1 m2 f0 p0); obtain ⟨m0, m1, m2, f0⟩ := keepW (sep_drop HS.out); have p0 := sep_cell (sep_drop HS.out) 0
            refine h_raw 4 (by kernel_rfl) rfl (fun K hK => ?_)
            go_simp
            clear hHeld
            ((first | refine hK.out _ _ (⟨m0, m1, m2, f0⟩) (fun hHeld => ?_) | (go_wp2_with fail; refine hK.out _ _ (⟨m0, m1, m2, f0⟩) (fun hHeld => ?_))); clear hK K; (try simp only [Act.put, List.setIfInBounds_toArray, List.set_cons_zero, List.set_cons_succ]))
            refine h_raw 7 (by kernel_rfl) rfl (fun K hK => ?_)
            refine step_append_rows (w0 := w) (ok0 := fun _ => False) hosK (by rfl) (.tmp 76) (.tmp 78) 35 34 v34 16 rfl Try.underlying35 info34 rfl (by decide) (by decide) _ P [y] (some ⟨g9, 0, none⟩) 1 1 (by rfl) (by rfl) (sep_l2 HS.out) (lit1 y.cells HS.out rfl rfl (hosK_K _ _)) (fun x cs hk => by rw [hosK_open hk]; exact hosK_M _ _ _ _) (by have := HI.out.1; have := HR.out.2.1; have := HP.out; rw [← this, List.length_take]; omega) (fun v9 w5 hs => ?_)
            clear HS m0 m1 m2 f0 p0
            obtain ⟨M2, hM2⟩ : ∃ M2, P ++ [y] = M2 := ⟨_, rfl⟩
            rw [hM2] at hs
            have HM2 := Aside0.mk hM2
            obtain ⟨A9, c9, rfl, hc9, -⟩ := sep_row hs
            clear hM2 hc9
            have n_ := sep_l1 (sep_drop (sep_l1 hs))
            have HS := Aside0.mk n_
            clear n_ hs hHeld
            (try clear m0 m1 m2 f0 p0); obtain ⟨m0, m1, m2, f0⟩ := keepW HS.out; have p0 := sep_cell HS.out 0
            ((first | refine hK.out _ _ (⟨m0, m1, m2, f0⟩) (fun hHeld => ?_) | (go_wp2_with fail; refine hK.out _ _ (⟨m0, m1, m2, f0⟩) (fun hHeld => ?_))); clear hK K; (try simp only [Act.put, List.setIfInBounds_toArray, List.set_cons_zero, List.set_cons_succ]))
            (refine h_take 8 (by assumption) rfl (by decide +kernel) (by decide +kernel) (by decide +kernel) (fun _ _ _ h => h) (by rfl) (by intro w hSw; (try dsimp only at hSw); go_simp; all_goals (with_reducible rfl)) ?_; simp only [Act.put, List.setIfInBounds_toArray, List.set_cons_zero, List.set_cons_succ])
            (refine h_take 9 (by assumption) rfl (by decide +kernel) (by decide +kernel) (by decide +kernel) (fun _ _ _ h => h) (by rfl) (by intro w hSw; (try dsimp only at hSw); go_simp; all_goals (with_reducible rfl)) ?_; simp only [Act.put, List.setIfInBounds_toArray, List.set_cons_zero, List.set_cons_succ])
            (refine h_one 10 (by kernel_rfl) rfl (by rfl) (fun K hK => ?_); go_simp; skip; clear hHeld; ((first | refine hK.out _ _ (keepW (sep_set HS.out 0 _)) (fun hHeld => ?_) | (go_wp2_with fail; refine hK.out _ _ (keepW (sep_set HS.out 0 _)) (fun hHeld => ?_))); clear hK K; (try simp only [Act.put, List.setIfInBounds_toArray, List.set_cons_zero, List.set_cons_succ])))
            refine wpAnyH_done (by kernel_rfl) ?_ _
            have n_ := sep_set HS.out 0 (.slice A9 M2.length c9)
            clear hHeld m0 m1 m2 f0 p0
            have n0_ := Aside0.mk n_; clear HS n_; have HS := n0_; clear n0_
            generalize World.setCell _ _ _ = w6 at HS ⊢
            go_wp2
            go_roundg (hs.length - (kk + 1))
            case measure => have := HI.out; omega
            case rel =>
              refine ⟨kk + 1, by have := HI.out; omega, Nat.le_refl _, congrArg (Value.int .i64) (by have := HI.out; have := HR.out; unfold wrap64; omega), ⟨?_⟩, ⟨.slice A9 M2.length c9, ?_⟩⟩
              · rw [← HB.out, hb_step HI.out.2.2, HG.out, Bool.false_or, List.take_add_one, HI.out.2.2, HP.out]
                rfl
              · rw [List.take_add_one, HI.out.2.2, HP.out]
                have e : P ++ (some y).toList = M2 := HM2.out
                rw [e]
                exact sep_drop (sep_l3 HS.out)
    · obtain rfl : kk = hs.length := by omega
      have c2b : decide ((hs.length : Int) < (hs.length : Int)) = false := decide_eq_false (by omega)
      have hb := HB.out
      rw [List.drop_length] at hb
      have HHB : Aside0 (hostsBad sp.length [] hs = false) := ⟨hb.symm⟩
      have hP := HP.out
      rw [List.take_length] at hP
      subst hP
      clear hkk hg hb HB HP
      go_upto_region 14 with (fail)
      have n_ := sep_l3 (sep_l3 (sep_l1 (sep_emp (sep_row_nil (d := ptK) (e := 53) HS.out))))
      have n0_ := Aside0.mk n_; clear HS n_; have HS := n0_; clear n0_
      go_loopg [85] sp.length (fun gg s85 wr => ∃ kk : Nat, kk ≤ sp.length ∧ sp.length - kk ≤ gg ∧ s85 = .int .i64 kk ∧ Aside0 (specsBad hs ((sp.take kk).map Sp.ip) (sp.drop kk) = specsBad hs [] sp) ∧ Aside0 (∃ v2 qs, qs.length = kk ∧ Sep w (fun _ => False) (pt p #[.slice A1 hs.length c1, v2, .pointer (some ⟨pb, 0, none⟩)] 67 ⋆ row hosK 34 (.slice A1 hs.length c1) hs ⋆ row ptK 53 v2 qs ⋆ boxesA qs ((sp.take kk).map Sp.bx) ⋆ bagA pb [] room ⋆ emp) wr))
      case atStart => exact ⟨0, Nat.zero_le _, by omega, rfl, ⟨by rw [List.take_zero, List.drop_zero]; rfl⟩, ⟨_, [], rfl, HS.out⟩⟩
      case round =>
        clear HS
        obtain ⟨kk, hkk, hg, rfl, HB, HE⟩ := hrel
        obtain ⟨v2, qs, hql, hv⟩ := HE.out
        obtain ⟨P, hP⟩ : ∃ P, sp.take kk = P := ⟨_, rfl⟩
        rw [hP] at hv HB
        have HP := Aside0.mk hP
        have HQ := Aside0.mk hql
        obtain ⟨A2', c2', rfl, hc2, -⟩ := sep_row (sep_l2 hv)
        have HS := Aside0.mk hv
        clear HE hv hc2 hP hql
        by_cases hlt : kk < sp.length
        · have c1b : decide ((kk : Int) < (sp.length : Int)) = true := decide_eq_true (Int.ofNat_lt.2 hlt); have c1n : decide (kk < sp.length) = true := decide_eq_true hlt; have c1i : ((kk : Int) < (sp.length : Int)) = True := eq_true (Int.ofNat_lt.2 hlt); have c1q : (kk < sp.length) = True := eq_true hlt; have p0_ := eq_true (Int.natCast_nonneg kk)
          obtain ⟨y, hy⟩ : ∃ y, sp[kk]? = some y := ⟨_, List.getElem?_eq_getElem hlt⟩
          obtain ⟨ad, rfl, k0, k1, k2, k3, k4⟩ := sp_at (Kd.C_below HC.out.2 (sep_below_of HS.out)) kk y hy
          have HI := Aside0.mk (And.intro hlt (And.intro hg hy))
          obtain ⟨r1, r2, r3, r4, r5⟩ := HR.out.1 y (List.mem_of_getElem? hy)
          have HY := Aside0.mk (And.intro r1 (And.intro r2 (And.intro r3 (And.intro r4 r5))))
          clear r1 r2 r3 r4 r5
          clear hlt hkk hg hy
          go_upto_region 16 with (fail)
          have n_ := sep_l4 (sep_l4 (sep_l4 (sep_l4 (sep_allocg HS.out #[.int .i64 y.mp, .int .i64 y.fl, .int .u32 y.ip, .int .u64 y.hold, .int .i64 y.room] 38 _ rfl))))
          have n0_ := Aside0.mk n_; clear HS n_; have HS := n0_; clear n0_
          generalize hw_ : World.alloc _ _ = wc at HS ⊢
          clear hw_
          generalize hp_ : Array.size (World.heap _) = g14 at HS ⊢
          clear hp_ k0 k1 k2 k3 k4
          obtain ⟨m0, m1, m2, m3, m4⟩ := facts5 (sep_l4 HS.out)
          by_cases hz : y.hold = 0
          · rw [hz] at m3
            have hb : specBad hs (P.map Sp.ip) y = true := by unfold specBad; rw [hz]; rfl
            clear hz
            go_upto_region 17 with (go_at_call 27; (with_reducible refine Calls.mono (box_New0 y.mp y.fl y.ip y.room _ HY.out.1 HY.out.2.1 HY.out.2.2.1) ?_); rintro e w1 ⟨rfl, hb_⟩; have n_ := sep_below HS.out hb_; clear hb_; have n0_ := Aside0.mk n_; clear HS n_; have HS := n0_; clear n0_; skip)
            clear m0 m1 m2 m3 m4
            go_wp2
            have HBB : Aside0 (specsBad hs [] sp = true) := ⟨by rw [← HB.out, sb_step HI.out.2.2, hb]; rfl⟩
            clear hb
            refine wp_goto ?_
            refine HJ.out 0 _ _ _ rfl ?_
            go_wp2
            rw [Go.Proofs.YtobfabfoenldfaaX.jumps_ret]
            go_ret2
            unfold NewR
            rw [if_pos (by rw [HBB.out, Bool.or_true])]
            exact ⟨rfl, sep_below_of HS.out⟩
          · have hz' : 1 ≤ y.hold ∧ y.hold ≤ 1000000 := by have := HY.out.2.2.2.1; omega
            have HZ := Aside0.mk (And.intro hz hz')
            clear hz hz'
            go_upto_region 17 with (go_at_call 27; (with_reducible refine Calls.mono (box_New y.mp y.fl y.ip y.hold y.room _ HY.out.1 HY.out.2.1 HY.out.2.2.1 HZ.out.2 HY.out.2.2.2.2) ?_); rintro e w1 ⟨q, rfl, hm_⟩; have n_ := sep_l4 (sep_l4 (sep_l4 (sep_l4 (sep_made_of HS.out (sep_only hm_))))); clear hm_; have n0_ := Aside0.mk n_; clear HS n_; have HS := n0_; clear n0_)
            clear m0 m1 m2 m3 m4
            (try clear m1 p0 p1); have p0 := sep_cell HS.out 0; have p1 := sep_cell HS.out 1; have m1 := sep_cell (sep_l5 HS.out) 2
            obtain ⟨ow, how⟩ : ∃ ow, owned (P.map Sp.ip) y.ip (-1) = ow := ⟨_, rfl⟩
            obtain ⟨nn, hnn⟩ : ∃ nn, hs.any (ipH y.ip) = nn := ⟨_, rfl⟩
            have HT := Aside0.mk (And.intro how hnn)
            clear how hnn
            cases ow with
            | true =>
              have hb : specBad hs (P.map Sp.ip) y = true := by unfold specBad; rw [HT.out.1, Bool.or_true]; rfl
              go_wp2_with (go_at_call 28; have hx_ := net_owned p y.ip (-1) A2' c2' qs (P.map Sp.ip) _ (by have := HQ.out; have := HI.out.1; have := HR.out.2.2.1; omega) (by rw [List.length_map, HQ.out, ← HP.out, List.length_take]; have := HI.out.1; omega) p1 (sep_row' (sep_l2 HS.out)).2.2 (bx_ips HQ.out HP.out HI.out.1 HS.out); rw [HT.out.1] at hx_; (with_reducible refine Calls.mono hx_ ?_); clear hx_; rintro e w1 ⟨rfl, hb_⟩; have n_ := sep_below HS.out hb_; clear hb_; have n0_ := Aside0.mk n_; clear HS n_; have HS := n0_; clear n0_; (try clear m1 p0 p1); have p0 := sep_cell HS.out 0; have p1 := sep_cell HS.out 1; have m1 := sep_cell (sep_l5 HS.out) 2)
              have HBB : Aside0 (specsBad hs [] sp = true) := ⟨by rw [← HB.out, sb_step HI.out.2.2, hb]; rfl⟩
              clear hb
              refine wp_goto ?_
              refine HJ.out 0 _ _ _ rfl ?_
              go_wp2
              rw [Go.Proofs.YtobfabfoenldfaaX.jumps_ret]
              go_ret2
              unfold NewR
              rw [if_pos (by rw [HBB.out, Bool.or_true])]
              exact ⟨rfl, sep_below_of HS.out⟩
            | false =>
              cases nn with
              | true =>
                have hb : specBad hs (P.map Sp.ip) y = true := by unfold specBad; rw [HT.out.2, Bool.or_true]
                go_wp2_with (first | (go_at_call 28; have hx_ := net_owned p y.ip (-1) A2' c2' qs (P.map Sp.ip) _ (by have := HQ.out; have := HI.out.1; have := HR.out.2.2.1; omega) (by rw [List.length_map, HQ.out, ← HP.out, List.length_take]; have := HI.out.1; omega) p1 (sep_row' (sep_l2 HS.out)).2.2 (bx_ips HQ.out HP.out HI.out.1 HS.out); rw [HT.out.1] at hx_; (with_reducible refine Calls.mono hx_ ?_); clear hx_; rintro e w1 ⟨rfl, hb_⟩; have n_ := sep_below HS.out hb_; clear hb_; have n0_ := Aside0.mk n_; clear HS n_; have HS := n0_; clear n0_; (try clear m1 p0 p1); have p0 := sep_cell HS.out 0; have p1 := sep_cell HS.out 1; have m1 := sep_cell (sep_l5 HS.out) 2) | (go_at_call 29; have hx_ := net_inside p y.ip A1 c1 hs _ p0 (sep_row' (sep_l1 HS.out)).2.2; rw [HT.out.2] at hx_; (with_reducible refine Calls.mono hx_ ?_); clear hx_; rintro e w1 ⟨rfl, hb_⟩; have n_ := sep_below HS.out hb_; clear hb_; have n0_ := Aside0.mk n_; clear HS n_; have HS := n0_; clear n0_; (try clear m1 p0 p1); have p0 := sep_cell HS.out 0; have p1 := sep_cell HS.out 1; have m1 := sep_cell (sep_l5 HS.out) 2))
                have HBB : Aside0 (specsBad hs [] sp = true) := ⟨by rw [← HB.out, sb_step HI.out.2.2, hb]; rfl⟩
                clear hb
                refine wp_goto ?_
                refine HJ.out 0 _ _ _ rfl ?_
                go_wp2
                rw [Go.Proofs.YtobfabfoenldfaaX.jumps_ret]
                go_ret2
                unfold NewR
                rw [if_pos (by rw [HBB.out, Bool.or_true])]
                exact ⟨rfl, sep_below_of HS.out⟩
              | false =>
                have HG : Aside0 (specBad hs (P.map Sp.ip) y = false) := ⟨by unfold specBad; rw [HT.out.1, HT.out.2, beq_eq_false_iff_ne.2 HZ.out.1]; rfl⟩
                go_upto_region 18 with (first | (go_at_call 28; have hx_ := net_owned p y.ip (-1) A2' c2' qs (P.map Sp.ip) _ (by have := HQ.out; have := HI.out.1; have := HR.out.2.2.1; omega) (by rw [List.length_map, HQ.out, ← HP.out, List.length_take]; have := HI.out.1; omega) p1 (sep_row' (sep_l2 HS.out)).2.2 (bx_ips HQ.out HP.out HI.out.1 HS.out); rw [HT.out.1] at hx_; (with_reducible refine Calls.mono hx_ ?_); clear hx_; rintro e w1 ⟨rfl, hb_⟩; have n_ := sep_below HS.out hb_; clear hb_; have n0_ := Aside0.mk n_; clear HS n_; have HS := n0_; clear n0_; (try clear m1 p0 p1); have p0 := sep_cell HS.out 0; have p1 := sep_cell HS.out 1; have m1 := sep_cell (sep_l5 HS.out) 2) | (go_at_call 29; have hx_ := net_inside p y.ip A1 c1 hs _ p0 (sep_row' (sep_l1 HS.out)).2.2; rw [HT.out.2] at hx_; (with_reducible refine Calls.mono hx_ ?_); clear hx_; rintro e w1 ⟨rfl, hb_⟩; have n_ := sep_below HS.out hb_; clear hb_; have n0_ := Aside0.mk n_; clear HS n_; have HS := n0_; clear n0_; (try clear m1 p0 p1); have p0 := sep_cell HS.out 0; have p1 := sep_cell HS.out 1; have m1 := sep_cell (sep_l5 HS.out) 2))
                clear m1 p0
                go_wp2_with ((with_reducible refine gate_builtin (b := .append) (xs := #[.tmp 119, .tmp 121]) rfl ?_); at_builtin; refine wp_append ptK rfl (.tmp 119) (.tmp 121) 65 53 (.pointer none) 8 rfl Try.underlying65 info53 rfl (by decide) (by decide) _ qs q [.pointer (some ⟨q, 0, none⟩)] (by rfl) (by rfl) rfl (sep_l2 HS.out) (by have := HQ.out; have := HI.out.1; have := HR.out.2.2.1; omega) ?_; intro v3 w4 n_; obtain ⟨M2, hM2⟩ : ∃ M2, qs ++ [q] = M2 := ⟨_, rfl⟩; rw [hM2] at n_; have HM2 := Aside0.mk hM2; clear hM2; obtain ⟨A9, c9, rfl, -, -⟩ := sep_row n_; have n_ := sep_l2 (sep_l2 n_); have n0_ := Aside0.mk n_; clear HS n_; have HS := n0_; clear n0_; clear p1; have p1 := sep_cell HS.out 1; have f1 := sep_frozen HS.out 1)
                have n_ := sep_set HS.out 1 (.slice A9 M2.length c9)
                have n0_ := Aside0.mk n_; clear HS n_; have HS := n0_; clear n0_
                clear f1 p1
                generalize World.setCell _ _ _ = w6 at HS ⊢
                go_roundg (sp.length - (kk + 1))
                case measure => have := HI.out; omega
                case rel =>
                  refine ⟨kk + 1, by have := HI.out; omega, Nat.le_refl _, congrArg (Value.int .i64) (by have := HI.out; have := HR.out; unfold wrap64; omega), ⟨?_⟩, ⟨.slice A9 M2.length c9, M2, by rw [← HM2.out, List.length_append, HQ.out]; rfl, ?_⟩⟩
                  · rw [← HB.out, sb_step HI.out.2.2, HG.out, Bool.false_or, List.take_add_one, HI.out.2.2, HP.out, List.map_append]
                    rfl
                  · rw [List.take_add_one, HI.out.2.2, HP.out, List.map_append]
                    have HMM := HM2.out
                    subst HMM
                    exact sep_l3 (sep_l3 (sep_l3 (sep_drop (sep_l4 (boxes_snoc (B := y.bx) (by rw [List.length_map, HQ.out, ← HP.out, List.length_take]; have := HI.out.1; omega) (sep_l4 (sep_l4 HS.out)))))))
        · obtain rfl : kk = sp.length := by omega
          have c2b : decide ((sp.length : Int) < (sp.length : Int)) = false := decide_eq_false (by omega)
          have hb := HB.out
          rw [List.drop_length] at hb
          have HSB : Aside0 (specsBad hs [] sp = false) := ⟨hb.symm⟩
          have hP := HP.out
          rw [List.take_length] at hP
          subst hP
          clear hkk hg hb HB HP
          go_wp2
          rw [Go.Proofs.YtobfabfoenldfaaX.jumps_ret]
          go_ret2
          unfold NewR
          rw [if_neg (by rw [HHB.out, HSB.out]; decide)]
          exact ⟨p, pb, qs, rfl, HQ.out, sep_l1 (sep_l2 (net_mk HS.out))⟩
end Go.Proofs.Ytobfabfoenldfaa.NW
