/- Boxes: In, Rebind, New, IP. Conditions: those that each theorem names. -/
import Derived.Test.YtobfabfoenldfaaNG
namespace Go.Proofs.Ytobfabfoenldfaa.NW
set_option linter.unusedVariables false
set_option linter.unusedSimpArgs false
open Go Go.RowKit Go.Proofs.YtobfabfoenldfaaS Go.Proofs.YtobfabfoenldfaaS.Asn Go.Proofs.Ytobfabfoenldfaa.PA Go.Proofs.YtobfabfoenldfaaW.PrintWords Go.Proofs.YtobfabfoenldfaaW.PrintLast Go.Proofs.YtobfabfoenldfaaW.PrintMore


open Go.Proofs.Ytobfabfoenldfaa.BG (noneB none_f)
theorem h_skip {P : Program} {md : Region.Mode} {l : List Oper} {Q : Exit → Act → World → Prop} {S : World → Prop} (i : Nat) {oi : Oper} {fuel : Nat} {listed : Array Bool} {a : Act} {w : World} (hS : S w) (hi : l[i]? = some oi)
    (hs : Region.noSelect l.toArray = true) (hf : Region.free md l.toArray listed i = true) (hr : (Region.ready md l.toArray listed).contains i = true) (hQ : ∀ c a w, Q (.panic c) (a.put oi.dst undef) w → Q (.panic c) a w)
    (hw : Region.wanted oi (yielded l.toArray a.tmps) = false)
    (h : wpAnyH P md l.toArray Q S fuel (listed.setIfInBounds i true) (a.put oi.dst undef) w) : wpAnyH P md l.toArray Q S (fuel + 1) listed a w :=
  wpAnyH_take (by rw [List.getElem?_toArray]; exact hi) hs hf hr hQ (Or.inr ⟨hw, rfl⟩) hS h
/-- What is left of the bindings at a time. -/
def Swept (B : Bx) (now : Int) (L : List Bd) : Prop := (L = B.l ∧ B.l.length ≤ 2 ∧ ∀ x ∈ B.l, now < x.un) ∨ (L = [] ∧ ∃ x, B.l = [x] ∧ x.un ≤ now)
theorem sweep_to (p : Nat) (B : Bx) (now : Int) (L : List Bd) (w : World) (ok : Nat → Prop) (hw : Swept B now L) (h : (boxA p B ⋆ emp).H w ok) :
    Calls Try.prog 41 #[.pointer (some ⟨p, 0, none⟩), .int .u64 now] w fun e w' => ∃ k, e = .returned (.int .i64 k) ∧ Sep w ok (boxA p { B with l := L } ⋆ emp) w' := by
  rcases hw with ⟨rfl, hl, hn⟩ | ⟨rfl, x, hx, hu⟩
  · exact (sweep_keep p B now w ok hn (by omega) h).mono (fun e w' hq => ⟨0, hq⟩)
  · exact (sweep_one p B now x w ok hx hu h).mono (fun e w' hq => ⟨1, hq⟩)
set_option maxHeartbeats 4000000 in
set_option maxRecDepth 100000 in
theorem In_none (p : Nat) (B : Bx) (now port : Int) (src : S28) (L : List Bd) (w : World) (ok : Nat → Prop) (hsw : Swept B now L) (hs : noneB src.f0 src.f1 = false) (hn : 0 ≤ now ∧ now ≤ 1000000) (hh : 0 ≤ B.hold ∧ B.hold ≤ 1000000) (hx : L.any (portX port) = false) (h : (boxA p B ⋆ emp).H w ok) :
    Calls Try.prog 48 #[.pointer (some ⟨p, 0, none⟩), .int .u64 now, .int .u16 port, .agg #[.int .u32 src.f0, .int .u16 src.f1]] w fun e w' => e = .returned (.tuple #[.agg #[.int .u32 0, .int .u16 0], .int .i64 5]) ∧ Sep w ok (boxA p { B with l := L } ⋆ emp) w' := by
  have HX := Aside0.mk hx
  clear hx
  have HS := Aside0.mk (sep_begin h)
  have H1 : Aside0 (addr_Addr_None.f src.f0 src.f1 = some false) := ⟨by rw [none_f, hs]⟩
  have HSW := Aside0.mk hsw
  have HNW := Aside0.mk (And.intro hn hh)
  have r1 : decide (4611686018427387904 < now) = false := decide_eq_false (by omega)
  have r2 : (4611686018427387904 < now) = False := eq_false (by omega)
  clear h hs hsw hn hh
  go_enter Try.func48, Try.ntmps48
  go_upto_region 1 with (fail)
  have n_ := sep_l3 (sep_allocg (sep_allocg (sep_allocg HS.out #[.int .u16 port] 26 _ rfl) #[.int .u32 src.f0, .int .u16 src.f1] 28 _ (szS _ rfl)) #[.int .u32 0, .int .u16 0] 28 _ (szS _ (szS _ rfl)))
  have n0_ := Aside0.mk n_; clear HS n_; have HS := n0_; clear n0_
  generalize ((w.alloc (.cells #[.int .u16 port] 26)).alloc (.cells #[.int .u32 src.f0, .int .u16 src.f1] 28)).alloc (.cells #[.int .u32 0, .int .u16 0] 28) = wa at HS ⊢
  generalize w.heap.size + 1 + 1 = g8 at HS ⊢
  generalize w.heap.size + 1 = g7 at HS ⊢
  generalize w.heap.size = g6 at HS ⊢
  have m1 := sep_cell (sep_l2 HS.out) 0
  have m2 := sep_cell (sep_l2 HS.out) 1
  go_upto_region 3 with ((go_at_call 26; (with_reducible refine Calls.mono (addr_Addr_None.calls src.f0 src.f1 false _ H1.out) ?_); rintro e w1 ⟨rfl, hb_⟩; have n_ := sep_below HS.out hb_; clear hb_; have n0_ := Aside0.mk n_; clear HS n_; have HS := n0_; clear n0_; skip))
  clear m1 m2
  go_upto_region 4 with (go_at_call 41; obtain ⟨ok_, hp_, hk_⟩ := sep_use1 HS.out; have hx_ := sweep_to p B now L _ ok_ HSW.out hp_; (with_reducible refine Calls.mono hx_ ?_); rintro e w1 ⟨k_, rfl, hq_⟩; have n_ := back1 hk_ hq_; clear hx_ hp_ hk_ hq_; have n0_ := Aside0.mk n_; clear HS n_; have HS := n0_; clear n0_)
  clear r1 r2
  obtain ⟨A, c, R, hm, hc, n_⟩ := box_open HS.out
  dsimp only at hm hc n_
  have HM := Aside0.mk (And.intro hm hc)
  clear hm hc
  have n0_ := Aside0.mk n_; clear HS n_; have HS := n0_; clear n0_
  have hix := (idx_mat (mat_port port) HM.out.1).1
  have m6 := sep_cell (sep_l5 HS.out) 0
  have p5 := sep_cell HS.out 5
  rw [idx_none _ _ HX.out] at hix
  have HIX := Aside0.mk hix
  clear hix
  go_upto_region 5 with (go_at_call 53; have hx_ := idx_65 g6 port A c R _ m6 (sep_row' (sep_l1 HS.out)).2.2; rw [HIX.out, HM.out.1.1] at hx_; (with_reducible refine Calls.mono hx_ ?_); rintro e w1 ⟨rfl, hb_⟩; have n_ := sep_below HS.out hb_; clear hb_ hx_; have n0_ := Aside0.mk n_; clear HS n_; have HS := n0_; clear n0_)
  clear m6 p5
  have n_ := sep_drew HS.out
  have n0_ := Aside0.mk n_; clear HS n_; have HS := n0_; clear n0_
  refine wp_region_held_drew (S := (fun w' => True)) (by kernel_rfl) trivial (fun hHeld => ?_)
  generalize World.drew _ = wd at HS hHeld ⊢
  (refine h_take 0 (by assumption) rfl (by decide +kernel) (by decide +kernel) (by decide +kernel) (fun _ _ _ h => h) (by rfl) (by intro w hSw; (try dsimp only at hSw); go_simp; all_goals (with_reducible rfl)) ?_; simp only [Act.put, List.setIfInBounds_toArray, List.set_cons_zero, List.set_cons_succ])
  (refine h_take 1 (by assumption) rfl (by decide +kernel) (by decide +kernel) (by decide +kernel) (fun _ _ _ h => h) (by rfl) (by intro w hSw; (try dsimp only at hSw); go_simp; all_goals (with_reducible rfl)) ?_; simp only [Act.put, List.setIfInBounds_toArray, List.set_cons_zero, List.set_cons_succ])
  (refine h_take 2 (by assumption) rfl (by decide +kernel) (by decide +kernel) (by decide +kernel) (fun _ _ _ h => h) (by rfl) (by intro w hSw; (try dsimp only at hSw); go_simp; all_goals (with_reducible rfl)) ?_; simp only [Act.put, List.setIfInBounds_toArray, List.set_cons_zero, List.set_cons_succ])
  (refine h_skip 3 (by assumption) rfl (by decide +kernel) (by decide +kernel) (by decide +kernel) (fun _ _ _ h => h) (by rfl) ?_; simp only [Act.put, List.setIfInBounds_toArray, List.set_cons_zero, List.set_cons_succ])
  (refine h_skip 4 (by assumption) rfl (by decide +kernel) (by decide +kernel) (by decide +kernel) (fun _ _ _ h => h) (by rfl) ?_; simp only [Act.put, List.setIfInBounds_toArray, List.set_cons_zero, List.set_cons_succ])
  (refine h_skip 5 (by assumption) rfl (by decide +kernel) (by decide +kernel) (by decide +kernel) (fun _ _ _ h => h) (by rfl) ?_; simp only [Act.put, List.setIfInBounds_toArray, List.set_cons_zero, List.set_cons_succ])
  (refine h_skip 6 (by assumption) rfl (by decide +kernel) (by decide +kernel) (by decide +kernel) (fun _ _ _ h => h) (by rfl) ?_; simp only [Act.put, List.setIfInBounds_toArray, List.set_cons_zero, List.set_cons_succ])
  (refine h_skip 7 (by assumption) rfl (by decide +kernel) (by decide +kernel) (by decide +kernel) (fun _ _ _ h => h) (by rfl) ?_; simp only [Act.put, List.setIfInBounds_toArray, List.set_cons_zero, List.set_cons_succ])
  (refine h_skip 8 (by assumption) rfl (by decide +kernel) (by decide +kernel) (by decide +kernel) (fun _ _ _ h => h) (by rfl) ?_; simp only [Act.put, List.setIfInBounds_toArray, List.set_cons_zero, List.set_cons_succ])
  (refine h_skip 9 (by assumption) rfl (by decide +kernel) (by decide +kernel) (by decide +kernel) (fun _ _ _ h => h) (by rfl) ?_; simp only [Act.put, List.setIfInBounds_toArray, List.set_cons_zero, List.set_cons_succ])
  (refine h_skip 10 (by assumption) rfl (by decide +kernel) (by decide +kernel) (by decide +kernel) (fun _ _ _ h => h) (by rfl) ?_; simp only [Act.put, List.setIfInBounds_toArray, List.set_cons_zero, List.set_cons_succ])
  (refine h_skip 11 (by assumption) rfl (by decide +kernel) (by decide +kernel) (by decide +kernel) (fun _ _ _ h => h) (by rfl) ?_; simp only [Act.put, List.setIfInBounds_toArray, List.set_cons_zero, List.set_cons_succ])
  (refine h_skip 12 (by assumption) rfl (by decide +kernel) (by decide +kernel) (by decide +kernel) (fun _ _ _ h => h) (by rfl) ?_; simp only [Act.put, List.setIfInBounds_toArray, List.set_cons_zero, List.set_cons_succ])
  (refine h_skip 13 (by assumption) rfl (by decide +kernel) (by decide +kernel) (by decide +kernel) (fun _ _ _ h => h) (by rfl) ?_; simp only [Act.put, List.setIfInBounds_toArray, List.set_cons_zero, List.set_cons_succ])
  (refine h_skip 14 (by assumption) rfl (by decide +kernel) (by decide +kernel) (by decide +kernel) (fun _ _ _ h => h) (by rfl) ?_; simp only [Act.put, List.setIfInBounds_toArray, List.set_cons_zero, List.set_cons_succ])
  (refine h_skip 15 (by assumption) rfl (by decide +kernel) (by decide +kernel) (by decide +kernel) (fun _ _ _ h => h) (by rfl) ?_; simp only [Act.put, List.setIfInBounds_toArray, List.set_cons_zero, List.set_cons_succ])
  (refine h_skip 16 (by assumption) rfl (by decide +kernel) (by decide +kernel) (by decide +kernel) (fun _ _ _ h => h) (by rfl) ?_; simp only [Act.put, List.setIfInBounds_toArray, List.set_cons_zero, List.set_cons_succ])
  (refine h_skip 17 (by assumption) rfl (by decide +kernel) (by decide +kernel) (by decide +kernel) (fun _ _ _ h => h) (by rfl) ?_; simp only [Act.put, List.setIfInBounds_toArray, List.set_cons_zero, List.set_cons_succ])
  (refine h_take 18 (by assumption) rfl (by decide +kernel) (by decide +kernel) (by decide +kernel) (fun _ _ _ h => h) (by rfl) (by intro w hSw; (try dsimp only at hSw); go_simp; all_goals (with_reducible rfl)) ?_; simp only [Act.put, List.setIfInBounds_toArray, List.set_cons_zero, List.set_cons_succ])
  refine wpAnyH_done (by kernel_rfl) ?_ _
  clear hHeld
  have g0 := sep_cell (sep_l3 HS.out) 0
  have g1 := sep_cell (sep_l3 HS.out) 1
  have f0 := sep_frozen (sep_l3 HS.out)
  have f00 := f0 0
  have f01 := f0 1
  clear f0
  go_wp2
  have n_ := sep_set (sep_set (sep_l3 HS.out) 0 (.int .u32 0)) 1 (.int .u16 0)
  refine bodyPost_ret (results_ct rfl _ _ g8 28 #[.int .u32 0, .int .u16 0] (0, 0) _ rfl (sep_pt n_) Try.underlying28 rfl (by kernel_rfl)) rfl ?_
  exact ⟨rfl, box_mk (B := { B with l := L }) HM.out.1 (sep_drop (sep_l3 (sep_drop (sep_l3 (sep_drop n_)))))⟩
theorem keepI {w0 w' : World} {ok0 : Nat → Prop} {C D F : Asn} {p g g7 n c j cm : Nat} {Am : Option Addr} {R1 : List RBd} {B : Bx} {x : Bd} {un : Int} {src : S28} (h : Sep w0 ok0 (pt p #[.int .i64 B.mp, .int .i64 B.fl, .int .u32 B.ip, .int .u64 B.hold, .int .i64 B.room, .slice (some ⟨g, 0, none⟩) n c] 86 ⋆ row rbdK 100 (.slice (some ⟨g, 0, none⟩) n c) R1 ⋆ C ⋆ D ⋆ pt g7 #[.int .u32 src.f0, .int .u16 src.f1] 28 ⋆ F) w') (hq : R1[j]? = some ⟨x.ii, x.ip, x.ki, x.kp, x.po, Am, x.met.length, cm, un⟩) : w'.cell? ⟨p, 0, none⟩ = some (.int .i64 B.mp) ∧ w'.cell? ⟨p, 1, none⟩ = some (.int .i64 B.fl) ∧ w'.cell? ⟨p, 2, none⟩ = some (.int .u32 B.ip) ∧ w'.cell? ⟨p, 3, none⟩ = some (.int .u64 B.hold) ∧ w'.cell? ⟨p, 5, none⟩ = some (.slice (some ⟨g, 0, none⟩) n c) ∧ w'.cell? ⟨g, j * 7, none⟩ = some (.int .u32 x.ii) ∧ w'.cell? ⟨g, j * 7 + 1, none⟩ = some (.int .u16 x.ip) ∧ w'.cell? ⟨g, j * 7 + 5, none⟩ = some (.slice Am x.met.length cm) ∧ w'.cell? ⟨g7, 0, none⟩ = some (.int .u32 src.f0) ∧ w'.cell? ⟨g7, 1, none⟩ = some (.int .u16 src.f1) ∧ w'.frozen? ⟨g, j * 7 + 6, none⟩ = false := by
  obtain ⟨⟨k0, k1, -, -, -, k5, -⟩, kf⟩ := rbd_now (sep_l1 h) j _ hq
  exact ⟨sep_cell h 0, sep_cell h 1, sep_cell h 2, sep_cell h 3, sep_cell h 5, k0, k1, k5, sep_cell (sep_l4 h) 0, sep_cell (sep_l4 h) 1, kf _⟩
def inL (b : Bool) (B : Bx) (now : Int) (L : List Bd) (j : Nat) (x : Bd) : List Bd := if b = true then L.set j { x with un := now + B.hold } else L
def inA (b : Bool) (x : Bd) : S28 := if b = true then ⟨x.ii, x.ip⟩ else ⟨0, 0⟩
def inE (b : Bool) : Int := if b = true then 0 else 5
set_option maxHeartbeats 4000000 in
set_option maxRecDepth 100000 in
theorem In_at (p : Nat) (B : Bx) (now port : Int) (src : S28) (L : List Bd) (j : Nat) (x : Bd) (b : Bool) (w : World) (ok : Nat → Prop) (hsw : Swept B now L) (hs : noneB src.f0 src.f1 = false) (hn : 0 ≤ now ∧ now ≤ 1000000) (hh : 0 ≤ B.hold ∧ B.hold ≤ 1000000) (hj : idx (portX port) L = (j : Int)) (hx : L[j]? = some x) (hmet : x.met.length ≤ 10) (hb : passB B.fl x.met src = b) (h : (boxA p B ⋆ emp).H w ok) :
    Calls Try.prog 48 #[.pointer (some ⟨p, 0, none⟩), .int .u64 now, .int .u16 port, .agg #[.int .u32 src.f0, .int .u16 src.f1]] w fun e w' => e = .returned (.tuple #[.agg #[.int .u32 (inA b x).f0, .int .u16 (inA b x).f1], .int .i64 (inE b)]) ∧ Sep w ok (boxA p { B with l := inL b B now L j x } ⋆ emp) w' := by
  have HX := Aside0.mk (And.intro hj (And.intro hx hmet))
  have HP : Aside0 (rule_Passes.f 200 B.mp B.fl x.met src.f0 src.f1 = some b) := ⟨by rw [pass_map B.mp 0, pass_f _ _ _ (by omega), hb]⟩
  clear hj hx hmet hb
  have HS := Aside0.mk (sep_begin h)
  have H1 : Aside0 (addr_Addr_None.f src.f0 src.f1 = some false) := ⟨by rw [none_f, hs]⟩
  have HSW := Aside0.mk hsw
  have HNW := Aside0.mk (And.intro hn hh)
  have r1 : decide (4611686018427387904 < now) = false := decide_eq_false (by omega)
  have r2 : (4611686018427387904 < now) = False := eq_false (by omega)
  clear h hs hsw hn hh
  go_enter Try.func48, Try.ntmps48
  go_upto_region 1 with (fail)
  have n_ := sep_l3 (sep_allocg (sep_allocg (sep_allocg HS.out #[.int .u16 port] 26 _ rfl) #[.int .u32 src.f0, .int .u16 src.f1] 28 _ (szS _ rfl)) #[.int .u32 0, .int .u16 0] 28 _ (szS _ (szS _ rfl)))
  have n0_ := Aside0.mk n_; clear HS n_; have HS := n0_; clear n0_
  generalize ((w.alloc (.cells #[.int .u16 port] 26)).alloc (.cells #[.int .u32 src.f0, .int .u16 src.f1] 28)).alloc (.cells #[.int .u32 0, .int .u16 0] 28) = wa at HS ⊢
  generalize w.heap.size + 1 + 1 = g8 at HS ⊢
  generalize w.heap.size + 1 = g7 at HS ⊢
  generalize w.heap.size = g6 at HS ⊢
  have m1 := sep_cell (sep_l2 HS.out) 0
  have m2 := sep_cell (sep_l2 HS.out) 1
  go_upto_region 3 with ((go_at_call 26; (with_reducible refine Calls.mono (addr_Addr_None.calls src.f0 src.f1 false _ H1.out) ?_); rintro e w1 ⟨rfl, hb_⟩; have n_ := sep_below HS.out hb_; clear hb_; have n0_ := Aside0.mk n_; clear HS n_; have HS := n0_; clear n0_; skip))
  clear m1 m2
  go_upto_region 4 with (go_at_call 41; obtain ⟨ok_, hp_, hk_⟩ := sep_use1 HS.out; have hx_ := sweep_to p B now L _ ok_ HSW.out hp_; (with_reducible refine Calls.mono hx_ ?_); rintro e w1 ⟨k_, rfl, hq_⟩; have n_ := back1 hk_ hq_; clear hx_ hp_ hk_ hq_; have n0_ := Aside0.mk n_; clear HS n_; have HS := n0_; clear n0_)
  clear r1 r2
  obtain ⟨A, c, R, hm, hc, n_⟩ := box_open HS.out
  dsimp only at hm hc n_
  have HM := Aside0.mk (And.intro hm hc)
  clear hm hc
  have n0_ := Aside0.mk n_; clear HS n_; have HS := n0_; clear n0_
  have hix := (idx_mat (mat_port port) HM.out.1).1
  have m6 := sep_cell (sep_l5 HS.out) 0
  have p5 := sep_cell HS.out 5
  rw [HX.out.1] at hix
  have HIX := Aside0.mk hix
  clear hix
  have hjl : j < L.length := (List.getElem?_eq_some_iff.1 HX.out.2.1).1
  obtain ⟨g, rfl⟩ := row_addr (sep_l1 HS.out) (by rw [HM.out.1.1]; omega)
  obtain ⟨q, hq, hqx⟩ := MatL_get HM.out.1 HX.out.2.1
  obtain ⟨Am, cm, rfl, hcap⟩ := Mat_open hqx
  have HQ := Aside0.mk (And.intro hq hcap)
  have HPM := Aside0.mk (poolOf_at hq HX.out.2.1)
  dsimp only at HPM
  clear hq hqx hcap
  have c1b : decide ((j : Int) < (L.length : Int)) = true := decide_eq_true (Int.ofNat_lt.2 hjl); have c1n : decide (j < L.length) = true := decide_eq_true hjl; have c1i : ((j : Int) < (L.length : Int)) = True := eq_true (Int.ofNat_lt.2 hjl); have c1q : (j < L.length) = True := eq_true hjl; have p0_ := eq_true (Int.natCast_nonneg j)
  have d1 : decide ((j : Int) < 0) = false := decide_eq_false (by omega)
  have d2 : ((j : Int) < 0) = False := eq_false (by omega)
  clear hjl
  go_upto_region 5 with (go_at_call 53; have hx_ := idx_65 g6 port _ c R _ m6 (sep_row' (sep_l1 HS.out)).2.2; rw [HIX.out, HM.out.1.1] at hx_; (with_reducible refine Calls.mono hx_ ?_); rintro e w1 ⟨rfl, hb_⟩; have n_ := sep_below HS.out hb_; clear hb_ hx_; have n0_ := Aside0.mk n_; clear HS n_; have HS := n0_; clear n0_)
  clear m6 p5
  have n_ := sep_drew HS.out
  have n0_ := Aside0.mk n_; clear HS n_; have HS := n0_; clear n0_
  generalize hw1 : World.drew _ = wd at HS
  (try clear e0 e1 e2 e3 e5 k0 k1 k5 m1 m2 f6); obtain ⟨e0, e1, e2, e3, e5, k0, k1, k5, m1, m2, f6⟩ := keepI HS.out HQ.out.1
  subst hw1
  refine wp_region_held_drew (S := (fun w' => w'.cell? ⟨p, 0, none⟩ = some (.int .i64 B.mp) ∧ w'.cell? ⟨p, 1, none⟩ = some (.int .i64 B.fl) ∧ w'.cell? ⟨p, 2, none⟩ = some (.int .u32 B.ip) ∧ w'.cell? ⟨p, 3, none⟩ = some (.int .u64 B.hold) ∧ w'.cell? ⟨p, 5, none⟩ = some (.slice (some ⟨g, 0, none⟩) L.length c) ∧ w'.cell? ⟨g, j * 7, none⟩ = some (.int .u32 x.ii) ∧ w'.cell? ⟨g, j * 7 + 1, none⟩ = some (.int .u16 x.ip) ∧ w'.cell? ⟨g, j * 7 + 5, none⟩ = some (.slice Am x.met.length cm) ∧ w'.cell? ⟨g7, 0, none⟩ = some (.int .u32 src.f0) ∧ w'.cell? ⟨g7, 1, none⟩ = some (.int .u16 src.f1) ∧ w'.frozen? ⟨g, j * 7 + 6, none⟩ = false)) (by kernel_rfl) ⟨e0, e1, e2, e3, e5, k0, k1, k5, m1, m2, f6⟩ (fun hHeld => ?_)
  clear e0 e1 e2 e3 e5 k0 k1 k5 m1 m2 f6
  generalize World.drew _ = wd at HS hHeld ⊢
  (try clear e0 e1 e2 e3 e5 k0 k1 k5 m1 m2 f6); obtain ⟨e0, e1, e2, e3, e5, k0, k1, k5, m1, m2, f6⟩ := keepI HS.out HQ.out.1
  (refine h_take 0 (by assumption) rfl (by decide +kernel) (by decide +kernel) (by decide +kernel) (fun _ _ _ h => h) (by rfl) (by intro w hSw; (try dsimp only at hSw); go_simp; all_goals (with_reducible rfl)) ?_; simp only [Act.put, List.setIfInBounds_toArray, List.set_cons_zero, List.set_cons_succ])
  (refine h_take 1 (by assumption) rfl (by decide +kernel) (by decide +kernel) (by decide +kernel) (fun _ _ _ h => h) (by rfl) (by intro w hSw; (try dsimp only at hSw); go_simp; all_goals (with_reducible rfl)) ?_; simp only [Act.put, List.setIfInBounds_toArray, List.set_cons_zero, List.set_cons_succ])
  (refine h_take 2 (by assumption) rfl (by decide +kernel) (by decide +kernel) (by decide +kernel) (fun _ _ _ h => h) (by rfl) (by intro w hSw; (try dsimp only at hSw); go_simp; all_goals (with_reducible rfl)) ?_; simp only [Act.put, List.setIfInBounds_toArray, List.set_cons_zero, List.set_cons_succ])
  (refine h_take 3 (by assumption) rfl (by decide +kernel) (by decide +kernel) (by decide +kernel) (fun _ _ _ h => h) (by rfl) (by intro w hSw; (try dsimp only at hSw); go_simp; all_goals (with_reducible rfl)) ?_; simp only [Act.put, List.setIfInBounds_toArray, List.set_cons_zero, List.set_cons_succ])
  (refine h_take 4 (by assumption) rfl (by decide +kernel) (by decide +kernel) (by decide +kernel) (fun _ _ _ h => h) (by rfl) (by intro w hSw; (try dsimp only at hSw); go_simp; all_goals (with_reducible rfl)) ?_; simp only [Act.put, List.setIfInBounds_toArray, List.set_cons_zero, List.set_cons_succ])
  (refine h_take 5 (by assumption) rfl (by decide +kernel) (by decide +kernel) (by decide +kernel) (fun _ _ _ h => h) (by rfl) (by intro w hSw; (try dsimp only at hSw); go_simp; all_goals (with_reducible rfl)) ?_; simp only [Act.put, List.setIfInBounds_toArray, List.set_cons_zero, List.set_cons_succ])
  (refine h_take 6 (by assumption) rfl (by decide +kernel) (by decide +kernel) (by decide +kernel) (fun _ _ _ h => h) (by rfl) (by intro w hSw; (try dsimp only at hSw); go_simp; all_goals (with_reducible rfl)) ?_; simp only [Act.put, List.setIfInBounds_toArray, List.set_cons_zero, List.set_cons_succ])
  (refine h_take 7 (by assumption) rfl (by decide +kernel) (by decide +kernel) (by decide +kernel) (fun _ _ _ h => h) (by rfl) (by intro w hSw; (try dsimp only at hSw); go_simp; all_goals (with_reducible rfl)) ?_; simp only [Act.put, List.setIfInBounds_toArray, List.set_cons_zero, List.set_cons_succ])
  (refine h_take 8 (by assumption) rfl (by decide +kernel) (by decide +kernel) (by decide +kernel) (fun _ _ _ h => h) (by rfl) (by intro w hSw; (try dsimp only at hSw); go_simp; all_goals (with_reducible rfl)) ?_; simp only [Act.put, List.setIfInBounds_toArray, List.set_cons_zero, List.set_cons_succ])
  (refine h_take 9 (by assumption) rfl (by decide +kernel) (by decide +kernel) (by decide +kernel) (fun _ _ _ h => h) (by rfl) (by intro w hSw; (try dsimp only at hSw); go_simp; all_goals (with_reducible rfl)) ?_; simp only [Act.put, List.setIfInBounds_toArray, List.set_cons_zero, List.set_cons_succ])
  (refine h_take 10 (by assumption) rfl (by decide +kernel) (by decide +kernel) (by decide +kernel) (fun _ _ _ h => h) (by rfl) (by intro w hSw; (try dsimp only at hSw); go_simp; all_goals (with_reducible rfl)) ?_; simp only [Act.put, List.setIfInBounds_toArray, List.set_cons_zero, List.set_cons_succ])
  (refine h_take 11 (by assumption) rfl (by decide +kernel) (by decide +kernel) (by decide +kernel) (fun _ _ _ h => h) (by rfl) (by intro w hSw; (try dsimp only at hSw); go_simp; all_goals (with_reducible rfl)) ?_; simp only [Act.put, List.setIfInBounds_toArray, List.set_cons_zero, List.set_cons_succ])
  (refine h_take 12 (by assumption) rfl (by decide +kernel) (by decide +kernel) (by decide +kernel) (fun _ _ _ h => h) (by rfl) (by intro w hSw; (try dsimp only at hSw); go_simp; all_goals (with_reducible rfl)) ?_; simp only [Act.put, List.setIfInBounds_toArray, List.set_cons_zero, List.set_cons_succ])
  (refine h_take 13 (by assumption) rfl (by decide +kernel) (by decide +kernel) (by decide +kernel) (fun _ _ _ h => h) (by rfl) (by intro w hSw; (try dsimp only at hSw); go_simp; all_goals (with_reducible rfl)) ?_; simp only [Act.put, List.setIfInBounds_toArray, List.set_cons_zero, List.set_cons_succ])
  (refine h_take 14 (by assumption) rfl (by decide +kernel) (by decide +kernel) (by decide +kernel) (fun _ _ _ h => h) (by rfl) (by intro w hSw; (try dsimp only at hSw); go_simp; all_goals (with_reducible rfl)) ?_; simp only [Act.put, List.setIfInBounds_toArray, List.set_cons_zero, List.set_cons_succ])
  (refine h_take 15 (by assumption) rfl (by decide +kernel) (by decide +kernel) (by decide +kernel) (fun _ _ _ h => h) (by rfl) (by intro w hSw; (try dsimp only at hSw); go_simp; all_goals (with_reducible rfl)) ?_; simp only [Act.put, List.setIfInBounds_toArray, List.set_cons_zero, List.set_cons_succ])
  (refine h_one 16 (by kernel_rfl) rfl (by rfl) (fun K hK => ?_); go_simp; (go_at_call 66; (with_reducible refine Calls.mono (rule_Passes.calls 200 B.mp B.fl Am cm x.met src.f0 src.f1 b _ (sep_pool_at (sep_l2 HS.out) HPM.out) HQ.out.2 HP.out) ?_); rintro e w1 ⟨rfl, hb_⟩; have n_ := sep_below HS.out hb_; clear hb_; have n0_ := Aside0.mk n_; clear HS n_; have HS := n0_; clear n0_; (try clear e0 e1 e2 e3 e5 k0 k1 k5 m1 m2 f6); obtain ⟨e0, e1, e2, e3, e5, k0, k1, k5, m1, m2, f6⟩ := keepI HS.out HQ.out.1); clear hHeld; ((first | refine hK.out _ _ (⟨e0, e1, e2, e3, e5, k0, k1, k5, m1, m2, f6⟩) (fun hHeld => ?_) | (go_wp2_with fail; refine hK.out _ _ (⟨e0, e1, e2, e3, e5, k0, k1, k5, m1, m2, f6⟩) (fun hHeld => ?_))); clear hK K; (try simp only [Act.put, List.setIfInBounds_toArray, List.set_cons_zero, List.set_cons_succ])))
  cases b with
  | false =>
    (refine h_take 17 (by assumption) rfl (by decide +kernel) (by decide +kernel) (by decide +kernel) (fun _ _ _ h => h) (by rfl) (by intro w hSw; (try dsimp only at hSw); go_simp; all_goals (with_reducible rfl)) ?_; simp only [Act.put, List.setIfInBounds_toArray, List.set_cons_zero, List.set_cons_succ])
    (refine h_take 18 (by assumption) rfl (by decide +kernel) (by decide +kernel) (by decide +kernel) (fun _ _ _ h => h) (by rfl) (by intro w hSw; (try dsimp only at hSw); go_simp; all_goals (with_reducible rfl)) ?_; simp only [Act.put, List.setIfInBounds_toArray, List.set_cons_zero, List.set_cons_succ])
    refine wpAnyH_done (by kernel_rfl) ?_ _
    clear hHeld e0 e1 e2 e3 e5 k0 k1 k5 m1 m2 f6
    have g0 := sep_cell (sep_l3 HS.out) 0
    have g1 := sep_cell (sep_l3 HS.out) 1
    have f0 := sep_frozen (sep_l3 HS.out)
    have f00 := f0 0
    have f01 := f0 1
    clear f0
    go_wp2
    have n_ := sep_set (sep_set (sep_l3 HS.out) 0 (.int .u32 0)) 1 (.int .u16 0)
    refine bodyPost_ret (results_ct rfl _ _ g8 28 #[.int .u32 0, .int .u16 0] (0, 0) _ rfl (sep_pt n_) Try.underlying28 rfl (by kernel_rfl)) rfl ?_
    exact ⟨rfl, box_mk (B := { B with l := L }) HM.out.1 (sep_drop (sep_l3 (sep_drop (sep_l3 (sep_drop n_)))))⟩
  | true =>
    (refine h_take 17 (by assumption) rfl (by decide +kernel) (by decide +kernel) (by decide +kernel) (fun _ _ _ h => h) (by rfl) (by intro w hSw; (try dsimp only at hSw); go_simp; all_goals (with_reducible rfl)) ?_; simp only [Act.put, List.setIfInBounds_toArray, List.set_cons_zero, List.set_cons_succ])
    (refine h_take 18 (by assumption) rfl (by decide +kernel) (by decide +kernel) (by decide +kernel) (fun _ _ _ h => h) (by rfl) (by intro w hSw; (try dsimp only at hSw); go_simp; all_goals (with_reducible rfl)) ?_; simp only [Act.put, List.setIfInBounds_toArray, List.set_cons_zero, List.set_cons_succ])
    refine wpAnyH_done (by kernel_rfl) ?_ _
    have u1_ : IntKind.u64.wrap (now + B.hold) = now + B.hold := by have := HNW.out; rw [IntKind.wrap_u64]; omega
    go_upto_region 7 with (fail)
    clear e0 e1 e2 e3 e5 k0 k1 k5 m1 m2 f6 hHeld
    have n_ := sep_drew HS.out
    have n0_ := Aside0.mk n_; clear HS n_; have HS := n0_; clear n0_
    generalize hw1 : World.drew _ = wd at HS
    (try clear e0 e1 e2 e3 e5 k0 k1 k5 m1 m2 f6); obtain ⟨e0, e1, e2, e3, e5, k0, k1, k5, m1, m2, f6⟩ := keepI HS.out HQ.out.1
    subst hw1
    refine wp_region_held_drew (S := (fun w' => w'.cell? ⟨p, 0, none⟩ = some (.int .i64 B.mp) ∧ w'.cell? ⟨p, 1, none⟩ = some (.int .i64 B.fl) ∧ w'.cell? ⟨p, 2, none⟩ = some (.int .u32 B.ip) ∧ w'.cell? ⟨p, 3, none⟩ = some (.int .u64 B.hold) ∧ w'.cell? ⟨p, 5, none⟩ = some (.slice (some ⟨g, 0, none⟩) L.length c) ∧ w'.cell? ⟨g, j * 7, none⟩ = some (.int .u32 x.ii) ∧ w'.cell? ⟨g, j * 7 + 1, none⟩ = some (.int .u16 x.ip) ∧ w'.cell? ⟨g, j * 7 + 5, none⟩ = some (.slice Am x.met.length cm) ∧ w'.cell? ⟨g7, 0, none⟩ = some (.int .u32 src.f0) ∧ w'.cell? ⟨g7, 1, none⟩ = some (.int .u16 src.f1) ∧ w'.frozen? ⟨g, j * 7 + 6, none⟩ = false)) (by kernel_rfl) ⟨e0, e1, e2, e3, e5, k0, k1, k5, m1, m2, f6⟩ (fun hHeld => ?_)
    clear e0 e1 e2 e3 e5 k0 k1 k5 m1 m2 f6
    generalize World.drew _ = wd at HS hHeld ⊢
    (try clear e0 e1 e2 e3 e5 k0 k1 k5 m1 m2 f6); obtain ⟨e0, e1, e2, e3, e5, k0, k1, k5, m1, m2, f6⟩ := keepI HS.out HQ.out.1
    have kf6 := ((rbd_now (sep_l1 HS.out) j _ HQ.out.1).1).2.2.2.2.2.2
    (refine h_take 0 (by assumption) rfl (by decide +kernel) (by decide +kernel) (by decide +kernel) (fun _ _ _ h => h) (by rfl) (by intro w hSw; (try dsimp only at hSw); go_simp; all_goals (with_reducible rfl)) ?_; simp only [Act.put, List.setIfInBounds_toArray, List.set_cons_zero, List.set_cons_succ])
    (refine h_take 1 (by assumption) rfl (by decide +kernel) (by decide +kernel) (by decide +kernel) (fun _ _ _ h => h) (by rfl) (by intro w hSw; (try dsimp only at hSw); go_simp; all_goals (with_reducible rfl)) ?_; simp only [Act.put, List.setIfInBounds_toArray, List.set_cons_zero, List.set_cons_succ])
    (refine h_take 2 (by assumption) rfl (by decide +kernel) (by decide +kernel) (by decide +kernel) (fun _ _ _ h => h) (by rfl) (by intro w hSw; (try dsimp only at hSw); go_simp; all_goals (with_reducible rfl)) ?_; simp only [Act.put, List.setIfInBounds_toArray, List.set_cons_zero, List.set_cons_succ])
    (refine h_take 3 (by assumption) rfl (by decide +kernel) (by decide +kernel) (by decide +kernel) (fun _ _ _ h => h) (by rfl) (by intro w hSw; (try dsimp only at hSw); go_simp; all_goals (with_reducible rfl)) ?_; simp only [Act.put, List.setIfInBounds_toArray, List.set_cons_zero, List.set_cons_succ])
    (refine h_take 4 (by assumption) rfl (by decide +kernel) (by decide +kernel) (by decide +kernel) (fun _ _ _ h => h) (by rfl) (by intro w hSw; (try dsimp only at hSw); go_simp; all_goals (with_reducible rfl)) ?_; simp only [Act.put, List.setIfInBounds_toArray, List.set_cons_zero, List.set_cons_succ])
    (refine h_take 5 (by assumption) rfl (by decide +kernel) (by decide +kernel) (by decide +kernel) (fun _ _ _ h => h) (by rfl) (by intro w hSw; (try dsimp only at hSw); go_simp; all_goals (with_reducible rfl)) ?_; simp only [Act.put, List.setIfInBounds_toArray, List.set_cons_zero, List.set_cons_succ])
    (refine h_take 6 (by assumption) rfl (by decide +kernel) (by decide +kernel) (by decide +kernel) (fun _ _ _ h => h) (by rfl) (by intro w hSw; (try dsimp only at hSw); go_simp; all_goals (with_reducible rfl)) ?_; simp only [Act.put, List.setIfInBounds_toArray, List.set_cons_zero, List.set_cons_succ])
    (refine h_take 7 (by assumption) rfl (by decide +kernel) (by decide +kernel) (by decide +kernel) (fun _ _ _ h => h) (by rfl) (by intro w hSw; (try dsimp only at hSw); go_simp; all_goals (with_reducible rfl)) ?_; simp only [Act.put, List.setIfInBounds_toArray, List.set_cons_zero, List.set_cons_succ])
    (refine h_take 8 (by assumption) rfl (by decide +kernel) (by decide +kernel) (by decide +kernel) (fun _ _ _ h => h) (by rfl) (by intro w hSw; (try dsimp only at hSw); go_simp; all_goals (with_reducible rfl)) ?_; simp only [Act.put, List.setIfInBounds_toArray, List.set_cons_zero, List.set_cons_succ])
    (refine h_take 9 (by assumption) rfl (by decide +kernel) (by decide +kernel) (by decide +kernel) (fun _ _ _ h => h) (by rfl) (by intro w hSw; (try dsimp only at hSw); go_simp; all_goals (with_reducible rfl)) ?_; simp only [Act.put, List.setIfInBounds_toArray, List.set_cons_zero, List.set_cons_succ])
    (refine h_take 10 (by assumption) rfl (by decide +kernel) (by decide +kernel) (by decide +kernel) (fun _ _ _ h => h) (by rfl) (by intro w hSw; (try dsimp only at hSw); go_simp; all_goals (with_reducible rfl)) ?_; simp only [Act.put, List.setIfInBounds_toArray, List.set_cons_zero, List.set_cons_succ])
    (refine h_take 11 (by assumption) rfl (by decide +kernel) (by decide +kernel) (by decide +kernel) (fun _ _ _ h => h) (by rfl) (by intro w hSw; (try dsimp only at hSw); go_simp; all_goals (with_reducible rfl)) ?_; simp only [Act.put, List.setIfInBounds_toArray, List.set_cons_zero, List.set_cons_succ])
    (refine h_take 12 (by assumption) rfl (by decide +kernel) (by decide +kernel) (by decide +kernel) (fun _ _ _ h => h) (by rfl) (by intro w hSw; (try dsimp only at hSw); go_simp; all_goals (with_reducible rfl)) ?_; simp only [Act.put, List.setIfInBounds_toArray, List.set_cons_zero, List.set_cons_succ])
    (refine h_one 13 (by kernel_rfl) rfl (by rfl) (fun K hK => ?_); go_simp; skip; clear hHeld; ((first | refine hK.out _ _ (keepI (sep_l1 (sep_rbd_set (sep_l1 HS.out) j 6 _ ⟨x.ii, x.ip, x.ki, x.kp, x.po, Am, x.met.length, cm, now + B.hold⟩ (.int .u64 (now + B.hold)) HQ.out.1 (by decide) rfl)) (set_at HQ.out.1)) (fun hHeld => ?_) | (go_wp2_with fail; refine hK.out _ _ (keepI (sep_l1 (sep_rbd_set (sep_l1 HS.out) j 6 _ ⟨x.ii, x.ip, x.ki, x.kp, x.po, Am, x.met.length, cm, now + B.hold⟩ (.int .u64 (now + B.hold)) HQ.out.1 (by decide) rfl)) (set_at HQ.out.1)) (fun hHeld => ?_))); clear hK K; (try simp only [Act.put, List.setIfInBounds_toArray, List.set_cons_zero, List.set_cons_succ])))
    refine wpAnyH_done (by kernel_rfl) ?_ _
    have n_ := sep_l1 (sep_rbd_set (sep_l1 HS.out) j 6 _ ⟨x.ii, x.ip, x.ki, x.kp, x.po, Am, x.met.length, cm, now + B.hold⟩ (.int .u64 (now + B.hold)) HQ.out.1 (by decide) rfl)
    clear e0 e1 e2 e3 e5 k0 k1 k5 m1 m2 f6 hHeld kf6
    have n0_ := Aside0.mk n_; clear HS n_; have HS := n0_; clear n0_
    generalize World.setCell _ _ _ = wb at HS ⊢
    obtain ⟨e0, e1, e2, e3, e5, k0, k1, k5, m1, m2, f6⟩ := keepI HS.out (set_at HQ.out.1)
    have g0 := sep_cell (sep_l3 HS.out) 0
    have g1 := sep_cell (sep_l3 HS.out) 1
    have f0 := sep_frozen (sep_l3 HS.out)
    have f00 := f0 0
    have f01 := f0 1
    clear f0
    go_wp2
    have n_ := sep_set (sep_set (sep_l3 HS.out) 0 (.int .u32 x.ii)) 1 (.int .u16 x.ip)
    refine bodyPost_ret (results_ct rfl _ _ g8 28 #[.int .u32 x.ii, .int .u16 x.ip] (0, 0) _ rfl (sep_pt n_) Try.underlying28 rfl (by kernel_rfl)) rfl ?_
    have hm2 : MatL (R.set j ⟨x.ii, x.ip, x.ki, x.kp, x.po, Am, x.met.length, cm, now + B.hold⟩) (inL true B now L j x) := MatL_set HM.out.1 ⟨rfl, rfl, rfl, rfl, rfl, rfl, rfl, HQ.out.2⟩ j
    refine ⟨rfl, box_mk (B := { B with l := inL true B now L j x }) (v := .slice (some ⟨g, 0, none⟩) L.length c) hm2 ?_⟩
    have q := sep_l2 (sep_drop (sep_l3 (sep_drop (sep_l3 (sep_drop n_)))))
    refine sep_l2 (sep_l2 (sep_pool_sub q (fun y hy => ?_)))
    rcases List.mem_append.1 (poolOf_set (x := { x with un := now + B.hold }) j y hy) with hy | hy
    · rw [List.mem_singleton.1 hy]; exact HPM.out
    · exact hy
end Go.Proofs.Ytobfabfoenldfaa.NW
