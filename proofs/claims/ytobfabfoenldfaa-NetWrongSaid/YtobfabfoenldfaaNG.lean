/- Boxes: Out. Conditions: those that each theorem names. -/
import Derived.Test.YtobfabfoenldfaaUC
import Derived.Deep.DeepCutAuto
namespace Go.Proofs.Ytobfabfoenldfaa.NW
set_option linter.unusedVariables false
set_option linter.unusedSimpArgs false
open Go Go.RowKit Go.Proofs.YtobfabfoenldfaaS Go.Proofs.YtobfabfoenldfaaS.Asn Go.Proofs.Ytobfabfoenldfaa.PA Go.Proofs.YtobfabfoenldfaaW.PrintWords Go.Proofs.YtobfabfoenldfaaW.PrintLast Go.Proofs.YtobfabfoenldfaaW.PrintMore


open Go.Proofs.Ytobfabfoenldfaa.BG (noneB none_f)
def metS (m : List S28) (d : S28) : List S28 := if m.any (hit d.f0 d.f1) = true then m else m ++ [d]
def outL (B : Bx) (now : Int) (src dst : S28) (x : Bd) : List Bd := (bindL B.l src (keyS B.mp dst)).set (bindI B.l src (keyS B.mp dst)) { x with met := metS x.met dst, un := now + B.hold }
theorem box_cells {w0 w : World} {ok0 : Nat → Prop} {F : Asn} {p : Nat} {B : Bx} (h : Sep w0 ok0 (boxA p B ⋆ F) w) : w.cell? ⟨p, 0, none⟩ = some (.int .i64 B.mp) ∧ w.cell? ⟨p, 1, none⟩ = some (.int .i64 B.fl) ∧ w.cell? ⟨p, 2, none⟩ = some (.int .u32 B.ip) ∧ w.cell? ⟨p, 3, none⟩ = some (.int .u64 B.hold) ∧ w.cell? ⟨p, 4, none⟩ = some (.int .i64 B.room) := by
  obtain ⟨A, c, R, -, -, h⟩ := box_open h
  exact ⟨sep_cell h 0, sep_cell h 1, sep_cell h 2, sep_cell h 3, sep_cell h 4⟩
theorem keepC {w0 w' : World} {ok0 : Nat → Prop} {A F : Asn} {p g6 g7 : Nat} {B : Bx} {src dst : S28} (h : Sep w0 ok0 (boxA p B ⋆ A ⋆ pt g7 #[.int .u32 dst.f0, .int .u16 dst.f1] 28 ⋆ pt g6 #[.int .u32 src.f0, .int .u16 src.f1] 28 ⋆ F) w') : (w'.cell? ⟨g6, 0, none⟩ = some (.int .u32 src.f0) ∧ w'.cell? ⟨g6, 1, none⟩ = some (.int .u16 src.f1)) ∧ (w'.cell? ⟨g7, 0, none⟩ = some (.int .u32 dst.f0) ∧ w'.cell? ⟨g7, 1, none⟩ = some (.int .u16 dst.f1)) ∧ w'.cell? ⟨p, 0, none⟩ = some (.int .i64 B.mp) ∧ w'.cell? ⟨p, 1, none⟩ = some (.int .i64 B.fl) :=
  ⟨⟨sep_cell (sep_l3 h) 0, sep_cell (sep_l3 h) 1⟩, ⟨sep_cell (sep_l2 h) 0, sep_cell (sep_l2 h) 1⟩, (box_cells h).1, (box_cells h).2.1⟩
theorem keepO {w0 w' : World} {ok0 : Nat → Prop} {A C D F : Asn} {p g6 g7 : Nat} {B : Bx} {v : Value} {src dst : S28} (h : Sep w0 ok0 (pt p #[.int .i64 B.mp, .int .i64 B.fl, .int .u32 B.ip, .int .u64 B.hold, .int .i64 B.room, v] 86 ⋆ C ⋆ D ⋆ A ⋆ pt g7 #[.int .u32 dst.f0, .int .u16 dst.f1] 28 ⋆ pt g6 #[.int .u32 src.f0, .int .u16 src.f1] 28 ⋆ F) w') : (w'.cell? ⟨g6, 0, none⟩ = some (.int .u32 src.f0) ∧ w'.cell? ⟨g6, 1, none⟩ = some (.int .u16 src.f1)) ∧ (w'.cell? ⟨g7, 0, none⟩ = some (.int .u32 dst.f0) ∧ w'.cell? ⟨g7, 1, none⟩ = some (.int .u16 dst.f1)) ∧ w'.cell? ⟨p, 0, none⟩ = some (.int .i64 B.mp) ∧ w'.cell? ⟨p, 1, none⟩ = some (.int .i64 B.fl) :=
  ⟨⟨sep_cell (sep_l5 h) 0, sep_cell (sep_l5 h) 1⟩, ⟨sep_cell (sep_l4 h) 0, sep_cell (sep_l4 h) 1⟩, sep_cell h 0, sep_cell h 1⟩
theorem keepM {w0 w' : World} {ok0 : Nat → Prop} {A B C F : Asn} {g g7 n c j cm : Nat} {Am : Option Addr} {R1 : List RBd} {x : Bd} {un : Int} {dst : S28} (h : Sep w0 ok0 (row rbdK 100 (.slice (some ⟨g, 0, none⟩) n c) R1 ⋆ A ⋆ B ⋆ C ⋆ pt g7 #[.int .u32 dst.f0, .int .u16 dst.f1] 28 ⋆ F) w') (hq : R1[j]? = some ⟨x.ii, x.ip, x.ki, x.kp, x.po, Am, x.met.length, cm, un⟩) : w'.cell? ⟨g, j * 7 + 5, none⟩ = some (.slice Am x.met.length cm) ∧ (w'.cell? ⟨g7, 0, none⟩ = some (.int .u32 dst.f0) ∧ w'.cell? ⟨g7, 1, none⟩ = some (.int .u16 dst.f1)) :=
  ⟨(rbd_now h j _ hq).1.2.2.2.2.2.1, sep_cell (sep_l4 h) 0, sep_cell (sep_l4 h) 1⟩
section
variable {P : Program} {ops : Array Oper} {o : Oper} {a : Act} {Q : Exit → Act → World → Prop} {α : Type} {w0 W : World} {ok0 : Nat → Prop} {F : Asn} {Kc : Act → World → Prop}
/-- append of a slice in a region that draws its order. -/
theorem step_append_rows (d : Kd α) (hw : Region.wanted o (yielded ops a.tmps) = true) (s x : Operand) (t e : TypeId) (z : Value) (bytes : Nat)
    (ho : o.op = .call { callee := .builtin .append, args := #[s, x], argTypes := #[t, t] })
    (ht : P.underlying t = some (.slice e)) (hinfo : (P.info? e).map (fun i => (i.zero, i.size, i.bytes)) = some (some z, d.sz, bytes)) (hz : z.cells.size = d.sz) (hs0 : 0 < d.sz) (hb0 : 0 < bytes)
    (v : Value) (xs ys : List α) (A : Option Addr) (m c : Nat) (hs : a.eval s = v) (hx : a.eval x = .slice A m c)
    (HS : Sep w0 ok0 (row d e v xs ⋆ F) W) (HR : d.C W A m ys) (hKM : ∀ x cs, d.K W x cs → d.M W 0 (fun _ => False) x cs) (hl : (xs.length + m) * bytes ≤ 140737488355328)
    (h : ∀ v1 w1, Sep w0 ok0 (row d e v1 (xs ++ ys) ⋆ F) w1 → Kc (a.put o.dst v1) w1) : if Region.wanted o (yielded ops a.tmps) = true then Oper.wp P o a W Kc Q else Kc (a.put o.dst undef) W := by
  obtain ⟨ok, hr, hh⟩ := sep_grown HS
  exact Kd.R_append_rows_step d (Rr := d.K W) (w0 := W) 0 hw s x t e z bytes ho ht hinfo hz hs0 hb0 v xs ys A m c (fun k => ok k ∨ W.heap.size ≤ k) (fun _ => False) hs hx (Kd.R_mono hr (fun k hk => .inl hk)) HR hKM (fun _ h => h.elim) (fun k hk => .inr hk) (Below.refl _ _) (Nat.zero_le _) hl (fun v1 w1 hr1 hb hg _ => h v1 w1 (hh v1 w1 _ hr1 hb hg))
end
theorem h_three {P : Program} {md : Region.Mode} {l : List Oper} {Q : Exit → Act → World → Prop} {S : World → Prop} (i j k : Nat) {oi oj ok : Oper} {fuel : Nat} {listed : Array Bool} {a : Act} {w : World}
    (hr : Region.ready md l.toArray listed = [i, j, k]) (hi : l[i]? = some oi) (hj : l[j]? = some oj) (hk : l[k]? = some ok) (hw : Region.wanted oi (yielded l.toArray a.tmps) = true) (hw2 : Region.wanted oj (yielded l.toArray a.tmps) = true) (hw3 : Region.wanted ok (yielded l.toArray a.tmps) = true)
    (h : ∀ K : Act → World → Prop, Shut (∀ a w, S w → (S w → wpAnyH P md l.toArray Q S fuel (listed.setIfInBounds i true) a w) → K a w) → Oper.wp P oi a w K Q)
    (h2 : ∀ K : Act → World → Prop, Shut (∀ a w, S w → (S w → wpAnyH P md l.toArray Q S fuel (listed.setIfInBounds j true) a w) → K a w) → Oper.wp P oj a w K Q)
    (h3 : ∀ K : Act → World → Prop, Shut (∀ a w, S w → (S w → wpAnyH P md l.toArray Q S fuel (listed.setIfInBounds k true) a w) → K a w) → Oper.wp P ok a w K Q) : wpAnyH P md l.toArray Q S (fuel + 1) listed a w :=
  wpAnyH_ready hr (by simp) (AllReadyH.cons (by rw [List.getElem?_toArray]; exact hi) (fun K hK => by rw [if_pos hw]; exact h K hK) (AllReadyH.cons (by rw [List.getElem?_toArray]; exact hj) (fun K hK => by rw [if_pos hw2]; exact h2 K hK) (AllReadyH.cons (by rw [List.getElem?_toArray]; exact hk) (fun K hK => by rw [if_pos hw3]; exact h3 K hK) AllReadyH.nil)))
theorem lit1 {α : Type} {d : Kd α} {w0 w : World} {ok0 : Nat → Prop} {F : Asn} {g : Nat} {t : TypeId} {x : α} (c : List Value) {cs : Array Value} (h : Sep w0 ok0 (pt g cs t ⋆ F) w) (hcs : cs = c.toArray) (hl : c.length = d.sz) (hk : d.K w x c) : d.C w (some ⟨g, 0, none⟩) (1 : Nat) [x] := by
  subst hcs
  refine ⟨rfl, by simp, fun _ => ⟨_, rfl, fun i y hy => ?_⟩⟩
  match i, hy with
  | 0, hy =>
    obtain rfl : x = y := by simpa using hy
    refine ⟨c, hl, hk, fun j u hu => ?_⟩
    rw [Nat.zero_mul, Nat.zero_add, add_at, sep_cell h j]
    simpa using hu
theorem cut98 (A : Option Addr) (n c : Nat) (hc : n ≤ c) : ∀ W : World, (Instr.slice 98 (.slice A n c) (some (.int .i64 0)) none none).run Try.prog W = .ok (.slice A n c) W := by
  obtain ⟨i0, hi0, hz_⟩ := Option.map_eq_some_iff.1 info28
  have hsz0 : i0.size = 2 := congrArg (fun q => q.2.1) hz_
  have := cut_from (P := Try.prog) 98 28 .i64 Try.underlying98 hi0 2 hsz0 A n c 0 (by omega) (by omega)
  intro W
  have hw := this W
  have e : (if c = (0 : Int).toNat then A else A.map (·.add ((0 : Int).toNat * 2))) = A := by
    cases A with
    | none => simp
    | some a => simp [Addr.add_zero']
  rw [e] at hw
  simpa using hw
theorem keepS {w0 w' : World} {ok0 : Nat → Prop} {A B C D E F : Asn} {g g7 n c i : Nat} {R : List RBd} {r : RBd} {dst : S28} (h : Sep w0 ok0 (row rbdK 100 (.slice (some ⟨g, 0, none⟩) n c) R ⋆ A ⋆ B ⋆ C ⋆ D ⋆ E ⋆ pt g7 #[.int .u32 dst.f0, .int .u16 dst.f1] 28 ⋆ F) w') (hq : R[i]? = some r) (k : Nat) : (w'.cell? ⟨g7, 0, none⟩ = some (.int .u32 dst.f0) ∧ w'.cell? ⟨g7, 1, none⟩ = some (.int .u16 dst.f1)) ∧ w'.frozen? ⟨g, k, none⟩ = false :=
  ⟨⟨sep_cell (sep_l6 h) 0, sep_cell (sep_l6 h) 1⟩, (rbd_now h i _ hq).2 k⟩
theorem set_at {α : Type} {l : List α} {j : Nat} {x y : α} (h : l[j]? = some x) : (l.set j y)[j]? = some y := List.getElem?_set_self (List.getElem?_eq_some_iff.1 h).1
theorem keepT {w0 w' : World} {ok0 : Nat → Prop} {F : Asn} {p g n c j cm : Nat} {Am : Option Addr} {R1 : List RBd} {x : Bd} {un : Int} {m : Nat} {B : Bx} {v : Value} (h : Sep w0 ok0 (row rbdK 100 (.slice (some ⟨g, 0, none⟩) n c) R1 ⋆ pt p #[.int .i64 B.mp, .int .i64 B.fl, .int .u32 B.ip, .int .u64 B.hold, .int .i64 B.room, v] 86 ⋆ F) w') (hq : R1[j]? = some ⟨x.ii, x.ip, x.ki, x.kp, x.po, Am, m, cm, un⟩) : w'.cell? ⟨g, j * 7 + 4, none⟩ = some (.int .u16 x.po) ∧ w'.cell? ⟨p, 2, none⟩ = some (.int .u32 B.ip) :=
  ⟨(rbd_now h j _ hq).1.2.2.2.2.1, sep_cell (sep_l1 h) 2⟩
theorem keepR {w0 w' : World} {ok0 : Nat → Prop} {A B C F : Asn} {g g7 n c j cm : Nat} {Am : Option Addr} {R1 : List RBd} {x : Bd} {un : Int} {dst : S28} (h : Sep w0 ok0 (row rbdK 100 (.slice (some ⟨g, 0, none⟩) n c) R1 ⋆ A ⋆ B ⋆ C ⋆ pt g7 #[.int .u32 dst.f0, .int .u16 dst.f1] 28 ⋆ F) w') (hq : R1[j]? = some ⟨x.ii, x.ip, x.ki, x.kp, x.po, Am, x.met.length, cm, un⟩) : w'.cell? ⟨g, j * 7 + 5, none⟩ = some (.slice Am x.met.length cm) ∧ (w'.cell? ⟨g7, 0, none⟩ = some (.int .u32 dst.f0) ∧ w'.cell? ⟨g7, 1, none⟩ = some (.int .u16 dst.f1)) ∧ w'.frozen? ⟨g, j * 7 + 5, none⟩ = false :=
  ⟨(rbd_now h j _ hq).1.2.2.2.2.2.1, ⟨sep_cell (sep_l4 h) 0, sep_cell (sep_l4 h) 1⟩, (rbd_now h j _ hq).2 _⟩
set_option maxHeartbeats 4000000 in
set_option maxRecDepth 100000 in
theorem Out_walk (p : Nat) (B : Bx) (now : Int) (src dst : S28) (x : Bd) (w : World) (ok : Nat → Prop) (hs : noneB src.f0 src.f1 = false) (hd : noneB dst.f0 dst.f1 = false) (hn : 0 ≤ now ∧ now ≤ 1000000) (hh : 0 ≤ B.hold ∧ B.hold ≤ 1000000) (hmp : B.mp = 0 ∨ B.mp = 1 ∨ B.mp = 2) (hlive : ∀ y ∈ B.l, now < y.un) (hmay : MayBind B src (keyS B.mp dst)) (hx : (bindL B.l src (keyS B.mp dst))[bindI B.l src (keyS B.mp dst)]? = some x) (hmet : x.met.length ≤ 10) (h : (boxA p B ⋆ emp).H w ok) :
    Calls Try.prog 30 #[.pointer (some ⟨p, 0, none⟩), .int .u64 now, .agg #[.int .u32 src.f0, .int .u16 src.f1], .agg #[.int .u32 dst.f0, .int .u16 dst.f1]] w fun e w' => e = .returned (.tuple #[.agg #[.int .u32 B.ip, .int .u16 x.po], .int .i64 0]) ∧ Sep w ok (boxA p { B with l := outL B now src dst x } ⋆ emp) w' := by
  have HS := Aside0.mk (sep_begin h)
  have H1 : Aside0 (addr_Addr_None.f src.f0 src.f1 = some false) := ⟨by rw [none_f, hs]⟩
  have H2 : Aside0 (addr_Addr_None.f dst.f0 dst.f1 = some false) := ⟨by rw [none_f, hd]⟩
  have HKEY := Aside0.mk (key_f B.mp B.fl dst hmp)
  have HNW := Aside0.mk (And.intro hn hh)
  have HMAY := Aside0.mk hmay
  have HLV := Aside0.mk hlive
  have HX := Aside0.mk (And.intro hx hmet)
  have r1 : decide (4611686018427387904 < now) = false := decide_eq_false (by omega)
  have r2 : (4611686018427387904 < now) = False := eq_false (by omega)
  have hbl : B.l.length ≤ 2 := hmay.1
  have HBL := Aside0.mk hbl
  clear h hs hd hmp hn hh hmay hlive hx hmet hbl
  go_enter Try.func30, Try.ntmps30
  go_upto_region 1 with (fail)
  have n_ := sep_l3 (sep_allocg (sep_allocg (sep_allocg HS.out #[.int .u32 src.f0, .int .u16 src.f1] 28 _ rfl) #[.int .u32 dst.f0, .int .u16 dst.f1] 28 _ (szS _ rfl)) #[.int .u32 0, .int .u16 0] 28 _ (szS _ (szS _ rfl)))
  have n0_ := Aside0.mk n_; clear HS n_; have HS := n0_; clear n0_
  generalize ((w.alloc (.cells #[.int .u32 src.f0, .int .u16 src.f1] 28)).alloc (.cells #[.int .u32 dst.f0, .int .u16 dst.f1] 28)).alloc (.cells #[.int .u32 0, .int .u16 0] 28) = wa at HS ⊢
  generalize w.heap.size + 1 + 1 = g8 at HS ⊢
  generalize w.heap.size + 1 = g7 at HS ⊢
  generalize w.heap.size = g6 at HS ⊢
  (try clear m1 m2 m3 m4 m5 m6); obtain ⟨⟨m1, m2⟩, ⟨m3, m4⟩, m5, m6⟩ := keepC HS.out
  go_upto_region 3 with (first | (go_at_call 26; (with_reducible refine Calls.mono (addr_Addr_None.calls src.f0 src.f1 false _ H1.out) ?_); rintro e w1 ⟨rfl, hb_⟩; have n_ := sep_below HS.out hb_; clear hb_; have n0_ := Aside0.mk n_; clear HS n_; have HS := n0_; clear n0_; (try clear m1 m2 m3 m4 m5 m6); obtain ⟨⟨m1, m2⟩, ⟨m3, m4⟩, m5, m6⟩ := keepC HS.out) | (go_at_call 26; (with_reducible refine Calls.mono (addr_Addr_None.calls dst.f0 dst.f1 false _ H2.out) ?_); rintro e w1 ⟨rfl, hb_⟩; have n_ := sep_below HS.out hb_; clear hb_; have n0_ := Aside0.mk n_; clear HS n_; have HS := n0_; clear n0_; (try clear m1 m2 m3 m4 m5 m6); obtain ⟨⟨m1, m2⟩, ⟨m3, m4⟩, m5, m6⟩ := keepC HS.out))
  go_upto_region 4 with (go_at_call 41; obtain ⟨ok_, hp_, hk_⟩ := sep_use1 HS.out; have hx_ := sweep_keep p B now _ ok_ HLV.out (by have := HBL.out; omega) hp_; (with_reducible refine Calls.mono hx_ ?_); rintro e w1 ⟨rfl, hq_⟩; have n_ := back1 hk_ hq_; clear hx_ hp_ hk_ hq_; have n0_ := Aside0.mk n_; clear HS n_; have HS := n0_; clear n0_)
  clear r1 r2 m1 m2 m3 m4 m5 m6
  have n_ := sep_drew HS.out
  have n0_ := Aside0.mk n_; clear HS n_; have HS := n0_; clear n0_
  obtain ⟨j, hj⟩ : ∃ j, bindI B.l src (keyS B.mp dst) = j := ⟨_, rfl⟩
  obtain ⟨L2, hL2⟩ : ∃ L2, bindL B.l src (keyS B.mp dst) = L2 := ⟨_, rfl⟩
  have hx := HX.out.1
  rw [hj, hL2] at hx
  have HJL := Aside0.mk (And.intro hj hL2)
  have HXJ := Aside0.mk hx
  clear hj hL2 hx
  go_region_held3 (fun w' => (w'.cell? ⟨g6, 0, none⟩ = some (.int .u32 src.f0) ∧ w'.cell? ⟨g6, 1, none⟩ = some (.int .u16 src.f1)) ∧ (w'.cell? ⟨g7, 0, none⟩ = some (.int .u32 dst.f0) ∧ w'.cell? ⟨g7, 1, none⟩ = some (.int .u16 dst.f1)) ∧ w'.cell? ⟨p, 0, none⟩ = some (.int .i64 B.mp) ∧ w'.cell? ⟨p, 1, none⟩ = some (.int .i64 B.fl)) (first | exact keepC HS.out | exact keepO HS.out) (first | (go_at_call 43; (with_reducible refine Calls.mono (rule_Key.calls B.mp B.fl dst.f0 dst.f1 (keyS B.mp dst).f0 (keyS B.mp dst).f1 _ HKEY.out) ?_); rintro e w1 ⟨rfl, hb_⟩; have n_ := sep_below HS.out hb_; clear hb_; have n0_ := Aside0.mk n_; clear HS n_; have HS := n0_; clear n0_; skip) | (go_at_call 42; obtain ⟨ok_, hp_, hk_⟩ := sep_use1 HS.out; have hx_ := bind_walk p B src (keyS B.mp dst) _ ok_ HMAY.out hp_; rw [HJL.out.1, HJL.out.2] at hx_; (with_reducible refine Calls.mono hx_ ?_); rintro e w1 ⟨g, c, R, rfl, hm2, hc2, hq_⟩; have n_ := back3 hk_ hq_; clear hx_ hp_ hk_ hq_; have HM := Aside0.mk (And.intro hm2 hc2); clear hm2 hc2; have n0_ := Aside0.mk n_; clear HS n_; have HS := n0_; clear n0_) | fail)
  all_goals
    obtain ⟨q, hq, hqx⟩ := MatL_get HM.out.1 HXJ.out
    obtain ⟨Am, cm, rfl, hcap⟩ := Mat_open hqx
    have HQ := Aside0.mk (And.intro hq hcap)
    have HPM := Aside0.mk (poolOf_at hq HXJ.out)
    dsimp only at HPM
    clear hq hqx hcap
    obtain ⟨⟨k0, k1, k2, k3, k4, k5, k6⟩, kf⟩ := rbd_now (sep_l1 HS.out) j _ HQ.out.1
    have kf6 := kf (j * 7 + 6)
    have b3 := sep_cell HS.out 3
    have u1_ : IntKind.u64.wrap (now + B.hold) = now + B.hold := by have := HNW.out; rw [IntKind.wrap_u64]; omega
    go_upto_region 6 with (fail)
    have n_ := sep_rbd_set (sep_l1 HS.out) j 6 _ ⟨x.ii, x.ip, x.ki, x.kp, x.po, Am, x.met.length, cm, now + B.hold⟩ (.int .u64 (now + B.hold)) HQ.out.1 (by decide) rfl
    clear k0 k1 k2 k3 k4 k5 k6 kf kf6 b3 u1_
    obtain ⟨R1, hR1⟩ : ∃ R1, R.set j ⟨x.ii, x.ip, x.ki, x.kp, x.po, Am, x.met.length, cm, now + B.hold⟩ = R1 := ⟨_, rfl⟩
    rw [hR1] at n_
    have hq1 : R1[j]? = some ⟨x.ii, x.ip, x.ki, x.kp, x.po, Am, x.met.length, cm, now + B.hold⟩ := by rw [← hR1]; exact List.getElem?_set_self (List.getElem?_eq_some_iff.1 HQ.out.1).1
    have HR1 := Aside0.mk (And.intro hR1 hq1)
    clear hR1 hq1
    have n0_ := Aside0.mk n_; clear HS n_; have HS := n0_; clear n0_
    generalize w1.setCell _ _ = wb at HS ⊢
    obtain ⟨b, hb⟩ : ∃ b, x.met.any (hit dst.f0 dst.f1) = b := ⟨_, rfl⟩
    have HHB : Aside0 (addr_Addr_44.f 200 x.met dst.f0 dst.f1 = some b) := ⟨by rw [has 200 x.met _ _ (by have := HX.out.2; omega) (by have := HX.out.2; omega), hb]⟩
    have HBB := Aside0.mk hb
    clear hb
    have n_ := sep_drew HS.out
    have n0_ := Aside0.mk n_; clear HS n_; have HS := n0_; clear n0_
    go_region_held3 (fun w' => w'.cell? ⟨g, j * 7 + 5, none⟩ = some (.slice Am x.met.length cm) ∧ (w'.cell? ⟨g7, 0, none⟩ = some (.int .u32 dst.f0) ∧ w'.cell? ⟨g7, 1, none⟩ = some (.int .u16 dst.f1))) (exact keepM HS.out HR1.out.2) (first | (go_at_call 44; have hx_ := addr_Addr_44.calls 200 Am cm x.met dst.f0 dst.f1 b _ (sep_pool_at (sep_l2 HS.out) HPM.out) HQ.out.2 HHB.out; (with_reducible refine Calls.mono hx_ ?_); rintro e w1 ⟨rfl, hb_⟩; have n_ := sep_below HS.out hb_; clear hb_ hx_; have n0_ := Aside0.mk n_; clear HS n_; have HS := n0_; clear n0_) | fail)
    all_goals
      go_upto_if 49 with (fail)
      go_cut [] (fun wx => ∃ (A9 : Option Addr) (c9 : Nat), Aside0 ((metS x.met dst).length ≤ c9) ∧ Aside0 (Sep w ok (row rbdK 100 (.slice (some ⟨g, 0, none⟩) L2.length c) (R.set j ⟨x.ii, x.ip, x.ki, x.kp, x.po, A9, (metS x.met dst).length, c9, now + B.hold⟩) ⋆ pt p #[.int .i64 B.mp, .int .i64 B.fl, .int .u32 B.ip, .int .u64 B.hold, .int .i64 B.room, .slice (some ⟨g, 0, none⟩) L2.length c] 86 ⋆ pool k28 (poolOf (R.set j ⟨x.ii, x.ip, x.ki, x.kp, x.po, A9, (metS x.met dst).length, c9, now + B.hold⟩) (L2.set j { x with met := metS x.met dst, un := now + B.hold })) ⋆ pt g8 #[.int .u32 0, .int .u16 0] 28 ⋆ pt g7 #[.int .u32 dst.f0, .int .u16 dst.f1] 28 ⋆ pt g6 #[.int .u32 src.f0, .int .u16 src.f1] 28 ⋆ emp) wx))
      case first =>
        cases b with
        | true =>
          have hms : metS x.met dst = x.met := by unfold metS; rw [if_pos HBB.out]
          have HMS := Aside0.mk hms
          clear hms
          go_wp2_with fail
          go_meet
          case rel =>
            rw [HMS.out]
            refine ⟨Am, cm, ⟨HQ.out.2⟩, ⟨?_⟩⟩
            rw [HR1.out.1]
            refine sep_l2 (sep_l2 (sep_pool_sub (sep_l2 HS.out) (fun y hy => ?_)))
            rw [← HR1.out.1] at hy
            rcases List.mem_append.1 (poolOf_set j y hy) with hy | hy
            · rw [List.mem_singleton.1 hy]; exact HPM.out
            · exact hy
        | false =>
          go_upto_region 7 with (fail)
          have HMS : Aside0 (metS x.met dst = x.met ++ [dst]) := ⟨by unfold metS; rw [if_neg (by rw [HBB.out]; decide)]⟩
          obtain ⟨M2, hM2⟩ : ∃ M2, x.met ++ [dst] = M2 := ⟨_, rfl⟩
          have HM2 := Aside0.mk hM2
          clear hM2
          have l1_ : wrap64 ((x.met.length : Int) + 1) = (x.met.length : Int) + 1 := by have := HX.out.2; unfold wrap64; omega
          have l2_ : IntKind.i64.wrap ((x.met.length : Int) + 1) = (x.met.length : Int) + 1 := by have := HX.out.2; rw [IntKind.wrap_i64]; omega
          have l3_ : wrap64 ((x.met.length : Int) + 1 - 16) = (x.met.length : Int) + 1 - 16 := by have := HX.out.2; unfold wrap64; omega
          have l4_ : IntKind.i64.wrap ((x.met.length : Int) + 1 - 16) = (x.met.length : Int) + 1 - 16 := by have := HX.out.2; rw [IntKind.wrap_i64]; omega
          have l5_ : ((x.met.length : Int) + 1 - 16 < 0) = True := eq_true (by have := HX.out.2; omega)
          have l6_ := cut98 Am x.met.length cm HQ.out.2
          have n_ := sep_drew HS.out
          have n0_ := Aside0.mk n_; clear HS n_; have HS := n0_; clear n0_
          (try clear k5 d1 d2 f5); (first | (obtain ⟨k5, ⟨d1, d2⟩, f5⟩ := keepR HS.out HR1.out.2) | (obtain ⟨k5, ⟨d1, d2⟩, f5⟩ := keepR (sep_drop HS.out) HR1.out.2) | (obtain ⟨k5, ⟨d1, d2⟩, f5⟩ := keepR (sep_drop (sep_drop HS.out)) HR1.out.2))
          refine wp_region_held_drew (S := (fun w' => (w'.cell? ⟨g7, 0, none⟩ = some (.int .u32 dst.f0) ∧ w'.cell? ⟨g7, 1, none⟩ = some (.int .u16 dst.f1)) ∧ w'.frozen? ⟨g, j * 7 + 5, none⟩ = false)) (by kernel_rfl) ⟨⟨d1, d2⟩, f5⟩ (fun hHeld => ?_)
          clear k5 d1 d2 f5
          generalize World.drew _ = wd at HS hHeld ⊢
          (try clear k5 d1 d2 f5); (first | (obtain ⟨k5, ⟨d1, d2⟩, f5⟩ := keepR HS.out HR1.out.2) | (obtain ⟨k5, ⟨d1, d2⟩, f5⟩ := keepR (sep_drop HS.out) HR1.out.2) | (obtain ⟨k5, ⟨d1, d2⟩, f5⟩ := keepR (sep_drop (sep_drop HS.out)) HR1.out.2))
          (refine h_take 0 (by assumption) rfl (by decide +kernel) (by decide +kernel) (by decide +kernel) (fun _ _ _ h => h) (by rfl) (by intro w hSw; (try dsimp only at hSw); go_simp; all_goals (with_reducible rfl)) ?_; simp only [Act.put, List.setIfInBounds_toArray, List.set_cons_zero, List.set_cons_succ])
          (refine h_take 1 (by assumption) rfl (by decide +kernel) (by decide +kernel) (by decide +kernel) (fun _ _ _ h => h) (by rfl) (by intro w hSw; (try dsimp only at hSw); go_simp; all_goals (with_reducible rfl)) ?_; simp only [Act.put, List.setIfInBounds_toArray, List.set_cons_zero, List.set_cons_succ])
          (refine h_take 2 (by assumption) rfl (by decide +kernel) (by decide +kernel) (by decide +kernel) (fun _ _ _ h => h) (by rfl) (by intro w hSw; (try dsimp only at hSw); go_simp; all_goals (with_reducible rfl)) ?_; simp only [Act.put, List.setIfInBounds_toArray, List.set_cons_zero, List.set_cons_succ])
          (refine h_take 3 (by assumption) rfl (by decide +kernel) (by decide +kernel) (by decide +kernel) (fun _ _ _ h => h) (by rfl) (by intro w hSw; (try dsimp only at hSw); go_simp; all_goals (with_reducible rfl)) ?_; simp only [Act.put, List.setIfInBounds_toArray, List.set_cons_zero, List.set_cons_succ])
          (refine h_take 5 (by assumption) rfl (by decide +kernel) (by decide +kernel) (by decide +kernel) (fun _ _ _ h => h) (by rfl) (by intro w hSw; (try dsimp only at hSw); go_simp; all_goals (with_reducible rfl)) ?_; simp only [Act.put, List.setIfInBounds_toArray, List.set_cons_zero, List.set_cons_succ])
          (refine h_take 6 (by assumption) rfl (by decide +kernel) (by decide +kernel) (by decide +kernel) (fun _ _ _ h => h) (by rfl) (by intro w hSw; (try dsimp only at hSw); go_simp; all_goals (with_reducible rfl)) ?_; simp only [Act.put, List.setIfInBounds_toArray, List.set_cons_zero, List.set_cons_succ])
          (refine h_take 7 (by assumption) rfl (by decide +kernel) (by decide +kernel) (by decide +kernel) (fun _ _ _ h => h) (by rfl) (by intro w hSw; (try dsimp only at hSw); go_simp; all_goals (with_reducible rfl)) ?_; simp only [Act.put, List.setIfInBounds_toArray, List.set_cons_zero, List.set_cons_succ])
          (refine h_take 15 (by assumption) rfl (by decide +kernel) (by decide +kernel) (by decide +kernel) (fun _ _ _ h => h) (by rfl) (by intro w hSw; (try dsimp only at hSw); go_simp; all_goals (with_reducible rfl)) ?_; simp only [Act.put, List.setIfInBounds_toArray, List.set_cons_zero, List.set_cons_succ])
          refine h_three 4 8 16 (by kernel_rfl) rfl rfl rfl (by rfl) (by rfl) (by rfl) (fun K hK => ?_) (fun K hK => ?_) (fun K hK => ?_)
          · go_simp
            clear hHeld; ((first | refine hK.out _ _ (⟨⟨d1, d2⟩, f5⟩) (fun hHeld => ?_) | (go_wp2_with fail; refine hK.out _ _ (⟨⟨d1, d2⟩, f5⟩) (fun hHeld => ?_))); clear hK K; (try simp only [Act.put, List.setIfInBounds_toArray, List.set_cons_zero, List.set_cons_succ]))
            refine h_two 8 16 (by kernel_rfl) rfl rfl (by rfl) (by rfl) (fun K hK => ?_) (fun K hK => ?_)
            · go_simp
              clear hHeld; ((first | refine hK.out _ _ (⟨⟨d1, d2⟩, f5⟩) (fun hHeld => ?_) | (go_wp2_with fail; refine hK.out _ _ (⟨⟨d1, d2⟩, f5⟩) (fun hHeld => ?_))); clear hK K; (try simp only [Act.put, List.setIfInBounds_toArray, List.set_cons_zero, List.set_cons_succ]))
              (refine h_take 9 (by assumption) rfl (by decide +kernel) (by decide +kernel) (by decide +kernel) (fun _ _ _ h => h) (by rfl) (by intro w hSw; (try dsimp only at hSw); go_simp; all_goals (with_reducible rfl)) ?_; simp only [Act.put, List.setIfInBounds_toArray, List.set_cons_zero, List.set_cons_succ])
              (refine h_take 10 (by assumption) rfl (by decide +kernel) (by decide +kernel) (by decide +kernel) (fun _ _ _ h => h) (by rfl) (by intro w hSw; (try dsimp only at hSw); go_simp; all_goals (with_reducible rfl)) ?_; simp only [Act.put, List.setIfInBounds_toArray, List.set_cons_zero, List.set_cons_succ])
              (refine h_take 11 (by assumption) rfl (by decide +kernel) (by decide +kernel) (by decide +kernel) (fun _ _ _ h => h) (by rfl) (by intro w hSw; (try dsimp only at hSw); go_simp; all_goals (with_reducible rfl)) ?_; simp only [Act.put, List.setIfInBounds_toArray, List.set_cons_zero, List.set_cons_succ])
              (refine h_take 12 (by assumption) rfl (by decide +kernel) (by decide +kernel) (by decide +kernel) (fun _ _ _ h => h) (by rfl) (by intro w hSw; (try dsimp only at hSw); go_simp; all_goals (with_reducible rfl)) ?_; simp only [Act.put, List.setIfInBounds_toArray, List.set_cons_zero, List.set_cons_succ])
              (refine h_take 13 (by assumption) rfl (by decide +kernel) (by decide +kernel) (by decide +kernel) (fun _ _ _ h => h) (by rfl) (by intro w hSw; (try dsimp only at hSw); go_simp; all_goals (with_reducible rfl)) ?_; simp only [Act.put, List.setIfInBounds_toArray, List.set_cons_zero, List.set_cons_succ])
              refine h_two 14 16 (by kernel_rfl) rfl rfl (by rfl) (by rfl) (fun K hK => ?_) (fun K hK => ?_)
              · (go_simp; go_at_call 45; have hx_ := met_Clone Am cm x.met _ (sep_pool_at (sep_l2 HS.out) HPM.out) (by have := HX.out.2; omega); (with_reducible refine Calls.mono hx_ ?_); rintro e w1 ⟨v_, rfl, hm_⟩; have n_ := sep_made_of HS.out (sep_only hm_); clear hm_ hx_; have n0_ := Aside0.mk n_; clear HS n_; have HS := n0_; clear n0_; (try clear k5 d1 d2 f5); (first | (obtain ⟨k5, ⟨d1, d2⟩, f5⟩ := keepR HS.out HR1.out.2) | (obtain ⟨k5, ⟨d1, d2⟩, f5⟩ := keepR (sep_drop HS.out) HR1.out.2) | (obtain ⟨k5, ⟨d1, d2⟩, f5⟩ := keepR (sep_drop (sep_drop HS.out)) HR1.out.2)))
                clear hHeld; ((first | refine hK.out _ _ (⟨⟨d1, d2⟩, f5⟩) (fun hHeld => ?_) | (go_wp2_with fail; refine hK.out _ _ (⟨⟨d1, d2⟩, f5⟩) (fun hHeld => ?_))); clear hK K; (try simp only [Act.put, List.setIfInBounds_toArray, List.set_cons_zero, List.set_cons_succ]))
                refine h_raw 16 (by kernel_rfl) rfl (fun K hK => ?_)
                (go_simp; have n_ := sep_alloc HS.out #[.int .u32 dst.f0, .int .u16 dst.f1] 28; have n0_ := Aside0.mk n_; clear HS n_; have HS := n0_; clear n0_; (try clear k5 d1 d2 f5); (first | (obtain ⟨k5, ⟨d1, d2⟩, f5⟩ := keepR HS.out HR1.out.2) | (obtain ⟨k5, ⟨d1, d2⟩, f5⟩ := keepR (sep_drop HS.out) HR1.out.2) | (obtain ⟨k5, ⟨d1, d2⟩, f5⟩ := keepR (sep_drop (sep_drop HS.out)) HR1.out.2)); clear hHeld; ((first | refine hK.out _ _ (⟨⟨d1, d2⟩, f5⟩) (fun hHeld => ?_) | (go_wp2_with fail; refine hK.out _ _ (⟨⟨d1, d2⟩, f5⟩) (fun hHeld => ?_))); clear hK K; (try simp only [Act.put, List.setIfInBounds_toArray, List.set_cons_zero, List.set_cons_succ])); generalize Array.size (World.heap _) = g9 at HS ⊢; clear k5 d1 d2 f5; generalize World.alloc _ _ = w2 at HS hHeld ⊢; (try clear k5 d1 d2 f5); (first | (obtain ⟨k5, ⟨d1, d2⟩, f5⟩ := keepR HS.out HR1.out.2) | (obtain ⟨k5, ⟨d1, d2⟩, f5⟩ := keepR (sep_drop HS.out) HR1.out.2) | (obtain ⟨k5, ⟨d1, d2⟩, f5⟩ := keepR (sep_drop (sep_drop HS.out)) HR1.out.2)))
                have n_ := sep_l1 HS.out
                have n0_ := Aside0.mk n_; clear HS n_; have HS := n0_; clear n0_
                refine h_raw 17 (by kernel_rfl) rfl (fun K hK => ?_)
                refine step_append_rows (w0 := w) (ok0 := ok) k28 (by rfl) (.tmp 64) (.tmp 66) 98 28 v28 8 rfl Try.underlying98 info28 rfl (by decide) (by decide) _ x.met [dst] (some ⟨g9, 0, none⟩) 1 1 (by rfl) (by rfl) HS.out (lit1 [.int .u32 dst.f0, .int .u16 dst.f1] (sep_l1 HS.out) rfl rfl (k28_mk _ _)) (fun x cs hk => by rw [k28_open hk]; exact k28_mkM _ _ _ _) (by have := HX.out.2; omega) (fun v9 w5 hs => ?_)
                rw [HM2.out] at hs
                clear HS k5 d1 d2 f5
                obtain ⟨A9, c9, rfl, hc9, -⟩ := sep_row hs
                have HC9 := Aside0.mk hc9
                have n_ := hs
                clear hs hc9
                have HS := Aside0.mk n_
                clear n_
                (try clear k5 d1 d2 f5); (first | (obtain ⟨k5, ⟨d1, d2⟩, f5⟩ := keepR HS.out HR1.out.2) | (obtain ⟨k5, ⟨d1, d2⟩, f5⟩ := keepR (sep_drop HS.out) HR1.out.2) | (obtain ⟨k5, ⟨d1, d2⟩, f5⟩ := keepR (sep_drop (sep_drop HS.out)) HR1.out.2))
                clear hHeld; ((first | refine hK.out _ _ (⟨⟨d1, d2⟩, f5⟩) (fun hHeld => ?_) | (go_wp2_with fail; refine hK.out _ _ (⟨⟨d1, d2⟩, f5⟩) (fun hHeld => ?_))); clear hK K; (try simp only [Act.put, List.setIfInBounds_toArray, List.set_cons_zero, List.set_cons_succ]))
                (refine h_take 18 (by assumption) rfl (by decide +kernel) (by decide +kernel) (by decide +kernel) (fun _ _ _ h => h) (by rfl) (by intro w hSw; (try dsimp only at hSw); go_simp; all_goals (with_reducible rfl)) ?_; simp only [Act.put, List.setIfInBounds_toArray, List.set_cons_zero, List.set_cons_succ])
                (refine h_take 19 (by assumption) rfl (by decide +kernel) (by decide +kernel) (by decide +kernel) (fun _ _ _ h => h) (by rfl) (by intro w hSw; (try dsimp only at hSw); go_simp; all_goals (with_reducible rfl)) ?_; simp only [Act.put, List.setIfInBounds_toArray, List.set_cons_zero, List.set_cons_succ])
                (refine h_one 20 (by kernel_rfl) rfl (by rfl) (fun K hK => ?_); go_simp; skip; clear hHeld; ((first | refine hK.out _ _ (keepS (sep_rbd_set (sep_l2 HS.out) j 5 _ ⟨x.ii, x.ip, x.ki, x.kp, x.po, A9, M2.length, c9, now + B.hold⟩ (.slice A9 M2.length c9) HR1.out.2 (by decide) rfl) (set_at HR1.out.2) _) (fun hHeld => ?_) | (go_wp2_with fail; refine hK.out _ _ (keepS (sep_rbd_set (sep_l2 HS.out) j 5 _ ⟨x.ii, x.ip, x.ki, x.kp, x.po, A9, M2.length, c9, now + B.hold⟩ (.slice A9 M2.length c9) HR1.out.2 (by decide) rfl) (set_at HR1.out.2) _) (fun hHeld => ?_))); clear hK K; (try simp only [Act.put, List.setIfInBounds_toArray, List.set_cons_zero, List.set_cons_succ])))
                refine wpAnyH_done (by kernel_rfl) ?_ _
                clear hHeld k5 d1 d2 f5
                have n_ := sep_rbd_set (sep_l2 HS.out) j 5 _ ⟨x.ii, x.ip, x.ki, x.kp, x.po, A9, M2.length, c9, now + B.hold⟩ (.slice A9 M2.length c9) HR1.out.2 (by decide) rfl
                replace n_ := sep_pool_app (sep_l1 (sep_l3 (sep_row_pool (sep_l1 (sep_drop (sep_l2 n_))))))
                have n0_ := Aside0.mk n_; clear HS n_; have HS := n0_; clear n0_
                go_wp2_with fail
                go_meet
                case rel =>
                  rw [HMS.out, HM2.out]
                  have e : R1.set j ⟨x.ii, x.ip, x.ki, x.kp, x.po, A9, M2.length, c9, now + B.hold⟩ = R.set j ⟨x.ii, x.ip, x.ki, x.kp, x.po, A9, M2.length, c9, now + B.hold⟩ := by rw [← HR1.out.1, List.set_set]
                  refine ⟨A9, c9, ⟨HC9.out⟩, ⟨?_⟩⟩
                  have q := HS.out
                  rw [e] at q
                  exact sep_l2 (sep_l2 (sep_pool_sub q (fun y hy => poolOf_set j y hy)))
              · (go_simp; have n_ := sep_alloc HS.out #[.int .u32 dst.f0, .int .u16 dst.f1] 28; have n0_ := Aside0.mk n_; clear HS n_; have HS := n0_; clear n0_; (try clear k5 d1 d2 f5); (first | (obtain ⟨k5, ⟨d1, d2⟩, f5⟩ := keepR HS.out HR1.out.2) | (obtain ⟨k5, ⟨d1, d2⟩, f5⟩ := keepR (sep_drop HS.out) HR1.out.2) | (obtain ⟨k5, ⟨d1, d2⟩, f5⟩ := keepR (sep_drop (sep_drop HS.out)) HR1.out.2)); clear hHeld; ((first | refine hK.out _ _ (⟨⟨d1, d2⟩, f5⟩) (fun hHeld => ?_) | (go_wp2_with fail; refine hK.out _ _ (⟨⟨d1, d2⟩, f5⟩) (fun hHeld => ?_))); clear hK K; (try simp only [Act.put, List.setIfInBounds_toArray, List.set_cons_zero, List.set_cons_succ])); generalize Array.size (World.heap _) = g9 at HS ⊢; clear k5 d1 d2 f5; generalize World.alloc _ _ = w2 at HS hHeld ⊢; (try clear k5 d1 d2 f5); (first | (obtain ⟨k5, ⟨d1, d2⟩, f5⟩ := keepR HS.out HR1.out.2) | (obtain ⟨k5, ⟨d1, d2⟩, f5⟩ := keepR (sep_drop HS.out) HR1.out.2) | (obtain ⟨k5, ⟨d1, d2⟩, f5⟩ := keepR (sep_drop (sep_drop HS.out)) HR1.out.2)))
                refine h_raw 14 (by kernel_rfl) rfl (fun K hK => ?_)
                (go_simp; go_at_call 45; have hx_ := met_Clone Am cm x.met _ (sep_pool_at (sep_l3 HS.out) HPM.out) (by have := HX.out.2; omega); (with_reducible refine Calls.mono hx_ ?_); rintro e w1 ⟨v_, rfl, hm_⟩; have n_ := sep_made_of HS.out (sep_only hm_); clear hm_ hx_; have n0_ := Aside0.mk n_; clear HS n_; have HS := n0_; clear n0_; (try clear k5 d1 d2 f5); (first | (obtain ⟨k5, ⟨d1, d2⟩, f5⟩ := keepR HS.out HR1.out.2) | (obtain ⟨k5, ⟨d1, d2⟩, f5⟩ := keepR (sep_drop HS.out) HR1.out.2) | (obtain ⟨k5, ⟨d1, d2⟩, f5⟩ := keepR (sep_drop (sep_drop HS.out)) HR1.out.2)))
                clear hHeld; ((first | refine hK.out _ _ (⟨⟨d1, d2⟩, f5⟩) (fun hHeld => ?_) | (go_wp2_with fail; refine hK.out _ _ (⟨⟨d1, d2⟩, f5⟩) (fun hHeld => ?_))); clear hK K; (try simp only [Act.put, List.setIfInBounds_toArray, List.set_cons_zero, List.set_cons_succ]))
                refine h_raw 17 (by kernel_rfl) rfl (fun K hK => ?_)
                refine step_append_rows (w0 := w) (ok0 := ok) k28 (by rfl) (.tmp 64) (.tmp 66) 98 28 v28 8 rfl Try.underlying98 info28 rfl (by decide) (by decide) _ x.met [dst] (some ⟨g9, 0, none⟩) 1 1 (by rfl) (by rfl) HS.out (lit1 [.int .u32 dst.f0, .int .u16 dst.f1] (sep_l1 HS.out) rfl rfl (k28_mk _ _)) (fun x cs hk => by rw [k28_open hk]; exact k28_mkM _ _ _ _) (by have := HX.out.2; omega) (fun v9 w5 hs => ?_)
                rw [HM2.out] at hs
                clear HS k5 d1 d2 f5
                obtain ⟨A9, c9, rfl, hc9, -⟩ := sep_row hs
                have HC9 := Aside0.mk hc9
                have n_ := hs
                clear hs hc9
                have HS := Aside0.mk n_
                clear n_
                (try clear k5 d1 d2 f5); (first | (obtain ⟨k5, ⟨d1, d2⟩, f5⟩ := keepR HS.out HR1.out.2) | (obtain ⟨k5, ⟨d1, d2⟩, f5⟩ := keepR (sep_drop HS.out) HR1.out.2) | (obtain ⟨k5, ⟨d1, d2⟩, f5⟩ := keepR (sep_drop (sep_drop HS.out)) HR1.out.2))
                clear hHeld; ((first | refine hK.out _ _ (⟨⟨d1, d2⟩, f5⟩) (fun hHeld => ?_) | (go_wp2_with fail; refine hK.out _ _ (⟨⟨d1, d2⟩, f5⟩) (fun hHeld => ?_))); clear hK K; (try simp only [Act.put, List.setIfInBounds_toArray, List.set_cons_zero, List.set_cons_succ]))
                (refine h_take 18 (by assumption) rfl (by decide +kernel) (by decide +kernel) (by decide +kernel) (fun _ _ _ h => h) (by rfl) (by intro w hSw; (try dsimp only at hSw); go_simp; all_goals (with_reducible rfl)) ?_; simp only [Act.put, List.setIfInBounds_toArray, List.set_cons_zero, List.set_cons_succ])
                (refine h_take 19 (by assumption) rfl (by decide +kernel) (by decide +kernel) (by decide +kernel) (fun _ _ _ h => h) (by rfl) (by intro w hSw; (try dsimp only at hSw); go_simp; all_goals (with_reducible rfl)) ?_; simp only [Act.put, List.setIfInBounds_toArray, List.set_cons_zero, List.set_cons_succ])
                (refine h_one 20 (by kernel_rfl) rfl (by rfl) (fun K hK => ?_); go_simp; skip; clear hHeld; ((first | refine hK.out _ _ (keepS (sep_rbd_set (sep_l2 HS.out) j 5 _ ⟨x.ii, x.ip, x.ki, x.kp, x.po, A9, M2.length, c9, now + B.hold⟩ (.slice A9 M2.length c9) HR1.out.2 (by decide) rfl) (set_at HR1.out.2) _) (fun hHeld => ?_) | (go_wp2_with fail; refine hK.out _ _ (keepS (sep_rbd_set (sep_l2 HS.out) j 5 _ ⟨x.ii, x.ip, x.ki, x.kp, x.po, A9, M2.length, c9, now + B.hold⟩ (.slice A9 M2.length c9) HR1.out.2 (by decide) rfl) (set_at HR1.out.2) _) (fun hHeld => ?_))); clear hK K; (try simp only [Act.put, List.setIfInBounds_toArray, List.set_cons_zero, List.set_cons_succ])))
                refine wpAnyH_done (by kernel_rfl) ?_ _
                clear hHeld k5 d1 d2 f5
                have n_ := sep_rbd_set (sep_l2 HS.out) j 5 _ ⟨x.ii, x.ip, x.ki, x.kp, x.po, A9, M2.length, c9, now + B.hold⟩ (.slice A9 M2.length c9) HR1.out.2 (by decide) rfl
                replace n_ := sep_pool_app (sep_l1 (sep_l3 (sep_row_pool (sep_l1 (sep_drop (sep_l2 n_))))))
                have n0_ := Aside0.mk n_; clear HS n_; have HS := n0_; clear n0_
                go_wp2_with fail
                go_meet
                case rel =>
                  rw [HMS.out, HM2.out]
                  have e : R1.set j ⟨x.ii, x.ip, x.ki, x.kp, x.po, A9, M2.length, c9, now + B.hold⟩ = R.set j ⟨x.ii, x.ip, x.ki, x.kp, x.po, A9, M2.length, c9, now + B.hold⟩ := by rw [← HR1.out.1, List.set_set]
                  refine ⟨A9, c9, ⟨HC9.out⟩, ⟨?_⟩⟩
                  have q := HS.out
                  rw [e] at q
                  exact sep_l2 (sep_l2 (sep_pool_sub q (fun y hy => poolOf_set j y hy)))
            · (go_simp; have n_ := sep_alloc HS.out #[.int .u32 dst.f0, .int .u16 dst.f1] 28; have n0_ := Aside0.mk n_; clear HS n_; have HS := n0_; clear n0_; (try clear k5 d1 d2 f5); (first | (obtain ⟨k5, ⟨d1, d2⟩, f5⟩ := keepR HS.out HR1.out.2) | (obtain ⟨k5, ⟨d1, d2⟩, f5⟩ := keepR (sep_drop HS.out) HR1.out.2) | (obtain ⟨k5, ⟨d1, d2⟩, f5⟩ := keepR (sep_drop (sep_drop HS.out)) HR1.out.2)); clear hHeld; ((first | refine hK.out _ _ (⟨⟨d1, d2⟩, f5⟩) (fun hHeld => ?_) | (go_wp2_with fail; refine hK.out _ _ (⟨⟨d1, d2⟩, f5⟩) (fun hHeld => ?_))); clear hK K; (try simp only [Act.put, List.setIfInBounds_toArray, List.set_cons_zero, List.set_cons_succ])); generalize Array.size (World.heap _) = g9 at HS ⊢; clear k5 d1 d2 f5; generalize World.alloc _ _ = w2 at HS hHeld ⊢; (try clear k5 d1 d2 f5); (first | (obtain ⟨k5, ⟨d1, d2⟩, f5⟩ := keepR HS.out HR1.out.2) | (obtain ⟨k5, ⟨d1, d2⟩, f5⟩ := keepR (sep_drop HS.out) HR1.out.2) | (obtain ⟨k5, ⟨d1, d2⟩, f5⟩ := keepR (sep_drop (sep_drop HS.out)) HR1.out.2)))
              refine h_raw 8 (by kernel_rfl) rfl (fun K hK => ?_)
              go_simp
              clear hHeld; ((first | refine hK.out _ _ (⟨⟨d1, d2⟩, f5⟩) (fun hHeld => ?_) | (go_wp2_with fail; refine hK.out _ _ (⟨⟨d1, d2⟩, f5⟩) (fun hHeld => ?_))); clear hK K; (try simp only [Act.put, List.setIfInBounds_toArray, List.set_cons_zero, List.set_cons_succ]))
              (refine h_take 9 (by assumption) rfl (by decide +kernel) (by decide +kernel) (by decide +kernel) (fun _ _ _ h => h) (by rfl) (by intro w hSw; (try dsimp only at hSw); go_simp; all_goals (with_reducible rfl)) ?_; simp only [Act.put, List.setIfInBounds_toArray, List.set_cons_zero, List.set_cons_succ])
              (refine h_take 10 (by assumption) rfl (by decide +kernel) (by decide +kernel) (by decide +kernel) (fun _ _ _ h => h) (by rfl) (by intro w hSw; (try dsimp only at hSw); go_simp; all_goals (with_reducible rfl)) ?_; simp only [Act.put, List.setIfInBounds_toArray, List.set_cons_zero, List.set_cons_succ])
              (refine h_take 11 (by assumption) rfl (by decide +kernel) (by decide +kernel) (by decide +kernel) (fun _ _ _ h => h) (by rfl) (by intro w hSw; (try dsimp only at hSw); go_simp; all_goals (with_reducible rfl)) ?_; simp only [Act.put, List.setIfInBounds_toArray, List.set_cons_zero, List.set_cons_succ])
              (refine h_take 12 (by assumption) rfl (by decide +kernel) (by decide +kernel) (by decide +kernel) (fun _ _ _ h => h) (by rfl) (by intro w hSw; (try dsimp only at hSw); go_simp; all_goals (with_reducible rfl)) ?_; simp only [Act.put, List.setIfInBounds_toArray, List.set_cons_zero, List.set_cons_succ])
              (refine h_take 13 (by assumption) rfl (by decide +kernel) (by decide +kernel) (by decide +kernel) (fun _ _ _ h => h) (by rfl) (by intro w hSw; (try dsimp only at hSw); go_simp; all_goals (with_reducible rfl)) ?_; simp only [Act.put, List.setIfInBounds_toArray, List.set_cons_zero, List.set_cons_succ])
              refine h_raw 14 (by kernel_rfl) rfl (fun K hK => ?_)
              (go_simp; go_at_call 45; have hx_ := met_Clone Am cm x.met _ (sep_pool_at (sep_l3 HS.out) HPM.out) (by have := HX.out.2; omega); (with_reducible refine Calls.mono hx_ ?_); rintro e w1 ⟨v_, rfl, hm_⟩; have n_ := sep_made_of HS.out (sep_only hm_); clear hm_ hx_; have n0_ := Aside0.mk n_; clear HS n_; have HS := n0_; clear n0_; (try clear k5 d1 d2 f5); (first | (obtain ⟨k5, ⟨d1, d2⟩, f5⟩ := keepR HS.out HR1.out.2) | (obtain ⟨k5, ⟨d1, d2⟩, f5⟩ := keepR (sep_drop HS.out) HR1.out.2) | (obtain ⟨k5, ⟨d1, d2⟩, f5⟩ := keepR (sep_drop (sep_drop HS.out)) HR1.out.2)))
              clear hHeld; ((first | refine hK.out _ _ (⟨⟨d1, d2⟩, f5⟩) (fun hHeld => ?_) | (go_wp2_with fail; refine hK.out _ _ (⟨⟨d1, d2⟩, f5⟩) (fun hHeld => ?_))); clear hK K; (try simp only [Act.put, List.setIfInBounds_toArray, List.set_cons_zero, List.set_cons_succ]))
              refine h_raw 17 (by kernel_rfl) rfl (fun K hK => ?_)
              refine step_append_rows (w0 := w) (ok0 := ok) k28 (by rfl) (.tmp 64) (.tmp 66) 98 28 v28 8 rfl Try.underlying98 info28 rfl (by decide) (by decide) _ x.met [dst] (some ⟨g9, 0, none⟩) 1 1 (by rfl) (by rfl) HS.out (lit1 [.int .u32 dst.f0, .int .u16 dst.f1] (sep_l1 HS.out) rfl rfl (k28_mk _ _)) (fun x cs hk => by rw [k28_open hk]; exact k28_mkM _ _ _ _) (by have := HX.out.2; omega) (fun v9 w5 hs => ?_)
              rw [HM2.out] at hs
              clear HS k5 d1 d2 f5
              obtain ⟨A9, c9, rfl, hc9, -⟩ := sep_row hs
              have HC9 := Aside0.mk hc9
              have n_ := hs
              clear hs hc9
              have HS := Aside0.mk n_
              clear n_
              (try clear k5 d1 d2 f5); (first | (obtain ⟨k5, ⟨d1, d2⟩, f5⟩ := keepR HS.out HR1.out.2) | (obtain ⟨k5, ⟨d1, d2⟩, f5⟩ := keepR (sep_drop HS.out) HR1.out.2) | (obtain ⟨k5, ⟨d1, d2⟩, f5⟩ := keepR (sep_drop (sep_drop HS.out)) HR1.out.2))
              clear hHeld; ((first | refine hK.out _ _ (⟨⟨d1, d2⟩, f5⟩) (fun hHeld => ?_) | (go_wp2_with fail; refine hK.out _ _ (⟨⟨d1, d2⟩, f5⟩) (fun hHeld => ?_))); clear hK K; (try simp only [Act.put, List.setIfInBounds_toArray, List.set_cons_zero, List.set_cons_succ]))
              (refine h_take 18 (by assumption) rfl (by decide +kernel) (by decide +kernel) (by decide +kernel) (fun _ _ _ h => h) (by rfl) (by intro w hSw; (try dsimp only at hSw); go_simp; all_goals (with_reducible rfl)) ?_; simp only [Act.put, List.setIfInBounds_toArray, List.set_cons_zero, List.set_cons_succ])
              (refine h_take 19 (by assumption) rfl (by decide +kernel) (by decide +kernel) (by decide +kernel) (fun _ _ _ h => h) (by rfl) (by intro w hSw; (try dsimp only at hSw); go_simp; all_goals (with_reducible rfl)) ?_; simp only [Act.put, List.setIfInBounds_toArray, List.set_cons_zero, List.set_cons_succ])
              (refine h_one 20 (by kernel_rfl) rfl (by rfl) (fun K hK => ?_); go_simp; skip; clear hHeld; ((first | refine hK.out _ _ (keepS (sep_rbd_set (sep_l2 HS.out) j 5 _ ⟨x.ii, x.ip, x.ki, x.kp, x.po, A9, M2.length, c9, now + B.hold⟩ (.slice A9 M2.length c9) HR1.out.2 (by decide) rfl) (set_at HR1.out.2) _) (fun hHeld => ?_) | (go_wp2_with fail; refine hK.out _ _ (keepS (sep_rbd_set (sep_l2 HS.out) j 5 _ ⟨x.ii, x.ip, x.ki, x.kp, x.po, A9, M2.length, c9, now + B.hold⟩ (.slice A9 M2.length c9) HR1.out.2 (by decide) rfl) (set_at HR1.out.2) _) (fun hHeld => ?_))); clear hK K; (try simp only [Act.put, List.setIfInBounds_toArray, List.set_cons_zero, List.set_cons_succ])))
              refine wpAnyH_done (by kernel_rfl) ?_ _
              clear hHeld k5 d1 d2 f5
              have n_ := sep_rbd_set (sep_l2 HS.out) j 5 _ ⟨x.ii, x.ip, x.ki, x.kp, x.po, A9, M2.length, c9, now + B.hold⟩ (.slice A9 M2.length c9) HR1.out.2 (by decide) rfl
              replace n_ := sep_pool_app (sep_l1 (sep_l3 (sep_row_pool (sep_l1 (sep_drop (sep_l2 n_))))))
              have n0_ := Aside0.mk n_; clear HS n_; have HS := n0_; clear n0_
              go_wp2_with fail
              go_meet
              case rel =>
                rw [HMS.out, HM2.out]
                have e : R1.set j ⟨x.ii, x.ip, x.ki, x.kp, x.po, A9, M2.length, c9, now + B.hold⟩ = R.set j ⟨x.ii, x.ip, x.ki, x.kp, x.po, A9, M2.length, c9, now + B.hold⟩ := by rw [← HR1.out.1, List.set_set]
                refine ⟨A9, c9, ⟨HC9.out⟩, ⟨?_⟩⟩
                have q := HS.out
                rw [e] at q
                exact sep_l2 (sep_l2 (sep_pool_sub q (fun y hy => poolOf_set j y hy)))
          · go_simp
            clear hHeld; ((first | refine hK.out _ _ (⟨⟨d1, d2⟩, f5⟩) (fun hHeld => ?_) | (go_wp2_with fail; refine hK.out _ _ (⟨⟨d1, d2⟩, f5⟩) (fun hHeld => ?_))); clear hK K; (try simp only [Act.put, List.setIfInBounds_toArray, List.set_cons_zero, List.set_cons_succ]))
            (refine h_take 9 (by assumption) rfl (by decide +kernel) (by decide +kernel) (by decide +kernel) (fun _ _ _ h => h) (by rfl) (by intro w hSw; (try dsimp only at hSw); go_simp; all_goals (with_reducible rfl)) ?_; simp only [Act.put, List.setIfInBounds_toArray, List.set_cons_zero, List.set_cons_succ])
            (refine h_take 10 (by assumption) rfl (by decide +kernel) (by decide +kernel) (by decide +kernel) (fun _ _ _ h => h) (by rfl) (by intro w hSw; (try dsimp only at hSw); go_simp; all_goals (with_reducible rfl)) ?_; simp only [Act.put, List.setIfInBounds_toArray, List.set_cons_zero, List.set_cons_succ])
            (refine h_take 11 (by assumption) rfl (by decide +kernel) (by decide +kernel) (by decide +kernel) (fun _ _ _ h => h) (by rfl) (by intro w hSw; (try dsimp only at hSw); go_simp; all_goals (with_reducible rfl)) ?_; simp only [Act.put, List.setIfInBounds_toArray, List.set_cons_zero, List.set_cons_succ])
            (refine h_take 12 (by assumption) rfl (by decide +kernel) (by decide +kernel) (by decide +kernel) (fun _ _ _ h => h) (by rfl) (by intro w hSw; (try dsimp only at hSw); go_simp; all_goals (with_reducible rfl)) ?_; simp only [Act.put, List.setIfInBounds_toArray, List.set_cons_zero, List.set_cons_succ])
            refine h_two 4 16 (by kernel_rfl) rfl rfl (by rfl) (by rfl) (fun K hK => ?_) (fun K hK => ?_)
            · go_simp
              clear hHeld; ((first | refine hK.out _ _ (⟨⟨d1, d2⟩, f5⟩) (fun hHeld => ?_) | (go_wp2_with fail; refine hK.out _ _ (⟨⟨d1, d2⟩, f5⟩) (fun hHeld => ?_))); clear hK K; (try simp only [Act.put, List.setIfInBounds_toArray, List.set_cons_zero, List.set_cons_succ]))
              (refine h_take 13 (by assumption) rfl (by decide +kernel) (by decide +kernel) (by decide +kernel) (fun _ _ _ h => h) (by rfl) (by intro w hSw; (try dsimp only at hSw); go_simp; all_goals (with_reducible rfl)) ?_; simp only [Act.put, List.setIfInBounds_toArray, List.set_cons_zero, List.set_cons_succ])
              refine h_two 14 16 (by kernel_rfl) rfl rfl (by rfl) (by rfl) (fun K hK => ?_) (fun K hK => ?_)
              · (go_simp; go_at_call 45; have hx_ := met_Clone Am cm x.met _ (sep_pool_at (sep_l2 HS.out) HPM.out) (by have := HX.out.2; omega); (with_reducible refine Calls.mono hx_ ?_); rintro e w1 ⟨v_, rfl, hm_⟩; have n_ := sep_made_of HS.out (sep_only hm_); clear hm_ hx_; have n0_ := Aside0.mk n_; clear HS n_; have HS := n0_; clear n0_; (try clear k5 d1 d2 f5); (first | (obtain ⟨k5, ⟨d1, d2⟩, f5⟩ := keepR HS.out HR1.out.2) | (obtain ⟨k5, ⟨d1, d2⟩, f5⟩ := keepR (sep_drop HS.out) HR1.out.2) | (obtain ⟨k5, ⟨d1, d2⟩, f5⟩ := keepR (sep_drop (sep_drop HS.out)) HR1.out.2)))
                clear hHeld; ((first | refine hK.out _ _ (⟨⟨d1, d2⟩, f5⟩) (fun hHeld => ?_) | (go_wp2_with fail; refine hK.out _ _ (⟨⟨d1, d2⟩, f5⟩) (fun hHeld => ?_))); clear hK K; (try simp only [Act.put, List.setIfInBounds_toArray, List.set_cons_zero, List.set_cons_succ]))
                refine h_raw 16 (by kernel_rfl) rfl (fun K hK => ?_)
                (go_simp; have n_ := sep_alloc HS.out #[.int .u32 dst.f0, .int .u16 dst.f1] 28; have n0_ := Aside0.mk n_; clear HS n_; have HS := n0_; clear n0_; (try clear k5 d1 d2 f5); (first | (obtain ⟨k5, ⟨d1, d2⟩, f5⟩ := keepR HS.out HR1.out.2) | (obtain ⟨k5, ⟨d1, d2⟩, f5⟩ := keepR (sep_drop HS.out) HR1.out.2) | (obtain ⟨k5, ⟨d1, d2⟩, f5⟩ := keepR (sep_drop (sep_drop HS.out)) HR1.out.2)); clear hHeld; ((first | refine hK.out _ _ (⟨⟨d1, d2⟩, f5⟩) (fun hHeld => ?_) | (go_wp2_with fail; refine hK.out _ _ (⟨⟨d1, d2⟩, f5⟩) (fun hHeld => ?_))); clear hK K; (try simp only [Act.put, List.setIfInBounds_toArray, List.set_cons_zero, List.set_cons_succ])); generalize Array.size (World.heap _) = g9 at HS ⊢; clear k5 d1 d2 f5; generalize World.alloc _ _ = w2 at HS hHeld ⊢; (try clear k5 d1 d2 f5); (first | (obtain ⟨k5, ⟨d1, d2⟩, f5⟩ := keepR HS.out HR1.out.2) | (obtain ⟨k5, ⟨d1, d2⟩, f5⟩ := keepR (sep_drop HS.out) HR1.out.2) | (obtain ⟨k5, ⟨d1, d2⟩, f5⟩ := keepR (sep_drop (sep_drop HS.out)) HR1.out.2)))
                have n_ := sep_l1 HS.out
                have n0_ := Aside0.mk n_; clear HS n_; have HS := n0_; clear n0_
                refine h_raw 17 (by kernel_rfl) rfl (fun K hK => ?_)
                refine step_append_rows (w0 := w) (ok0 := ok) k28 (by rfl) (.tmp 64) (.tmp 66) 98 28 v28 8 rfl Try.underlying98 info28 rfl (by decide) (by decide) _ x.met [dst] (some ⟨g9, 0, none⟩) 1 1 (by rfl) (by rfl) HS.out (lit1 [.int .u32 dst.f0, .int .u16 dst.f1] (sep_l1 HS.out) rfl rfl (k28_mk _ _)) (fun x cs hk => by rw [k28_open hk]; exact k28_mkM _ _ _ _) (by have := HX.out.2; omega) (fun v9 w5 hs => ?_)
                rw [HM2.out] at hs
                clear HS k5 d1 d2 f5
                obtain ⟨A9, c9, rfl, hc9, -⟩ := sep_row hs
                have HC9 := Aside0.mk hc9
                have n_ := hs
                clear hs hc9
                have HS := Aside0.mk n_
                clear n_
                (try clear k5 d1 d2 f5); (first | (obtain ⟨k5, ⟨d1, d2⟩, f5⟩ := keepR HS.out HR1.out.2) | (obtain ⟨k5, ⟨d1, d2⟩, f5⟩ := keepR (sep_drop HS.out) HR1.out.2) | (obtain ⟨k5, ⟨d1, d2⟩, f5⟩ := keepR (sep_drop (sep_drop HS.out)) HR1.out.2))
                clear hHeld; ((first | refine hK.out _ _ (⟨⟨d1, d2⟩, f5⟩) (fun hHeld => ?_) | (go_wp2_with fail; refine hK.out _ _ (⟨⟨d1, d2⟩, f5⟩) (fun hHeld => ?_))); clear hK K; (try simp only [Act.put, List.setIfInBounds_toArray, List.set_cons_zero, List.set_cons_succ]))
                (refine h_take 18 (by assumption) rfl (by decide +kernel) (by decide +kernel) (by decide +kernel) (fun _ _ _ h => h) (by rfl) (by intro w hSw; (try dsimp only at hSw); go_simp; all_goals (with_reducible rfl)) ?_; simp only [Act.put, List.setIfInBounds_toArray, List.set_cons_zero, List.set_cons_succ])
                (refine h_take 19 (by assumption) rfl (by decide +kernel) (by decide +kernel) (by decide +kernel) (fun _ _ _ h => h) (by rfl) (by intro w hSw; (try dsimp only at hSw); go_simp; all_goals (with_reducible rfl)) ?_; simp only [Act.put, List.setIfInBounds_toArray, List.set_cons_zero, List.set_cons_succ])
                (refine h_one 20 (by kernel_rfl) rfl (by rfl) (fun K hK => ?_); go_simp; skip; clear hHeld; ((first | refine hK.out _ _ (keepS (sep_rbd_set (sep_l2 HS.out) j 5 _ ⟨x.ii, x.ip, x.ki, x.kp, x.po, A9, M2.length, c9, now + B.hold⟩ (.slice A9 M2.length c9) HR1.out.2 (by decide) rfl) (set_at HR1.out.2) _) (fun hHeld => ?_) | (go_wp2_with fail; refine hK.out _ _ (keepS (sep_rbd_set (sep_l2 HS.out) j 5 _ ⟨x.ii, x.ip, x.ki, x.kp, x.po, A9, M2.length, c9, now + B.hold⟩ (.slice A9 M2.length c9) HR1.out.2 (by decide) rfl) (set_at HR1.out.2) _) (fun hHeld => ?_))); clear hK K; (try simp only [Act.put, List.setIfInBounds_toArray, List.set_cons_zero, List.set_cons_succ])))
                refine wpAnyH_done (by kernel_rfl) ?_ _
                clear hHeld k5 d1 d2 f5
                have n_ := sep_rbd_set (sep_l2 HS.out) j 5 _ ⟨x.ii, x.ip, x.ki, x.kp, x.po, A9, M2.length, c9, now + B.hold⟩ (.slice A9 M2.length c9) HR1.out.2 (by decide) rfl
                replace n_ := sep_pool_app (sep_l1 (sep_l3 (sep_row_pool (sep_l1 (sep_drop (sep_l2 n_))))))
                have n0_ := Aside0.mk n_; clear HS n_; have HS := n0_; clear n0_
                go_wp2_with fail
                go_meet
                case rel =>
                  rw [HMS.out, HM2.out]
                  have e : R1.set j ⟨x.ii, x.ip, x.ki, x.kp, x.po, A9, M2.length, c9, now + B.hold⟩ = R.set j ⟨x.ii, x.ip, x.ki, x.kp, x.po, A9, M2.length, c9, now + B.hold⟩ := by rw [← HR1.out.1, List.set_set]
                  refine ⟨A9, c9, ⟨HC9.out⟩, ⟨?_⟩⟩
                  have q := HS.out
                  rw [e] at q
                  exact sep_l2 (sep_l2 (sep_pool_sub q (fun y hy => poolOf_set j y hy)))
              · (go_simp; have n_ := sep_alloc HS.out #[.int .u32 dst.f0, .int .u16 dst.f1] 28; have n0_ := Aside0.mk n_; clear HS n_; have HS := n0_; clear n0_; (try clear k5 d1 d2 f5); (first | (obtain ⟨k5, ⟨d1, d2⟩, f5⟩ := keepR HS.out HR1.out.2) | (obtain ⟨k5, ⟨d1, d2⟩, f5⟩ := keepR (sep_drop HS.out) HR1.out.2) | (obtain ⟨k5, ⟨d1, d2⟩, f5⟩ := keepR (sep_drop (sep_drop HS.out)) HR1.out.2)); clear hHeld; ((first | refine hK.out _ _ (⟨⟨d1, d2⟩, f5⟩) (fun hHeld => ?_) | (go_wp2_with fail; refine hK.out _ _ (⟨⟨d1, d2⟩, f5⟩) (fun hHeld => ?_))); clear hK K; (try simp only [Act.put, List.setIfInBounds_toArray, List.set_cons_zero, List.set_cons_succ])); generalize Array.size (World.heap _) = g9 at HS ⊢; clear k5 d1 d2 f5; generalize World.alloc _ _ = w2 at HS hHeld ⊢; (try clear k5 d1 d2 f5); (first | (obtain ⟨k5, ⟨d1, d2⟩, f5⟩ := keepR HS.out HR1.out.2) | (obtain ⟨k5, ⟨d1, d2⟩, f5⟩ := keepR (sep_drop HS.out) HR1.out.2) | (obtain ⟨k5, ⟨d1, d2⟩, f5⟩ := keepR (sep_drop (sep_drop HS.out)) HR1.out.2)))
                refine h_raw 14 (by kernel_rfl) rfl (fun K hK => ?_)
                (go_simp; go_at_call 45; have hx_ := met_Clone Am cm x.met _ (sep_pool_at (sep_l3 HS.out) HPM.out) (by have := HX.out.2; omega); (with_reducible refine Calls.mono hx_ ?_); rintro e w1 ⟨v_, rfl, hm_⟩; have n_ := sep_made_of HS.out (sep_only hm_); clear hm_ hx_; have n0_ := Aside0.mk n_; clear HS n_; have HS := n0_; clear n0_; (try clear k5 d1 d2 f5); (first | (obtain ⟨k5, ⟨d1, d2⟩, f5⟩ := keepR HS.out HR1.out.2) | (obtain ⟨k5, ⟨d1, d2⟩, f5⟩ := keepR (sep_drop HS.out) HR1.out.2) | (obtain ⟨k5, ⟨d1, d2⟩, f5⟩ := keepR (sep_drop (sep_drop HS.out)) HR1.out.2)))
                clear hHeld; ((first | refine hK.out _ _ (⟨⟨d1, d2⟩, f5⟩) (fun hHeld => ?_) | (go_wp2_with fail; refine hK.out _ _ (⟨⟨d1, d2⟩, f5⟩) (fun hHeld => ?_))); clear hK K; (try simp only [Act.put, List.setIfInBounds_toArray, List.set_cons_zero, List.set_cons_succ]))
                refine h_raw 17 (by kernel_rfl) rfl (fun K hK => ?_)
                refine step_append_rows (w0 := w) (ok0 := ok) k28 (by rfl) (.tmp 64) (.tmp 66) 98 28 v28 8 rfl Try.underlying98 info28 rfl (by decide) (by decide) _ x.met [dst] (some ⟨g9, 0, none⟩) 1 1 (by rfl) (by rfl) HS.out (lit1 [.int .u32 dst.f0, .int .u16 dst.f1] (sep_l1 HS.out) rfl rfl (k28_mk _ _)) (fun x cs hk => by rw [k28_open hk]; exact k28_mkM _ _ _ _) (by have := HX.out.2; omega) (fun v9 w5 hs => ?_)
                rw [HM2.out] at hs
                clear HS k5 d1 d2 f5
                obtain ⟨A9, c9, rfl, hc9, -⟩ := sep_row hs
                have HC9 := Aside0.mk hc9
                have n_ := hs
                clear hs hc9
                have HS := Aside0.mk n_
                clear n_
                (try clear k5 d1 d2 f5); (first | (obtain ⟨k5, ⟨d1, d2⟩, f5⟩ := keepR HS.out HR1.out.2) | (obtain ⟨k5, ⟨d1, d2⟩, f5⟩ := keepR (sep_drop HS.out) HR1.out.2) | (obtain ⟨k5, ⟨d1, d2⟩, f5⟩ := keepR (sep_drop (sep_drop HS.out)) HR1.out.2))
                clear hHeld; ((first | refine hK.out _ _ (⟨⟨d1, d2⟩, f5⟩) (fun hHeld => ?_) | (go_wp2_with fail; refine hK.out _ _ (⟨⟨d1, d2⟩, f5⟩) (fun hHeld => ?_))); clear hK K; (try simp only [Act.put, List.setIfInBounds_toArray, List.set_cons_zero, List.set_cons_succ]))
                (refine h_take 18 (by assumption) rfl (by decide +kernel) (by decide +kernel) (by decide +kernel) (fun _ _ _ h => h) (by rfl) (by intro w hSw; (try dsimp only at hSw); go_simp; all_goals (with_reducible rfl)) ?_; simp only [Act.put, List.setIfInBounds_toArray, List.set_cons_zero, List.set_cons_succ])
                (refine h_take 19 (by assumption) rfl (by decide +kernel) (by decide +kernel) (by decide +kernel) (fun _ _ _ h => h) (by rfl) (by intro w hSw; (try dsimp only at hSw); go_simp; all_goals (with_reducible rfl)) ?_; simp only [Act.put, List.setIfInBounds_toArray, List.set_cons_zero, List.set_cons_succ])
                (refine h_one 20 (by kernel_rfl) rfl (by rfl) (fun K hK => ?_); go_simp; skip; clear hHeld; ((first | refine hK.out _ _ (keepS (sep_rbd_set (sep_l2 HS.out) j 5 _ ⟨x.ii, x.ip, x.ki, x.kp, x.po, A9, M2.length, c9, now + B.hold⟩ (.slice A9 M2.length c9) HR1.out.2 (by decide) rfl) (set_at HR1.out.2) _) (fun hHeld => ?_) | (go_wp2_with fail; refine hK.out _ _ (keepS (sep_rbd_set (sep_l2 HS.out) j 5 _ ⟨x.ii, x.ip, x.ki, x.kp, x.po, A9, M2.length, c9, now + B.hold⟩ (.slice A9 M2.length c9) HR1.out.2 (by decide) rfl) (set_at HR1.out.2) _) (fun hHeld => ?_))); clear hK K; (try simp only [Act.put, List.setIfInBounds_toArray, List.set_cons_zero, List.set_cons_succ])))
                refine wpAnyH_done (by kernel_rfl) ?_ _
                clear hHeld k5 d1 d2 f5
                have n_ := sep_rbd_set (sep_l2 HS.out) j 5 _ ⟨x.ii, x.ip, x.ki, x.kp, x.po, A9, M2.length, c9, now + B.hold⟩ (.slice A9 M2.length c9) HR1.out.2 (by decide) rfl
                replace n_ := sep_pool_app (sep_l1 (sep_l3 (sep_row_pool (sep_l1 (sep_drop (sep_l2 n_))))))
                have n0_ := Aside0.mk n_; clear HS n_; have HS := n0_; clear n0_
                go_wp2_with fail
                go_meet
                case rel =>
                  rw [HMS.out, HM2.out]
                  have e : R1.set j ⟨x.ii, x.ip, x.ki, x.kp, x.po, A9, M2.length, c9, now + B.hold⟩ = R.set j ⟨x.ii, x.ip, x.ki, x.kp, x.po, A9, M2.length, c9, now + B.hold⟩ := by rw [← HR1.out.1, List.set_set]
                  refine ⟨A9, c9, ⟨HC9.out⟩, ⟨?_⟩⟩
                  have q := HS.out
                  rw [e] at q
                  exact sep_l2 (sep_l2 (sep_pool_sub q (fun y hy => poolOf_set j y hy)))
            · (go_simp; have n_ := sep_alloc HS.out #[.int .u32 dst.f0, .int .u16 dst.f1] 28; have n0_ := Aside0.mk n_; clear HS n_; have HS := n0_; clear n0_; (try clear k5 d1 d2 f5); (first | (obtain ⟨k5, ⟨d1, d2⟩, f5⟩ := keepR HS.out HR1.out.2) | (obtain ⟨k5, ⟨d1, d2⟩, f5⟩ := keepR (sep_drop HS.out) HR1.out.2) | (obtain ⟨k5, ⟨d1, d2⟩, f5⟩ := keepR (sep_drop (sep_drop HS.out)) HR1.out.2)); clear hHeld; ((first | refine hK.out _ _ (⟨⟨d1, d2⟩, f5⟩) (fun hHeld => ?_) | (go_wp2_with fail; refine hK.out _ _ (⟨⟨d1, d2⟩, f5⟩) (fun hHeld => ?_))); clear hK K; (try simp only [Act.put, List.setIfInBounds_toArray, List.set_cons_zero, List.set_cons_succ])); generalize Array.size (World.heap _) = g9 at HS ⊢; clear k5 d1 d2 f5; generalize World.alloc _ _ = w2 at HS hHeld ⊢; (try clear k5 d1 d2 f5); (first | (obtain ⟨k5, ⟨d1, d2⟩, f5⟩ := keepR HS.out HR1.out.2) | (obtain ⟨k5, ⟨d1, d2⟩, f5⟩ := keepR (sep_drop HS.out) HR1.out.2) | (obtain ⟨k5, ⟨d1, d2⟩, f5⟩ := keepR (sep_drop (sep_drop HS.out)) HR1.out.2)))
              refine h_raw 4 (by kernel_rfl) rfl (fun K hK => ?_)
              go_simp
              clear hHeld; ((first | refine hK.out _ _ (⟨⟨d1, d2⟩, f5⟩) (fun hHeld => ?_) | (go_wp2_with fail; refine hK.out _ _ (⟨⟨d1, d2⟩, f5⟩) (fun hHeld => ?_))); clear hK K; (try simp only [Act.put, List.setIfInBounds_toArray, List.set_cons_zero, List.set_cons_succ]))
              (refine h_take 13 (by assumption) rfl (by decide +kernel) (by decide +kernel) (by decide +kernel) (fun _ _ _ h => h) (by rfl) (by intro w hSw; (try dsimp only at hSw); go_simp; all_goals (with_reducible rfl)) ?_; simp only [Act.put, List.setIfInBounds_toArray, List.set_cons_zero, List.set_cons_succ])
              refine h_raw 14 (by kernel_rfl) rfl (fun K hK => ?_)
              (go_simp; go_at_call 45; have hx_ := met_Clone Am cm x.met _ (sep_pool_at (sep_l3 HS.out) HPM.out) (by have := HX.out.2; omega); (with_reducible refine Calls.mono hx_ ?_); rintro e w1 ⟨v_, rfl, hm_⟩; have n_ := sep_made_of HS.out (sep_only hm_); clear hm_ hx_; have n0_ := Aside0.mk n_; clear HS n_; have HS := n0_; clear n0_; (try clear k5 d1 d2 f5); (first | (obtain ⟨k5, ⟨d1, d2⟩, f5⟩ := keepR HS.out HR1.out.2) | (obtain ⟨k5, ⟨d1, d2⟩, f5⟩ := keepR (sep_drop HS.out) HR1.out.2) | (obtain ⟨k5, ⟨d1, d2⟩, f5⟩ := keepR (sep_drop (sep_drop HS.out)) HR1.out.2)))
              clear hHeld; ((first | refine hK.out _ _ (⟨⟨d1, d2⟩, f5⟩) (fun hHeld => ?_) | (go_wp2_with fail; refine hK.out _ _ (⟨⟨d1, d2⟩, f5⟩) (fun hHeld => ?_))); clear hK K; (try simp only [Act.put, List.setIfInBounds_toArray, List.set_cons_zero, List.set_cons_succ]))
              refine h_raw 17 (by kernel_rfl) rfl (fun K hK => ?_)
              refine step_append_rows (w0 := w) (ok0 := ok) k28 (by rfl) (.tmp 64) (.tmp 66) 98 28 v28 8 rfl Try.underlying98 info28 rfl (by decide) (by decide) _ x.met [dst] (some ⟨g9, 0, none⟩) 1 1 (by rfl) (by rfl) HS.out (lit1 [.int .u32 dst.f0, .int .u16 dst.f1] (sep_l1 HS.out) rfl rfl (k28_mk _ _)) (fun x cs hk => by rw [k28_open hk]; exact k28_mkM _ _ _ _) (by have := HX.out.2; omega) (fun v9 w5 hs => ?_)
              rw [HM2.out] at hs
              clear HS k5 d1 d2 f5
              obtain ⟨A9, c9, rfl, hc9, -⟩ := sep_row hs
              have HC9 := Aside0.mk hc9
              have n_ := hs
              clear hs hc9
              have HS := Aside0.mk n_
              clear n_
              (try clear k5 d1 d2 f5); (first | (obtain ⟨k5, ⟨d1, d2⟩, f5⟩ := keepR HS.out HR1.out.2) | (obtain ⟨k5, ⟨d1, d2⟩, f5⟩ := keepR (sep_drop HS.out) HR1.out.2) | (obtain ⟨k5, ⟨d1, d2⟩, f5⟩ := keepR (sep_drop (sep_drop HS.out)) HR1.out.2))
              clear hHeld; ((first | refine hK.out _ _ (⟨⟨d1, d2⟩, f5⟩) (fun hHeld => ?_) | (go_wp2_with fail; refine hK.out _ _ (⟨⟨d1, d2⟩, f5⟩) (fun hHeld => ?_))); clear hK K; (try simp only [Act.put, List.setIfInBounds_toArray, List.set_cons_zero, List.set_cons_succ]))
              (refine h_take 18 (by assumption) rfl (by decide +kernel) (by decide +kernel) (by decide +kernel) (fun _ _ _ h => h) (by rfl) (by intro w hSw; (try dsimp only at hSw); go_simp; all_goals (with_reducible rfl)) ?_; simp only [Act.put, List.setIfInBounds_toArray, List.set_cons_zero, List.set_cons_succ])
              (refine h_take 19 (by assumption) rfl (by decide +kernel) (by decide +kernel) (by decide +kernel) (fun _ _ _ h => h) (by rfl) (by intro w hSw; (try dsimp only at hSw); go_simp; all_goals (with_reducible rfl)) ?_; simp only [Act.put, List.setIfInBounds_toArray, List.set_cons_zero, List.set_cons_succ])
              (refine h_one 20 (by kernel_rfl) rfl (by rfl) (fun K hK => ?_); go_simp; skip; clear hHeld; ((first | refine hK.out _ _ (keepS (sep_rbd_set (sep_l2 HS.out) j 5 _ ⟨x.ii, x.ip, x.ki, x.kp, x.po, A9, M2.length, c9, now + B.hold⟩ (.slice A9 M2.length c9) HR1.out.2 (by decide) rfl) (set_at HR1.out.2) _) (fun hHeld => ?_) | (go_wp2_with fail; refine hK.out _ _ (keepS (sep_rbd_set (sep_l2 HS.out) j 5 _ ⟨x.ii, x.ip, x.ki, x.kp, x.po, A9, M2.length, c9, now + B.hold⟩ (.slice A9 M2.length c9) HR1.out.2 (by decide) rfl) (set_at HR1.out.2) _) (fun hHeld => ?_))); clear hK K; (try simp only [Act.put, List.setIfInBounds_toArray, List.set_cons_zero, List.set_cons_succ])))
              refine wpAnyH_done (by kernel_rfl) ?_ _
              clear hHeld k5 d1 d2 f5
              have n_ := sep_rbd_set (sep_l2 HS.out) j 5 _ ⟨x.ii, x.ip, x.ki, x.kp, x.po, A9, M2.length, c9, now + B.hold⟩ (.slice A9 M2.length c9) HR1.out.2 (by decide) rfl
              replace n_ := sep_pool_app (sep_l1 (sep_l3 (sep_row_pool (sep_l1 (sep_drop (sep_l2 n_))))))
              have n0_ := Aside0.mk n_; clear HS n_; have HS := n0_; clear n0_
              go_wp2_with fail
              go_meet
              case rel =>
                rw [HMS.out, HM2.out]
                have e : R1.set j ⟨x.ii, x.ip, x.ki, x.kp, x.po, A9, M2.length, c9, now + B.hold⟩ = R.set j ⟨x.ii, x.ip, x.ki, x.kp, x.po, A9, M2.length, c9, now + B.hold⟩ := by rw [← HR1.out.1, List.set_set]
                refine ⟨A9, c9, ⟨HC9.out⟩, ⟨?_⟩⟩
                have q := HS.out
                rw [e] at q
                exact sep_l2 (sep_l2 (sep_pool_sub q (fun y hy => poolOf_set j y hy)))
          · (go_simp; have n_ := sep_alloc HS.out #[.int .u32 dst.f0, .int .u16 dst.f1] 28; have n0_ := Aside0.mk n_; clear HS n_; have HS := n0_; clear n0_; (try clear k5 d1 d2 f5); (first | (obtain ⟨k5, ⟨d1, d2⟩, f5⟩ := keepR HS.out HR1.out.2) | (obtain ⟨k5, ⟨d1, d2⟩, f5⟩ := keepR (sep_drop HS.out) HR1.out.2) | (obtain ⟨k5, ⟨d1, d2⟩, f5⟩ := keepR (sep_drop (sep_drop HS.out)) HR1.out.2)); clear hHeld; ((first | refine hK.out _ _ (⟨⟨d1, d2⟩, f5⟩) (fun hHeld => ?_) | (go_wp2_with fail; refine hK.out _ _ (⟨⟨d1, d2⟩, f5⟩) (fun hHeld => ?_))); clear hK K; (try simp only [Act.put, List.setIfInBounds_toArray, List.set_cons_zero, List.set_cons_succ])); generalize Array.size (World.heap _) = g9 at HS ⊢; clear k5 d1 d2 f5; generalize World.alloc _ _ = w2 at HS hHeld ⊢; (try clear k5 d1 d2 f5); (first | (obtain ⟨k5, ⟨d1, d2⟩, f5⟩ := keepR HS.out HR1.out.2) | (obtain ⟨k5, ⟨d1, d2⟩, f5⟩ := keepR (sep_drop HS.out) HR1.out.2) | (obtain ⟨k5, ⟨d1, d2⟩, f5⟩ := keepR (sep_drop (sep_drop HS.out)) HR1.out.2)))
            refine h_two 4 8 (by kernel_rfl) rfl rfl (by rfl) (by rfl) (fun K hK => ?_) (fun K hK => ?_)
            · go_simp
              clear hHeld; ((first | refine hK.out _ _ (⟨⟨d1, d2⟩, f5⟩) (fun hHeld => ?_) | (go_wp2_with fail; refine hK.out _ _ (⟨⟨d1, d2⟩, f5⟩) (fun hHeld => ?_))); clear hK K; (try simp only [Act.put, List.setIfInBounds_toArray, List.set_cons_zero, List.set_cons_succ]))
              refine h_raw 8 (by kernel_rfl) rfl (fun K hK => ?_)
              go_simp
              clear hHeld; ((first | refine hK.out _ _ (⟨⟨d1, d2⟩, f5⟩) (fun hHeld => ?_) | (go_wp2_with fail; refine hK.out _ _ (⟨⟨d1, d2⟩, f5⟩) (fun hHeld => ?_))); clear hK K; (try simp only [Act.put, List.setIfInBounds_toArray, List.set_cons_zero, List.set_cons_succ]))
              (refine h_take 9 (by assumption) rfl (by decide +kernel) (by decide +kernel) (by decide +kernel) (fun _ _ _ h => h) (by rfl) (by intro w hSw; (try dsimp only at hSw); go_simp; all_goals (with_reducible rfl)) ?_; simp only [Act.put, List.setIfInBounds_toArray, List.set_cons_zero, List.set_cons_succ])
              (refine h_take 10 (by assumption) rfl (by decide +kernel) (by decide +kernel) (by decide +kernel) (fun _ _ _ h => h) (by rfl) (by intro w hSw; (try dsimp only at hSw); go_simp; all_goals (with_reducible rfl)) ?_; simp only [Act.put, List.setIfInBounds_toArray, List.set_cons_zero, List.set_cons_succ])
              (refine h_take 11 (by assumption) rfl (by decide +kernel) (by decide +kernel) (by decide +kernel) (fun _ _ _ h => h) (by rfl) (by intro w hSw; (try dsimp only at hSw); go_simp; all_goals (with_reducible rfl)) ?_; simp only [Act.put, List.setIfInBounds_toArray, List.set_cons_zero, List.set_cons_succ])
              (refine h_take 12 (by assumption) rfl (by decide +kernel) (by decide +kernel) (by decide +kernel) (fun _ _ _ h => h) (by rfl) (by intro w hSw; (try dsimp only at hSw); go_simp; all_goals (with_reducible rfl)) ?_; simp only [Act.put, List.setIfInBounds_toArray, List.set_cons_zero, List.set_cons_succ])
              (refine h_take 13 (by assumption) rfl (by decide +kernel) (by decide +kernel) (by decide +kernel) (fun _ _ _ h => h) (by rfl) (by intro w hSw; (try dsimp only at hSw); go_simp; all_goals (with_reducible rfl)) ?_; simp only [Act.put, List.setIfInBounds_toArray, List.set_cons_zero, List.set_cons_succ])
              refine h_raw 14 (by kernel_rfl) rfl (fun K hK => ?_)
              (go_simp; go_at_call 45; have hx_ := met_Clone Am cm x.met _ (sep_pool_at (sep_l3 HS.out) HPM.out) (by have := HX.out.2; omega); (with_reducible refine Calls.mono hx_ ?_); rintro e w1 ⟨v_, rfl, hm_⟩; have n_ := sep_made_of HS.out (sep_only hm_); clear hm_ hx_; have n0_ := Aside0.mk n_; clear HS n_; have HS := n0_; clear n0_; (try clear k5 d1 d2 f5); (first | (obtain ⟨k5, ⟨d1, d2⟩, f5⟩ := keepR HS.out HR1.out.2) | (obtain ⟨k5, ⟨d1, d2⟩, f5⟩ := keepR (sep_drop HS.out) HR1.out.2) | (obtain ⟨k5, ⟨d1, d2⟩, f5⟩ := keepR (sep_drop (sep_drop HS.out)) HR1.out.2)))
              clear hHeld; ((first | refine hK.out _ _ (⟨⟨d1, d2⟩, f5⟩) (fun hHeld => ?_) | (go_wp2_with fail; refine hK.out _ _ (⟨⟨d1, d2⟩, f5⟩) (fun hHeld => ?_))); clear hK K; (try simp only [Act.put, List.setIfInBounds_toArray, List.set_cons_zero, List.set_cons_succ]))
              refine h_raw 17 (by kernel_rfl) rfl (fun K hK => ?_)
              refine step_append_rows (w0 := w) (ok0 := ok) k28 (by rfl) (.tmp 64) (.tmp 66) 98 28 v28 8 rfl Try.underlying98 info28 rfl (by decide) (by decide) _ x.met [dst] (some ⟨g9, 0, none⟩) 1 1 (by rfl) (by rfl) HS.out (lit1 [.int .u32 dst.f0, .int .u16 dst.f1] (sep_l1 HS.out) rfl rfl (k28_mk _ _)) (fun x cs hk => by rw [k28_open hk]; exact k28_mkM _ _ _ _) (by have := HX.out.2; omega) (fun v9 w5 hs => ?_)
              rw [HM2.out] at hs
              clear HS k5 d1 d2 f5
              obtain ⟨A9, c9, rfl, hc9, -⟩ := sep_row hs
              have HC9 := Aside0.mk hc9
              have n_ := hs
              clear hs hc9
              have HS := Aside0.mk n_
              clear n_
              (try clear k5 d1 d2 f5); (first | (obtain ⟨k5, ⟨d1, d2⟩, f5⟩ := keepR HS.out HR1.out.2) | (obtain ⟨k5, ⟨d1, d2⟩, f5⟩ := keepR (sep_drop HS.out) HR1.out.2) | (obtain ⟨k5, ⟨d1, d2⟩, f5⟩ := keepR (sep_drop (sep_drop HS.out)) HR1.out.2))
              clear hHeld; ((first | refine hK.out _ _ (⟨⟨d1, d2⟩, f5⟩) (fun hHeld => ?_) | (go_wp2_with fail; refine hK.out _ _ (⟨⟨d1, d2⟩, f5⟩) (fun hHeld => ?_))); clear hK K; (try simp only [Act.put, List.setIfInBounds_toArray, List.set_cons_zero, List.set_cons_succ]))
              (refine h_take 18 (by assumption) rfl (by decide +kernel) (by decide +kernel) (by decide +kernel) (fun _ _ _ h => h) (by rfl) (by intro w hSw; (try dsimp only at hSw); go_simp; all_goals (with_reducible rfl)) ?_; simp only [Act.put, List.setIfInBounds_toArray, List.set_cons_zero, List.set_cons_succ])
              (refine h_take 19 (by assumption) rfl (by decide +kernel) (by decide +kernel) (by decide +kernel) (fun _ _ _ h => h) (by rfl) (by intro w hSw; (try dsimp only at hSw); go_simp; all_goals (with_reducible rfl)) ?_; simp only [Act.put, List.setIfInBounds_toArray, List.set_cons_zero, List.set_cons_succ])
              (refine h_one 20 (by kernel_rfl) rfl (by rfl) (fun K hK => ?_); go_simp; skip; clear hHeld; ((first | refine hK.out _ _ (keepS (sep_rbd_set (sep_l2 HS.out) j 5 _ ⟨x.ii, x.ip, x.ki, x.kp, x.po, A9, M2.length, c9, now + B.hold⟩ (.slice A9 M2.length c9) HR1.out.2 (by decide) rfl) (set_at HR1.out.2) _) (fun hHeld => ?_) | (go_wp2_with fail; refine hK.out _ _ (keepS (sep_rbd_set (sep_l2 HS.out) j 5 _ ⟨x.ii, x.ip, x.ki, x.kp, x.po, A9, M2.length, c9, now + B.hold⟩ (.slice A9 M2.length c9) HR1.out.2 (by decide) rfl) (set_at HR1.out.2) _) (fun hHeld => ?_))); clear hK K; (try simp only [Act.put, List.setIfInBounds_toArray, List.set_cons_zero, List.set_cons_succ])))
              refine wpAnyH_done (by kernel_rfl) ?_ _
              clear hHeld k5 d1 d2 f5
              have n_ := sep_rbd_set (sep_l2 HS.out) j 5 _ ⟨x.ii, x.ip, x.ki, x.kp, x.po, A9, M2.length, c9, now + B.hold⟩ (.slice A9 M2.length c9) HR1.out.2 (by decide) rfl
              replace n_ := sep_pool_app (sep_l1 (sep_l3 (sep_row_pool (sep_l1 (sep_drop (sep_l2 n_))))))
              have n0_ := Aside0.mk n_; clear HS n_; have HS := n0_; clear n0_
              go_wp2_with fail
              go_meet
              case rel =>
                rw [HMS.out, HM2.out]
                have e : R1.set j ⟨x.ii, x.ip, x.ki, x.kp, x.po, A9, M2.length, c9, now + B.hold⟩ = R.set j ⟨x.ii, x.ip, x.ki, x.kp, x.po, A9, M2.length, c9, now + B.hold⟩ := by rw [← HR1.out.1, List.set_set]
                refine ⟨A9, c9, ⟨HC9.out⟩, ⟨?_⟩⟩
                have q := HS.out
                rw [e] at q
                exact sep_l2 (sep_l2 (sep_pool_sub q (fun y hy => poolOf_set j y hy)))
            · go_simp
              clear hHeld; ((first | refine hK.out _ _ (⟨⟨d1, d2⟩, f5⟩) (fun hHeld => ?_) | (go_wp2_with fail; refine hK.out _ _ (⟨⟨d1, d2⟩, f5⟩) (fun hHeld => ?_))); clear hK K; (try simp only [Act.put, List.setIfInBounds_toArray, List.set_cons_zero, List.set_cons_succ]))
              (refine h_take 9 (by assumption) rfl (by decide +kernel) (by decide +kernel) (by decide +kernel) (fun _ _ _ h => h) (by rfl) (by intro w hSw; (try dsimp only at hSw); go_simp; all_goals (with_reducible rfl)) ?_; simp only [Act.put, List.setIfInBounds_toArray, List.set_cons_zero, List.set_cons_succ])
              (refine h_take 10 (by assumption) rfl (by decide +kernel) (by decide +kernel) (by decide +kernel) (fun _ _ _ h => h) (by rfl) (by intro w hSw; (try dsimp only at hSw); go_simp; all_goals (with_reducible rfl)) ?_; simp only [Act.put, List.setIfInBounds_toArray, List.set_cons_zero, List.set_cons_succ])
              (refine h_take 11 (by assumption) rfl (by decide +kernel) (by decide +kernel) (by decide +kernel) (fun _ _ _ h => h) (by rfl) (by intro w hSw; (try dsimp only at hSw); go_simp; all_goals (with_reducible rfl)) ?_; simp only [Act.put, List.setIfInBounds_toArray, List.set_cons_zero, List.set_cons_succ])
              (refine h_take 12 (by assumption) rfl (by decide +kernel) (by decide +kernel) (by decide +kernel) (fun _ _ _ h => h) (by rfl) (by intro w hSw; (try dsimp only at hSw); go_simp; all_goals (with_reducible rfl)) ?_; simp only [Act.put, List.setIfInBounds_toArray, List.set_cons_zero, List.set_cons_succ])
              refine h_raw 4 (by kernel_rfl) rfl (fun K hK => ?_)
              go_simp
              clear hHeld; ((first | refine hK.out _ _ (⟨⟨d1, d2⟩, f5⟩) (fun hHeld => ?_) | (go_wp2_with fail; refine hK.out _ _ (⟨⟨d1, d2⟩, f5⟩) (fun hHeld => ?_))); clear hK K; (try simp only [Act.put, List.setIfInBounds_toArray, List.set_cons_zero, List.set_cons_succ]))
              (refine h_take 13 (by assumption) rfl (by decide +kernel) (by decide +kernel) (by decide +kernel) (fun _ _ _ h => h) (by rfl) (by intro w hSw; (try dsimp only at hSw); go_simp; all_goals (with_reducible rfl)) ?_; simp only [Act.put, List.setIfInBounds_toArray, List.set_cons_zero, List.set_cons_succ])
              refine h_raw 14 (by kernel_rfl) rfl (fun K hK => ?_)
              (go_simp; go_at_call 45; have hx_ := met_Clone Am cm x.met _ (sep_pool_at (sep_l3 HS.out) HPM.out) (by have := HX.out.2; omega); (with_reducible refine Calls.mono hx_ ?_); rintro e w1 ⟨v_, rfl, hm_⟩; have n_ := sep_made_of HS.out (sep_only hm_); clear hm_ hx_; have n0_ := Aside0.mk n_; clear HS n_; have HS := n0_; clear n0_; (try clear k5 d1 d2 f5); (first | (obtain ⟨k5, ⟨d1, d2⟩, f5⟩ := keepR HS.out HR1.out.2) | (obtain ⟨k5, ⟨d1, d2⟩, f5⟩ := keepR (sep_drop HS.out) HR1.out.2) | (obtain ⟨k5, ⟨d1, d2⟩, f5⟩ := keepR (sep_drop (sep_drop HS.out)) HR1.out.2)))
              clear hHeld; ((first | refine hK.out _ _ (⟨⟨d1, d2⟩, f5⟩) (fun hHeld => ?_) | (go_wp2_with fail; refine hK.out _ _ (⟨⟨d1, d2⟩, f5⟩) (fun hHeld => ?_))); clear hK K; (try simp only [Act.put, List.setIfInBounds_toArray, List.set_cons_zero, List.set_cons_succ]))
              refine h_raw 17 (by kernel_rfl) rfl (fun K hK => ?_)
              refine step_append_rows (w0 := w) (ok0 := ok) k28 (by rfl) (.tmp 64) (.tmp 66) 98 28 v28 8 rfl Try.underlying98 info28 rfl (by decide) (by decide) _ x.met [dst] (some ⟨g9, 0, none⟩) 1 1 (by rfl) (by rfl) HS.out (lit1 [.int .u32 dst.f0, .int .u16 dst.f1] (sep_l1 HS.out) rfl rfl (k28_mk _ _)) (fun x cs hk => by rw [k28_open hk]; exact k28_mkM _ _ _ _) (by have := HX.out.2; omega) (fun v9 w5 hs => ?_)
              rw [HM2.out] at hs
              clear HS k5 d1 d2 f5
              obtain ⟨A9, c9, rfl, hc9, -⟩ := sep_row hs
              have HC9 := Aside0.mk hc9
              have n_ := hs
              clear hs hc9
              have HS := Aside0.mk n_
              clear n_
              (try clear k5 d1 d2 f5); (first | (obtain ⟨k5, ⟨d1, d2⟩, f5⟩ := keepR HS.out HR1.out.2) | (obtain ⟨k5, ⟨d1, d2⟩, f5⟩ := keepR (sep_drop HS.out) HR1.out.2) | (obtain ⟨k5, ⟨d1, d2⟩, f5⟩ := keepR (sep_drop (sep_drop HS.out)) HR1.out.2))
              clear hHeld; ((first | refine hK.out _ _ (⟨⟨d1, d2⟩, f5⟩) (fun hHeld => ?_) | (go_wp2_with fail; refine hK.out _ _ (⟨⟨d1, d2⟩, f5⟩) (fun hHeld => ?_))); clear hK K; (try simp only [Act.put, List.setIfInBounds_toArray, List.set_cons_zero, List.set_cons_succ]))
              (refine h_take 18 (by assumption) rfl (by decide +kernel) (by decide +kernel) (by decide +kernel) (fun _ _ _ h => h) (by rfl) (by intro w hSw; (try dsimp only at hSw); go_simp; all_goals (with_reducible rfl)) ?_; simp only [Act.put, List.setIfInBounds_toArray, List.set_cons_zero, List.set_cons_succ])
              (refine h_take 19 (by assumption) rfl (by decide +kernel) (by decide +kernel) (by decide +kernel) (fun _ _ _ h => h) (by rfl) (by intro w hSw; (try dsimp only at hSw); go_simp; all_goals (with_reducible rfl)) ?_; simp only [Act.put, List.setIfInBounds_toArray, List.set_cons_zero, List.set_cons_succ])
              (refine h_one 20 (by kernel_rfl) rfl (by rfl) (fun K hK => ?_); go_simp; skip; clear hHeld; ((first | refine hK.out _ _ (keepS (sep_rbd_set (sep_l2 HS.out) j 5 _ ⟨x.ii, x.ip, x.ki, x.kp, x.po, A9, M2.length, c9, now + B.hold⟩ (.slice A9 M2.length c9) HR1.out.2 (by decide) rfl) (set_at HR1.out.2) _) (fun hHeld => ?_) | (go_wp2_with fail; refine hK.out _ _ (keepS (sep_rbd_set (sep_l2 HS.out) j 5 _ ⟨x.ii, x.ip, x.ki, x.kp, x.po, A9, M2.length, c9, now + B.hold⟩ (.slice A9 M2.length c9) HR1.out.2 (by decide) rfl) (set_at HR1.out.2) _) (fun hHeld => ?_))); clear hK K; (try simp only [Act.put, List.setIfInBounds_toArray, List.set_cons_zero, List.set_cons_succ])))
              refine wpAnyH_done (by kernel_rfl) ?_ _
              clear hHeld k5 d1 d2 f5
              have n_ := sep_rbd_set (sep_l2 HS.out) j 5 _ ⟨x.ii, x.ip, x.ki, x.kp, x.po, A9, M2.length, c9, now + B.hold⟩ (.slice A9 M2.length c9) HR1.out.2 (by decide) rfl
              replace n_ := sep_pool_app (sep_l1 (sep_l3 (sep_row_pool (sep_l1 (sep_drop (sep_l2 n_))))))
              have n0_ := Aside0.mk n_; clear HS n_; have HS := n0_; clear n0_
              go_wp2_with fail
              go_meet
              case rel =>
                rw [HMS.out, HM2.out]
                have e : R1.set j ⟨x.ii, x.ip, x.ki, x.kp, x.po, A9, M2.length, c9, now + B.hold⟩ = R.set j ⟨x.ii, x.ip, x.ki, x.kp, x.po, A9, M2.length, c9, now + B.hold⟩ := by rw [← HR1.out.1, List.set_set]
                refine ⟨A9, c9, ⟨HC9.out⟩, ⟨?_⟩⟩
                have q := HS.out
                rw [e] at q
                exact sep_l2 (sep_l2 (sep_pool_sub q (fun y hy => poolOf_set j y hy)))
      case rest =>
        obtain ⟨A9, c9, HC9, HS⟩ := hcut
        go_upto_region 8 with (fail)
        have n_ := sep_drew HS.out
        have n0_ := Aside0.mk n_; clear HS n_; have HS := n0_; clear n0_
        obtain ⟨k4, b2⟩ := keepT HS.out (set_at HQ.out.1)
        refine wp_region_held_drew (S := (fun w' => w'.cell? ⟨g, j * 7 + 4, none⟩ = some (.int .u16 x.po) ∧ w'.cell? ⟨p, 2, none⟩ = some (.int .u32 B.ip))) (by kernel_rfl) ⟨k4, b2⟩ (fun hHeld => ?_)
        generalize World.drew _ = wd at HS k4 b2 hHeld ⊢
        have g0 := sep_cell (sep_l3 HS.out) 0
        have g1 := sep_cell (sep_l3 HS.out) 1
        have f0 := sep_frozen (sep_l3 HS.out)
        have f00 := f0 0
        have f01 := f0 1
        clear f0
        (refine h_take 0 (by assumption) rfl (by decide +kernel) (by decide +kernel) (by decide +kernel) (fun _ _ _ h => h) (by rfl) (by intro w hSw; (try dsimp only at hSw); go_simp; all_goals (with_reducible rfl)) ?_; simp only [Act.put, List.setIfInBounds_toArray, List.set_cons_zero, List.set_cons_succ])
        (refine h_take 1 (by assumption) rfl (by decide +kernel) (by decide +kernel) (by decide +kernel) (fun _ _ _ h => h) (by rfl) (by intro w hSw; (try dsimp only at hSw); go_simp; all_goals (with_reducible rfl)) ?_; simp only [Act.put, List.setIfInBounds_toArray, List.set_cons_zero, List.set_cons_succ])
        (refine h_take 2 (by assumption) rfl (by decide +kernel) (by decide +kernel) (by decide +kernel) (fun _ _ _ h => h) (by rfl) (by intro w hSw; (try dsimp only at hSw); go_simp; all_goals (with_reducible rfl)) ?_; simp only [Act.put, List.setIfInBounds_toArray, List.set_cons_zero, List.set_cons_succ])
        (refine h_take 3 (by assumption) rfl (by decide +kernel) (by decide +kernel) (by decide +kernel) (fun _ _ _ h => h) (by rfl) (by intro w hSw; (try dsimp only at hSw); go_simp; all_goals (with_reducible rfl)) ?_; simp only [Act.put, List.setIfInBounds_toArray, List.set_cons_zero, List.set_cons_succ])
        (refine h_take 4 (by assumption) rfl (by decide +kernel) (by decide +kernel) (by decide +kernel) (fun _ _ _ h => h) (by rfl) (by intro w hSw; (try dsimp only at hSw); go_simp; all_goals (with_reducible rfl)) ?_; simp only [Act.put, List.setIfInBounds_toArray, List.set_cons_zero, List.set_cons_succ])
        (refine h_take 5 (by assumption) rfl (by decide +kernel) (by decide +kernel) (by decide +kernel) (fun _ _ _ h => h) (by rfl) (by intro w hSw; (try dsimp only at hSw); go_simp; all_goals (with_reducible rfl)) ?_; simp only [Act.put, List.setIfInBounds_toArray, List.set_cons_zero, List.set_cons_succ])
        (refine h_take 6 (by assumption) rfl (by decide +kernel) (by decide +kernel) (by decide +kernel) (fun _ _ _ h => h) (by rfl) (by intro w hSw; (try dsimp only at hSw); go_simp; all_goals (with_reducible rfl)) ?_; simp only [Act.put, List.setIfInBounds_toArray, List.set_cons_zero, List.set_cons_succ])
        (refine h_take 7 (by assumption) rfl (by decide +kernel) (by decide +kernel) (by decide +kernel) (fun _ _ _ h => h) (by rfl) (by intro w hSw; (try dsimp only at hSw); go_simp; all_goals (with_reducible rfl)) ?_; simp only [Act.put, List.setIfInBounds_toArray, List.set_cons_zero, List.set_cons_succ])
        (refine h_take 8 (by assumption) rfl (by decide +kernel) (by decide +kernel) (by decide +kernel) (fun _ _ _ h => h) (by rfl) (by intro w hSw; (try dsimp only at hSw); go_simp; all_goals (with_reducible rfl)) ?_; simp only [Act.put, List.setIfInBounds_toArray, List.set_cons_zero, List.set_cons_succ])
        refine h_one 9 (by kernel_rfl) rfl (by rfl) (fun K hK => ?_)
        go_simp
        clear hHeld
        ((first | refine hK.out _ _ (keepT (sep_drop (sep_set (sep_set (sep_l3 HS.out) 0 _) 1 _)) (set_at HQ.out.1)) (fun hHeld => ?_) | (go_wp2_with fail; refine hK.out _ _ (keepT (sep_drop (sep_set (sep_set (sep_l3 HS.out) 0 _) 1 _)) (set_at HQ.out.1)) (fun hHeld => ?_))); clear hK K; (try simp only [Act.put, List.setIfInBounds_toArray, List.set_cons_zero, List.set_cons_succ]))
        (refine h_take 10 (by assumption) rfl (by decide +kernel) (by decide +kernel) (by decide +kernel) (fun _ _ _ h => h) (by rfl) (by intro w hSw; (try dsimp only at hSw); go_simp; all_goals (with_reducible rfl)) ?_; simp only [Act.put, List.setIfInBounds_toArray, List.set_cons_zero, List.set_cons_succ])
        refine wpAnyH_done (by kernel_rfl) ?_ _
        go_wp2
        have n_ := sep_set (sep_set (sep_l3 HS.out) 0 (.int .u32 B.ip)) 1 (.int .u16 x.po)
        refine bodyPost_ret (results_ct rfl _ _ g8 28 #[.int .u32 B.ip, .int .u16 x.po] (0, 0) _ rfl (sep_pt n_) Try.underlying28 rfl (by kernel_rfl)) rfl ?_
        have hm2 : MatL (R.set j ⟨x.ii, x.ip, x.ki, x.kp, x.po, A9, (metS x.met dst).length, c9, now + B.hold⟩) (outL B now src dst x) := by
          unfold outL
          rw [HJL.out.1, HJL.out.2]
          exact MatL_set HM.out.1 ⟨rfl, rfl, rfl, rfl, rfl, rfl, rfl, HC9.out⟩ j
        refine ⟨rfl, box_mk (B := { B with l := outL B now src dst x }) (v := .slice (some ⟨g, 0, none⟩) L2.length c) hm2 ?_⟩
        have e : outL B now src dst x = L2.set j { x with met := metS x.met dst, un := now + B.hold } := by unfold outL; rw [HJL.out.1, HJL.out.2]
        rw [e]
        exact sep_drop (sep_l3 (sep_drop (sep_l3 (sep_l1 (sep_drop n_)))))
end Go.Proofs.Ytobfabfoenldfaa.NW
