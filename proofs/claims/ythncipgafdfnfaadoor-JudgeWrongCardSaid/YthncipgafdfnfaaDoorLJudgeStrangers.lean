/- JudgeStrangers, walked. Conditions: those that the theorem names. -/
import Derived.Test.YthncipgafdfnfaaDoorJT
namespace Go.Proofs.YthncipgafdfnfaaDoor.JW
set_option linter.unusedVariables false
set_option linter.unusedSimpArgs false
open Go Go.RowKit Go.Proofs.YthncipgafdfnfaaDoorS Go.Proofs.YthncipgafdfnfaaDoorS.Asn Go.Proofs.YthncipgafdfnfaaDoor.PA Go.Proofs.YthncipgafdfnfaaDoorW.PrintWords Go.Proofs.YthncipgafdfnfaaDoorW.PrintLast Go.Proofs.YthncipgafdfnfaaDoorW.PrintMore
/-! ## the plain law -/
def Own6 (r : Rec) : Prop := 1 ≤ r.id ∧ r.id ≤ 6 ∧ 0 ≤ r.inc ∧ r.inc ≤ 4 ∧ r.po = 7
def listE (l : List Th) (i : Nat) : List Rec := (l.take i).map own1
theorem listE_succ (l : List Th) (i : Nat) (t : Th) (h : l[i]? = some t) : listE l (i + 1) = listE l i ++ [own1 t] := by
  unfold listE
  rw [List.take_add_one, h, Option.toList_some, List.map_append]
  rfl
theorem listE_len (l : List Th) (i : Nat) : (listE l i).length ≤ i := by unfold listE; rw [List.length_map, List.length_take]; omega
theorem own1_six (t : Th) (h : thOk t) : Own6 (own1 t) := by
  have := thE_own ⟨t.r, true⟩ h rfl
  unfold Own6 own1
  omega
theorem listE_six (l : List Th) (i : Nat) (h : ∀ t ∈ l, thOk t) : ∀ r ∈ listE l i, Own6 r := by
  intro r hr
  unfold listE at hr
  obtain ⟨t, ht, rfl⟩ := List.mem_map.1 hr
  exact own1_six t (h t (List.mem_of_mem_take ht))
def toldE (xs : List Rec) (v : Nat) : List Rec := xs.filter (fun r => decide (r.id = (v : Int) + 1))
theorem toldE_len (xs : List Rec) (v : Nat) : (toldE xs v).length ≤ xs.length := List.length_filter_le _ _
theorem toldE_at (xs : List Rec) (r : Rec) (j : Nat) (h : r.id - 1 = (j : Int)) : toldE (xs ++ [r]) j = toldE xs j ++ [r] := by
  unfold toldE
  rw [List.filter_append, List.filter_cons, if_pos (decide_eq_true (by omega))]
  rfl
theorem toldE_ne (xs : List Rec) (r : Rec) (j u : Nat) (h : r.id - 1 = (j : Int)) (hu : u ≠ j) : toldE (xs ++ [r]) u = toldE xs u := by
  unfold toldE
  rw [List.filter_append, List.filter_cons, if_neg (by rw [decide_eq_true_eq]; omega), List.filter_nil, List.append_nil]
def toldL (xs : List Rec) : List (List Rec) := (List.range 6).map (toldE xs)
theorem toldL_at (xs : List Rec) (r : Rec) (h1 : 1 ≤ r.id) (h2 : r.id ≤ 6) : (toldL xs).getD (r.id - 1).toNat [] = toldE xs (r.id - 1).toNat := by
  unfold toldL
  rw [List.getD_eq_getElem?_getD, List.getElem?_map, List.getElem?_range (by omega)]
  rfl
theorem str_id (xs : List Rec) (r : Rec) (h : r.id = 7) : strange (toldL xs) r = true := by
  unfold strange
  rw [decide_eq_true (.inr (by rw [h]; unfold toldL; simp)), Bool.true_or]
theorem str_ne (xs : List Rec) (r : Rec) (h1 : 1 ≤ r.id) (h2 : r.id ≤ 6) (h : ∀ x ∈ xs, ownB r x = false) : strange (toldL xs) r = true := by
  unfold strange
  rw [toldL_at xs r h1 h2, show (toldE xs (r.id - 1).toNat).any (ownB r) = false by
    rw [List.any_eq_false]
    intro x hx
    rw [h x (List.mem_filter.1 hx).1]
    decide]
  simp
theorem str_own (xs : List Rec) (r : Rec) (h1 : 1 ≤ r.id) (h2 : r.id ≤ 6) (hr : r ∈ xs) : strange (toldL xs) r = false := by
  unfold strange
  rw [toldL_at xs r h1 h2, show (toldE xs (r.id - 1).toNat).any (ownB r) = true by
    rw [List.any_eq_true]
    refine ⟨r, List.mem_filter.2 ⟨hr, decide_eq_true (by omega)⟩, ?_⟩
    unfold ownB
    rw [decide_eq_true rfl, Bool.true_or]]
  rw [decide_eq_false (by
    rintro (h | h)
    · omega
    · unfold toldL at h; simp at h; omega)]
  rfl
theorem str_none (xs : List Rec) (h : ∀ r ∈ xs, Own6 r) : strangerE xs (toldL xs) = -1 := by
  unfold strangerE
  refine idx_none _ _ ?_
  rw [List.any_eq_false]
  intro r hr
  rw [str_own xs r (h r hr).1 (h r hr).2.1 hr]
  decide
theorem str_at (xs : List Rec) (h : ∀ r ∈ xs, Own6 r) (k : Nat) (hk : k < xs.length) (r : Rec) (hr : strange (toldL xs) r = true) : strangerE (xs.set k r) (toldL xs) = (k : Int) := by
  unfold strangerE
  refine idx_found _ _ k r (List.getElem?_set_self hk) hr ?_
  rw [List.take_set_of_le (Nat.le_refl k), List.any_eq_false]
  intro x hx
  have hx := List.mem_of_mem_take hx
  rw [str_own xs x (h x hx).1 (h x hx).2.1 hx]
  decide
theorem str_inc (xs : List Rec) (h : ∀ r ∈ xs, Own6 r) (k : Nat) (y : Rec) (hy : xs[k]? = some y) : strangerE (xs.set k ⟨y.id, y.st, y.inc + 100, y.ip, y.po⟩) (toldL xs) = (k : Int) := by
  obtain ⟨hk, rfl⟩ := List.getElem?_eq_some_iff.1 hy
  have h6 := h _ (List.getElem_mem hk)
  refine str_at xs h k hk _ (str_ne xs _ h6.1 h6.2.1 (fun x hx => ?_))
  have hx6 := h x hx
  unfold Own6 at h6 hx6
  unfold ownB
  rw [decide_eq_false (fun e => by have := congrArg Rec.inc e; dsimp only at this; omega), Bool.false_or, decide_eq_false (fun e => by dsimp only at e; omega), Bool.false_and]
theorem str_st (xs : List Rec) (h : ∀ r ∈ xs, Own6 r) (k : Nat) (y : Rec) (hy : xs[k]? = some y) : strangerE (xs.set k ⟨y.id, 0, y.inc, y.ip, 1234⟩) (toldL xs) = (k : Int) := by
  obtain ⟨hk, rfl⟩ := List.getElem?_eq_some_iff.1 hy
  have h6 := h _ (List.getElem_mem hk)
  refine str_at xs h k hk _ (str_ne xs _ h6.1 h6.2.1 (fun x hx => ?_))
  have hx6 := h x hx
  unfold Own6 at h6 hx6
  unfold ownB
  rw [decide_eq_false (fun e => by have := congrArg Rec.po e; dsimp only at this; omega), Bool.false_or]
  simp
theorem str_7 (xs : List Rec) (h : ∀ r ∈ xs, Own6 r) (k : Nat) (y : Rec) (hy : xs[k]? = some y) : strangerE (xs.set k ⟨7, y.st, y.inc, y.ip, y.po⟩) (toldL xs) = (k : Int) := by
  obtain ⟨hk, rfl⟩ := List.getElem?_eq_some_iff.1 hy
  exact str_at xs h k hk _ (str_id xs _ rfl)
/-! ## the walk -/
theorem keepS {w0 w' : World} {ok0 : Nat → Prop} {A B C F : Asn} {g7 gt j : Nat} {r : Rec} {cs : Array Value} (h : Sep w0 ok0 (A ⋆ B ⋆ pt g7 #[.int .i64 r.id, .int .i64 r.st, .int .u32 r.inc, .int .u32 r.ip, .int .u16 r.po] 36 ⋆ C ⋆ pt gt cs 24 ⋆ F) w') : w'.cell? ⟨g7, 0, none⟩ = some (.int .i64 r.id) ∧ w'.cell? ⟨g7, 1, none⟩ = some (.int .i64 r.st) ∧ w'.cell? ⟨g7, 2, none⟩ = some (.int .u32 r.inc) ∧ w'.cell? ⟨g7, 3, none⟩ = some (.int .u32 r.ip) ∧ w'.cell? ⟨g7, 4, none⟩ = some (.int .u16 r.po) ∧ w'.frozen? ⟨gt, j, none⟩ = false := by
  obtain ⟨k1, k2, k3, k4, k5⟩ := facts5 (sep_l2 h)
  exact ⟨k1, k2, k3, k4, k5, sep_frozen (sep_l4 h) j⟩
theorem keepT {w0 w' : World} {ok0 : Nat → Prop} {A B C F : Asn} {g7 gt j : Nat} {r : Rec} {cs : Array Value} (h : Sep w0 ok0 (pt gt cs 24 ⋆ A ⋆ B ⋆ pt g7 #[.int .i64 r.id, .int .i64 r.st, .int .u32 r.inc, .int .u32 r.ip, .int .u16 r.po] 36 ⋆ C ⋆ F) w') : w'.cell? ⟨g7, 0, none⟩ = some (.int .i64 r.id) ∧ w'.cell? ⟨g7, 1, none⟩ = some (.int .i64 r.st) ∧ w'.cell? ⟨g7, 2, none⟩ = some (.int .u32 r.inc) ∧ w'.cell? ⟨g7, 3, none⟩ = some (.int .u32 r.ip) ∧ w'.cell? ⟨g7, 4, none⟩ = some (.int .u16 r.po) ∧ w'.frozen? ⟨gt, j, none⟩ = false := by
  obtain ⟨k1, k2, k3, k4, k5⟩ := facts5 (sep_l3 h)
  exact ⟨k1, k2, k3, k4, k5, sep_frozen h j⟩
theorem toldC {w0 w' : World} {ok0 : Nat → Prop} {A B C D F : Asn} {gt j cj : Nat} {Aj : Option Addr} {xs : List Rec} {f : Nat → Value} (h : Sep w0 ok0 (A ⋆ B ⋆ D ⋆ C ⋆ pt gt (arrV 6 f) 24 ⋆ F) w') (hf : f j = .slice Aj (toldE xs j).length cj) (hj : j < 6) : w'.cell? ⟨gt, j, none⟩ = some (.slice Aj (toldE xs j).length cj) := by
  rw [sep_cell (sep_l4 h), arrV_get f hj, hf]
theorem h_take {P : Program} {md : Region.Mode} {l : List Oper} {Q : Exit → Act → World → Prop} {S : World → Prop} (i : Nat) {oi : Oper} {v : Value} {fuel : Nat} {listed : Array Bool} {a : Act} {w : World} (hS : S w) (hi : l[i]? = some oi)
    (hs : Region.noSelect l.toArray = true) (hf : Region.free md l.toArray listed i = true) (hr : (Region.ready md l.toArray listed).contains i = true) (hQ : ∀ c a w, Q (.panic c) (a.put oi.dst v) w → Q (.panic c) a w)
    (hw : Region.wanted oi (yielded l.toArray a.tmps) = true) (hy : ∀ w, S w → (execOp a.eval oi).run P w = .ok (.value v) w)
    (h : wpAnyH P md l.toArray Q S fuel (listed.setIfInBounds i true) (a.put oi.dst v) w) : wpAnyH P md l.toArray Q S (fuel + 1) listed a w :=
  wpAnyH_take (by rw [List.getElem?_toArray]; exact hi) hs hf hr hQ (Or.inl ⟨hw, hy⟩) hS h
theorem h_skip {P : Program} {md : Region.Mode} {l : List Oper} {Q : Exit → Act → World → Prop} {S : World → Prop} (i : Nat) {oi : Oper} {fuel : Nat} {listed : Array Bool} {a : Act} {w : World} (hS : S w) (hi : l[i]? = some oi)
    (hs : Region.noSelect l.toArray = true) (hf : Region.free md l.toArray listed i = true) (hr : (Region.ready md l.toArray listed).contains i = true) (hQ : ∀ c a w, Q (.panic c) (a.put oi.dst undef) w → Q (.panic c) a w)
    (hw : Region.wanted oi (yielded l.toArray a.tmps) = false)
    (h : wpAnyH P md l.toArray Q S fuel (listed.setIfInBounds i true) (a.put oi.dst undef) w) : wpAnyH P md l.toArray Q S (fuel + 1) listed a w :=
  wpAnyH_take (by rw [List.getElem?_toArray]; exact hi) hs hf hr hQ (Or.inr ⟨hw, rfl⟩) hS h
theorem h_one {P : Program} {md : Region.Mode} {l : List Oper} {Q : Exit → Act → World → Prop} {S : World → Prop} (i : Nat) {oi : Oper} {fuel : Nat} {listed : Array Bool} {a : Act} {w : World}
    (hr : Region.ready md l.toArray listed = [i]) (hi : l[i]? = some oi) (hw : Region.wanted oi (yielded l.toArray a.tmps) = true)
    (h : ∀ K : Act → World → Prop, Shut (∀ a w, S w → (S w → wpAnyH P md l.toArray Q S fuel (listed.setIfInBounds i true) a w) → K a w) → Oper.wp P oi a w K Q) : wpAnyH P md l.toArray Q S (fuel + 1) listed a w :=
  wpAnyH_ready hr (by simp) (AllReadyH.cons (by rw [List.getElem?_toArray]; exact hi) (fun K hK => by rw [if_pos hw]; exact h K hK) AllReadyH.nil)
theorem h_two {P : Program} {md : Region.Mode} {l : List Oper} {Q : Exit → Act → World → Prop} {S : World → Prop} (i j : Nat) {oi oj : Oper} {fuel : Nat} {listed : Array Bool} {a : Act} {w : World}
    (hr : Region.ready md l.toArray listed = [i, j]) (hi : l[i]? = some oi) (hj : l[j]? = some oj) (hw : Region.wanted oi (yielded l.toArray a.tmps) = true) (hw2 : Region.wanted oj (yielded l.toArray a.tmps) = true)
    (h : ∀ K : Act → World → Prop, Shut (∀ a w, S w → (S w → wpAnyH P md l.toArray Q S fuel (listed.setIfInBounds i true) a w) → K a w) → Oper.wp P oi a w K Q)
    (h2 : ∀ K : Act → World → Prop, Shut (∀ a w, S w → (S w → wpAnyH P md l.toArray Q S fuel (listed.setIfInBounds j true) a w) → K a w) → Oper.wp P oj a w K Q) : wpAnyH P md l.toArray Q S (fuel + 1) listed a w :=
  wpAnyH_ready hr (by simp) (AllReadyH.cons (by rw [List.getElem?_toArray]; exact hi) (fun K hK => by rw [if_pos hw]; exact h K hK) (AllReadyH.cons (by rw [List.getElem?_toArray]; exact hj) (fun K hK => by rw [if_pos hw2]; exact h2 K hK) AllReadyH.nil))
theorem h_raw {P : Program} {md : Region.Mode} {l : List Oper} {Q : Exit → Act → World → Prop} {S : World → Prop} (i : Nat) {oi : Oper} {fuel : Nat} {listed : Array Bool} {a : Act} {w : World}
    (hr : Region.ready md l.toArray listed = [i]) (hi : l[i]? = some oi)
    (h : ∀ K : Act → World → Prop, Shut (∀ a w, S w → (S w → wpAnyH P md l.toArray Q S fuel (listed.setIfInBounds i true) a w) → K a w) → if Region.wanted oi (yielded l.toArray a.tmps) = true then Oper.wp P oi a w K Q else K (a.put oi.dst undef) w) : wpAnyH P md l.toArray Q S (fuel + 1) listed a w :=
  wpAnyH_ready hr (by simp) (AllReadyH.cons (by rw [List.getElem?_toArray]; exact hi) (fun K hK => h K hK) AllReadyH.nil)
theorem c_str (A : Option Addr) (c gt : Nat) (ys xs : List Rec) (w : World) (h : recK.C w A ys.length ys) (hL : llK.C w (some ⟨gt, 0, none⟩) 6 ((List.range 6).map (toldE xs))) : Calls Tryd.prog 14 #[.slice A ys.length c, .slice (some ⟨gt, 0, none⟩) 6 6] w fun e w' => e = .returned (.int .i64 (strangerE ys (toldL xs))) ∧ Below w.heap.size w w' :=
  stranger_walk A (some ⟨gt, 0, none⟩) c 6 ys (toldL xs) w h (by rw [show (toldL xs).length = 6 by unfold toldL; simp]; exact hL)
theorem c_strn (A : Option Addr) (c gt n : Nat) (ys xs : List Rec) (w : World) (hn : ys.length = n) (h : recK.C w A ys.length ys) (hL : llK.C w (some ⟨gt, 0, none⟩) 6 ((List.range 6).map (toldE xs))) : Calls Tryd.prog 14 #[.slice A n c, .slice (some ⟨gt, 0, none⟩) 6 6] w fun e w' => e = .returned (.int .i64 (strangerE ys (toldL xs))) ∧ Below w.heap.size w w' := by
  subst hn
  exact c_str A c gt ys xs w h hL
set_option maxHeartbeats 4000000 in
set_option maxRecDepth 100000 in
theorem judgeStrangers_walk (A : Option Addr) (c : Nat) (l : List Th) (at_ how : Int) (w : World) (hr : thK.C w A l.length l) (hc : l.length ≤ c) (hok : ∀ d ∈ l, thOk d) (ha0 : 0 ≤ at_) (ha1 : at_ < 256) (hh0 : 0 ≤ how) (hh1 : how < 256) :
    Calls Tryd.prog 5 #[.slice A l.length c, .int .u8 at_, .int .u8 how] w fun e w' => e = .returned (.bool true) ∧ Below w.heap.size w w' := by
  have HS := Aside0.mk (sep_start w)
  have HR := Aside0.mk hr
  have HOK := Aside0.mk hok
  have HAT := Aside0.mk (And.intro ha0 ha1)
  have HHO := Aside0.mk (And.intro hh0 hh1)
  clear hr hc hok ha0 ha1 hh0 hh1
  go_enter Tryd.func5, Tryd.ntmps5
  go_upto_region 4 with (go_at_call 8; (with_reducible refine Calls.mono (examples_walk _) ?_); rintro e w1 ⟨rfl, hb_⟩; have n_ := sep_below HS.out hb_; clear hb_; have n0_ := Aside0.mk n_; clear HS n_; have HS := n0_; clear n0_; skip)
  go_upto_region 5 with ((with_reducible refine gate_ (.makeSlice 30 (.const (.int .i64 6)) (.const (.int .i64 6))) rfl ?_); refine wp_make_pt 24 rfl 30 (.const (.int .i64 6)) (.const (.int .i64 6)) rfl 6 rfl rfl Tryd.underlying30 (.slice none 0 0) 24 info24 (by decide) (by decide) (arrV 6 (fun _ => .slice none 0 0)) (made_arr _ _ rfl) HS.out ?_; intro wm n_; have n0_ := Aside0.mk n_; clear HS n_; have HS := n0_; clear n0_)
  generalize w1.heap.size = gt at HS ⊢
  have n_ := sep_row_nil (d := recK) (e := 36) (sep_l1 (rows_none HS.out 6))
  have n0_ := Aside0.mk n_; clear HS n_; have HS := n0_; clear n0_
  go_upto_region 7 with (fail)
  go_loopg [9, 10] l.length (fun gg v9 v10 wr => ∃ (i : Nat) (f : Nat → Value), i ≤ l.length ∧ i ≤ 10 ∧ l.length - i ≤ gg ∧ v10 = .int .i64 (i : Int) ∧ Aside0 (Sep w (fun _ => False) (row recK 36 v9 (listE l i) ⋆ pt gt (arrV 6 f) 24 ⋆ all 6 (fun u => row recK 36 (f u) (toldE (listE l i) u)) ⋆ emp) wr))
  case atStart => exact ⟨0, _, Nat.zero_le _, Nat.zero_le _, by omega, rfl, HS⟩
  case round =>
    clear HS
    obtain ⟨i, f, hi, hi10, hgi, rfl, HS⟩ := hrel
    by_cases hlt : i < l.length
    · have c1b : decide ((i : Int) < (l.length : Int)) = true := decide_eq_true (Int.ofNat_lt.2 hlt); have c1n : decide (i < l.length) = true := decide_eq_true hlt; have c1i : ((i : Int) < (l.length : Int)) = True := eq_true (Int.ofNat_lt.2 hlt); have c1q : (i < l.length) = True := eq_true hlt; have p0_ := eq_true (Int.natCast_nonneg i)
      by_cases h10 : i < 10
      · have d1 : decide ((i : Int) < 10) = true := decide_eq_true (by omega)
        have d2 : ((i : Int) < 10) = True := eq_true (by omega)
        have d3 := eq_true h10
        obtain ⟨t, ht⟩ : ∃ t, l[i]? = some t := ⟨_, List.getElem?_eq_getElem hlt⟩
        have HTO := Aside0.mk (HOK.out t (List.mem_of_getElem? ht))
        have HSU := Aside0.mk (listE_succ l i t ht)
        have HSX := Aside0.mk (own1_six t HTO.out)
        have HLL := Aside0.mk (listE_len l i)
        have HI := Aside0.mk (And.intro hlt (And.intro h10 hgi))
        obtain ⟨ad, rfl, k0, k1, k2, k3, k4, k5⟩ := th_now HR.out (sep_below_of HS.out) i t ht
        obtain ⟨xs, hxs⟩ : ∃ xs, listE l i = xs := ⟨_, rfl⟩
        obtain ⟨r, hr⟩ : ∃ r, own1 t = r := ⟨_, rfl⟩
        rw [hxs] at HS HSU HLL
        rw [hr] at HSU HSX
        have HRT := Aside0.mk (show thE ⟨t.r, true⟩ = r from hr)
        clear hi hi10 hgi hlt h10 ht hxs hr
        go_upto_region 10 with (fail)
        have n_ := sep_alloc HS.out #[.int .i64 t.r.id, .int .i64 t.r.st, .int .u32 t.r.inc, .int .u32 t.r.ip, .int .u16 t.r.po, .bool t.own] 43
        have n0_ := Aside0.mk n_; clear HS n_; have HS := n0_; clear n0_
        generalize wr.alloc (.cells #[.int .i64 t.r.id, .int .i64 t.r.st, .int .u32 t.r.inc, .int .u32 t.r.ip, .int .u16 t.r.po, .bool t.own] 43) = wa at HS ⊢
        generalize wr.heap.size = g6 at HS ⊢
        clear k0 k1 k2 k3 k4 k5
        have k5 := sep_cell HS.out 5
        have f5 := sep_frozen HS.out 5
        go_upto_region 11 with (fail)
        have n_ := sep_set HS.out 5 (.bool true)
        rw [show (#[.int .i64 t.r.id, .int .i64 t.r.st, .int .u32 t.r.inc, .int .u32 t.r.ip, .int .u16 t.r.po, .bool t.own] : Array Value).setIfInBounds 5 (.bool true) = #[.int .i64 t.r.id, .int .i64 t.r.st, .int .u32 t.r.inc, .int .u32 t.r.ip, .int .u16 t.r.po, .bool true] from rfl] at n_
        have n0_ := Aside0.mk n_; clear HS n_; have HS := n0_; clear n0_
        generalize wa.setCell ⟨g6, 5, none⟩ (.bool true) = wb at HS ⊢
        clear k5 f5
        obtain ⟨k0, k1, k2, k3, k4, k5⟩ := facts6 HS.out
        go_upto_region 12 with (go_at_call 13; (have hx_ := own_walk t.r wb HTO.out; rw [HRT.out] at hx_; (with_reducible refine Calls.mono hx_ ?_); rintro e w1 ⟨rfl, hb_⟩; have n_ := sep_below HS.out hb_; clear hb_ hx_; have n0_ := Aside0.mk n_; clear HS n_; have HS := n0_; clear n0_))
        have n_ := sep_drop (sep_l1 (sep_alloc HS.out #[.int .i64 r.id, .int .i64 r.st, .int .u32 r.inc, .int .u32 r.ip, .int .u16 r.po] 36))
        have n0_ := Aside0.mk n_; clear HS n_; have HS := n0_; clear n0_
        generalize w1.alloc (.cells #[.int .i64 r.id, .int .i64 r.st, .int .u32 r.inc, .int .u32 r.ip, .int .u16 r.po] 36) = wd at HS ⊢
        generalize w1.heap.size = g7 at HS ⊢
        clear k0 k1 k2 k3 k4 k5
        obtain ⟨j, hj, hj6⟩ : ∃ j : Nat, r.id - 1 = (j : Int) ∧ j < 6 := ⟨(r.id - 1).toNat, by have := HSX.out; unfold Own6 at this; omega⟩
        have w2_ : wrap64 (r.id - 1) = (j : Int) := by unfold wrap64; omega
        have w3_ : IntKind.i64.wrap (r.id - 1) = (j : Int) := by rw [IntKind.wrap_i64]; omega
        have j1 := eq_true (Int.natCast_nonneg j)
        have j2 : ((j : Int) < 6) = True := eq_true (by omega)
        have j3 := eq_true hj6
        have HJ := Aside0.mk (And.intro hj hj6)
        clear hj hj6
        obtain ⟨x, hx⟩ : ∃ x, f j = x := ⟨_, rfl⟩
        have n_ := sep_drew (sep_all_out (sep_l3 HS.out) HJ.out.2)
        rw [hx] at n_
        have n0_ := Aside0.mk n_; clear HS n_; have HS := n0_; clear n0_
        obtain ⟨Aj, cj, rfl, -, -⟩ := sep_row HS.out
        have HFX := Aside0.mk hx
        clear hx
        (try clear k1 k2 k3 k4 k5 t2); obtain ⟨k1, k2, k3, k4, k5, t2⟩ := keepS (j := j) HS.out
        have t1 := toldC HS.out HFX.out HJ.out.2
        have t3 : ((wd.alloc (.cells #[.int .i64 r.id, .int .i64 r.st, .int .u32 r.inc, .int .u32 r.ip, .int .u16 r.po] 36)).drew).cell? ⟨gt, j, none⟩ = some (.slice Aj (toldE xs j).length cj) := toldC (sep_skip HS.out (.cells #[.int .i64 r.id, .int .i64 r.st, .int .u32 r.inc, .int .u32 r.ip, .int .u16 r.po] 36)) HFX.out HJ.out.2
        go_upto_region 12 with (fail)
        refine wp_region_held_drew (S := (fun w' => w'.cell? ⟨g7, 0, none⟩ = some (.int .i64 r.id) ∧ w'.cell? ⟨g7, 1, none⟩ = some (.int .i64 r.st) ∧ w'.cell? ⟨g7, 2, none⟩ = some (.int .u32 r.inc) ∧ w'.cell? ⟨g7, 3, none⟩ = some (.int .u32 r.ip) ∧ w'.cell? ⟨g7, 4, none⟩ = some (.int .u16 r.po) ∧ w'.frozen? ⟨gt, j, none⟩ = false)) (by kernel_rfl) ⟨k1, k2, k3, k4, k5, t2⟩ (fun hHeld => ?_)
        (refine h_take 0 (by assumption) rfl (by decide +kernel) (by decide +kernel) (by decide +kernel) (fun _ _ _ h => h) (by rfl) (by intro w hSw; (try dsimp only at hSw); go_simp; all_goals (with_reducible rfl)) ?_; simp only [Act.put, List.setIfInBounds_toArray, List.set_cons_zero, List.set_cons_succ])
        (refine h_take 1 (by assumption) rfl (by decide +kernel) (by decide +kernel) (by decide +kernel) (fun _ _ _ h => h) (by rfl) (by intro w hSw; (try dsimp only at hSw); go_simp; all_goals (with_reducible rfl)) ?_; simp only [Act.put, List.setIfInBounds_toArray, List.set_cons_zero, List.set_cons_succ])
        (refine h_take 2 (by assumption) rfl (by decide +kernel) (by decide +kernel) (by decide +kernel) (fun _ _ _ h => h) (by rfl) (by intro w hSw; (try dsimp only at hSw); go_simp; all_goals (with_reducible rfl)) ?_; simp only [Act.put, List.setIfInBounds_toArray, List.set_cons_zero, List.set_cons_succ])
        (refine h_take 3 (by assumption) rfl (by decide +kernel) (by decide +kernel) (by decide +kernel) (fun _ _ _ h => h) (by rfl) (by intro w hSw; (try dsimp only at hSw); go_simp; all_goals (with_reducible rfl)) ?_; simp only [Act.put, List.setIfInBounds_toArray, List.set_cons_zero, List.set_cons_succ])
        (refine h_take 4 (by assumption) rfl (by decide +kernel) (by decide +kernel) (by decide +kernel) (fun _ _ _ h => h) (by rfl) (by intro w hSw; (try dsimp only at hSw); go_simp; all_goals (with_reducible rfl)) ?_; simp only [Act.put, List.setIfInBounds_toArray, List.set_cons_zero, List.set_cons_succ])
        (refine h_take 5 (by assumption) rfl (by decide +kernel) (by decide +kernel) (by decide +kernel) (fun _ _ _ h => h) (by rfl) (by intro w hSw; (try dsimp only at hSw); go_simp; all_goals (with_reducible rfl)) ?_; simp only [Act.put, List.setIfInBounds_toArray, List.set_cons_zero, List.set_cons_succ])
        (refine h_take 6 (by assumption) rfl (by decide +kernel) (by decide +kernel) (by decide +kernel) (fun _ _ _ h => h) (by rfl) (by intro w hSw; (try dsimp only at hSw); go_simp; all_goals (with_reducible rfl)) ?_; simp only [Act.put, List.setIfInBounds_toArray, List.set_cons_zero, List.set_cons_succ])
        (refine h_take 7 (by assumption) rfl (by decide +kernel) (by decide +kernel) (by decide +kernel) (fun _ _ _ h => h) (by rfl) (by intro w hSw; (try dsimp only at hSw); go_simp; all_goals (with_reducible rfl)) ?_; simp only [Act.put, List.setIfInBounds_toArray, List.set_cons_zero, List.set_cons_succ])
        (refine h_take 8 (by assumption) rfl (by decide +kernel) (by decide +kernel) (by decide +kernel) (fun _ _ _ h => h) (by rfl) (by intro w hSw; (try dsimp only at hSw); go_simp; all_goals (with_reducible rfl)) ?_; simp only [Act.put, List.setIfInBounds_toArray, List.set_cons_zero, List.set_cons_succ])
        (refine h_take 10 (by assumption) rfl (by decide +kernel) (by decide +kernel) (by decide +kernel) (fun _ _ _ h => h) (by rfl) (by intro w hSw; (try dsimp only at hSw); go_simp; all_goals (with_reducible rfl)) ?_; simp only [Act.put, List.setIfInBounds_toArray, List.set_cons_zero, List.set_cons_succ])
        refine h_two 9 11 (by kernel_rfl) rfl rfl (by rfl) (by rfl) (fun K hK => ?_) (fun K hK => ?_)
        · go_simp
          clear hHeld
          ((first | refine hK.out _ _ (⟨k1, k2, k3, k4, k5, t2⟩) (fun hHeld => ?_) | (go_wp2_with fail; refine hK.out _ _ (⟨k1, k2, k3, k4, k5, t2⟩) (fun hHeld => ?_))); clear hK K; (try simp only [Act.put, List.setIfInBounds_toArray, List.set_cons_zero, List.set_cons_succ]))
          (refine h_one 11 (by kernel_rfl) rfl (by rfl) (fun K hK => ?_); go_simp; skip; clear hHeld; ((first | refine hK.out _ _ (keepS (sep_skip HS.out _)) (fun hHeld => ?_) | (go_wp2_with fail; refine hK.out _ _ (keepS (sep_skip HS.out _)) (fun hHeld => ?_))); clear hK K; (try simp only [Act.put, List.setIfInBounds_toArray, List.set_cons_zero, List.set_cons_succ])))
          refine h_raw 12 (by kernel_rfl) rfl (fun K hK => ?_)
          (refine step_append (w0 := w) (ok0 := fun _ => False) recK (by rfl) (.tmp 47) (.tmp 49) 24 36 z36 32 rfl Tryd.underlying24 info36 rfl (by decide) (by decide) _ (toldE xs j) r r.cells (by rfl) (by rfl) (recK_M _ _ _ _) HS.out (by have := HLL.out; have := HI.out; have := toldE_len xs j; omega) (fun v1 w5 hs => ?_); clear HS k1 k2 k3 k4 k5 t2 t1 t3; obtain ⟨A1, c1, rfl, -, -⟩ := sep_row hs; have HS := Aside0.mk hs; clear hs; obtain ⟨k1, k2, k3, k4, k5, t2⟩ := keepS (j := j) HS.out; have t1 := toldC HS.out HFX.out HJ.out.2)
          clear hHeld
          ((first | refine hK.out _ _ (⟨k1, k2, k3, k4, k5, t2⟩) (fun hHeld => ?_) | (go_wp2_with fail; refine hK.out _ _ (⟨k1, k2, k3, k4, k5, t2⟩) (fun hHeld => ?_))); clear hK K; (try simp only [Act.put, List.setIfInBounds_toArray, List.set_cons_zero, List.set_cons_succ]))
          (refine h_take 13 (by assumption) rfl (by decide +kernel) (by decide +kernel) (by decide +kernel) (fun _ _ _ h => h) (by rfl) (by intro w hSw; (try dsimp only at hSw); go_simp; all_goals (with_reducible rfl)) ?_; simp only [Act.put, List.setIfInBounds_toArray, List.set_cons_zero, List.set_cons_succ])
          (refine h_one 14 (by kernel_rfl) rfl (by rfl) (fun K hK => ?_); go_simp; skip; clear hHeld; ((first | refine hK.out _ _ (keepT (sep_set (sep_l4 HS.out) j _)) (fun hHeld => ?_) | (go_wp2_with fail; refine hK.out _ _ (keepT (sep_set (sep_l4 HS.out) j _)) (fun hHeld => ?_))); clear hK K; (try simp only [Act.put, List.setIfInBounds_toArray, List.set_cons_zero, List.set_cons_succ])))
          refine wpAnyH_done (by kernel_rfl) ?_ _
          have n_ := HS.out
          rw [show (toldE xs j ++ [r]).length = (toldE xs j).length + 1 by simp] at n_
          have q1 := sep_set (sep_l4 n_) j (.slice A1 ((toldE xs j).length + 1) c1)
          rw [arrV_set] at q1
          replace n_ := sep_l3 (all_put (f' := fun u => if u = j then .slice A1 ((toldE xs j).length + 1) c1 else f u) (L' := toldE (xs ++ [r])) (sep_l1 (sep_l2 (sep_l1 q1))) HJ.out.2 (if_pos rfl) (toldE_at xs r j HJ.out.1) (fun u hu => if_neg hu) (fun u hu => toldE_ne xs r j u HJ.out.1 hu))
          clear q1 hHeld
          have n0_ := Aside0.mk n_; clear HS n_; have HS := n0_; clear n0_
          generalize w5.setCell ⟨gt, j, none⟩ (.slice A1 ((toldE xs j).length + 1) c1) = w6 at HS ⊢
          clear k1 k2 k3 k4 k5 t1 t2
          obtain ⟨k1, k2, k3, k4, k5⟩ := facts5 (sep_l3 HS.out)
          go_wp2_with ((with_reducible refine gate_builtin (b := .append) (xs := #[.tmp 52, .tmp 54]) rfl ?_); at_builtin; refine wp_append recK rfl (.tmp 52) (.tmp 54) 24 36 z36 32 rfl Tryd.underlying24 info36 rfl (by decide) (by decide) _ xs r r.cells (by rfl) (by rfl) (recK_M _ _ _ _) HS.out (by have := HLL.out; have := HI.out; omega) ?_; intro v9_ w7 n_; rw [← HSU.out] at n_; replace n_ := sep_l1 (sep_l2 (sep_drop (sep_l3 n_))); have n0_ := Aside0.mk n_; clear HS n_; have HS := n0_; clear n0_)
          go_roundg (l.length - (i + 1))
          case measure => have := HI.out; omega
          case rel => exact ⟨i + 1, _, HI.out.1, HI.out.2.1, Nat.le_refl _, congrArg (Value.int .i64) (by have := HI.out; unfold wrap64; omega), ⟨by rw [HSU.out] at HS ⊢; exact HS.out⟩⟩
        · go_simp
          clear hHeld
          ((first | refine hK.out _ _ (keepS (sep_skip HS.out _)) (fun hHeld => ?_) | (go_wp2_with fail; refine hK.out _ _ (keepS (sep_skip HS.out _)) (fun hHeld => ?_))); clear hK K; (try simp only [Act.put, List.setIfInBounds_toArray, List.set_cons_zero, List.set_cons_succ]))
          (refine h_one 9 (by kernel_rfl) rfl (by rfl) (fun K hK => ?_); go_simp; skip; clear hHeld; ((first | refine hK.out _ _ (keepS (sep_skip HS.out _)) (fun hHeld => ?_) | (go_wp2_with fail; refine hK.out _ _ (keepS (sep_skip HS.out _)) (fun hHeld => ?_))); clear hK K; (try simp only [Act.put, List.setIfInBounds_toArray, List.set_cons_zero, List.set_cons_succ])))
          refine h_raw 12 (by kernel_rfl) rfl (fun K hK => ?_)
          (refine step_append (w0 := w) (ok0 := fun _ => False) recK (by rfl) (.tmp 47) (.tmp 49) 24 36 z36 32 rfl Tryd.underlying24 info36 rfl (by decide) (by decide) _ (toldE xs j) r r.cells (by rfl) (by rfl) (recK_M _ _ _ _) HS.out (by have := HLL.out; have := HI.out; have := toldE_len xs j; omega) (fun v1 w5 hs => ?_); clear HS k1 k2 k3 k4 k5 t2 t1 t3; obtain ⟨A1, c1, rfl, -, -⟩ := sep_row hs; have HS := Aside0.mk hs; clear hs; obtain ⟨k1, k2, k3, k4, k5, t2⟩ := keepS (j := j) HS.out; have t1 := toldC HS.out HFX.out HJ.out.2)
          clear hHeld
          ((first | refine hK.out _ _ (⟨k1, k2, k3, k4, k5, t2⟩) (fun hHeld => ?_) | (go_wp2_with fail; refine hK.out _ _ (⟨k1, k2, k3, k4, k5, t2⟩) (fun hHeld => ?_))); clear hK K; (try simp only [Act.put, List.setIfInBounds_toArray, List.set_cons_zero, List.set_cons_succ]))
          (refine h_take 13 (by assumption) rfl (by decide +kernel) (by decide +kernel) (by decide +kernel) (fun _ _ _ h => h) (by rfl) (by intro w hSw; (try dsimp only at hSw); go_simp; all_goals (with_reducible rfl)) ?_; simp only [Act.put, List.setIfInBounds_toArray, List.set_cons_zero, List.set_cons_succ])
          (refine h_one 14 (by kernel_rfl) rfl (by rfl) (fun K hK => ?_); go_simp; skip; clear hHeld; ((first | refine hK.out _ _ (keepT (sep_set (sep_l4 HS.out) j _)) (fun hHeld => ?_) | (go_wp2_with fail; refine hK.out _ _ (keepT (sep_set (sep_l4 HS.out) j _)) (fun hHeld => ?_))); clear hK K; (try simp only [Act.put, List.setIfInBounds_toArray, List.set_cons_zero, List.set_cons_succ])))
          refine wpAnyH_done (by kernel_rfl) ?_ _
          have n_ := HS.out
          rw [show (toldE xs j ++ [r]).length = (toldE xs j).length + 1 by simp] at n_
          have q1 := sep_set (sep_l4 n_) j (.slice A1 ((toldE xs j).length + 1) c1)
          rw [arrV_set] at q1
          replace n_ := sep_l3 (all_put (f' := fun u => if u = j then .slice A1 ((toldE xs j).length + 1) c1 else f u) (L' := toldE (xs ++ [r])) (sep_l1 (sep_l2 (sep_l1 q1))) HJ.out.2 (if_pos rfl) (toldE_at xs r j HJ.out.1) (fun u hu => if_neg hu) (fun u hu => toldE_ne xs r j u HJ.out.1 hu))
          clear q1 hHeld
          have n0_ := Aside0.mk n_; clear HS n_; have HS := n0_; clear n0_
          generalize w5.setCell ⟨gt, j, none⟩ (.slice A1 ((toldE xs j).length + 1) c1) = w6 at HS ⊢
          clear k1 k2 k3 k4 k5 t1 t2
          obtain ⟨k1, k2, k3, k4, k5⟩ := facts5 (sep_l3 HS.out)
          go_wp2_with ((with_reducible refine gate_builtin (b := .append) (xs := #[.tmp 52, .tmp 54]) rfl ?_); at_builtin; refine wp_append recK rfl (.tmp 52) (.tmp 54) 24 36 z36 32 rfl Tryd.underlying24 info36 rfl (by decide) (by decide) _ xs r r.cells (by rfl) (by rfl) (recK_M _ _ _ _) HS.out (by have := HLL.out; have := HI.out; omega) ?_; intro v9_ w7 n_; rw [← HSU.out] at n_; replace n_ := sep_l1 (sep_l2 (sep_drop (sep_l3 n_))); have n0_ := Aside0.mk n_; clear HS n_; have HS := n0_; clear n0_)
          go_roundg (l.length - (i + 1))
          case measure => have := HI.out; omega
          case rel => exact ⟨i + 1, _, HI.out.1, HI.out.2.1, Nat.le_refl _, congrArg (Value.int .i64) (by have := HI.out; unfold wrap64; omega), ⟨by rw [HSU.out] at HS ⊢; exact HS.out⟩⟩
      · have d1 : decide ((i : Int) < 10) = false := decide_eq_false (by omega)
        have d2 : ((i : Int) < 10) = False := eq_false (by omega)
        have d3 := eq_false h10
        have HX6 := Aside0.mk (listE_six l (i) HOK.out)
        have hxl := listE_len l (i)
        generalize hxs : listE l (i) = xs at HS HX6 hxl
        have HXL := Aside0.mk (show xs.length ≤ 10 by omega)
        clear hi hi10 hgi hlt hxl hxs
        (try clear h10)
        obtain ⟨A9, c9, rfl, -, -⟩ := sep_row HS.out
        go_upto_region 15 with (go_at_call 14; have hx_ := c_str A9 c9 gt xs xs wr (sep_row' HS.out).2.2 (all_ll (sep_l2 (sep_l2 HS.out)) (by decide)); rw [str_none xs HX6.out] at hx_; (with_reducible refine Calls.mono hx_ ?_); rintro e w1 ⟨rfl, hb_⟩; have n_ := sep_below HS.out hb_; clear hb_ hx_; have n0_ := Aside0.mk n_; clear HS n_; have HS := n0_; clear n0_)
        rcases Nat.eq_zero_or_pos xs.length with h0 | h0
        · have e1 : ((xs.length : Int) == 0) = true := beq_iff_eq.2 (by omega)
          have e2 := eq_true (show (xs.length : Int) = 0 by omega)
          have e3 := eq_true h0
          clear h0
          go_wp2
          go_ret
          exact ⟨rfl, sep_below_of HS.out⟩
        · have e1 : ((xs.length : Int) == 0) = false := beq_eq_false_iff_ne.2 (by omega)
          have e2 := eq_false (show ¬ (xs.length : Int) = 0 by omega)
          have e3 := eq_false (show ¬ xs.length = 0 by omega)
          obtain ⟨k, hk, hkl⟩ : ∃ k : Nat, Int.tmod at_ (xs.length : Int) = (k : Int) ∧ k < xs.length := by
            have h1 := Int.emod_nonneg at_ (show (xs.length : Int) ≠ 0 by omega)
            have h2 := Int.emod_lt_of_pos at_ (show (0 : Int) < (xs.length : Int) by omega)
            exact ⟨(at_ % (xs.length : Int)).toNat, by rw [Int.tmod_eq_emod_of_nonneg HAT.out.1]; omega, by omega⟩
          have wa : wrap64 at_ = at_ := by have := HAT.out; unfold wrap64; omega
          have u1 : wrap64 (k : Int) = (k : Int) := by have := HXL.out; unfold wrap64; omega
          have u2 := eq_true (Int.natCast_nonneg k)
          have u3 : ((k : Int) < (xs.length : Int)) = True := eq_true (Int.ofNat_lt.2 hkl)
          have u4 := eq_true hkl
          obtain ⟨y, hy⟩ : ∃ y, xs[k]? = some y := ⟨_, List.getElem?_eq_getElem hkl⟩
          have HY := Aside0.mk hy
          have HY6 := Aside0.mk (HX6.out y (List.mem_of_getElem? hy))
          have n_ := sep_row_nil (d := recK) (e := 36) HS.out
          have n0_ := Aside0.mk n_; clear HS n_; have HS := n0_; clear n0_
          clear h0 hkl hy
          go_upto_region 19 with ((with_reducible refine gate_builtin (b := .append) (xs := #[.const (.slice none 0 0), .tmp 72]) rfl ?_); at_builtin; refine wp_append_rows recK rfl (.const (.slice none 0 0)) (.tmp 72) 24 36 z36 32 rfl Tryd.underlying24 info36 rfl (by decide) (by decide) _ [] xs A9 xs.length c9 (by rfl) (by rfl) HS.out (sep_row' (sep_l1 HS.out)).2.2 (fun x cs hk => by rw [recK_open hk]; exact recK_M _ _ _ _) (by have := HXL.out; simp only [List.length_nil]; omega) ?_; intro vc wc n_; rw [List.nil_append] at n_; have n0_ := Aside0.mk n_; clear HS n_; have HS := n0_; clear n0_)
          obtain ⟨Ac, cc, rfl, -, -⟩ := sep_row HS.out
          obtain ⟨ad, rfl, k0, k1, k2, k3, k4⟩ := rec_at (sep_row' HS.out).2.2 k y HY.out
          obtain ⟨f0, ff⟩ := rec_frozen HS.out k y HY.out
          have f1 := ff 1
          have f2 := ff 2
          have f3 := ff 3
          have f4 := ff 4
          clear ff
          obtain hm | hm | hm : Int.tmod how 3 = 0 ∨ Int.tmod how 3 = 1 ∨ Int.tmod how 3 = 2 := by rw [Int.tmod_eq_emod_of_nonneg HHO.out.1]; omega
          · have v1_ : (y.inc + 100) % 4294967296 = y.inc + 100 := by have := HY6.out; unfold Own6 at this; omega
            go_upto_region 27 with (fail)
            have n_ := sep_rec_set' HS.out k 2 y ⟨y.id, y.st, y.inc + 100, y.ip, y.po⟩ (.int .u32 (y.inc + 100)) HY.out (by decide) rfl
            have n0_ := Aside0.mk n_; clear HS n_; have HS := n0_; clear n0_
            clear k0 k1 k2 k3 k4 f0 f1 f2 f3 f4
            have HSTR := Aside0.mk (str_inc xs HX6.out k y HY.out)
            go_upto_region 28 with (go_at_call 14; have hx_ := c_strn _ cc gt xs.length _ xs _ List.length_set (sep_row' HS.out).2.2 (all_ll (sep_l3 (sep_l3 HS.out)) (by decide)); rw [HSTR.out] at hx_; (with_reducible refine Calls.mono hx_ ?_); rintro e w1 ⟨rfl, hb_⟩; have n_ := sep_below HS.out hb_; clear hb_ hx_; have n0_ := Aside0.mk n_; clear HS n_; have HS := n0_; clear n0_)
            go_wp2
            go_ret
            exact ⟨rfl, sep_below_of HS.out⟩
          · go_upto_region 24 with (fail)
            have n_ := sep_rec_set' HS.out k 1 y ⟨y.id, 0, y.inc, y.ip, y.po⟩ (.int .i64 0) HY.out (by decide) rfl
            have n0_ := Aside0.mk n_; clear HS n_; have HS := n0_; clear n0_
            clear k0 k1 k2 k3 k4 f0 f1 f2 f3 f4
            generalize wc.setCell ⟨(ad.add (k * 5)).block, (ad.add (k * 5)).off + 1, none⟩ (.int .i64 0) = we at HS ⊢
            have HY2 : Aside0 ((xs.set k ⟨y.id, 0, y.inc, y.ip, y.po⟩)[k]? = some ⟨y.id, 0, y.inc, y.ip, y.po⟩) := ⟨List.getElem?_set_self (List.getElem?_eq_some_iff.1 HY.out).1⟩
            have f4 : we.frozen? ⟨(ad.add (k * 5)).block, (ad.add (k * 5)).off + 3 + 1, none⟩ = false := (rec_frozen HS.out k _ HY2.out).2 4
            obtain ⟨ad_, hA_, -, -, -, -, k4⟩ := rec_at (show recK.C we (some ad) (xs.set k ⟨y.id, 0, y.inc, y.ip, y.po⟩).length _ from (sep_row' HS.out).2.2) k _ HY2.out
            cases hA_
            go_upto_region 27 with (fail)
            have n_ := sep_rec_set' HS.out k 4 _ ⟨y.id, 0, y.inc, y.ip, 1234⟩ (.int .u16 1234) HY2.out (by decide) rfl
            rw [List.set_set] at n_
            replace n_ := show Sep w (fun _ => False) _ (we.setCell ⟨(ad.add (k * 5)).block, (ad.add (k * 5)).off + 3 + 1, none⟩ (.int .u16 1234)) from n_
            have n0_ := Aside0.mk n_; clear HS n_; have HS := n0_; clear n0_
            clear k4 f4
            have HSTR := Aside0.mk (str_st xs HX6.out k y HY.out)
            go_upto_region 28 with (go_at_call 14; have hx_ := c_strn _ cc gt xs.length _ xs _ List.length_set (sep_row' HS.out).2.2 (all_ll (sep_l3 (sep_l3 HS.out)) (by decide)); rw [HSTR.out] at hx_; (with_reducible refine Calls.mono hx_ ?_); rintro e w1 ⟨rfl, hb_⟩; have n_ := sep_below HS.out hb_; clear hb_ hx_; have n0_ := Aside0.mk n_; clear HS n_; have HS := n0_; clear n0_)
            go_wp2
            go_ret
            exact ⟨rfl, sep_below_of HS.out⟩
          · go_upto_region 27 with (fail)
            have n_ := sep_rec_set0 HS.out k y ⟨7, y.st, y.inc, y.ip, y.po⟩ (.int .i64 7) HY.out rfl
            have n0_ := Aside0.mk n_; clear HS n_; have HS := n0_; clear n0_
            clear k0 k1 k2 k3 k4 f0 f1 f2 f3 f4
            have HSTR := Aside0.mk (str_7 xs HX6.out k y HY.out)
            go_upto_region 28 with (go_at_call 14; have hx_ := c_strn _ cc gt xs.length _ xs _ List.length_set (sep_row' HS.out).2.2 (all_ll (sep_l3 (sep_l3 HS.out)) (by decide)); rw [HSTR.out] at hx_; (with_reducible refine Calls.mono hx_ ?_); rintro e w1 ⟨rfl, hb_⟩; have n_ := sep_below HS.out hb_; clear hb_ hx_; have n0_ := Aside0.mk n_; clear HS n_; have HS := n0_; clear n0_)
            go_wp2
            go_ret
            exact ⟨rfl, sep_below_of HS.out⟩
    · obtain rfl : i = l.length := by omega
      have c2b : decide ((l.length : Int) < (l.length : Int)) = false := decide_eq_false (by omega)
      have HX6 := Aside0.mk (listE_six l (l.length) HOK.out)
      have hxl := listE_len l (l.length)
      generalize hxs : listE l (l.length) = xs at HS HX6 hxl
      have HXL := Aside0.mk (show xs.length ≤ 10 by omega)
      clear hi hi10 hgi hlt hxl hxs
      (try clear h10)
      obtain ⟨A9, c9, rfl, -, -⟩ := sep_row HS.out
      go_upto_region 15 with (go_at_call 14; have hx_ := c_str A9 c9 gt xs xs wr (sep_row' HS.out).2.2 (all_ll (sep_l2 (sep_l2 HS.out)) (by decide)); rw [str_none xs HX6.out] at hx_; (with_reducible refine Calls.mono hx_ ?_); rintro e w1 ⟨rfl, hb_⟩; have n_ := sep_below HS.out hb_; clear hb_ hx_; have n0_ := Aside0.mk n_; clear HS n_; have HS := n0_; clear n0_)
      rcases Nat.eq_zero_or_pos xs.length with h0 | h0
      · have e1 : ((xs.length : Int) == 0) = true := beq_iff_eq.2 (by omega)
        have e2 := eq_true (show (xs.length : Int) = 0 by omega)
        have e3 := eq_true h0
        clear h0
        go_wp2
        go_ret
        exact ⟨rfl, sep_below_of HS.out⟩
      · have e1 : ((xs.length : Int) == 0) = false := beq_eq_false_iff_ne.2 (by omega)
        have e2 := eq_false (show ¬ (xs.length : Int) = 0 by omega)
        have e3 := eq_false (show ¬ xs.length = 0 by omega)
        obtain ⟨k, hk, hkl⟩ : ∃ k : Nat, Int.tmod at_ (xs.length : Int) = (k : Int) ∧ k < xs.length := by
          have h1 := Int.emod_nonneg at_ (show (xs.length : Int) ≠ 0 by omega)
          have h2 := Int.emod_lt_of_pos at_ (show (0 : Int) < (xs.length : Int) by omega)
          exact ⟨(at_ % (xs.length : Int)).toNat, by rw [Int.tmod_eq_emod_of_nonneg HAT.out.1]; omega, by omega⟩
        have wa : wrap64 at_ = at_ := by have := HAT.out; unfold wrap64; omega
        have u1 : wrap64 (k : Int) = (k : Int) := by have := HXL.out; unfold wrap64; omega
        have u2 := eq_true (Int.natCast_nonneg k)
        have u3 : ((k : Int) < (xs.length : Int)) = True := eq_true (Int.ofNat_lt.2 hkl)
        have u4 := eq_true hkl
        obtain ⟨y, hy⟩ : ∃ y, xs[k]? = some y := ⟨_, List.getElem?_eq_getElem hkl⟩
        have HY := Aside0.mk hy
        have HY6 := Aside0.mk (HX6.out y (List.mem_of_getElem? hy))
        have n_ := sep_row_nil (d := recK) (e := 36) HS.out
        have n0_ := Aside0.mk n_; clear HS n_; have HS := n0_; clear n0_
        clear h0 hkl hy
        go_upto_region 19 with ((with_reducible refine gate_builtin (b := .append) (xs := #[.const (.slice none 0 0), .tmp 72]) rfl ?_); at_builtin; refine wp_append_rows recK rfl (.const (.slice none 0 0)) (.tmp 72) 24 36 z36 32 rfl Tryd.underlying24 info36 rfl (by decide) (by decide) _ [] xs A9 xs.length c9 (by rfl) (by rfl) HS.out (sep_row' (sep_l1 HS.out)).2.2 (fun x cs hk => by rw [recK_open hk]; exact recK_M _ _ _ _) (by have := HXL.out; simp only [List.length_nil]; omega) ?_; intro vc wc n_; rw [List.nil_append] at n_; have n0_ := Aside0.mk n_; clear HS n_; have HS := n0_; clear n0_)
        obtain ⟨Ac, cc, rfl, -, -⟩ := sep_row HS.out
        obtain ⟨ad, rfl, k0, k1, k2, k3, k4⟩ := rec_at (sep_row' HS.out).2.2 k y HY.out
        obtain ⟨f0, ff⟩ := rec_frozen HS.out k y HY.out
        have f1 := ff 1
        have f2 := ff 2
        have f3 := ff 3
        have f4 := ff 4
        clear ff
        obtain hm | hm | hm : Int.tmod how 3 = 0 ∨ Int.tmod how 3 = 1 ∨ Int.tmod how 3 = 2 := by rw [Int.tmod_eq_emod_of_nonneg HHO.out.1]; omega
        · have v1_ : (y.inc + 100) % 4294967296 = y.inc + 100 := by have := HY6.out; unfold Own6 at this; omega
          go_upto_region 27 with (fail)
          have n_ := sep_rec_set' HS.out k 2 y ⟨y.id, y.st, y.inc + 100, y.ip, y.po⟩ (.int .u32 (y.inc + 100)) HY.out (by decide) rfl
          have n0_ := Aside0.mk n_; clear HS n_; have HS := n0_; clear n0_
          clear k0 k1 k2 k3 k4 f0 f1 f2 f3 f4
          have HSTR := Aside0.mk (str_inc xs HX6.out k y HY.out)
          go_upto_region 28 with (go_at_call 14; have hx_ := c_strn _ cc gt xs.length _ xs _ List.length_set (sep_row' HS.out).2.2 (all_ll (sep_l3 (sep_l3 HS.out)) (by decide)); rw [HSTR.out] at hx_; (with_reducible refine Calls.mono hx_ ?_); rintro e w1 ⟨rfl, hb_⟩; have n_ := sep_below HS.out hb_; clear hb_ hx_; have n0_ := Aside0.mk n_; clear HS n_; have HS := n0_; clear n0_)
          go_wp2
          go_ret
          exact ⟨rfl, sep_below_of HS.out⟩
        · go_upto_region 24 with (fail)
          have n_ := sep_rec_set' HS.out k 1 y ⟨y.id, 0, y.inc, y.ip, y.po⟩ (.int .i64 0) HY.out (by decide) rfl
          have n0_ := Aside0.mk n_; clear HS n_; have HS := n0_; clear n0_
          clear k0 k1 k2 k3 k4 f0 f1 f2 f3 f4
          generalize wc.setCell ⟨(ad.add (k * 5)).block, (ad.add (k * 5)).off + 1, none⟩ (.int .i64 0) = we at HS ⊢
          have HY2 : Aside0 ((xs.set k ⟨y.id, 0, y.inc, y.ip, y.po⟩)[k]? = some ⟨y.id, 0, y.inc, y.ip, y.po⟩) := ⟨List.getElem?_set_self (List.getElem?_eq_some_iff.1 HY.out).1⟩
          have f4 : we.frozen? ⟨(ad.add (k * 5)).block, (ad.add (k * 5)).off + 3 + 1, none⟩ = false := (rec_frozen HS.out k _ HY2.out).2 4
          obtain ⟨ad_, hA_, -, -, -, -, k4⟩ := rec_at (show recK.C we (some ad) (xs.set k ⟨y.id, 0, y.inc, y.ip, y.po⟩).length _ from (sep_row' HS.out).2.2) k _ HY2.out
          cases hA_
          go_upto_region 27 with (fail)
          have n_ := sep_rec_set' HS.out k 4 _ ⟨y.id, 0, y.inc, y.ip, 1234⟩ (.int .u16 1234) HY2.out (by decide) rfl
          rw [List.set_set] at n_
          replace n_ := show Sep w (fun _ => False) _ (we.setCell ⟨(ad.add (k * 5)).block, (ad.add (k * 5)).off + 3 + 1, none⟩ (.int .u16 1234)) from n_
          have n0_ := Aside0.mk n_; clear HS n_; have HS := n0_; clear n0_
          clear k4 f4
          have HSTR := Aside0.mk (str_st xs HX6.out k y HY.out)
          go_upto_region 28 with (go_at_call 14; have hx_ := c_strn _ cc gt xs.length _ xs _ List.length_set (sep_row' HS.out).2.2 (all_ll (sep_l3 (sep_l3 HS.out)) (by decide)); rw [HSTR.out] at hx_; (with_reducible refine Calls.mono hx_ ?_); rintro e w1 ⟨rfl, hb_⟩; have n_ := sep_below HS.out hb_; clear hb_ hx_; have n0_ := Aside0.mk n_; clear HS n_; have HS := n0_; clear n0_)
          go_wp2
          go_ret
          exact ⟨rfl, sep_below_of HS.out⟩
        · go_upto_region 27 with (fail)
          have n_ := sep_rec_set0 HS.out k y ⟨7, y.st, y.inc, y.ip, y.po⟩ (.int .i64 7) HY.out rfl
          have n0_ := Aside0.mk n_; clear HS n_; have HS := n0_; clear n0_
          clear k0 k1 k2 k3 k4 f0 f1 f2 f3 f4
          have HSTR := Aside0.mk (str_7 xs HX6.out k y HY.out)
          go_upto_region 28 with (go_at_call 14; have hx_ := c_strn _ cc gt xs.length _ xs _ List.length_set (sep_row' HS.out).2.2 (all_ll (sep_l3 (sep_l3 HS.out)) (by decide)); rw [HSTR.out] at hx_; (with_reducible refine Calls.mono hx_ ?_); rintro e w1 ⟨rfl, hb_⟩; have n_ := sep_below HS.out hb_; clear hb_ hx_; have n0_ := Aside0.mk n_; clear HS n_; have HS := n0_; clear n0_)
          go_wp2
          go_ret
          exact ⟨rfl, sep_below_of HS.out⟩
end Go.Proofs.YthncipgafdfnfaaDoor.JW
