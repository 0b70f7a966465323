/- The bag (package bag): what each of its functions does, told over separate blocks. Conditions: those that each theorem names. -/
import Derived.Test.YtlpiodcklacdpaaBP
import Derived.Test.YtlpiodcklacdpaaPAx
import Derived.Deep.RegionHeld3
namespace Go.Proofs.Ytlpiodcklacdpaa.BG
set_option linter.unusedVariables false
set_option linter.unusedSimpArgs false
open Go Go.RowKit Go.Proofs.YtlpiodcklacdpaaS Go.Proofs.YtlpiodcklacdpaaS.Asn Go.Proofs.Ytlpiodcklacdpaa.PA Go.Proofs.YtlpiodcklacdpaaW.PrintWords Go.Proofs.YtlpiodcklacdpaaW.PrintLast Go.Proofs.YtlpiodcklacdpaaW.PrintMore

def itK : Kd It := Kd.iso (Kd.pair (Kd.int .u32) (Kd.pair (Kd.int .u16) (Kd.pair (Kd.int .u32) (Kd.pair (Kd.int .u16) (Kd.pair Kd.string (Kd.int .u64)))))) (fun x : It => (x.fi, x.fp, x.ti, x.tp, x.by_, x.t))
def It.cells (x : It) : List Value := [.int .u32 x.fi, .int .u16 x.fp, .int .u32 x.ti, .int .u16 x.tp, .string x.by_, .int .u64 x.t]
theorem itK_open {w : World} {x : It} {cs : List Value} (h : itK.K w x cs) : cs = x.cells := by
  obtain ⟨_, _, rfl, rfl, ⟨_, _, rfl, rfl, ⟨_, _, rfl, rfl, ⟨_, _, rfl, rfl, ⟨_, _, rfl, rfl, rfl⟩⟩⟩⟩⟩ := h
  rfl
/-- A bag at block p: what is in it, its room. -/
def bagA (p : Nat) (l : List It) (room : Int) : Asn :=
  ex fun v : Value => pt p #[v, .int .i64 room] 74 ⋆ row itK 35 v l
section
variable {w0 w : World} {ok0 : Nat → Prop} {F : Asn} {p : Nat} {room : Int} {l : List It}
theorem bag_mk {v : Value} (h : Sep w0 ok0 (pt p #[v, .int .i64 room] 74 ⋆ row itK 35 v l ⋆ F) w) : Sep w0 ok0 (bagA p l room ⋆ F) w :=
  sep_head (sep_fold h) (fun ok hh => ⟨v, hh⟩)
theorem bag_open (h : Sep w0 ok0 (bagA p l room ⋆ F) w) : ∃ v, Sep w0 ok0 (pt p #[v, .int .i64 room] 74 ⋆ row itK 35 v l ⋆ F) w := by
  obtain ⟨v, h⟩ := sep_ex_star h
  exact ⟨v, sep_flat h⟩
end
theorem bag_New (room : Int) (w : World) (h1 : 1 ≤ room) (h2 : room ≤ 256) : Calls Try.prog 10 #[.int .i64 room] w fun e w' => ∃ p : Nat, e = .returned (.tuple #[.pointer (some ⟨p, 0, none⟩), .int .i64 0]) ∧ Sep w (fun _ => False) (bagA p [] room ⋆ emp) w' := by
  have HS := Aside0.mk (sep_start w)
  have e1 : decide (room < 1) = false := decide_eq_false (by omega)
  have e2 : decide (256 < room) = false := decide_eq_false (by omega)
  go_enter Try.func10, Try.ntmps10
  go_wp2
  go_ret2
  exact ⟨_, rfl, bag_mk (sep_alloc (sep_row_nil HS.out) #[.slice none 0 0, .int .i64 room] 74)⟩
theorem bag_New_none (room : Int) (w : World) (h : room < 1 ∨ 256 < room) : Calls Try.prog 10 #[.int .i64 room] w fun e w' => e = .returned (.tuple #[.pointer none, .int .i64 1]) ∧ Below w.heap.size w w' := by
  rcases h with h | h
  · have e1 : decide (room < 1) = true := decide_eq_true h
    go_enter Try.func10, Try.ntmps10
    go_wp2
    go_ret2
    exact ⟨rfl, Below.refl _ _⟩
  · have e1 : decide (room < 1) = false := decide_eq_false (by omega)
    have e2 : decide (256 < room) = true := decide_eq_true h
    go_enter Try.func10, Try.ntmps10
    go_wp2
    go_ret2
    exact ⟨rfl, Below.refl _ _⟩
theorem bag_Len (p : Nat) (l : List It) (room : Int) (w : World) (ok : Nat → Prop) (h : (bagA p l room ⋆ emp).H w ok) :
    Calls Try.prog 14 #[.pointer (some ⟨p, 0, none⟩)] w fun e w' => e = .returned (.int .i64 (l.length : Int)) ∧ Sep w ok (bagA p l room ⋆ emp) w' := by
  have HS := Aside0.mk (sep_begin h)
  obtain ⟨v, h1⟩ := bag_open (sep_begin h)
  obtain ⟨A, c, rfl, hc, -⟩ := sep_row (sep_l1 h1)
  have c0 := sep_cell h1 0
  have c1 := sep_cell h1 1
  clear h1 h hc
  go_enter Try.func14, Try.ntmps14
  go_wp2
  go_ret
  exact ⟨rfl, HS.out⟩
/-! ## Put -/
def noneB (i p : Int) : Bool := if i = 0 then true else p == 0
theorem none_f (i p : Int) : addr_Addr_None.f i p = some (noneB i p) := by unfold addr_Addr_None.f noneB; split <;> rfl
theorem facts2 {w0 w : World} {ok0 : Nat → Prop} {F : Asn} {g : Nat} {t : TypeId} {a b : Value} (h : Sep w0 ok0 (pt g #[a, b] t ⋆ F) w) :
    w.cell? ⟨g, 0, none⟩ = some a ∧ w.cell? ⟨g, 1, none⟩ = some b ∧ w.frozen? ⟨g, 0, none⟩ = false :=
  ⟨sep_cell h 0, sep_cell h 1, sep_frozen h 0⟩
theorem facts6 {w0 w : World} {ok0 : Nat → Prop} {F : Asn} {g : Nat} {t : TypeId} {a b c d e f : Value} (h : Sep w0 ok0 (pt g #[a, b, c, d, e, f] t ⋆ F) w) :
    w.cell? ⟨g, 0, none⟩ = some a ∧ w.cell? ⟨g, 1, none⟩ = some b ∧ w.cell? ⟨g, 2, none⟩ = some c ∧ w.cell? ⟨g, 3, none⟩ = some d ∧ w.cell? ⟨g, 4, none⟩ = some e ∧ w.cell? ⟨g, 5, none⟩ = some f :=
  ⟨sep_cell h 0, sep_cell h 1, sep_cell h 2, sep_cell h 3, sep_cell h 4, sep_cell h 5⟩
theorem bytes_some {b : ByteArray} (h : b.size ≠ 0) : b.toList.isEmpty = false := by
  cases hb : b.toList.isEmpty with
  | false => rfl
  | true =>
    exfalso
    rw [List.isEmpty_iff] at hb
    apply h
    have := ByteArray.toList_eq
    simp_all
    exact h (by cases b; subst hb; rfl)
def z35 : Value := .agg #[.int .u32 0, .int .u16 0, .int .u32 0, .int .u16 0, .string ⟨#[]⟩, .int .u64 0]
theorem info35 : (Try.prog.info? 35).map (fun i => (i.zero, i.size, i.bytes)) = some (some z35, 6, 40) := by kernel_rfl
section
variable {P : Program} {md : Region.Mode} {l : List Oper} {Q : Exit → Act → World → Prop}
theorem a_take (i : Nat) {oi : Oper} {v : Value} {fuel : Nat} {listed : Array Bool} {a : Act} {w : World} (hi : l[i]? = some oi)
    (hs : Region.noSelect l.toArray = true) (hf : Region.free md l.toArray listed i = true) (hr : (Region.ready md l.toArray listed).contains i = true) (hQ : ∀ c a w, Q (.panic c) (a.put oi.dst v) w → Q (.panic c) a w)
    (hw : Region.wanted oi (yielded l.toArray a.tmps) = true) (hy : ∀ w, (execOp a.eval oi).run P w = .ok (.value v) w)
    (h : wpAny P md l.toArray Q fuel (listed.setIfInBounds i true) (a.put oi.dst v) w) : wpAny P md l.toArray Q (fuel + 1) listed a w :=
  wpAny_take (by rw [List.getElem?_toArray]; exact hi) hs hf hr hQ (Or.inl ⟨hw, hy⟩) h
theorem a_one (i : Nat) {oi : Oper} {fuel : Nat} {listed : Array Bool} {a : Act} {w : World}
    (hr : Region.ready md l.toArray listed = [i]) (hi : l[i]? = some oi) (hw : Region.wanted oi (yielded l.toArray a.tmps) = true)
    (h : ∀ K : Act → World → Prop, Aside0 (∀ a w, wpAny P md l.toArray Q fuel (listed.setIfInBounds i true) a w → K a w) → Oper.wp P oi a w K Q) : wpAny P md l.toArray Q (fuel + 1) listed a w :=
  wpAny_ready hr (by simp) (AllReady.cons (by rw [List.getElem?_toArray]; exact hi) (fun K hK => by rw [if_pos hw]; exact h K ⟨hK⟩) AllReady.nil)
theorem a_two (i j : Nat) {oi oj : Oper} {fuel : Nat} {listed : Array Bool} {a : Act} {w : World}
    (hr : Region.ready md l.toArray listed = [i, j]) (hi : l[i]? = some oi) (hw : Region.wanted oi (yielded l.toArray a.tmps) = true) (hi' : l[j]? = some oj) (hw' : Region.wanted oj (yielded l.toArray a.tmps) = true)
    (h : ∀ K : Act → World → Prop, Aside0 (∀ a w, wpAny P md l.toArray Q fuel (listed.setIfInBounds i true) a w → K a w) → Oper.wp P oi a w K Q)
    (h' : ∀ K : Act → World → Prop, Aside0 (∀ a w, wpAny P md l.toArray Q fuel (listed.setIfInBounds j true) a w → K a w) → Oper.wp P oj a w K Q) : wpAny P md l.toArray Q (fuel + 1) listed a w :=
  wpAny_ready hr (by simp) (AllReady.cons (by rw [List.getElem?_toArray]; exact hi) (fun K hK => by rw [if_pos hw]; exact h K ⟨hK⟩) (AllReady.cons (by rw [List.getElem?_toArray]; exact hi') (fun K hK => by rw [if_pos hw']; exact h' K ⟨hK⟩) AllReady.nil))
theorem a_one' (i : Nat) {oi : Oper} {fuel : Nat} {listed : Array Bool} {a : Act} {w : World}
    (hr : Region.ready md l.toArray listed = [i]) (hi : l[i]? = some oi)
    (h : if Region.wanted oi (yielded l.toArray a.tmps) = true then Oper.wp P oi a w (wpAny P md l.toArray Q fuel (listed.setIfInBounds i true)) Q else wpAny P md l.toArray Q fuel (listed.setIfInBounds i true) (a.put oi.dst undef) w) : wpAny P md l.toArray Q (fuel + 1) listed a w := by
  refine wpAny_all hr (by simp) (fun j hj => ?_)
  obtain rfl := List.mem_singleton.1 hj
  refine wpOp_step (by rw [List.getElem?_toArray]; exact hi) (fun K' hK => ?_)
  split
  · rename_i hw; rw [if_pos hw] at h; exact Oper.wp_mono hK h
  · rename_i hw; rw [if_neg hw] at h; exact hK _ _ h
end
theorem itK_M (w : World) (base : Nat) (ok : Nat → Prop) (x : It) : itK.M w base ok x x.cells :=
  ⟨[_], _, rfl, rfl, ⟨[_], _, rfl, rfl, ⟨[_], _, rfl, rfl, ⟨[_], _, rfl, rfl, ⟨[_], _, rfl, rfl, rfl⟩⟩⟩⟩⟩
theorem bag_Put (p : Nat) (l : List It) (room : Int) (x : It) (w : World) (ok : Nat → Prop) (h1 : noneB x.fi x.fp = false) (h2 : noneB x.ti x.tp = false) (h3 : x.by_.size ≠ 0) (h4 : x.by_.size ≤ 1024) (h5 : (l.length : Int) < room) (h6 : room ≤ 256) (h : (bagA p l room ⋆ emp).H w ok) :
    Calls Try.prog 11 #[.pointer (some ⟨p, 0, none⟩), .agg #[.int .u32 x.fi, .int .u16 x.fp, .int .u32 x.ti, .int .u16 x.tp, .string x.by_, .int .u64 x.t]] w fun e w' => e = .returned (.int .i64 0) ∧ Sep w ok (bagA p (l ++ [x]) room ⋆ emp) w' := by
  obtain ⟨v, hs⟩ := bag_open (sep_begin h)
  obtain ⟨A, c, rfl, hc, -⟩ := sep_row (sep_l1 hs)
  have HS := Aside0.mk hs
  have H1 : Aside0 (addr_Addr_None.f x.fi x.fp = some false) := ⟨by rw [none_f, h1]⟩
  have H2 : Aside0 (addr_Addr_None.f x.ti x.tp = some false) := ⟨by rw [none_f, h2]⟩
  have HN := Aside0.mk (And.intro h3 (And.intro h4 (And.intro h5 h6)))
  clear h h1 h2 h3 h4 h5 h6 hs hc
  go_enter Try.func11, Try.ntmps11
  go_upto_region 1 with (fail)
  have n_ := sep_alloc HS.out #[.int .u32 x.fi, .int .u16 x.fp, .int .u32 x.ti, .int .u16 x.tp, .string x.by_, .int .u64 x.t] 35
  clear HS
  have HS := Aside0.mk n_
  clear n_
  generalize w.alloc (.cells #[.int .u32 x.fi, .int .u16 x.fp, .int .u32 x.ti, .int .u16 x.tp, .string x.by_, .int .u64 x.t] 35) = wa at HS ⊢
  generalize w.heap.size = g3 at HS ⊢
  obtain ⟨k1, k2, k3, k4, k5, k6⟩ := facts6 HS.out
  go_upto_region 3 with (first | (go_at_call 28; (with_reducible refine Calls.mono (addr_Addr_None.calls x.fi x.fp false _ H1.out) ?_); rintro e w1 ⟨rfl, hb_⟩; have n_ := sep_below HS.out hb_; clear hb_ HS k1 k2 k3 k4 k5 k6; have HS := Aside0.mk n_; clear n_; obtain ⟨k1, k2, k3, k4, k5, k6⟩ := facts6 HS.out) | (go_at_call 28; (with_reducible refine Calls.mono (addr_Addr_None.calls x.ti x.tp false _ H2.out) ?_); rintro e w1 ⟨rfl, hb_⟩; have n_ := sep_below HS.out hb_; clear hb_ HS k1 k2 k3 k4 k5 k6; have HS := Aside0.mk n_; clear n_; obtain ⟨k1, k2, k3, k4, k5, k6⟩ := facts6 HS.out))
  have e1 : x.by_.toList.isEmpty = false := bytes_some HN.out.1
  have e4 : (x.by_.toList = []) = False := eq_false (fun h => by rw [h] at e1; cases e1)
  have e2 : decide ((1024 : Int) < (x.by_.size : Int)) = false := decide_eq_false (by have := HN.out.2.1; omega)
  have e3 : decide ((1024 : Nat) < x.by_.size) = false := decide_eq_false (by have := HN.out.2.1; omega)
  go_upto_region 5 with (fail)
  replace HS := Aside0.mk (sep_drew HS.out)
  obtain ⟨b1, b2, b3⟩ := facts2 (sep_l1 HS.out)
  have e5 : decide (room ≤ (l.length : Int)) = false := decide_eq_false (by have := HN.out.2.2.1; omega)
  (first | go_region_held3 (fun w' => w'.cell? ⟨p, 0, none⟩ = some (.slice A l.length c) ∧ w'.cell? ⟨p, 1, none⟩ = some (.int .i64 room)) (exact ⟨b1, b2⟩) (fail) | fail)
  go_upto_region 7 with (fail)
  replace HS := Aside0.mk (sep_drew HS.out)
  obtain ⟨k1, k2, k3, k4, k5, k6⟩ := facts6 HS.out
  obtain ⟨b1, b2, b3⟩ := facts2 (sep_l1 HS.out)
  refine wp_region_any (by kernel_rfl) ?_
  change wpAny _ _ _ _ _ _ _ (World.drew _)
  generalize w1.drew.drew = w9 at HS k1 k2 k3 k4 k5 k6 b1 b2 b3 ⊢
  (refine a_take 0 rfl (by kernel_rfl) (by kernel_rfl) (by kernel_rfl) (fun _ _ _ h => h) (by rfl) (by intro w; go_simp; all_goals (with_reducible rfl)) ?_; simp only [Act.put, List.setIfInBounds_toArray, List.set_cons_zero, List.set_cons_succ])
  (refine a_take 1 rfl (by kernel_rfl) (by kernel_rfl) (by kernel_rfl) (fun _ _ _ h => h) (by rfl) (by intro w; go_simp; all_goals (with_reducible rfl)) ?_; simp only [Act.put, List.setIfInBounds_toArray, List.set_cons_zero, List.set_cons_succ])
  (refine a_take 2 rfl (by kernel_rfl) (by kernel_rfl) (by kernel_rfl) (fun _ _ _ h => h) (by rfl) (by intro w; go_simp; all_goals (with_reducible rfl)) ?_; simp only [Act.put, List.setIfInBounds_toArray, List.set_cons_zero, List.set_cons_succ])
  (refine a_take 3 rfl (by kernel_rfl) (by kernel_rfl) (by kernel_rfl) (fun _ _ _ h => h) (by rfl) (by intro w; go_simp; all_goals (with_reducible rfl)) ?_; simp only [Act.put, List.setIfInBounds_toArray, List.set_cons_zero, List.set_cons_succ])
  refine a_two 4 5 (by kernel_rfl) rfl (by rfl) rfl (by rfl) (fun K hK => ?_) (fun K hK => ?_)
  · go_simp
    (refine hK.out _ _ ?_; clear hK K; (try simp only [Act.put, List.setIfInBounds_toArray, List.set_cons_zero, List.set_cons_succ]))
    (refine a_one 5 (by kernel_rfl) rfl (by rfl) (fun K hK => ?_); go_simp; (refine hK.out _ _ ?_; clear hK K; (try simp only [Act.put, List.setIfInBounds_toArray, List.set_cons_zero, List.set_cons_succ])))
    (refine a_one 6 (by kernel_rfl) rfl (by rfl) (fun K hK => ?_); go_simp; (refine hK.out _ _ ?_; clear hK K; (try simp only [Act.put, List.setIfInBounds_toArray, List.set_cons_zero, List.set_cons_succ])))
    refine a_one' 7 (by kernel_rfl) rfl (step_append (w0 := w) (ok0 := ok) itK (by rfl) (.tmp 39) (.tmp 41) 45 35 z35 40 rfl rfl info35 rfl (by decide) (by decide) (.slice A l.length c) l x x.cells rfl rfl (itK_M _ _ _ _) (sep_l2 HS.out) (by have := HN.out.2.2; omega) (fun v1 w5 hs => ?_))
    simp only [Act.put, List.setIfInBounds_toArray, List.set_cons_zero, List.set_cons_succ]
    clear HS k1 k2 k3 k4 k5 k6 b1 b2 b3
    obtain ⟨A5, c5, rfl, -, -⟩ := sep_row hs
    obtain ⟨b1, b2, b3⟩ := facts2 (sep_l2 hs)
    have HS := Aside0.mk hs
    clear hs
    (refine a_one 8 (by kernel_rfl) rfl (by rfl) (fun K hK => ?_); go_simp; (refine hK.out _ _ ?_; clear hK K; (try simp only [Act.put, List.setIfInBounds_toArray, List.set_cons_zero, List.set_cons_succ])))
    (refine a_one 9 (by kernel_rfl) rfl (by rfl) (fun K hK => ?_); go_simp; (refine hK.out _ _ ?_; clear hK K; (try simp only [Act.put, List.setIfInBounds_toArray, List.set_cons_zero, List.set_cons_succ])))
    (refine a_one 10 (by kernel_rfl) rfl (by rfl) (fun K hK => ?_); go_simp; (refine hK.out _ _ ?_; clear hK K; (try simp only [Act.put, List.setIfInBounds_toArray, List.set_cons_zero, List.set_cons_succ])))
    refine wpAny_done (by kernel_rfl) ?_ _
    go_wp2
    go_ret
    have n_ := sep_set (sep_l2 HS.out) 0 (.slice A5 (l ++ [x]).length c5)
    rw [List.length_append, List.length_singleton] at n_
    exact ⟨rfl, bag_mk (sep_drop (sep_l2 n_))⟩
  · go_simp
    (refine hK.out _ _ ?_; clear hK K; (try simp only [Act.put, List.setIfInBounds_toArray, List.set_cons_zero, List.set_cons_succ]))
    refine a_two 4 6 (by kernel_rfl) rfl (by rfl) rfl (by rfl) (fun K hK => ?_) (fun K hK => ?_)
    · go_simp
      (refine hK.out _ _ ?_; clear hK K; (try simp only [Act.put, List.setIfInBounds_toArray, List.set_cons_zero, List.set_cons_succ]))
      (refine a_one 6 (by kernel_rfl) rfl (by rfl) (fun K hK => ?_); go_simp; (refine hK.out _ _ ?_; clear hK K; (try simp only [Act.put, List.setIfInBounds_toArray, List.set_cons_zero, List.set_cons_succ])))
      refine a_one' 7 (by kernel_rfl) rfl (step_append (w0 := w) (ok0 := ok) itK (by rfl) (.tmp 39) (.tmp 41) 45 35 z35 40 rfl rfl info35 rfl (by decide) (by decide) (.slice A l.length c) l x x.cells rfl rfl (itK_M _ _ _ _) (sep_l2 HS.out) (by have := HN.out.2.2; omega) (fun v1 w5 hs => ?_))
      simp only [Act.put, List.setIfInBounds_toArray, List.set_cons_zero, List.set_cons_succ]
      clear HS k1 k2 k3 k4 k5 k6 b1 b2 b3
      obtain ⟨A5, c5, rfl, -, -⟩ := sep_row hs
      obtain ⟨b1, b2, b3⟩ := facts2 (sep_l2 hs)
      have HS := Aside0.mk hs
      clear hs
      (refine a_one 8 (by kernel_rfl) rfl (by rfl) (fun K hK => ?_); go_simp; (refine hK.out _ _ ?_; clear hK K; (try simp only [Act.put, List.setIfInBounds_toArray, List.set_cons_zero, List.set_cons_succ])))
      (refine a_one 9 (by kernel_rfl) rfl (by rfl) (fun K hK => ?_); go_simp; (refine hK.out _ _ ?_; clear hK K; (try simp only [Act.put, List.setIfInBounds_toArray, List.set_cons_zero, List.set_cons_succ])))
      (refine a_one 10 (by kernel_rfl) rfl (by rfl) (fun K hK => ?_); go_simp; (refine hK.out _ _ ?_; clear hK K; (try simp only [Act.put, List.setIfInBounds_toArray, List.set_cons_zero, List.set_cons_succ])))
      refine wpAny_done (by kernel_rfl) ?_ _
      go_wp2
      go_ret
      have n_ := sep_set (sep_l2 HS.out) 0 (.slice A5 (l ++ [x]).length c5)
      rw [List.length_append, List.length_singleton] at n_
      exact ⟨rfl, bag_mk (sep_drop (sep_l2 n_))⟩
    · go_simp
      (refine hK.out _ _ ?_; clear hK K; (try simp only [Act.put, List.setIfInBounds_toArray, List.set_cons_zero, List.set_cons_succ]))
      have m1 : ∀ o, (w9.alloc o).cell? ⟨p, 0, none⟩ = some (.slice A l.length c) := fun o => sep_cell (sep_l1 (sep_skip HS.out o)) 0
      (refine a_one 4 (by kernel_rfl) rfl (by rfl) (fun K hK => ?_); go_simp; (refine hK.out _ _ ?_; clear hK K; (try simp only [Act.put, List.setIfInBounds_toArray, List.set_cons_zero, List.set_cons_succ])))
      clear m1
      refine a_one' 7 (by kernel_rfl) rfl (step_append (w0 := w) (ok0 := ok) itK (by rfl) (.tmp 39) (.tmp 41) 45 35 z35 40 rfl rfl info35 rfl (by decide) (by decide) (.slice A l.length c) l x x.cells rfl rfl (itK_M _ _ _ _) (sep_l2 HS.out) (by have := HN.out.2.2; omega) (fun v1 w5 hs => ?_))
      simp only [Act.put, List.setIfInBounds_toArray, List.set_cons_zero, List.set_cons_succ]
      clear HS k1 k2 k3 k4 k5 k6 b1 b2 b3
      obtain ⟨A5, c5, rfl, -, -⟩ := sep_row hs
      obtain ⟨b1, b2, b3⟩ := facts2 (sep_l2 hs)
      have HS := Aside0.mk hs
      clear hs
      (refine a_one 8 (by kernel_rfl) rfl (by rfl) (fun K hK => ?_); go_simp; (refine hK.out _ _ ?_; clear hK K; (try simp only [Act.put, List.setIfInBounds_toArray, List.set_cons_zero, List.set_cons_succ])))
      (refine a_one 9 (by kernel_rfl) rfl (by rfl) (fun K hK => ?_); go_simp; (refine hK.out _ _ ?_; clear hK K; (try simp only [Act.put, List.setIfInBounds_toArray, List.set_cons_zero, List.set_cons_succ])))
      (refine a_one 10 (by kernel_rfl) rfl (by rfl) (fun K hK => ?_); go_simp; (refine hK.out _ _ ?_; clear hK K; (try simp only [Act.put, List.setIfInBounds_toArray, List.set_cons_zero, List.set_cons_succ])))
      refine wpAny_done (by kernel_rfl) ?_ _
      go_wp2
      go_ret
      have n_ := sep_set (sep_l2 HS.out) 0 (.slice A5 (l ++ [x]).length c5)
      rw [List.length_append, List.length_singleton] at n_
      exact ⟨rfl, bag_mk (sep_drop (sep_l2 n_))⟩
end Go.Proofs.Ytlpiodcklacdpaa.BG
