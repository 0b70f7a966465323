/- What a bag does, as plain functions over a list of datagrams, and what follows from that. No condition but those that each theorem names. -/
import Derived.Test.YtobfabfoenldfaaSep
import Derived.Test.YtobfabfoenldfaaPAx
import Derived.Deep.RegionHeld3
namespace Go.Proofs.Ytobfabfoenldfaa.BG
set_option linter.unusedVariables false
set_option linter.unusedSimpArgs false
/-- A datagram: from, to, bytes, its time. -/
structure It where
  fi : Int
  fp : Int
  ti : Int
  tp : Int
  by_ : ByteArray
  t : Int
def rdy (l : List It) (u : Int) : Nat := (l.filter (fun x => decide (x.t ≤ u))).length
def pos (u : Int) : List It → Nat → Nat
  | [], _ => 0
  | x :: l, k => if x.t ≤ u then (match k with | 0 => 0 | k + 1 => pos u l k + 1) else pos u l k + 1
theorem rdy_nil (u : Int) : rdy [] u = 0 := rfl
theorem rdy_cons (x : It) (l : List It) (u : Int) : rdy (x :: l) u = (if x.t ≤ u then 1 else 0) + rdy l u := by
  unfold rdy
  by_cases h : x.t ≤ u
  · rw [List.filter_cons_of_pos (by simpa using h), if_pos h, List.length_cons]; omega
  · rw [List.filter_cons_of_neg (by simpa using h), if_neg h]; omega
theorem rdy_append (l l' : List It) (u : Int) : rdy (l ++ l') u = rdy l u + rdy l' u := by
  unfold rdy; rw [List.filter_append, List.length_append]
theorem rdy_le (l : List It) (u : Int) : rdy l u ≤ l.length := List.length_filter_le _ _
theorem pos_lt : ∀ {l : List It} {u : Int} {k : Nat}, k < rdy l u → pos u l k < l.length ∧ ∀ x, l[pos u l k]? = some x → x.t ≤ u
  | [], u, k, h => by simp [rdy] at h
  | x :: l, u, k, h => by
    rw [rdy_cons] at h
    by_cases hx : x.t ≤ u
    · rw [if_pos hx] at h
      cases k with
      | zero => 
        have : pos u (x :: l) 0 = 0 := by simp [pos, hx]
        rw [this]
        exact ⟨by simp, fun y hy => by simp at hy; subst hy; exact hx⟩
      | succ k =>
        have : pos u (x :: l) (k + 1) = pos u l k + 1 := by simp [pos, hx]
        rw [this]
        obtain ⟨h1, h2⟩ := pos_lt (l := l) (u := u) (k := k) (by omega)
        exact ⟨by simpa using h1, fun y hy => h2 y (by simpa using hy)⟩
    · rw [if_neg hx] at h
      have : pos u (x :: l) k = pos u l k + 1 := by cases k <;> simp [pos, hx]
      rw [this]
      obtain ⟨h1, h2⟩ := pos_lt (l := l) (u := u) (k := k) (by omega)
      exact ⟨by simpa using h1, fun y hy => h2 y (by simpa using hy)⟩
theorem pos_get : ∀ {l : List It} {u : Int} {k : Nat}, k < rdy l u → l[pos u l k]? = (l.filter (fun x => decide (x.t ≤ u)))[k]?
  | [], u, k, h => by simp [rdy] at h
  | x :: l, u, k, h => by
    rw [rdy_cons] at h
    by_cases hx : x.t ≤ u
    · rw [if_pos hx] at h
      rw [List.filter_cons_of_pos (by simpa using hx)]
      cases k with
      | zero => 
        have : pos u (x :: l) 0 = 0 := by simp [pos, hx]
        rw [this]
        simp
      | succ k =>
        have : pos u (x :: l) (k + 1) = pos u l k + 1 := by simp [pos, hx]
        rw [this]
        have := pos_get (l := l) (u := u) (k := k) (by omega)
        simpa using this
    · rw [if_neg hx] at h
      rw [List.filter_cons_of_neg (by simpa using hx)]
      have : pos u (x :: l) k = pos u l k + 1 := by cases k <;> simp [pos, hx]
      rw [this]
      have := pos_get (l := l) (u := u) (k := k) (by omega)
      simpa using this
theorem rdy_erase {l : List It} {u : Int} {i : Nat} {x : It} (h : l[i]? = some x) (hx : x.t ≤ u) : rdy (l.eraseIdx i) u + 1 = rdy l u := by
  obtain ⟨hi, rfl⟩ := List.getElem?_eq_some_iff.1 h
  rw [List.eraseIdx_eq_take_drop_succ]
  conv => rhs; rw [← List.take_append_drop i l, List.drop_eq_getElem_cons hi]
  rw [rdy_append, rdy_append, rdy_cons, if_pos hx]
  omega
/-- The step of find's loop. -/
theorem pos_drop {l : List It} {u : Int} {i k : Nat} {x : It} (hx : l[i]? = some x) :
    (x.t ≤ u → k = 0 → pos u (l.drop i) k = 0) ∧ (x.t ≤ u → 0 < k → pos u (l.drop i) k = pos u (l.drop (i + 1)) (k - 1) + 1 ∧ (k < rdy (l.drop i) u → k - 1 < rdy (l.drop (i + 1)) u)) ∧
    (¬ x.t ≤ u → pos u (l.drop i) k = pos u (l.drop (i + 1)) k + 1 ∧ (k < rdy (l.drop i) u → k < rdy (l.drop (i + 1)) u)) := by
  obtain ⟨hi, rfl⟩ := List.getElem?_eq_some_iff.1 hx
  rw [List.drop_eq_getElem_cons hi]
  refine ⟨fun h1 h2 => by subst h2; simp [pos, h1], fun h1 h2 => ?_, fun h1 => ?_⟩
  · obtain ⟨k, rfl⟩ : ∃ m, k = m + 1 := ⟨k - 1, by omega⟩
    refine ⟨by simp [pos, h1], fun h => ?_⟩
    rw [rdy_cons, if_pos h1] at h
    simpa using (by omega : k < rdy (l.drop (i + 1)) u)
  · refine ⟨by cases k <;> simp [pos, h1], fun h => ?_⟩
    rw [rdy_cons, if_neg h1] at h
    omega
theorem rdy_lt {l : List It} {u : Int} {i k : Nat} (h : k < rdy (l.drop i) u) : i < l.length := by
  have := rdy_le (l.drop i) u
  rw [List.length_drop] at this
  omega
end Go.Proofs.Ytobfabfoenldfaa.BG
/- The bag (package bag): what each of its functions does, told over separate blocks. Conditions: those that each theorem names. -/
namespace Go.Proofs.Ytobfabfoenldfaa.BG
set_option linter.unusedVariables false
set_option linter.unusedSimpArgs false
open Go Go.RowKit Go.Proofs.YtobfabfoenldfaaS Go.Proofs.YtobfabfoenldfaaS.Asn Go.Proofs.Ytobfabfoenldfaa.PA Go.Proofs.YtobfabfoenldfaaW.PrintWords Go.Proofs.YtobfabfoenldfaaW.PrintLast Go.Proofs.YtobfabfoenldfaaW.PrintMore

def itK : Kd It := Kd.iso (Kd.pair (Kd.int .u32) (Kd.pair (Kd.int .u16) (Kd.pair (Kd.int .u32) (Kd.pair (Kd.int .u16) (Kd.pair Kd.string (Kd.int .u64)))))) (fun x : It => (x.fi, x.fp, x.ti, x.tp, x.by_, x.t))
def It.cells (x : It) : List Value := [.int .u32 x.fi, .int .u16 x.fp, .int .u32 x.ti, .int .u16 x.tp, .string x.by_, .int .u64 x.t]
theorem itK_open {w : World} {x : It} {cs : List Value} (h : itK.K w x cs) : cs = x.cells := by
  obtain ⟨_, _, rfl, rfl, ⟨_, _, rfl, rfl, ⟨_, _, rfl, rfl, ⟨_, _, rfl, rfl, ⟨_, _, rfl, rfl, rfl⟩⟩⟩⟩⟩ := h
  rfl
/-- A bag at block p: what is in it, its room. -/
def bagA (p : Nat) (l : List It) (room : Int) : Asn :=
  ex fun v : Value => pt p #[v, .int .i64 room] 91 ⋆ row itK 79 v l
section
variable {w0 w : World} {ok0 : Nat → Prop} {F : Asn} {p : Nat} {room : Int} {l : List It}
theorem bag_mk {v : Value} (h : Sep w0 ok0 (pt p #[v, .int .i64 room] 91 ⋆ row itK 79 v l ⋆ F) w) : Sep w0 ok0 (bagA p l room ⋆ F) w :=
  sep_head (sep_fold h) (fun ok hh => ⟨v, hh⟩)
theorem bag_open (h : Sep w0 ok0 (bagA p l room ⋆ F) w) : ∃ v, Sep w0 ok0 (pt p #[v, .int .i64 room] 91 ⋆ row itK 79 v l ⋆ F) w := by
  obtain ⟨v, h⟩ := sep_ex_star h
  exact ⟨v, sep_flat h⟩
end
theorem bag_New (room : Int) (w : World) (h1 : 1 ≤ room) (h2 : room ≤ 256) : Calls Try.prog 23 #[.int .i64 room] w fun e w' => ∃ p : Nat, e = .returned (.tuple #[.pointer (some ⟨p, 0, none⟩), .int .i64 0]) ∧ Sep w (fun _ => False) (bagA p [] room ⋆ emp) w' := by
  have HS := Aside0.mk (sep_start w)
  have e1 : decide (room < 1) = false := decide_eq_false (by omega)
  have e2 : decide (256 < room) = false := decide_eq_false (by omega)
  go_enter Try.func23, Try.ntmps23
  go_wp2
  go_ret2
  exact ⟨_, rfl, bag_mk (sep_alloc (sep_row_nil HS.out) #[.slice none 0 0, .int .i64 room] 91)⟩
theorem bag_New_none (room : Int) (w : World) (h : room < 1 ∨ 256 < room) : Calls Try.prog 23 #[.int .i64 room] w fun e w' => e = .returned (.tuple #[.pointer none, .int .i64 1]) ∧ Below w.heap.size w w' := by
  rcases h with h | h
  · have e1 : decide (room < 1) = true := decide_eq_true h
    go_enter Try.func23, Try.ntmps23
    go_wp2
    go_ret2
    exact ⟨rfl, Below.refl _ _⟩
  · have e1 : decide (room < 1) = false := decide_eq_false (by omega)
    have e2 : decide (256 < room) = true := decide_eq_true h
    go_enter Try.func23, Try.ntmps23
    go_wp2
    go_ret2
    exact ⟨rfl, Below.refl _ _⟩
theorem bag_Len (p : Nat) (l : List It) (room : Int) (w : World) (ok : Nat → Prop) (h : (bagA p l room ⋆ emp).H w ok) :
    Calls Try.prog 20 #[.pointer (some ⟨p, 0, none⟩)] w fun e w' => e = .returned (.int .i64 (l.length : Int)) ∧ Sep w ok (bagA p l room ⋆ emp) w' := by
  have HS := Aside0.mk (sep_begin h)
  obtain ⟨v, h1⟩ := bag_open (sep_begin h)
  obtain ⟨A, c, rfl, hc, -⟩ := sep_row (sep_l1 h1)
  have c0 := sep_cell h1 0
  have c1 := sep_cell h1 1
  clear h1 h hc
  go_enter Try.func20, Try.ntmps20
  go_wp2
  go_ret
  exact ⟨rfl, HS.out⟩
/-! ## Put -/
def noneB (i p : Int) : Bool := if i = 0 then true else p == 0
theorem none_f (i p : Int) : addr_Addr_None.f i p = some (noneB i p) := by unfold addr_Addr_None.f noneB; split <;> rfl
theorem facts2 {w0 w : World} {ok0 : Nat → Prop} {F : Asn} {g : Nat} {t : TypeId} {a b : Value} (h : Sep w0 ok0 (pt g #[a, b] t ⋆ F) w) :
    w.cell? ⟨g, 0, none⟩ = some a ∧ w.cell? ⟨g, 1, none⟩ = some b ∧ w.frozen? ⟨g, 0, none⟩ = false :=
  ⟨sep_cell h 0, sep_cell h 1, sep_frozen h 0⟩
theorem facts6 {w0 w : World} {ok0 : Nat → Prop} {F : Asn} {g : Nat} {t : TypeId} {a b c d e f : Value} (h : Sep w0 ok0 (pt g #[a, b, c, d, e, f] t ⋆ F) w) :
    w.cell? ⟨g, 0, none⟩ = some a ∧ w.cell? ⟨g, 1, none⟩ = some b ∧ w.cell? ⟨g, 2, none⟩ = some c ∧ w.cell? ⟨g, 3, none⟩ = some d ∧ w.cell? ⟨g, 4, none⟩ = some e ∧ w.cell? ⟨g, 5, none⟩ = some f :=
  ⟨sep_cell h 0, sep_cell h 1, sep_cell h 2, sep_cell h 3, sep_cell h 4, sep_cell h 5⟩
theorem bytes_some {b : ByteArray} (h : b.size ≠ 0) : b.toList.isEmpty = false := by
  cases hb : b.toList.isEmpty with
  | false => rfl
  | true =>
    exfalso
    rw [List.isEmpty_iff] at hb
    apply h
    have := ByteArray.toList_eq
    simp_all
    exact h (by cases b; subst hb; rfl)
def z79 : Value := .agg #[.int .u32 0, .int .u16 0, .int .u32 0, .int .u16 0, .string ⟨#[]⟩, .int .u64 0]
theorem info79 : (Try.prog.info? 79).map (fun i => (i.zero, i.size, i.bytes)) = some (some z79, 6, 40) := by kernel_rfl
section
variable {P : Program} {md : Region.Mode} {l : List Oper} {Q : Exit → Act → World → Prop}
theorem a_take (i : Nat) {oi : Oper} {v : Value} {fuel : Nat} {listed : Array Bool} {a : Act} {w : World} (hi : l[i]? = some oi)
    (hs : Region.noSelect l.toArray = true) (hf : Region.free md l.toArray listed i = true) (hr : (Region.ready md l.toArray listed).contains i = true) (hQ : ∀ c a w, Q (.panic c) (a.put oi.dst v) w → Q (.panic c) a w)
    (hw : Region.wanted oi (yielded l.toArray a.tmps) = true) (hy : ∀ w, (execOp a.eval oi).run P w = .ok (.value v) w)
    (h : wpAny P md l.toArray Q fuel (listed.setIfInBounds i true) (a.put oi.dst v) w) : wpAny P md l.toArray Q (fuel + 1) listed a w :=
  wpAny_take (by rw [List.getElem?_toArray]; exact hi) hs hf hr hQ (Or.inl ⟨hw, hy⟩) h
theorem a_one (i : Nat) {oi : Oper} {fuel : Nat} {listed : Array Bool} {a : Act} {w : World}
    (hr : Region.ready md l.toArray listed = [i]) (hi : l[i]? = some oi) (hw : Region.wanted oi (yielded l.toArray a.tmps) = true)
    (h : ∀ K : Act → World → Prop, Aside0 (∀ a w, wpAny P md l.toArray Q fuel (listed.setIfInBounds i true) a w → K a w) → Oper.wp P oi a w K Q) : wpAny P md l.toArray Q (fuel + 1) listed a w :=
  wpAny_ready hr (by simp) (AllReady.cons (by rw [List.getElem?_toArray]; exact hi) (fun K hK => by rw [if_pos hw]; exact h K ⟨hK⟩) AllReady.nil)
theorem a_two (i j : Nat) {oi oj : Oper} {fuel : Nat} {listed : Array Bool} {a : Act} {w : World}
    (hr : Region.ready md l.toArray listed = [i, j]) (hi : l[i]? = some oi) (hw : Region.wanted oi (yielded l.toArray a.tmps) = true) (hi' : l[j]? = some oj) (hw' : Region.wanted oj (yielded l.toArray a.tmps) = true)
    (h : ∀ K : Act → World → Prop, Aside0 (∀ a w, wpAny P md l.toArray Q fuel (listed.setIfInBounds i true) a w → K a w) → Oper.wp P oi a w K Q)
    (h' : ∀ K : Act → World → Prop, Aside0 (∀ a w, wpAny P md l.toArray Q fuel (listed.setIfInBounds j true) a w → K a w) → Oper.wp P oj a w K Q) : wpAny P md l.toArray Q (fuel + 1) listed a w :=
  wpAny_ready hr (by simp) (AllReady.cons (by rw [List.getElem?_toArray]; exact hi) (fun K hK => by rw [if_pos hw]; exact h K ⟨hK⟩) (AllReady.cons (by rw [List.getElem?_toArray]; exact hi') (fun K hK => by rw [if_pos hw']; exact h' K ⟨hK⟩) AllReady.nil))
theorem a_one' (i : Nat) {oi : Oper} {fuel : Nat} {listed : Array Bool} {a : Act} {w : World}
    (hr : Region.ready md l.toArray listed = [i]) (hi : l[i]? = some oi)
    (h : if Region.wanted oi (yielded l.toArray a.tmps) = true then Oper.wp P oi a w (wpAny P md l.toArray Q fuel (listed.setIfInBounds i true)) Q else wpAny P md l.toArray Q fuel (listed.setIfInBounds i true) (a.put oi.dst undef) w) : wpAny P md l.toArray Q (fuel + 1) listed a w := by
  refine wpAny_all hr (by simp) (fun j hj => ?_)
  obtain rfl := List.mem_singleton.1 hj
  refine wpOp_step (by rw [List.getElem?_toArray]; exact hi) (fun K' hK => ?_)
  split
  · rename_i hw; rw [if_pos hw] at h; exact Oper.wp_mono hK h
  · rename_i hw; rw [if_neg hw] at h; exact hK _ _ h
end
theorem itK_M (w : World) (base : Nat) (ok : Nat → Prop) (x : It) : itK.M w base ok x x.cells :=
  ⟨[_], _, rfl, rfl, ⟨[_], _, rfl, rfl, ⟨[_], _, rfl, rfl, ⟨[_], _, rfl, rfl, ⟨[_], _, rfl, rfl, rfl⟩⟩⟩⟩⟩
set_option maxRecDepth 100000 in
theorem bag_Put (p : Nat) (l : List It) (room : Int) (x : It) (w : World) (ok : Nat → Prop) (h1 : noneB x.fi x.fp = false) (h2 : noneB x.ti x.tp = false) (h3 : x.by_.size ≠ 0) (h4 : x.by_.size ≤ 1024) (h5 : (l.length : Int) < room) (h6 : room ≤ 256) (h : (bagA p l room ⋆ emp).H w ok) :
    Calls Try.prog 35 #[.pointer (some ⟨p, 0, none⟩), .agg #[.int .u32 x.fi, .int .u16 x.fp, .int .u32 x.ti, .int .u16 x.tp, .string x.by_, .int .u64 x.t]] w fun e w' => e = .returned (.int .i64 0) ∧ Sep w ok (bagA p (l ++ [x]) room ⋆ emp) w' := by
  obtain ⟨v, hs⟩ := bag_open (sep_begin h)
  obtain ⟨A, c, rfl, hc, -⟩ := sep_row (sep_l1 hs)
  have HS := Aside0.mk hs
  have H1 : Aside0 (addr_Addr_None.f x.fi x.fp = some false) := ⟨by rw [none_f, h1]⟩
  have H2 : Aside0 (addr_Addr_None.f x.ti x.tp = some false) := ⟨by rw [none_f, h2]⟩
  have HN := Aside0.mk (And.intro h3 (And.intro h4 (And.intro h5 h6)))
  clear h h1 h2 h3 h4 h5 h6 hs hc
  go_enter Try.func35, Try.ntmps35
  go_upto_region 1 with (fail)
  have n_ := sep_alloc HS.out #[.int .u32 x.fi, .int .u16 x.fp, .int .u32 x.ti, .int .u16 x.tp, .string x.by_, .int .u64 x.t] 79
  clear HS
  have HS := Aside0.mk n_
  clear n_
  generalize w.alloc (.cells #[.int .u32 x.fi, .int .u16 x.fp, .int .u32 x.ti, .int .u16 x.tp, .string x.by_, .int .u64 x.t] 79) = wa at HS ⊢
  generalize w.heap.size = g3 at HS ⊢
  obtain ⟨k1, k2, k3, k4, k5, k6⟩ := facts6 HS.out
  go_upto_region 3 with (first | (go_at_call 26; (with_reducible refine Calls.mono (addr_Addr_None.calls x.fi x.fp false _ H1.out) ?_); rintro e w1 ⟨rfl, hb_⟩; have n_ := sep_below HS.out hb_; clear hb_ HS k1 k2 k3 k4 k5 k6; have HS := Aside0.mk n_; clear n_; obtain ⟨k1, k2, k3, k4, k5, k6⟩ := facts6 HS.out) | (go_at_call 26; (with_reducible refine Calls.mono (addr_Addr_None.calls x.ti x.tp false _ H2.out) ?_); rintro e w1 ⟨rfl, hb_⟩; have n_ := sep_below HS.out hb_; clear hb_ HS k1 k2 k3 k4 k5 k6; have HS := Aside0.mk n_; clear n_; obtain ⟨k1, k2, k3, k4, k5, k6⟩ := facts6 HS.out))
  have e1 : x.by_.toList.isEmpty = false := bytes_some HN.out.1
  have e4 : (x.by_.toList = []) = False := eq_false (fun h => by rw [h] at e1; cases e1)
  have e2 : decide ((1024 : Int) < (x.by_.size : Int)) = false := decide_eq_false (by have := HN.out.2.1; omega)
  have e3 : decide ((1024 : Nat) < x.by_.size) = false := decide_eq_false (by have := HN.out.2.1; omega)
  go_upto_region 5 with (fail)
  replace HS := Aside0.mk (sep_drew HS.out)
  obtain ⟨b1, b2, b3⟩ := facts2 (sep_l1 HS.out)
  have e5 : decide (room ≤ (l.length : Int)) = false := decide_eq_false (by have := HN.out.2.2.1; omega)
  (first | go_region_held3 (fun w' => w'.cell? ⟨p, 0, none⟩ = some (.slice A l.length c) ∧ w'.cell? ⟨p, 1, none⟩ = some (.int .i64 room)) (exact ⟨b1, b2⟩) (fail) | fail)
  go_upto_region 7 with (fail)
  replace HS := Aside0.mk (sep_drew HS.out)
  obtain ⟨k1, k2, k3, k4, k5, k6⟩ := facts6 HS.out
  obtain ⟨b1, b2, b3⟩ := facts2 (sep_l1 HS.out)
  refine wp_region_any (by kernel_rfl) ?_
  change wpAny _ _ _ _ _ _ _ (World.drew _)
  generalize w1.drew.drew = w9 at HS k1 k2 k3 k4 k5 k6 b1 b2 b3 ⊢
  (refine a_take 0 rfl (by kernel_rfl) (by kernel_rfl) (by kernel_rfl) (fun _ _ _ h => h) (by rfl) (by intro w; go_simp; all_goals (with_reducible rfl)) ?_; simp only [Act.put, List.setIfInBounds_toArray, List.set_cons_zero, List.set_cons_succ])
  (refine a_take 1 rfl (by kernel_rfl) (by kernel_rfl) (by kernel_rfl) (fun _ _ _ h => h) (by rfl) (by intro w; go_simp; all_goals (with_reducible rfl)) ?_; simp only [Act.put, List.setIfInBounds_toArray, List.set_cons_zero, List.set_cons_succ])
  (refine a_take 2 rfl (by kernel_rfl) (by kernel_rfl) (by kernel_rfl) (fun _ _ _ h => h) (by rfl) (by intro w; go_simp; all_goals (with_reducible rfl)) ?_; simp only [Act.put, List.setIfInBounds_toArray, List.set_cons_zero, List.set_cons_succ])
  (refine a_take 3 rfl (by kernel_rfl) (by kernel_rfl) (by kernel_rfl) (fun _ _ _ h => h) (by rfl) (by intro w; go_simp; all_goals (with_reducible rfl)) ?_; simp only [Act.put, List.setIfInBounds_toArray, List.set_cons_zero, List.set_cons_succ])
  refine a_two 4 5 (by kernel_rfl) rfl (by rfl) rfl (by rfl) (fun K hK => ?_) (fun K hK => ?_)
  · go_simp
    (refine hK.out _ _ ?_; clear hK K; (try simp only [Act.put, List.setIfInBounds_toArray, List.set_cons_zero, List.set_cons_succ]))
    (refine a_one 5 (by kernel_rfl) rfl (by rfl) (fun K hK => ?_); go_simp; (refine hK.out _ _ ?_; clear hK K; (try simp only [Act.put, List.setIfInBounds_toArray, List.set_cons_zero, List.set_cons_succ])))
    (refine a_one 6 (by kernel_rfl) rfl (by rfl) (fun K hK => ?_); go_simp; (refine hK.out _ _ ?_; clear hK K; (try simp only [Act.put, List.setIfInBounds_toArray, List.set_cons_zero, List.set_cons_succ])))
    refine a_one' 7 (by kernel_rfl) rfl (step_append (w0 := w) (ok0 := ok) itK (by rfl) (.tmp 39) (.tmp 41) 89 79 z79 40 rfl rfl info79 rfl (by decide) (by decide) (.slice A l.length c) l x x.cells rfl rfl (itK_M _ _ _ _) (sep_l2 HS.out) (by have := HN.out.2.2; omega) (fun v1 w5 hs => ?_))
    simp only [Act.put, List.setIfInBounds_toArray, List.set_cons_zero, List.set_cons_succ]
    clear HS k1 k2 k3 k4 k5 k6 b1 b2 b3
    obtain ⟨A5, c5, rfl, -, -⟩ := sep_row hs
    obtain ⟨b1, b2, b3⟩ := facts2 (sep_l2 hs)
    have HS := Aside0.mk hs
    clear hs
    (refine a_one 8 (by kernel_rfl) rfl (by rfl) (fun K hK => ?_); go_simp; (refine hK.out _ _ ?_; clear hK K; (try simp only [Act.put, List.setIfInBounds_toArray, List.set_cons_zero, List.set_cons_succ])))
    (refine a_one 9 (by kernel_rfl) rfl (by rfl) (fun K hK => ?_); go_simp; (refine hK.out _ _ ?_; clear hK K; (try simp only [Act.put, List.setIfInBounds_toArray, List.set_cons_zero, List.set_cons_succ])))
    (refine a_one 10 (by kernel_rfl) rfl (by rfl) (fun K hK => ?_); go_simp; (refine hK.out _ _ ?_; clear hK K; (try simp only [Act.put, List.setIfInBounds_toArray, List.set_cons_zero, List.set_cons_succ])))
    refine wpAny_done (by kernel_rfl) ?_ _
    go_wp2
    go_ret
    have n_ := sep_set (sep_l2 HS.out) 0 (.slice A5 (l ++ [x]).length c5)
    rw [List.length_append, List.length_singleton] at n_
    exact ⟨rfl, bag_mk (sep_drop (sep_l2 n_))⟩
  · go_simp
    (refine hK.out _ _ ?_; clear hK K; (try simp only [Act.put, List.setIfInBounds_toArray, List.set_cons_zero, List.set_cons_succ]))
    refine a_two 4 6 (by kernel_rfl) rfl (by rfl) rfl (by rfl) (fun K hK => ?_) (fun K hK => ?_)
    · go_simp
      (refine hK.out _ _ ?_; clear hK K; (try simp only [Act.put, List.setIfInBounds_toArray, List.set_cons_zero, List.set_cons_succ]))
      (refine a_one 6 (by kernel_rfl) rfl (by rfl) (fun K hK => ?_); go_simp; (refine hK.out _ _ ?_; clear hK K; (try simp only [Act.put, List.setIfInBounds_toArray, List.set_cons_zero, List.set_cons_succ])))
      refine a_one' 7 (by kernel_rfl) rfl (step_append (w0 := w) (ok0 := ok) itK (by rfl) (.tmp 39) (.tmp 41) 89 79 z79 40 rfl rfl info79 rfl (by decide) (by decide) (.slice A l.length c) l x x.cells rfl rfl (itK_M _ _ _ _) (sep_l2 HS.out) (by have := HN.out.2.2; omega) (fun v1 w5 hs => ?_))
      simp only [Act.put, List.setIfInBounds_toArray, List.set_cons_zero, List.set_cons_succ]
      clear HS k1 k2 k3 k4 k5 k6 b1 b2 b3
      obtain ⟨A5, c5, rfl, -, -⟩ := sep_row hs
      obtain ⟨b1, b2, b3⟩ := facts2 (sep_l2 hs)
      have HS := Aside0.mk hs
      clear hs
      (refine a_one 8 (by kernel_rfl) rfl (by rfl) (fun K hK => ?_); go_simp; (refine hK.out _ _ ?_; clear hK K; (try simp only [Act.put, List.setIfInBounds_toArray, List.set_cons_zero, List.set_cons_succ])))
      (refine a_one 9 (by kernel_rfl) rfl (by rfl) (fun K hK => ?_); go_simp; (refine hK.out _ _ ?_; clear hK K; (try simp only [Act.put, List.setIfInBounds_toArray, List.set_cons_zero, List.set_cons_succ])))
      (refine a_one 10 (by kernel_rfl) rfl (by rfl) (fun K hK => ?_); go_simp; (refine hK.out _ _ ?_; clear hK K; (try simp only [Act.put, List.setIfInBounds_toArray, List.set_cons_zero, List.set_cons_succ])))
      refine wpAny_done (by kernel_rfl) ?_ _
      go_wp2
      go_ret
      have n_ := sep_set (sep_l2 HS.out) 0 (.slice A5 (l ++ [x]).length c5)
      rw [List.length_append, List.length_singleton] at n_
      exact ⟨rfl, bag_mk (sep_drop (sep_l2 n_))⟩
    · go_simp
      (refine hK.out _ _ ?_; clear hK K; (try simp only [Act.put, List.setIfInBounds_toArray, List.set_cons_zero, List.set_cons_succ]))
      have m1 : ∀ o, (w9.alloc o).cell? ⟨p, 0, none⟩ = some (.slice A l.length c) := fun o => sep_cell (sep_l1 (sep_skip HS.out o)) 0
      (refine a_one 4 (by kernel_rfl) rfl (by rfl) (fun K hK => ?_); go_simp; (refine hK.out _ _ ?_; clear hK K; (try simp only [Act.put, List.setIfInBounds_toArray, List.set_cons_zero, List.set_cons_succ])))
      clear m1
      refine a_one' 7 (by kernel_rfl) rfl (step_append (w0 := w) (ok0 := ok) itK (by rfl) (.tmp 39) (.tmp 41) 89 79 z79 40 rfl rfl info79 rfl (by decide) (by decide) (.slice A l.length c) l x x.cells rfl rfl (itK_M _ _ _ _) (sep_l2 HS.out) (by have := HN.out.2.2; omega) (fun v1 w5 hs => ?_))
      simp only [Act.put, List.setIfInBounds_toArray, List.set_cons_zero, List.set_cons_succ]
      clear HS k1 k2 k3 k4 k5 k6 b1 b2 b3
      obtain ⟨A5, c5, rfl, -, -⟩ := sep_row hs
      obtain ⟨b1, b2, b3⟩ := facts2 (sep_l2 hs)
      have HS := Aside0.mk hs
      clear hs
      (refine a_one 8 (by kernel_rfl) rfl (by rfl) (fun K hK => ?_); go_simp; (refine hK.out _ _ ?_; clear hK K; (try simp only [Act.put, List.setIfInBounds_toArray, List.set_cons_zero, List.set_cons_succ])))
      (refine a_one 9 (by kernel_rfl) rfl (by rfl) (fun K hK => ?_); go_simp; (refine hK.out _ _ ?_; clear hK K; (try simp only [Act.put, List.setIfInBounds_toArray, List.set_cons_zero, List.set_cons_succ])))
      (refine a_one 10 (by kernel_rfl) rfl (by rfl) (fun K hK => ?_); go_simp; (refine hK.out _ _ ?_; clear hK K; (try simp only [Act.put, List.setIfInBounds_toArray, List.set_cons_zero, List.set_cons_succ])))
      refine wpAny_done (by kernel_rfl) ?_ _
      go_wp2
      go_ret
      have n_ := sep_set (sep_l2 HS.out) 0 (.slice A5 (l ++ [x]).length c5)
      rw [List.length_append, List.length_singleton] at n_
      exact ⟨rfl, bag_mk (sep_drop (sep_l2 n_))⟩
end Go.Proofs.Ytobfabfoenldfaa.BG
/- The bag: Put's refusals, Ready, find. Conditions: those that each theorem names. -/
namespace Go.Proofs.Ytobfabfoenldfaa.BG
set_option linter.unusedVariables false
set_option linter.unusedSimpArgs false
open Go Go.RowKit Go.Proofs.YtobfabfoenldfaaS Go.Proofs.YtobfabfoenldfaaS.Asn Go.Proofs.Ytobfabfoenldfaa.PA Go.Proofs.YtobfabfoenldfaaW.PrintWords Go.Proofs.YtobfabfoenldfaaW.PrintLast Go.Proofs.YtobfabfoenldfaaW.PrintMore
theorem add_f (a : Addr) (i j : Nat) (h : j ≠ 0) : (⟨(a.add i).block, (a.add i).off + j, none⟩ : Addr) = a.add (i + j) := by
  rw [← Go.Proofs.YtobfabfoenldfaaW.PrintWords.add_add]
  generalize a.add i = b
  unfold Addr.add
  rw [if_neg h]
theorem it_at {w : World} {A : Option Addr} {l : List It} (h : itK.C w A l.length l) (i : Nat) (x : It) (hx : l[i]? = some x) :
    ∃ ad, A = some ad ∧ w.cell? (ad.add (i * 6)) = some (.int .u32 x.fi) ∧ w.cell? ⟨(ad.add (i * 6)).block, (ad.add (i * 6)).off + 1, none⟩ = some (.int .u16 x.fp) ∧ w.cell? ⟨(ad.add (i * 6)).block, (ad.add (i * 6)).off + 2, none⟩ = some (.int .u32 x.ti) ∧ w.cell? ⟨(ad.add (i * 6)).block, (ad.add (i * 6)).off + 3, none⟩ = some (.int .u16 x.tp) ∧ w.cell? ⟨(ad.add (i * 6)).block, (ad.add (i * 6)).off + 4, none⟩ = some (.string x.by_) ∧ w.cell? ⟨(ad.add (i * 6)).block, (ad.add (i * 6)).off + 5, none⟩ = some (.int .u64 x.t) := by
  obtain ⟨hi, he⟩ := List.getElem?_eq_some_iff.1 hx
  obtain ⟨ad, c, rfl, hc, hk, hcell⟩ := Kd.C_get h x (i : Int) (Int.natCast_nonneg i) (Int.ofNat_lt.2 hi)
  rw [Int.toNat_natCast, List.getD_eq_getElem?_getD, hx, Option.getD_some] at hk
  rw [itK_open hk, Int.toNat_natCast] at hcell
  refine ⟨ad, rfl, hcell 0 _ rfl, ?_, ?_, ?_, ?_, ?_⟩
  · rw [add_f _ _ _ (by decide)]; exact hcell 1 _ rfl
  · rw [add_f _ _ _ (by decide)]; exact hcell 2 _ rfl
  · rw [add_f _ _ _ (by decide)]; exact hcell 3 _ rfl
  · rw [add_f _ _ _ (by decide)]; exact hcell 4 _ rfl
  · rw [add_f _ _ _ (by decide)]; exact hcell 5 _ rfl
theorem bag_Ready (p : Nat) (l : List It) (room : Int) (u : Int) (w : World) (ok : Nat → Prop) (h : (bagA p l room ⋆ emp).H w ok) :
    Calls Try.prog 67 #[.pointer (some ⟨p, 0, none⟩), .int .u64 u] w fun e w' => e = .returned (.int .i64 (rdy l u : Int)) ∧ Sep w ok (bagA p l room ⋆ emp) w' := by
  obtain ⟨v, hs⟩ := bag_open (sep_begin h)
  obtain ⟨A, c, rfl, hc, hC⟩ := sep_row (sep_l1 hs)
  have hlen : l.length ≤ 9223372036854775807 := hC.2.1
  have HS := Aside0.mk hs
  obtain ⟨b1, b2, b3⟩ := facts2 hs
  clear hs hC hc h
  go_enter Try.func67, Try.ntmps67
  go_upto_region 3 with (fail)
  go_loopg [5, 13] l.length (fun gg v5 v13 wr => ∃ i : Nat, i ≤ l.length ∧ l.length - i ≤ gg ∧ v5 = .int .i64 (rdy (l.take i) u : Int) ∧ v13 = .int .i64 (i : Int) ∧ Aside0 (Sep w ok (pt p #[.slice A l.length c, .int .i64 room] 91 ⋆ row itK 79 (.slice A l.length c) l ⋆ emp) wr))
  case atStart => exact ⟨0, Nat.zero_le _, by omega, rfl, rfl, HS⟩
  case round =>
    clear HS b1 b2 b3
    obtain ⟨i, hi, hgi, rfl, rfl, HS⟩ := hrel
    obtain ⟨b1, b2, b3⟩ := facts2 HS.out
    by_cases hlt : i < l.length
    · have c1b : decide ((i : Int) < (l.length : Int)) = true := decide_eq_true (Int.ofNat_lt.2 hlt); have c1n : decide (i < l.length) = true := decide_eq_true hlt; have c1q : (i < l.length) = True := eq_true hlt; have p0_ := eq_true (Int.natCast_nonneg i)
      obtain ⟨x, hx⟩ : ∃ x, l[i]? = some x := ⟨_, List.getElem?_eq_getElem hlt⟩
      obtain ⟨ad, hA, k1, k2, k3, k4, k5, k6⟩ := it_at (sep_row' (sep_l1 HS.out)).2.2 i x hx
      subst hA
      go_upto_region 5 with (fail)
      have n_ := sep_alloc HS.out #[.int .u32 x.fi, .int .u16 x.fp, .int .u32 x.ti, .int .u16 x.tp, .string x.by_, .int .u64 x.t] 79
      have n0_ := Aside0.mk n_; clear HS n_; have HS := n0_; clear n0_
      generalize wr.alloc (.cells #[.int .u32 x.fi, .int .u16 x.fp, .int .u32 x.ti, .int .u16 x.tp, .string x.by_, .int .u64 x.t] 79) = wa at HS ⊢
      generalize wr.heap.size = g9 at HS ⊢
      clear k1 k2 k3 k4 k5 k6
      obtain ⟨k1, k2, k3, k4, k5, k6⟩ := facts6 HS.out
      have n_ := sep_drop HS.out
      have n0_ := Aside0.mk n_; clear HS n_; have HS := n0_; clear n0_
      have HI := Aside0.mk (And.intro hlt hgi)
      have hst : rdy (l.take (i + 1)) u = rdy (l.take i) u + (if x.t ≤ u then 1 else 0) := by
        rw [List.take_add_one, hx, rdy_append]; simp [rdy_cons, rdy_nil]
      have hle := rdy_le (l.take i) u
      rw [List.length_take] at hle
      have HK := Aside0.mk hle
      clear hle hlt hi hgi
      by_cases hxu : x.t ≤ u
      · have d1 : decide (x.t ≤ u) = true := decide_eq_true hxu
        rw [if_pos hxu] at hst
        have HT := Aside0.mk hst
        clear hxu hst
        go_wp2
        go_roundg (l.length - (i + 1))
        case measure => have := HI.out; omega
        case rel => exact ⟨i + 1, HI.out.1, Nat.le_refl _, congrArg (Value.int .i64) (by rw [HT.out]; have := HI.out; have := HK.out; unfold wrap64; omega), congrArg (Value.int .i64) (by have := HI.out; unfold wrap64; omega), HS⟩
      · have d1 : decide (x.t ≤ u) = false := decide_eq_false hxu
        rw [if_neg hxu] at hst
        have HT := Aside0.mk hst
        clear hxu hst
        go_wp2
        go_roundg (l.length - (i + 1))
        case measure => have := HI.out; omega
        case rel => exact ⟨i + 1, HI.out.1, Nat.le_refl _, congrArg (Value.int .i64) (by rw [HT.out]; rfl), congrArg (Value.int .i64) (by have := HI.out; unfold wrap64; omega), HS⟩
    · obtain rfl : i = l.length := by omega
      rw [List.take_length]
      have c2b : decide ((l.length : Int) < (l.length : Int)) = false := decide_eq_false (by omega)
      go_wp2
      go_ret
      exact ⟨rfl, bag_mk HS.out⟩
/-! ## find -/
def FindRel (w : World) (ok : Nat → Prop) (p : Nat) (l : List It) (room um : Int) (k0 : Nat) (A : Option Addr) (c : Nat) (kq : Nat) (v2 v6 : Value) (w' : World) : Prop :=
  ∃ i k : Nat, v2 = .int .i64 (k : Int) ∧ v6 = .int .i64 (i : Int) ∧ Aside0 (k < rdy (l.drop i) um) ∧ Aside0 (i + pos um (l.drop i) k = pos um l k0) ∧ Aside0 (l.length - i ≤ kq) ∧ Aside0 (Sep w ok (pt p #[.slice A l.length c, .int .i64 room] 91 ⋆ row itK 79 (.slice A l.length c) l ⋆ emp) w')
def findE (l : List It) (um pick : Int) : Int × Int := if pick < 0 then (0, 1) else if rdy l um = 0 then (0, 5) else ((pos um l (pick.toNat % rdy l um) : Nat), 0)
set_option maxRecDepth 100000 in
set_option maxHeartbeats 4000000 in
theorem bag_find (p : Nat) (l : List It) (room um pick : Int) (w : World) (ok : Nat → Prop) (hp : pick ≤ 9223372036854775807) (h : (bagA p l room ⋆ emp).H w ok) :
    Calls Try.prog 49 #[.pointer (some ⟨p, 0, none⟩), .int .u64 um, .int .i64 pick] w fun e w' => e = .returned (.tuple #[.int .i64 (findE l um pick).1, .int .i64 (findE l um pick).2]) ∧ Sep w ok (bagA p l room ⋆ emp) w' := by
  have HS := Aside0.mk (sep_begin h)
  have HP := Aside0.mk hp
  clear h hp
  obtain ⟨r, hr⟩ : ∃ r, findE l um pick = r := ⟨_, rfl⟩
  rw [hr]
  unfold findE at hr
  have HR := Aside0.mk hr
  clear hr
  go_enter Try.func49, Try.ntmps49
  go_upto_region 2 with (first | (refine Go.Proofs.YtobfabfoenldfaaX.wp_scope_k ?_; intro Jg hJg; have HJg := Aside0.mk hJg; clear hJg) | (go_at_call 67; obtain ⟨ok_, hp_, hk_⟩ := sep_use1 HS.out; have hx_ := bag_Ready p l room um _ ok_ hp_; (with_reducible refine Calls.mono hx_ ?_); rintro e w1 ⟨rfl, hq_⟩; have n_ := back1 hk_ hq_; clear hx_ hp_ hk_ hq_; have n0_ := Aside0.mk n_; clear HS n_; have HS := n0_; clear n0_))
  by_cases h0 : pick < 0
  · have e1 : decide (pick < 0) = true := decide_eq_true h0
    go_wp2
    (try rw [Go.Proofs.YtobfabfoenldfaaX.jumps_ret])
    go_ret2
    have hr := HR.out
    rw [if_pos (by omega)] at hr
    subst hr
    exact ⟨rfl, HS.out⟩
  · have e1 : decide (pick < 0) = false := decide_eq_false h0
    obtain ⟨k, rfl⟩ : ∃ k : Nat, pick = k := ⟨pick.toNat, by omega⟩
    rcases Nat.eq_zero_or_pos (rdy l um) with h1 | h1
    · have e2 : (((rdy l um : Nat) : Int) == 0) = true := by rw [h1]; rfl
      have e3 : decide (((rdy l um : Nat) : Int) = 0) = true := by rw [h1]; rfl
      have e4 := eq_true h1
      go_wp2
      (try rw [Go.Proofs.YtobfabfoenldfaaX.jumps_ret])
      go_ret2
      have hr := HR.out
      rw [if_neg (by omega), if_pos h1] at hr
      subst hr
      exact ⟨rfl, HS.out⟩
    · have e2 : (((rdy l um : Nat) : Int) == 0) = false := by simp; omega
      have e3 : decide (((rdy l um : Nat) : Int) = 0) = false := decide_eq_false (by omega)
      have e4 : (rdy l um = 0) = False := eq_false (by omega)
      have hr := HR.out
      rw [if_neg h0, if_neg (by omega), Int.toNat_natCast] at hr
      clear HR
      have HR := Aside0.mk hr
      clear hr
      have hm : k % rdy l um < rdy l um := Nat.mod_lt _ h1
      have m1 : ((k : Int) % ((rdy l um : Nat) : Int)) = ((k % rdy l um : Nat) : Int) := rfl
      go_wp2
      obtain ⟨v, hs⟩ := bag_open HS.out
      obtain ⟨A, c, rfl, hc, hC⟩ := sep_row (sep_l1 hs)
      have HLN := Aside0.mk hC.2.1
      clear HS hc hC
      have HS := Aside0.mk hs
      clear hs
      generalize k % rdy l um = k0 at HR hm m1
      rw [m1]
      clear m1 e1 e2 e3 e4
      refine wp_label ?_
      go_step
      (first | (show Code.wp _ _ _ _ _) | go_step)
      refine Go.Proofs.YtobfabfoenldfaaX.wp_label_ghost 0 [2, 6, 19, 20, 21, 22, 23, 24, 25, 26, 27, 28, 29, 30, 31, 32, 33, 34, 35, 36, 37] (fun kq u w' => (FindRel w ok p l room um k0 A c) kq (u 2) (u 6) w') (l.length) ?hJ ?atStart ?round
      case hJ => exact fun a w h => HJg.out _ _ _ _ rfl (Go.Proofs.YtobfabfoenldfaaX.wp_skip_seq h)
      case atStart => exact ⟨0, k0, rfl, rfl, ⟨by rw [List.drop_zero]; exact hm⟩, ⟨by rw [List.drop_zero, Nat.zero_add]⟩, ⟨by omega⟩, HS⟩
      case round =>
        clear HS
        intro gk u wr hrel Ji hI hH
        have hL : ∀ (kq : Nat) (u2 u6 u19 u20 u21 u22 u23 u24 u25 u26 u27 u28 u29 u30 u31 u32 u33 u34 u35 u36 u37 : Value) (w' : World), (FindRel w ok p l room um k0 A c) kq u2 u6 w' → Ji kq ⟨Go.Proofs.YtobfabfoenldfaaX.setAll _ [2, 6, 19, 20, 21, 22, 23, 24, 25, 26, 27, 28, 29, 30, 31, 32, 33, 34, 35, 36, 37] (Go.Proofs.YtobfabfoenldfaaX.sel [(2, u2), (6, u6), (19, u19), (20, u20), (21, u21), (22, u22), (23, u23), (24, u24), (25, u25), (26, u26), (27, u27), (28, u28), (29, u29), (30, u30), (31, u31), (32, u32), (33, u33), (34, u34), (35, u35), (36, u36), (37, u37)]), _⟩ w' := fun kq u2 u6 u19 u20 u21 u22 u23 u24 u25 u26 u27 u28 u29 u30 u31 u32 u33 u34 u35 u36 u37 w' h => hI kq _ w' ⟨Go.Proofs.YtobfabfoenldfaaX.sel [(2, u2), (6, u6), (19, u19), (20, u20), (21, u21), (22, u22), (23, u23), (24, u24), (25, u25), (26, u26), (27, u27), (28, u28), (29, u29), (30, u30), (31, u31), (32, u32), (33, u33), (34, u34), (35, u35), (36, u36), (37, u37)], h, rfl⟩
        clear hI
        simp only [Go.Proofs.YtobfabfoenldfaaX.setAll, Go.Proofs.YtobfabfoenldfaaX.sel, Nat.reduceEqDiff, ↓reduceIte, List.setIfInBounds_toArray, List.set_cons_zero, List.set_cons_succ] at hL
        simp only [Go.Proofs.YtobfabfoenldfaaX.setAll, Go.Proofs.YtobfabfoenldfaaX.sel, Nat.reduceEqDiff, ↓reduceIte, List.setIfInBounds_toArray, List.set_cons_zero, List.set_cons_succ]
        generalize u 2 = u2 at hrel ⊢
        generalize u 6 = u6 at hrel ⊢
        generalize u 19 = u19 at hrel ⊢
        generalize u 20 = u20 at hrel ⊢
        generalize u 21 = u21 at hrel ⊢
        generalize u 22 = u22 at hrel ⊢
        generalize u 23 = u23 at hrel ⊢
        generalize u 24 = u24 at hrel ⊢
        generalize u 25 = u25 at hrel ⊢
        generalize u 26 = u26 at hrel ⊢
        generalize u 27 = u27 at hrel ⊢
        generalize u 28 = u28 at hrel ⊢
        generalize u 29 = u29 at hrel ⊢
        generalize u 30 = u30 at hrel ⊢
        generalize u 31 = u31 at hrel ⊢
        generalize u 32 = u32 at hrel ⊢
        generalize u 33 = u33 at hrel ⊢
        generalize u 34 = u34 at hrel ⊢
        generalize u 35 = u35 at hrel ⊢
        generalize u 36 = u36 at hrel ⊢
        generalize u 37 = u37 at hrel ⊢
        clear u
        obtain ⟨i, k1, rfl, rfl, HK, HE, HM, HS⟩ := hrel
        obtain ⟨b1, b2, b3⟩ := facts2 HS.out
        have hlt := rdy_lt HK.out
        obtain ⟨x, hx⟩ : ∃ x, l[i]? = some x := ⟨_, List.getElem?_eq_getElem hlt⟩
        have HX := Aside0.mk (pos_drop (u := um) (k := k1) hx)
        have c1b : decide ((i : Int) < (l.length : Int)) = true := decide_eq_true (Int.ofNat_lt.2 hlt); have c1n : decide (i < l.length) = true := decide_eq_true hlt; have c1q : (i < l.length) = True := eq_true hlt; have p0_ := eq_true (Int.natCast_nonneg i)
        obtain ⟨ad, hA, q1, q2, q3, q4, q5, q6⟩ := it_at (sep_row' (sep_l1 HS.out)).2.2 i x hx
        subst hA
        have HI := Aside0.mk hlt
        clear hlt
        clear hx
        by_cases hxu : x.t ≤ um
        · have d1 : decide (um < x.t) = false := decide_eq_false (by omega)
          have d2 : (um < x.t) = False := eq_false (by omega)
          rcases Nat.eq_zero_or_pos k1 with hk | hk
          · subst hk
            have HU := Aside0.mk (HX.out.1 hxu rfl)
            clear hxu
            go_wp2
            (try rw [Go.Proofs.YtobfabfoenldfaaX.jumps_ret])
            go_ret2
            have hr := HR.out
            rw [← HE.out, HU.out, Nat.add_zero] at hr
            subst hr
            exact ⟨rfl, bag_mk HS.out⟩
          · have d3 : decide (0 < k1) = true := decide_eq_true hk
            have d4 : decide ((0 : Int) < (k1 : Int)) = true := decide_eq_true (by omega)
            have d5 := eq_true hk
            have HU := Aside0.mk (HX.out.2.1 hxu hk)
            have HH := Aside0.mk hk
            clear hxu hk
            go_wp2
            refine wp_goto ?_
            refine hH _ _ ?_
            refine Handed.intro (l.length - (i + 1)) ?measure ?_
            rotate_left
            refine hL _ _ _ _ _ _ _ _ _ _ _ _ _ _ _ _ _ _ _ _ _ _ _ ?rel
            case measure => have := HI.out; have := HM.out; omega
            case rel => exact ⟨i + 1, k1 - 1, congrArg (Value.int .i64) (by have := HH.out; have := HK.out; have := HLN.out; have := rdy_le (l.drop i) um; rw [List.length_drop] at this; unfold wrap64; omega), congrArg (Value.int .i64) (by have := HI.out; have := HLN.out; unfold wrap64; omega), ⟨HU.out.2 HK.out⟩, ⟨by have := HE.out; rw [HU.out.1] at this; omega⟩, ⟨Nat.le_refl _⟩, HS⟩
        · have d1 : decide (um < x.t) = true := decide_eq_true (by omega)
          have HU := Aside0.mk (HX.out.2.2 hxu)
          clear hxu
          go_wp2
          refine wp_goto ?_
          refine hH _ _ ?_
          refine Handed.intro (l.length - (i + 1)) ?measure ?_
          rotate_left
          refine hL _ _ _ _ _ _ _ _ _ _ _ _ _ _ _ _ _ _ _ _ _ _ _ ?rel
          case measure => have := HI.out; have := HM.out; omega
          case rel => exact ⟨i + 1, k1, rfl, congrArg (Value.int .i64) (by have := HI.out; have := HLN.out; unfold wrap64; omega), ⟨HU.out.2 HK.out⟩, ⟨by have := HE.out; rw [HU.out.1] at this; omega⟩, ⟨Nat.le_refl _⟩, HS⟩
end Go.Proofs.Ytobfabfoenldfaa.BG
/- The bag: slices.Delete of one, away, Take, Drop. Conditions: those that each theorem names. -/
namespace Go.Proofs.Ytobfabfoenldfaa.BG
set_option linter.unusedVariables false
set_option linter.unusedSimpArgs false
open Go Go.RowKit Go.Proofs.YtobfabfoenldfaaS Go.Proofs.YtobfabfoenldfaaS.Asn Go.Proofs.Ytobfabfoenldfaa.PA Go.Proofs.YtobfabfoenldfaaW.PrintWords Go.Proofs.YtobfabfoenldfaaW.PrintLast Go.Proofs.YtobfabfoenldfaaW.PrintMore
/-- Writing behind a row's end, in its own block, leaves the row. -/
theorem R_spare {α : Type} (d : Kd α) {e : Nat} {W : World} {base : Nat} {ok : Nat → Prop} {g n c : Nat} {xs : List α} (HO : d.R e W base ok (.slice (some ⟨g, 0, none⟩) n c) xs) (o : Nat) (vs : List Value) (ho : n * d.sz ≤ o) (hfit : o + vs.length ≤ c * d.sz) :
    d.R e (W.setCells g o vs) base ok (.slice (some ⟨g, 0, none⟩) n c) xs ∧ W.grownBy (W.setCells g o vs) (some g) := by
  obtain ⟨hn, hnc, _⟩ := Kd.R_reads' HO
  obtain ⟨hok, inner, hown, hr⟩ := HO
  rcases hown.2 with ⟨hv, _⟩ | ⟨g', cap', cur, hv, hb, hh, hnc', hcm, hcs, htake⟩
  · cases hv
  injection hv with ha _ hc
  injection ha with ha
  injection ha with hg
  subst hg; subst hc
  obtain ⟨cur', h3, h4, h5⟩ := setCells_row vs o W cur hh (by omega)
  obtain ⟨s1, s2, s3, s4⟩ := setCells_same g vs o W
  have hfar : ∀ k', k' ≠ g → (W.setCells g o vs).heap[k']? = W.heap[k']? := fun k' hk' => setCells_far vs _ k' hk'
  refine ⟨⟨hok, inner, ⟨hown.1, .inr ⟨g, c, cur', by rw [hn], hb, h3, hnc', hcm, by rw [h4, hcs], ?_⟩⟩, hr.imp_ (fun p q hp => d.M_move (fun k' hk' => hfar k' (fun he => hk'.2 (by rw [he]; rfl))) hp)⟩, ⟨s1, s2, s3, by rw [s4]; exact Nat.le_refl _, fun k' _ hk' => hfar k' (fun he => hk' (by rw [he]))⟩⟩
  rw [h5, ← htake]
  rw [hn] at ho
  have hlen : cur.toList.length = c * d.sz := by rw [Array.length_toList, hcs]
  rw [List.append_assoc, List.take_append_of_le_length (by rw [List.length_take]; omega), List.take_take, Nat.min_eq_left ho]
theorem R_block {α : Type} {d : Kd α} {e : Nat} {W : World} {base : Nat} {ok : Nat → Prop} {g n c : Nat} {xs : List α} (HO : d.R e W base ok (.slice (some ⟨g, 0, none⟩) n c) xs) : ∃ cur, W.heap[g]? = some (.cells cur e (0, 0)) ∧ cur.size = c * d.sz := by
  obtain ⟨hok, inner, hown, hr⟩ := HO
  rcases hown.2 with ⟨hv, _⟩ | ⟨g', cap', cur, hv, hb, hh, hnc', hcm, hcs, htake⟩
  · cases hv
  injection hv with ha _ hc
  injection ha with ha
  injection ha with hg
  subst hg; subst hc
  exact ⟨cur, hh, hcs⟩
theorem zero79 (w : World) : (zeroValue 79).run Try.prog w = .ok z79 w := by kernel_rfl
theorem clear79 (W : World) (ty : TypeId) (g o m : Nat) (cur : Array Value) (hh : W.heap[g]? = some (.cells cur 79 (0, 0))) (hfit : o + 6 ≤ cur.size) :
    (Builtin.clear_ #[89] ty #[.slice (some ⟨g, o, none⟩) 1 m]).run Try.prog W = .ok (.tuple #[]) (W.setCells g o z79.cells.toList) := by
  have hzc : (Builtin.zeroCells z79.cells 1).toList = z79.cells.toList := by kernel_rfl
  have hst := run_storeCells_cells (P := Try.prog) g o z79.cells.toList 0 W (fun j hj => by rw [Nat.add_zero, blk_cell hh]; simp; have : j < 6 := hj; omega) (fun j hj => blk_frozen hh _) (by decide +kernel)
  simp only [Nat.add_zero] at hst
  simp [Builtin.clear_, run_underlying Try.underlying89, zero79]
  show ((Sem.run Try.prog (storeCells ⟨g, o, none⟩ (Builtin.zeroCells z79.cells 1).toList) W).andThen _) = _
  rw [hzc, hst]
  rfl
theorem cut3 (A : Option Addr) (n c : Nat) (lo hi mx : Int) (h0 : 0 ≤ lo) (h1 : lo ≤ hi) (h2 : hi ≤ mx) (h3 : mx ≤ c) : ∃ v, ∀ W : World, (Instr.slice 89 (.slice A n c) (some (.int .i64 lo)) (some (.int .i64 hi)) (some (.int .i64 mx))).run Try.prog W = .ok v W := by
  have hel : Try.prog.elem 89 = 79 := by kernel_rfl
  have hu : Try.prog.underlying 89 = some (.slice (Try.prog.elem 89)) := by rw [hel]; exact Try.underlying89
  obtain ⟨i0, hi0, -⟩ := Option.map_eq_some_iff.1 info79
  refine ⟨sliced A lo.toNat hi.toNat mx.toNat i0.size, fun W => ?_⟩
  rw [run_slice_lhm W 89 A n c hu .i64 .i64 .i64 lo hi mx h0 h1 h2 h3, hel]
  simp [sizeOf, typeInfo, hi0, Result.andThen]
theorem cut_over (t e : TypeId) (kl kh : IntKind) {i : TypeInfo} (ht : Try.prog.underlying t = some (.slice e)) (hi : Try.prog.info? e = some i) (size : Nat) (hsz : i.size = size) (A : Option Addr) (n c : Nat) (lo hi' : Int) (h0 : 0 ≤ lo) (h1 : lo ≤ hi') (hc : hi' ≤ c) :
    ∀ W : World, (Instr.slice t (.slice A n c) (some (.int kl lo)) (some (.int kh hi')) none).run Try.prog W = .ok (.slice (if c = lo.toNat then A else A.map (·.add (lo.toNat * size))) (hi'.toNat - lo.toNat) (c - lo.toNat)) W := by
  intro W
  have hel : Try.prog.elem t = e := by simp [Program.elem, ht]
  have hu : Try.prog.underlying t = some (.slice (Try.prog.elem t)) := by rw [hel]; exact ht
  rw [run_slice_lh W t A n c hu kl kh lo hi' h0 h1 hc, hel]
  simp [sizeOf, typeInfo, hi, hsz, sliced, Result.andThen]
section
variable {P : Program} {ops : Array Oper} {rest : List Oper} {o : Oper} {a : Act} {Q : Exit → Act → World → Prop} {α : Type} {w0 W : World} {ok0 : Nat → Prop} {F : Asn}
theorem step_delete {Kc : Act → World → Prop} (d : Kd α) (hw : Region.wanted o (yielded ops a.tmps) = true) (s x : Operand) (t e : TypeId) (ho : o.op = .call { callee := .builtin .append, args := #[s, x], argTypes := #[t, t] })
    (ht : P.underlying t = some (.slice e)) (hinfo : (P.info? e).map (·.size) = some d.sz) {g n c k m c2 : Nat} {A : Option Addr} {xs : List α}
    (hs : a.eval s = .slice (some ⟨g, 0, none⟩) k c) (hx : a.eval x = .slice A m c2) (hA : A = if c = k + 1 then some ⟨g, 0, none⟩ else (some (⟨g, 0, none⟩ : Addr)).map (·.add ((k + 1) * d.sz))) (hm : m = n - (k + 1))
    (HS : Sep w0 ok0 (row d e (.slice (some ⟨g, 0, none⟩) n c) xs ⋆ F) W) (hk : k < n)
    (h : ∀ w1, Sep w0 ok0 (row d e (.slice (some ⟨g, 0, none⟩) (n - 1) c) (xs.eraseIdx k) ⋆ F) w1 → Kc (a.put o.dst (.slice (some ⟨g, 0, none⟩) (n - 1) c)) w1) :
    if Region.wanted o (yielded ops a.tmps) = true then Oper.wp P o a W Kc Q else Kc (a.put o.dst undef) W := by
  obtain ⟨ok, hr, hh⟩ := sep_grown HS
  exact Kd.R_delete_step d (w0 := W) 0 hw s x t e ho ht hinfo hs hx hA hm hr hk (Below.refl _ _) (Nat.zero_le _) (fun w1 hr1 hb hg => h w1 (hh _ w1 _ (Kd.R_mono hr1 (fun k hk => .inl hk)) hb hg))
theorem sep_spare (d : Kd α) {e g n c : Nat} {xs : List α} (HS : Sep w0 ok0 (row d e (.slice (some ⟨g, 0, none⟩) n c) xs ⋆ F) W) (o : Nat) (vs : List Value) (ho : n * d.sz ≤ o) (hfit : o + vs.length ≤ c * d.sz) :
    Sep w0 ok0 (row d e (.slice (some ⟨g, 0, none⟩) n c) xs ⋆ F) (W.setCells g o vs) := by
  obtain ⟨ok, hr, hh⟩ := sep_grown HS
  obtain ⟨h1, h2⟩ := R_spare d hr o vs ho hfit
  exact hh _ _ _ (Kd.R_mono h1 (fun k hk => .inl hk)) ⟨h2.os, h2.tape, h2.output, h2.size, fun k hk => absurd hk (Nat.not_lt_zero _)⟩ h2
theorem sep_block (d : Kd α) {e g n c : Nat} {xs : List α} (HS : Sep w0 ok0 (row d e (.slice (some ⟨g, 0, none⟩) n c) xs ⋆ F) W) : ∃ cur, W.heap[g]? = some (.cells cur e (0, 0)) ∧ cur.size = c * d.sz := by
  obtain ⟨ok, hr, hh⟩ := sep_grown HS
  exact R_block hr
end
set_option maxRecDepth 100000 in
theorem item_Delete (A : Option Addr) (c : Nat) (l : List It) (k : Nat) (j : Int) (w : World) (ok : Nat → Prop) (hj : j = (k : Int) + 1) (hk : k < l.length) (h : (row itK 79 (.slice A l.length c) l ⋆ emp).H w ok) :
    Calls Try.prog 63 #[.slice A l.length c, .int .i64 (k : Int), .int .i64 j] w fun e w' => ∃ v, e = .returned v ∧ Sep w ok (row itK 79 v (l.eraseIdx k) ⋆ emp) w' := by
  have hs := sep_begin h
  obtain ⟨A', c', e', hc, hC⟩ := sep_row hs
  cases e'
  have hlen : l.length ≤ 9223372036854775807 := hC.2.1
  obtain ⟨g, hA⟩ : ∃ g, A = some ⟨g, 0, none⟩ := by
    obtain ⟨_, _, ⟨_, _, hr, _⟩, _⟩ := hs
    obtain ⟨g, cap, he, -⟩ := Kd.R_form hr (by omega)
    cases he
    exact ⟨g, rfl⟩
  subst hA
  obtain ⟨i0, hi0, hz_⟩ := Option.map_eq_some_iff.1 info79
  have hsz0 : i0.size = 6 := by injection hz_ with _ h1; injection h1 
  obtain ⟨v3, hcut3⟩ := cut3 (some ⟨g, 0, none⟩) l.length c (k : Int) j (l.length : Int) (by omega) (by omega) (by omega) (by omega)
  have hcutA : ∀ W : World, (Instr.slice 89 (.slice (some ⟨g, 0, none⟩) l.length c) none (some (.int .i64 (k : Int))) none).run Try.prog W = .ok (.slice (some ⟨g, 0, none⟩) k c) W := cut_to (P := Try.prog) 89 79 .i64 Try.underlying89 hi0 (some ⟨g, 0, none⟩) l.length c (k : Int) (by omega) (by omega) hc
  obtain ⟨A2, hA2⟩ : ∃ A2, A2 = if c = k + 1 then some ⟨g, 0, none⟩ else (some (⟨g, 0, none⟩ : Addr)).map (·.add ((k + 1) * 6)) := ⟨_, rfl⟩
  have hjn : j.toNat = k + 1 := by omega
  have hcutB : ∀ W : World, (Instr.slice 89 (.slice (some ⟨g, 0, none⟩) l.length c) (some (.int .i64 j)) none none).run Try.prog W = .ok (.slice A2 (l.length - (k + 1)) (c - (k + 1))) W := by
    have := cut_from (P := Try.prog) 89 79 .i64 Try.underlying89 hi0 6 hsz0 (some ⟨g, 0, none⟩) l.length c j (by omega) (by omega)
    rw [hjn, ← hA2] at this
    exact this
  have hcutC : ∀ W : World, (Instr.slice 89 (.slice (some ⟨g, 0, none⟩) (l.length - 1) c) (some (.int .i64 ((l.length - 1 : Nat) : Int))) (some (.int .i64 (l.length : Int))) none).run Try.prog W = .ok (.slice (some ⟨g, (l.length - 1) * 6, none⟩) 1 (c - (l.length - 1))) W := by
    have := cut_over 89 79 .i64 .i64 Try.underlying89 hi0 6 hsz0 (some ⟨g, 0, none⟩) (l.length - 1) c ((l.length - 1 : Nat) : Int) (l.length : Int) (by omega) (by omega) (by omega)
    rw [Int.toNat_natCast, Int.toNat_natCast, if_neg (by omega), Option.map_some, add_at, Nat.zero_add, show l.length - (l.length - 1) = 1 by omega] at this
    exact this
  have HA := Aside0.mk hA2
  have HC := Aside0.mk hc
  have HL := Aside0.mk hlen
  have HK := Aside0.mk hk
  have HS := Aside0.mk hs
  have t1 : decide ((k : Int) = j) = false := decide_eq_false (by omega)
  have t2 : ((k : Int) == j) = false := by simp; omega
  have t3 : ((k : Int) = j) = False := eq_false (by omega)
  clear hz_ hsz0 hi0 hA2 hjn hc hlen hk hs hC h hj
  go_enter Try.func63, Try.ntmps63
  go_upto_region 5 with (fail)
  replace HS := Aside0.mk (sep_drew HS.out)
  (first | go_region_held3 (fun _ => True) (exact trivial) (first | (refine step_delete (F := emp) (w0 := w) (ok0 := ok) (n := l.length) (k := k) itK (by rfl) (.tmp 22) (.tmp 25) 89 79 rfl Try.underlying89 (by kernel_rfl) (g := g) (c := c) (m := l.length - (k + 1)) (c2 := c - (k + 1)) (A := A2) rfl rfl HA.out rfl HS.out HK.out (fun w1 hs_ => ?_); clear HS; have HS := Aside0.mk hs_; clear hs_)) | fail)
  obtain ⟨cur, hcur, hcs⟩ := sep_block itK HS.out
  have hclr := fun ty => clear79 w1 ty g ((l.length - 1) * 6) (c - (l.length - 1)) cur hcur (by rw [hcs]; have := HC.out; have := HK.out; show _ ≤ c * 6; omega)
  have HF := Aside0.mk (sep_spare itK HS.out ((l.length - 1) * 6) z79.cells.toList (Nat.le_refl _) (by have := HC.out; have := HK.out; show _ + 6 ≤ c * 6; omega))
  clear hcur hcs HS
  generalize z79.cells.toList = zs at hclr HF
  go_wp2
  go_ret
  exact ⟨_, rfl, HF.out⟩
end Go.Proofs.Ytobfabfoenldfaa.BG
/- The bag: away, Take, Drop, Twice. Conditions: those that each theorem names. -/
namespace Go.Proofs.Ytobfabfoenldfaa.BG
set_option linter.unusedVariables false
set_option linter.unusedSimpArgs false
open Go Go.RowKit Go.Proofs.YtobfabfoenldfaaS Go.Proofs.YtobfabfoenldfaaS.Asn Go.Proofs.Ytobfabfoenldfaa.PA Go.Proofs.YtobfabfoenldfaaW.PrintWords Go.Proofs.YtobfabfoenldfaaW.PrintLast Go.Proofs.YtobfabfoenldfaaW.PrintMore
def It.zero : It := ⟨0, 0, 0, 0, ⟨#[]⟩, 0⟩
def It.val (x : It) : Value := .agg #[.int .u32 x.fi, .int .u16 x.fp, .int .u32 x.ti, .int .u16 x.tp, .string x.by_, .int .u64 x.t]
def awayE (l : List It) (u pick : Int) : It × Int × List It := if (findE l u pick).2 = 0 then (l.getD (findE l u pick).1.toNat It.zero, 0, l.eraseIdx (findE l u pick).1.toNat) else (It.zero, (findE l u pick).2, l)
theorem findE_lt {l : List It} {u pick : Int} (h : (findE l u pick).2 = 0) : ∃ k : Nat, (findE l u pick).1 = k ∧ k < l.length := by
  unfold findE at h ⊢
  by_cases h0 : pick < 0
  · rw [if_pos h0] at h; cases h
  · by_cases h1 : rdy l u = 0
    · rw [if_neg h0, if_pos h1] at h; cases h
    · rw [if_neg h0, if_neg h1]
      exact ⟨_, rfl, (pos_lt (Nat.mod_lt _ (by omega))).1⟩
theorem facts6f {w0 w : World} {ok0 : Nat → Prop} {F : Asn} {g : Nat} {t : TypeId} {a b c d e f : Value} (h : Sep w0 ok0 (pt g #[a, b, c, d, e, f] t ⋆ F) w) :
    w.frozen? ⟨g, 0, none⟩ = false ∧ w.frozen? ⟨g, 1, none⟩ = false ∧ w.frozen? ⟨g, 2, none⟩ = false ∧ w.frozen? ⟨g, 3, none⟩ = false ∧ w.frozen? ⟨g, 4, none⟩ = false ∧ w.frozen? ⟨g, 5, none⟩ = false :=
  ⟨sep_frozen h 0, sep_frozen h 1, sep_frozen h 2, sep_frozen h 3, sep_frozen h 4, sep_frozen h 5⟩
theorem sep_set6 {w0 w : World} {ok0 : Nat → Prop} {F : Asn} {g : Nat} {t : TypeId} {a b c d e f : Value} (h : Sep w0 ok0 (pt g #[a, b, c, d, e, f] t ⋆ F) w) (a' b' c' d' e' f' : Value) :
    Sep w0 ok0 (pt g #[a', b', c', d', e', f'] t ⋆ F) ((((((w.setCell ⟨g, 0, none⟩ a').setCell ⟨g, 1, none⟩ b').setCell ⟨g, 2, none⟩ c').setCell ⟨g, 3, none⟩ d').setCell ⟨g, 4, none⟩ e').setCell ⟨g, 5, none⟩ f') :=
  sep_set (sep_set (sep_set (sep_set (sep_set (sep_set h 0 a') 1 b') 2 c') 3 d') 4 e') 5 f'
set_option maxHeartbeats 1000000 in
set_option maxRecDepth 100000 in
theorem bag_away (p : Nat) (l : List It) (room u pick : Int) (w : World) (ok : Nat → Prop) (hp : pick ≤ 9223372036854775807) (h : (bagA p l room ⋆ emp).H w ok) :
    Calls Try.prog 46 #[.pointer (some ⟨p, 0, none⟩), .int .u64 u, .int .i64 pick] w fun e w' => e = .returned (.tuple #[(awayE l u pick).1.val, .int .i64 (awayE l u pick).2.1]) ∧ Sep w ok (bagA p (awayE l u pick).2.2 room ⋆ emp) w' := by
  have HS := Aside0.mk (sep_begin h)
  have HP := Aside0.mk hp
  clear h hp
  obtain ⟨r, hr⟩ : ∃ r, awayE l u pick = r := ⟨_, rfl⟩
  rw [hr]
  unfold awayE at hr
  have HR := Aside0.mk hr
  have hfl := findE_lt (l := l) (u := u) (pick := pick)
  have HFL := Aside0.mk hfl
  obtain ⟨f1, hf1⟩ : ∃ f, findE l u pick = f := ⟨_, rfl⟩
  obtain ⟨fa, fe⟩ := f1
  have HF := Aside0.mk hf1
  clear hr hfl hf1
  go_enter Try.func46, Try.ntmps46
  go_upto_region 1 with (fail)
  have n_ := sep_alloc HS.out #[.int .u32 0, .int .u16 0, .int .u32 0, .int .u16 0, .string ⟨#[]⟩, .int .u64 0] 79
  have n0_ := Aside0.mk n_; clear HS n_; have HS := n0_; clear n0_
  generalize w.alloc (.cells #[.int .u32 0, .int .u16 0, .int .u32 0, .int .u16 0, .string ⟨#[]⟩, .int .u64 0] 79) = wa at HS ⊢
  generalize w.heap.size = g6 at HS ⊢
  go_upto_region 2 with (go_at_call 49; obtain ⟨ok_, hp_, hk_⟩ := sep_use1 (sep_l1 HS.out); have hx_ := bag_find p l room u pick _ ok_ HP.out hp_; rw [HF.out] at hx_; (with_reducible refine Calls.mono hx_ ?_); rintro e w1 ⟨rfl, hq_⟩; have n_ := sep_l1 (back1 hk_ hq_); clear hx_ hp_ hk_ hq_; have n0_ := Aside0.mk n_; clear HS n_; have HS := n0_; clear n0_)
  obtain ⟨k1, k2, k3, k4, k5, k6⟩ := facts6 HS.out
  obtain ⟨q1, q2, q3, q4, q5, q6⟩ := facts6f HS.out
  have hr := HR.out
  have hfl := HFL.out
  rw [HF.out] at hr hfl
  clear HR HFL HF
  by_cases h0 : fe = 0
  · subst h0
    rw [if_pos rfl] at hr
    obtain ⟨k, hk, hkl⟩ := hfl rfl
    have hk' : fa = k := hk
    subst hk'
    clear hk
    obtain ⟨x, hx⟩ : ∃ x, l[k]? = some x := ⟨_, List.getElem?_eq_getElem hkl⟩
    rw [show ((k : Int)).toNat = k from Int.toNat_natCast k, List.getD_eq_getElem?_getD, hx, Option.getD_some] at hr
    obtain ⟨v, n_⟩ := bag_open (sep_l1 HS.out)
    obtain ⟨A, c, rfl, -, hC⟩ := sep_row (sep_l1 n_)
    have HLN := Aside0.mk hC.2.1
    obtain ⟨ad, hA, m1, m2, m3, m4, m5, m6⟩ := it_at hC k x hx
    subst hA
    obtain ⟨b1, b2, b3⟩ := facts2 n_
    have c1b : decide ((k : Int) < (l.length : Int)) = true := decide_eq_true (Int.ofNat_lt.2 hkl); have c1n : decide (k < l.length) = true := decide_eq_true hkl; have c1q : (k < l.length) = True := eq_true hkl; have p0_ := eq_true (Int.natCast_nonneg k)
    have HK := Aside0.mk hkl
    have HRR := Aside0.mk hr
    clear hfl hr hC hx hkl
    have n0_ := Aside0.mk n_; clear HS n_; have HS := n0_; clear n0_
    go_upto_region 5 with (fail)
    have n_ := sep_alloc HS.out #[.int .u32 x.fi, .int .u16 x.fp, .int .u32 x.ti, .int .u16 x.tp, .string x.by_, .int .u64 x.t] 79
    have n0_ := Aside0.mk n_; clear HS n_; have HS := n0_; clear n0_
    generalize w1.alloc (.cells #[.int .u32 x.fi, .int .u16 x.fp, .int .u32 x.ti, .int .u16 x.tp, .string x.by_, .int .u64 x.t] 79) = wb at HS ⊢
    generalize w1.heap.size = g10 at HS ⊢
    clear m1 m2 m3 m4 m5 m6 k1 k2 k3 k4 k5 k6 q1 q2 q3 q4 q5 q6 b1 b2 b3
    obtain ⟨b1, b2, b3⟩ := facts2 (sep_l1 HS.out)
    go_upto_region 6 with (go_at_call 63; obtain ⟨ok_, hp_, hk_⟩ := sep_use1 (sep_l2 HS.out); have hx_ := item_Delete (some ad) c l k (wrap64 ((k : Int) + 1)) _ ok_ (by have := HLN.out; have := HK.out; unfold wrap64; omega) HK.out hp_; generalize l.eraseIdx k = l2 at hx_ HRR; (with_reducible refine Calls.mono hx_ ?_); rintro e w2 ⟨v2, rfl, hq_⟩; have n_ := back1 hk_ hq_; clear hx_ hp_ hk_ hq_ b1 b2 b3; obtain ⟨A2, c2, rfl, -, -⟩ := sep_row n_; have n0_ := Aside0.mk n_; clear HS n_; have HS := n0_; clear n0_; obtain ⟨b1, b2, b3⟩ := facts2 (sep_l2 HS.out))
    have n_ := bag_mk (sep_set (sep_l2 HS.out) 0 (.slice A2 l2.length c2))
    have n0_ := Aside0.mk n_; clear HS n_; have HS := n0_; clear n0_
    generalize w2.setCell ⟨p, 0, none⟩ (.slice A2 l2.length c2) = w3 at HS ⊢
    clear b1 b2 b3
    obtain ⟨k1, k2, k3, k4, k5, k6⟩ := facts6 (sep_l1 HS.out)
    obtain ⟨m1, m2, m3, m4, m5, m6⟩ := facts6 (sep_l2 HS.out)
    obtain ⟨q1, q2, q3, q4, q5, q6⟩ := facts6f (sep_l2 HS.out)
    go_wp2
    have n_ := sep_set6 (sep_l2 HS.out) (.int .u32 x.fi) (.int .u16 x.fp) (.int .u32 x.ti) (.int .u16 x.tp) (.string x.by_) (.int .u64 x.t)
    refine bodyPost_ret (results_ct rfl _ _ g6 79 #[.int .u32 x.fi, .int .u16 x.fp, .int .u32 x.ti, .int .u16 x.tp, .string x.by_, .int .u64 x.t] (0, 0) _ rfl (sep_pt n_) Try.underlying79 rfl (by kernel_rfl)) rfl ?_
    have hr := HRR.out
    subst hr
    exact ⟨rfl, sep_drop (sep_l1 (sep_drop n_))⟩
  · rw [if_neg h0] at hr
    have t1 : decide (fe = 0) = false := decide_eq_false h0
    have t2 : (fe == 0) = false := by simpa using h0
    have t3 := eq_false h0
    clear hfl
    go_wp2
    have n_ := sep_set6 HS.out (.int .u32 0) (.int .u16 0) (.int .u32 0) (.int .u16 0) (.string ⟨#[]⟩) (.int .u64 0)
    refine bodyPost_ret (results_ct rfl _ _ g6 79 #[.int .u32 It.zero.fi, .int .u16 It.zero.fp, .int .u32 It.zero.ti, .int .u16 It.zero.tp, .string It.zero.by_, .int .u64 It.zero.t] (0, 0) _ rfl (sep_pt n_) Try.underlying79 rfl (by kernel_rfl)) rfl ?_
    subst hr
    exact ⟨rfl, sep_drop n_⟩
set_option maxHeartbeats 1000000 in
set_option maxRecDepth 100000 in
theorem bag_Take (p : Nat) (l : List It) (room u pick : Int) (w : World) (ok : Nat → Prop) (hp : pick ≤ 9223372036854775807) (h : (bagA p l room ⋆ emp).H w ok) :
    Calls Try.prog 31 #[.pointer (some ⟨p, 0, none⟩), .int .u64 u, .int .i64 pick] w fun e w' => e = .returned (.tuple #[(awayE l u pick).1.val, .int .i64 (awayE l u pick).2.1]) ∧ Sep w ok (bagA p (awayE l u pick).2.2 room ⋆ emp) w' := by
  have HS := Aside0.mk (sep_begin h)
  have HP := Aside0.mk hp
  clear h hp
  obtain ⟨x, fe, l2, hr⟩ : ∃ x fe l2, awayE l u pick = (x, fe, l2) := ⟨_, _, _, rfl⟩
  have HR := Aside0.mk hr
  rw [hr]
  clear hr
  go_enter Try.func31, Try.ntmps31
  go_upto_region 1 with (fail)
  have n_ := sep_alloc HS.out #[.int .u32 0, .int .u16 0, .int .u32 0, .int .u16 0, .string ⟨#[]⟩, .int .u64 0] 79
  have n0_ := Aside0.mk n_; clear HS n_; have HS := n0_; clear n0_
  generalize w.alloc (.cells #[.int .u32 0, .int .u16 0, .int .u32 0, .int .u16 0, .string ⟨#[]⟩, .int .u64 0] 79) = wa at HS ⊢
  generalize w.heap.size = g6 at HS ⊢
  go_wp2_with (go_at_call 46; obtain ⟨ok_, hp_, hk_⟩ := sep_use1 (sep_l1 HS.out); have hx_ := bag_away p l room u pick _ ok_ HP.out hp_; rw [HR.out] at hx_; (with_reducible refine Calls.mono hx_ ?_); rintro e w1 ⟨rfl, hq_⟩; have n_ := sep_l1 (back1 hk_ hq_); clear hx_ hp_ hk_ hq_; have n0_ := Aside0.mk n_; clear HS n_; have HS := n0_; clear n0_; obtain ⟨k1, k2, k3, k4, k5, k6⟩ := facts6 HS.out; obtain ⟨q1, q2, q3, q4, q5, q6⟩ := facts6f HS.out; unfold It.val)
  have n_ := sep_set6 HS.out (.int .u32 x.fi) (.int .u16 x.fp) (.int .u32 x.ti) (.int .u16 x.tp) (.string x.by_) (.int .u64 x.t)
  refine bodyPost_ret (results_ct rfl _ _ g6 79 #[.int .u32 x.fi, .int .u16 x.fp, .int .u32 x.ti, .int .u16 x.tp, .string x.by_, .int .u64 x.t] (0, 0) _ rfl (sep_pt n_) Try.underlying79 rfl (by kernel_rfl)) rfl ?_
  exact ⟨rfl, sep_drop n_⟩
set_option maxHeartbeats 1000000 in
set_option maxRecDepth 100000 in
theorem bag_Drop (p : Nat) (l : List It) (room pick : Int) (w : World) (ok : Nat → Prop) (hp : pick ≤ 9223372036854775807) (h : (bagA p l room ⋆ emp).H w ok) :
    Calls Try.prog 34 #[.pointer (some ⟨p, 0, none⟩), .int .i64 pick] w fun e w' => e = .returned (.tuple #[(awayE l 18446744073709551615 pick).1.val, .int .i64 (awayE l 18446744073709551615 pick).2.1]) ∧ Sep w ok (bagA p (awayE l 18446744073709551615 pick).2.2 room ⋆ emp) w' := by
  have HS := Aside0.mk (sep_begin h)
  have HP := Aside0.mk hp
  clear h hp
  obtain ⟨x, fe, l2, hr⟩ : ∃ x fe l2, awayE l 18446744073709551615 pick = (x, fe, l2) := ⟨_, _, _, rfl⟩
  have HR := Aside0.mk hr
  rw [hr]
  clear hr
  go_enter Try.func34, Try.ntmps34
  go_upto_region 1 with (fail)
  have n_ := sep_alloc HS.out #[.int .u32 0, .int .u16 0, .int .u32 0, .int .u16 0, .string ⟨#[]⟩, .int .u64 0] 79
  have n0_ := Aside0.mk n_; clear HS n_; have HS := n0_; clear n0_
  generalize w.alloc (.cells #[.int .u32 0, .int .u16 0, .int .u32 0, .int .u16 0, .string ⟨#[]⟩, .int .u64 0] 79) = wa at HS ⊢
  generalize w.heap.size = g6 at HS ⊢
  go_wp2_with (go_at_call 46; obtain ⟨ok_, hp_, hk_⟩ := sep_use1 (sep_l1 HS.out); have hx_ := bag_away p l room 18446744073709551615 pick _ ok_ HP.out hp_; rw [HR.out] at hx_; (with_reducible refine Calls.mono hx_ ?_); rintro e w1 ⟨rfl, hq_⟩; have n_ := sep_l1 (back1 hk_ hq_); clear hx_ hp_ hk_ hq_; have n0_ := Aside0.mk n_; clear HS n_; have HS := n0_; clear n0_; obtain ⟨k1, k2, k3, k4, k5, k6⟩ := facts6 HS.out; obtain ⟨q1, q2, q3, q4, q5, q6⟩ := facts6f HS.out; unfold It.val)
  have n_ := sep_set6 HS.out (.int .u32 x.fi) (.int .u16 x.fp) (.int .u32 x.ti) (.int .u16 x.tp) (.string x.by_) (.int .u64 x.t)
  refine bodyPost_ret (results_ct rfl _ _ g6 79 #[.int .u32 x.fi, .int .u16 x.fp, .int .u32 x.ti, .int .u16 x.tp, .string x.by_, .int .u64 x.t] (0, 0) _ rfl (sep_pt n_) Try.underlying79 rfl (by kernel_rfl)) rfl ?_
  exact ⟨rfl, sep_drop n_⟩
end Go.Proofs.Ytobfabfoenldfaa.BG
/- The bag: Put, whatever comes of it; Twice. Conditions: those that each theorem names. -/
namespace Go.Proofs.Ytobfabfoenldfaa.BG
set_option linter.unusedVariables false
set_option linter.unusedSimpArgs false
open Go Go.RowKit Go.Proofs.YtobfabfoenldfaaS Go.Proofs.YtobfabfoenldfaaS.Asn Go.Proofs.Ytobfabfoenldfaa.PA Go.Proofs.YtobfabfoenldfaaW.PrintWords Go.Proofs.YtobfabfoenldfaaW.PrintLast Go.Proofs.YtobfabfoenldfaaW.PrintMore
def putE (room : Int) (l : List It) (x : It) : Int := if noneB x.fi x.fp = true ∨ noneB x.ti x.tp = true then 1 else if x.by_.size = 0 ∨ 1024 < x.by_.size then 3 else if room ≤ (l.length : Int) then 4 else 0
def putL (room : Int) (l : List It) (x : It) : List It := if putE room l x = 0 then l ++ [x] else l
theorem bytes_none {b : ByteArray} (h : b.size = 0) : b.toList.isEmpty = true := by
  obtain ⟨⟨l⟩⟩ := b
  cases l with
  | nil => decide +kernel
  | cons a r => simp [ByteArray.size] at h
theorem bag_PutE (p : Nat) (l : List It) (room : Int) (x : It) (w : World) (ok : Nat → Prop) (h6 : room ≤ 256) (h : (bagA p l room ⋆ emp).H w ok) :
    Calls Try.prog 35 #[.pointer (some ⟨p, 0, none⟩), x.val] w fun e w' => e = .returned (.int .i64 (putE room l x)) ∧ Sep w ok (bagA p (putL room l x) room ⋆ emp) w' := by
  unfold putL
  by_cases hgood : noneB x.fi x.fp = false ∧ noneB x.ti x.tp = false ∧ x.by_.size ≠ 0 ∧ x.by_.size ≤ 1024 ∧ (l.length : Int) < room
  · obtain ⟨h1, h2, h3, h4, h5⟩ := hgood
    have he : putE room l x = 0 := by unfold putE; rw [if_neg (by rw [h1, h2]; simp), if_neg (by omega), if_neg (by omega)]
    rw [he, if_pos rfl]
    exact bag_Put p l room x w ok h1 h2 h3 h4 h5 h6 h
  · obtain ⟨r, hr⟩ : ∃ r, putE room l x = r := ⟨_, rfl⟩
    have hr0 : r ≠ 0 := by
      intro h0
      apply hgood
      rw [h0] at hr
      unfold putE at hr
      by_cases a1 : noneB x.fi x.fp = true ∨ noneB x.ti x.tp = true
      · rw [if_pos a1] at hr; cases hr
      by_cases a2 : x.by_.size = 0 ∨ 1024 < x.by_.size
      · rw [if_neg a1, if_pos a2] at hr; cases hr
      by_cases a3 : room ≤ (l.length : Int)
      · rw [if_neg a1, if_neg a2, if_pos a3] at hr; cases hr
      · refine ⟨?_, ?_, ?_, ?_, ?_⟩
        · cases hc : noneB x.fi x.fp
          · rfl
          · exact absurd (.inl hc) a1
        · cases hc : noneB x.ti x.tp
          · rfl
          · exact absurd (.inr hc) a1
        · omega
        · omega
        · omega
    rw [hr, if_neg hr0]
    unfold putE at hr
    have HR := Aside0.mk hr
    have HR0 := Aside0.mk hr0
    clear hr hr0 hgood
    obtain ⟨v, hs⟩ := bag_open (sep_begin h)
    obtain ⟨A, c, rfl, hc, -⟩ := sep_row (sep_l1 hs)
    have HS := Aside0.mk hs
    obtain ⟨c1, hc1⟩ : ∃ b, noneB x.fi x.fp = b := ⟨_, rfl⟩
    obtain ⟨c2, hc2⟩ : ∃ b, noneB x.ti x.tp = b := ⟨_, rfl⟩
    have H1 : Aside0 (addr_Addr_None.f x.fi x.fp = some c1) := ⟨by rw [none_f, hc1]⟩
    have H2 : Aside0 (addr_Addr_None.f x.ti x.tp = some c2) := ⟨by rw [none_f, hc2]⟩
    have hr := HR.out
    rw [hc1, hc2] at hr
    clear HR
    have HR := Aside0.mk hr
    clear h h6 hs hc hr hc1 hc2
    unfold It.val
    go_enter Try.func35, Try.ntmps35
    go_upto_region 1 with (fail)
    have n_ := sep_alloc HS.out #[.int .u32 x.fi, .int .u16 x.fp, .int .u32 x.ti, .int .u16 x.tp, .string x.by_, .int .u64 x.t] 79
    have n0_ := Aside0.mk n_; clear HS n_; have HS := n0_; clear n0_
    generalize w.alloc (.cells #[.int .u32 x.fi, .int .u16 x.fp, .int .u32 x.ti, .int .u16 x.tp, .string x.by_, .int .u64 x.t] 79) = wa at HS ⊢
    generalize w.heap.size = g3 at HS ⊢
    obtain ⟨k1, k2, k3, k4, k5, k6⟩ := facts6 HS.out
    cases c1 with
    | true =>
      go_wp2_with (go_at_call 26; (with_reducible refine Calls.mono (addr_Addr_None.calls x.fi x.fp true _ H1.out) ?_); rintro e w1 ⟨rfl, hb_⟩; have n_ := sep_below HS.out hb_; clear hb_ HS k1 k2 k3 k4 k5 k6; have HS := Aside0.mk n_; clear n_; obtain ⟨k1, k2, k3, k4, k5, k6⟩ := facts6 HS.out)
      go_ret
      have hr := HR.out
      rw [if_pos (by simp)] at hr
      subst hr
      exact ⟨rfl, bag_mk (sep_drop HS.out)⟩
    | false =>
      cases c2 with
      | true =>
        go_wp2_with (first | (go_at_call 26; (with_reducible refine Calls.mono (addr_Addr_None.calls x.fi x.fp false _ H1.out) ?_); rintro e w1 ⟨rfl, hb_⟩; have n_ := sep_below HS.out hb_; clear hb_ HS k1 k2 k3 k4 k5 k6; have HS := Aside0.mk n_; clear n_; obtain ⟨k1, k2, k3, k4, k5, k6⟩ := facts6 HS.out) | (go_at_call 26; (with_reducible refine Calls.mono (addr_Addr_None.calls x.ti x.tp true _ H2.out) ?_); rintro e w1 ⟨rfl, hb_⟩; have n_ := sep_below HS.out hb_; clear hb_ HS k1 k2 k3 k4 k5 k6; have HS := Aside0.mk n_; clear n_; obtain ⟨k1, k2, k3, k4, k5, k6⟩ := facts6 HS.out))
        go_ret
        have hr := HR.out
        rw [if_pos (by simp)] at hr
        subst hr
        exact ⟨rfl, bag_mk (sep_drop HS.out)⟩
      | false =>
        go_upto_region 3 with (first | (go_at_call 26; (with_reducible refine Calls.mono (addr_Addr_None.calls x.fi x.fp false _ H1.out) ?_); rintro e w1 ⟨rfl, hb_⟩; have n_ := sep_below HS.out hb_; clear hb_ HS k1 k2 k3 k4 k5 k6; have HS := Aside0.mk n_; clear n_; obtain ⟨k1, k2, k3, k4, k5, k6⟩ := facts6 HS.out) | (go_at_call 26; (with_reducible refine Calls.mono (addr_Addr_None.calls x.ti x.tp false _ H2.out) ?_); rintro e w1 ⟨rfl, hb_⟩; have n_ := sep_below HS.out hb_; clear hb_ HS k1 k2 k3 k4 k5 k6; have HS := Aside0.mk n_; clear n_; obtain ⟨k1, k2, k3, k4, k5, k6⟩ := facts6 HS.out))
        by_cases h3 : x.by_.size = 0
        · have e1 : x.by_.toList.isEmpty = true := bytes_none h3
          have e4 : (x.by_.toList = []) = True := eq_true (List.isEmpty_iff.1 e1)
          go_wp2
          go_ret
          have hr := HR.out
          rw [if_neg (by simp), if_pos (.inl h3)] at hr
          subst hr
          exact ⟨rfl, bag_mk (sep_drop HS.out)⟩
        · have e1 : x.by_.toList.isEmpty = false := bytes_some h3
          have e4 : (x.by_.toList = []) = False := eq_false (fun h => by rw [h] at e1; cases e1)
          by_cases h4 : 1024 < x.by_.size
          · have e2 : decide ((1024 : Int) < (x.by_.size : Int)) = true := decide_eq_true (by omega)
            have e3 : decide ((1024 : Nat) < x.by_.size) = true := decide_eq_true (by omega)
            go_wp2
            go_ret
            have hr := HR.out
            rw [if_neg (by simp), if_pos (.inr h4)] at hr
            subst hr
            exact ⟨rfl, bag_mk (sep_drop HS.out)⟩
          · have e2 : decide ((1024 : Int) < (x.by_.size : Int)) = false := decide_eq_false (by omega)
            have e3 : decide ((1024 : Nat) < x.by_.size) = false := decide_eq_false (by omega)
            have hr := HR.out
            rw [if_neg (by simp), if_neg (by omega)] at hr
            go_upto_region 5 with (fail)
            replace HS := Aside0.mk (sep_drew HS.out)
            obtain ⟨b1, b2, b3⟩ := facts2 (sep_l1 HS.out)
            obtain ⟨r5, hr5⟩ : ∃ b, decide (room ≤ (l.length : Int)) = b := ⟨_, rfl⟩
            have h5 : r5 = true := by
              cases r5 with
              | true => rfl
              | false => rw [if_neg (of_decide_eq_false hr5)] at hr; exact absurd hr.symm HR0.out
            subst h5
            (first | go_region_held3 (fun w' => w'.cell? ⟨p, 0, none⟩ = some (.slice A l.length c) ∧ w'.cell? ⟨p, 1, none⟩ = some (.int .i64 room)) (exact ⟨b1, b2⟩) (fail) | fail)
            go_wp2
            go_ret
            rw [if_pos (of_decide_eq_true hr5)] at hr
            subst hr
            exact ⟨rfl, bag_mk (sep_drop HS.out)⟩
def twiceE (room : Int) (l : List It) (pick : Int) : Int := if (findE l 18446744073709551615 pick).2 = 0 then putE room l (l.getD (findE l 18446744073709551615 pick).1.toNat It.zero) else (findE l 18446744073709551615 pick).2
def twiceL (room : Int) (l : List It) (pick : Int) : List It := if (findE l 18446744073709551615 pick).2 = 0 then putL room l (l.getD (findE l 18446744073709551615 pick).1.toNat It.zero) else l
set_option maxHeartbeats 1000000 in
set_option maxRecDepth 100000 in
theorem bag_Twice (p : Nat) (l : List It) (room pick : Int) (w : World) (ok : Nat → Prop) (h6 : room ≤ 256) (hp : pick ≤ 9223372036854775807) (h : (bagA p l room ⋆ emp).H w ok) :
    Calls Try.prog 37 #[.pointer (some ⟨p, 0, none⟩), .int .i64 pick] w fun e w' => e = .returned (.int .i64 (twiceE room l pick)) ∧ Sep w ok (bagA p (twiceL room l pick) room ⋆ emp) w' := by
  have HS := Aside0.mk (sep_begin h)
  have HP := Aside0.mk hp
  have H6 := Aside0.mk h6
  clear h hp h6
  obtain ⟨r1, hr1⟩ : ∃ r, twiceE room l pick = r := ⟨_, rfl⟩
  obtain ⟨r2, hr2⟩ : ∃ r, twiceL room l pick = r := ⟨_, rfl⟩
  rw [hr1, hr2]
  unfold twiceE at hr1
  unfold twiceL at hr2
  have hfl := findE_lt (l := l) (u := 18446744073709551615) (pick := pick)
  obtain ⟨⟨fa, fe⟩, hf1⟩ : ∃ f, findE l 18446744073709551615 pick = f := ⟨_, rfl⟩
  have HF := Aside0.mk hf1
  rw [hf1] at hr1 hr2 hfl
  have HR := Aside0.mk (And.intro hr1 (And.intro hr2 hfl))
  clear hr1 hr2 hfl hf1
  go_enter Try.func37, Try.ntmps37
  go_upto_region 2 with (go_at_call 49; obtain ⟨ok_, hp_, hk_⟩ := sep_use1 HS.out; have hx_ := bag_find p l room 18446744073709551615 pick _ ok_ HP.out hp_; rw [HF.out] at hx_; (with_reducible refine Calls.mono hx_ ?_); rintro e w1 ⟨rfl, hq_⟩; have n_ := back1 hk_ hq_; clear hx_ hp_ hk_ hq_; have n0_ := Aside0.mk n_; clear HS n_; have HS := n0_; clear n0_)
  obtain ⟨hr1, hr2, hfl⟩ := HR.out
  clear HR HF
  by_cases h0 : fe = 0
  · subst h0
    rw [if_pos rfl] at hr1 hr2
    obtain ⟨k, hk, hkl⟩ := hfl rfl
    have hk' : fa = k := hk
    subst hk'
    clear hk
    obtain ⟨x, hx⟩ : ∃ x, l[k]? = some x := ⟨_, List.getElem?_eq_getElem hkl⟩
    rw [show ((k : Int)).toNat = k from Int.toNat_natCast k, List.getD_eq_getElem?_getD, hx, Option.getD_some] at hr1 hr2
    have HB := HS
    obtain ⟨v, n_⟩ := bag_open HS.out
    obtain ⟨A, c, rfl, -, hC⟩ := sep_row (sep_l1 n_)
    have HLN := Aside0.mk hC.2.1
    obtain ⟨ad, hA, m1, m2, m3, m4, m5, m6⟩ := it_at hC k x hx
    subst hA
    obtain ⟨b1, b2, b3⟩ := facts2 n_
    have c1b : decide ((k : Int) < (l.length : Int)) = true := decide_eq_true (Int.ofNat_lt.2 hkl); have c1n : decide (k < l.length) = true := decide_eq_true hkl; have c1q : (k < l.length) = True := eq_true hkl; have p0_ := eq_true (Int.natCast_nonneg k)
    clear hfl hC hx hkl n_ HS
    have HRR := Aside0.mk (And.intro hr1 hr2)
    clear hr1 hr2
    go_wp2_with (go_at_call 35; obtain ⟨ok_, hp_, hk_⟩ := sep_use1 HB.out; have hx_ := bag_PutE p l room x _ ok_ H6.out hp_; unfold It.val at hx_; (with_reducible refine Calls.mono hx_ ?_); rintro e w2 ⟨rfl, hq_⟩; have n_ := back1 hk_ hq_; clear hx_ hp_ hk_ hq_; clear HB; have HS := Aside0.mk n_; clear n_)
    go_ret
    obtain ⟨hr1, hr2⟩ := HRR.out
    subst hr1
    subst hr2
    exact ⟨rfl, HS.out⟩
  · rw [if_neg h0] at hr1 hr2
    have t1 : decide (fe = 0) = false := decide_eq_false h0
    have t2 : (fe == 0) = false := by simpa using h0
    have t3 := eq_false h0
    clear hfl
    go_wp2
    go_ret
    subst hr1
    subst hr2
    exact ⟨rfl, HS.out⟩
end Go.Proofs.Ytobfabfoenldfaa.BG
/- The bag: Delay, Clone, Items. Conditions: those that each theorem names. -/
namespace Go.Proofs.Ytobfabfoenldfaa.BG
set_option linter.unusedVariables false
set_option linter.unusedSimpArgs false
open Go Go.RowKit Go.Proofs.YtobfabfoenldfaaS Go.Proofs.YtobfabfoenldfaaS.Asn Go.Proofs.Ytobfabfoenldfaa.PA Go.Proofs.YtobfabfoenldfaaW.PrintWords Go.Proofs.YtobfabfoenldfaaW.PrintLast Go.Proofs.YtobfabfoenldfaaW.PrintMore
def latest : Int := 4611686018427387904
def later (t by_ : Int) : Int := min t latest + min by_ (latest - min t latest)
def It.later (x : It) (by_ : Int) : It := { x with t := BG.later x.t by_ }
def delayE (l : List It) (pick : Int) : Int := (findE l 18446744073709551615 pick).2
def delayL (l : List It) (pick by_ : Int) : List It := if (findE l 18446744073709551615 pick).2 = 0 then l.modify (findE l 18446744073709551615 pick).1.toNat (fun x => x.later by_) else l
theorem elem_addr (g k : Nat) : (⟨((⟨g, 0, none⟩ : Addr).add (k * 6)).block, ((⟨g, 0, none⟩ : Addr).add (k * 6)).off + 5, none⟩ : Addr) = ⟨g, k * 6 + 5, none⟩ := by rw [add_at, Nat.zero_add]
/-- An item of the row gets another time. -/
theorem sep_time {w0 W : World} {ok0 : Nat → Prop} {F : Asn} {g c : Nat} {l : List It} (HS : Sep w0 ok0 (row itK 79 (.slice (some ⟨g, 0, none⟩) l.length c) l ⋆ F) W) (k : Nat) (x : It) (t' : Int) (hx : l[k]? = some x) :
    Sep w0 ok0 (row itK 79 (.slice (some ⟨g, 0, none⟩) l.length c) (l.set k { x with t := t' }) ⋆ F) (W.setCell ⟨g, k * 6 + 5, none⟩ (.int .u64 t')) := by
  obtain ⟨hi, -⟩ := List.getElem?_eq_some_iff.1 hx
  have hC := (sep_row' HS).2.2
  obtain ⟨ok, hr, hh⟩ := sep_grown HS
  obtain ⟨ad, cc, had, hc, hk, hcell⟩ := Kd.C_get hC x (k : Int) (Int.natCast_nonneg k) (Int.ofNat_lt.2 hi)
  cases had
  rw [Int.toNat_natCast, List.getD_eq_getElem?_getD, hx, Option.getD_some] at hk
  rw [itK_open hk, Int.toNat_natCast] at hcell
  obtain ⟨h1, h2⟩ := Kd.R_seg (d := itK) (x' := { x with t := t' }) (seg := [.int .u64 t']) (j := 5) (c := x.cells) (okp := fun _ => False) hr (k : Int) (Int.natCast_nonneg k) (Int.ofNat_lt.2 hi) rfl (fun j u hu => by have := hcell j u hu; rw [add_at, Nat.zero_add] at this; exact this) (Nat.le_refl 6) (itK_M W 0 _ { x with t := t' }) (fun _ h => h.elim)
  exact hh _ _ _ (Kd.R_mono h1 (fun k hk => .inl hk)) ⟨h2.os, h2.tape, h2.output, h2.size, fun k hk => absurd hk (Nat.not_lt_zero _)⟩ h2
theorem modify_at {l : List It} {k : Nat} {x : It} (f : It → It) (hx : l[k]? = some x) : l.modify k f = l.set k (f x) := by
  obtain ⟨hi, rfl⟩ := List.getElem?_eq_some_iff.1 hx
  apply List.ext_getElem
  · simp
  · intro i h1 h2
    rw [List.getElem_modify, List.getElem_set]
    split
    · rename_i h; subst h; rfl
    · rfl
theorem later_val (t b : Int) (ht : 0 ≤ t) (hb : 0 ≤ b) : IntKind.u64.wrap ((if 4611686018427387904 < t then 4611686018427387904 else t) + if IntKind.u64.wrap (4611686018427387904 - if 4611686018427387904 < t then 4611686018427387904 else t) < b then IntKind.u64.wrap (4611686018427387904 - if 4611686018427387904 < t then 4611686018427387904 else t) else b) = later t b := by
  unfold later latest
  have h1 : (if 4611686018427387904 < t then 4611686018427387904 else t) = min t 4611686018427387904 := by omega
  rw [h1]
  have h2 : IntKind.u64.wrap (4611686018427387904 - min t 4611686018427387904) = 4611686018427387904 - min t 4611686018427387904 := by rw [IntKind.wrap_u64]; omega
  rw [h2, IntKind.wrap_u64]
  omega
set_option maxHeartbeats 1000000 in
set_option maxRecDepth 100000 in
theorem bag_Delay (p : Nat) (l : List It) (room pick by_ : Int) (w : World) (ok : Nat → Prop) (hp : pick ≤ 9223372036854775807) (hb0 : 0 ≤ by_) (ht : ∀ x ∈ l, 0 ≤ x.t) (h : (bagA p l room ⋆ emp).H w ok) :
    Calls Try.prog 36 #[.pointer (some ⟨p, 0, none⟩), .int .i64 pick, .int .u64 by_] w fun e w' => e = .returned (.int .i64 (delayE l pick)) ∧ Sep w ok (bagA p (delayL l pick by_) room ⋆ emp) w' := by
  have HS := Aside0.mk (sep_begin h)
  have HP := Aside0.mk hp
  have HB0 := Aside0.mk hb0
  have HT := Aside0.mk ht
  clear h hp hb0 ht
  obtain ⟨r1, hr1⟩ : ∃ r, delayE l pick = r := ⟨_, rfl⟩
  obtain ⟨r2, hr2⟩ : ∃ r, delayL l pick by_ = r := ⟨_, rfl⟩
  rw [hr1, hr2]
  unfold delayE at hr1
  unfold delayL at hr2
  have hfl := findE_lt (l := l) (u := 18446744073709551615) (pick := pick)
  obtain ⟨⟨fa, fe⟩, hf1⟩ : ∃ f, findE l 18446744073709551615 pick = f := ⟨_, rfl⟩
  have HF := Aside0.mk hf1
  rw [hf1] at hr1 hr2 hfl
  have HR := Aside0.mk (And.intro hr1 (And.intro hr2 hfl))
  clear hr1 hr2 hfl hf1
  go_enter Try.func36, Try.ntmps36
  go_upto_region 2 with (go_at_call 49; obtain ⟨ok_, hp_, hk_⟩ := sep_use1 HS.out; have hx_ := bag_find p l room 18446744073709551615 pick _ ok_ HP.out hp_; rw [HF.out] at hx_; (with_reducible refine Calls.mono hx_ ?_); rintro e w1 ⟨rfl, hq_⟩; have n_ := back1 hk_ hq_; clear hx_ hp_ hk_ hq_; have n0_ := Aside0.mk n_; clear HS n_; have HS := n0_; clear n0_)
  obtain ⟨hr1, hr2, hfl⟩ := HR.out
  clear HR HF
  by_cases h0 : fe = 0
  · subst h0
    rw [if_pos rfl] at hr2
    obtain ⟨k, hk, hkl⟩ := hfl rfl
    have hk' : fa = k := hk
    subst hk'
    clear hk
    obtain ⟨x, hx⟩ : ∃ x, l[k]? = some x := ⟨_, List.getElem?_eq_getElem hkl⟩
    rw [show ((k : Int)).toNat = k from Int.toNat_natCast k] at hr2
    obtain ⟨v, n_⟩ := bag_open HS.out
    obtain ⟨A, c, rfl, -, hC⟩ := sep_row (sep_l1 n_)
    have HLN := Aside0.mk hC.2.1
    obtain ⟨ad, hA, m1, m2, m3, m4, m5, m6⟩ := it_at hC k x hx
    subst hA
    obtain ⟨g, hg⟩ : ∃ g, ad = ⟨g, 0, none⟩ := by
      obtain ⟨_, _, ⟨_, _, hr, _⟩, _⟩ := sep_l1 n_
      obtain ⟨g, cap, he, -⟩ := Kd.R_form hr (by omega)
      cases he
      exact ⟨g, rfl⟩
    have fz : w1.frozen? ⟨(ad.add (k * 6)).block, (ad.add (k * 6)).off + 5, none⟩ = false := by
      subst hg
      obtain ⟨cur, hcur, -⟩ := sep_block itK (sep_l1 n_)
      rw [elem_addr]
      exact blk_frozen hcur _
    have HG := Aside0.mk hg
    clear hg
    obtain ⟨b1, b2, b3⟩ := facts2 n_
    have c1b : decide ((k : Int) < (l.length : Int)) = true := decide_eq_true (Int.ofNat_lt.2 hkl); have c1n : decide (k < l.length) = true := decide_eq_true hkl; have c1q : (k < l.length) = True := eq_true hkl; have p0_ := eq_true (Int.natCast_nonneg k)
    have HKK := Aside0.mk (And.intro hkl hx)
    clear hfl hC hx hkl
    have n0_ := Aside0.mk n_; clear HS n_; have HS := n0_; clear n0_
    have HRR := Aside0.mk (And.intro hr1 hr2)
    clear hr1 hr2
    go_upto_region 5 with (fail)
    replace fz : w1.drew.frozen? ⟨(ad.add (k * 6)).block, (ad.add (k * 6)).off + 5, none⟩ = false := fz
    replace m6 : w1.drew.cell? ⟨(ad.add (k * 6)).block, (ad.add (k * 6)).off + 5, none⟩ = some (.int .u64 x.t) := m6
    go_region
    all_goals
      clear fz m1 m2 m3 m4 m5 m6 b1 b2 b3
      rw [later_val x.t by_ (HT.out x (List.mem_of_getElem? HKK.out.2)) HB0.out]
      go_wp2
    all_goals
      go_ret
      obtain ⟨hr1, hr2⟩ := HRR.out
      rw [modify_at _ HKK.out.2] at hr2
      have hg := HG.out
      subst hg
      rw [elem_addr]
      have n_ := sep_l1 (sep_drew (sep_time (sep_l1 HS.out) k x (later x.t by_) HKK.out.2))
      subst hr1
      subst hr2
      exact ⟨rfl, bag_mk n_⟩
  · rw [if_neg h0] at hr2
    have t1 : decide (fe = 0) = false := decide_eq_false h0
    have t2 : (fe == 0) = false := by simpa using h0
    have t3 := eq_false h0
    clear hfl
    go_wp2
    go_ret
    subst hr1
    subst hr2
    exact ⟨rfl, HS.out⟩
end Go.Proofs.Ytobfabfoenldfaa.BG
