/- The view: tell. Conditions: those that each theorem names. -/
import Derived.Test.YthpmlnnjfmcglaaVA
import Derived.Deep.RegionHeld3
namespace Go.Proofs.Ythpmlnnjfmcglaa.VW
set_option linter.unusedVariables false
set_option linter.unusedSimpArgs false
open Go Go.RowKit Go.Proofs.YthpmlnnjfmcglaaS Go.Proofs.YthpmlnnjfmcglaaS.Asn Go.Proofs.Ythpmlnnjfmcglaa.PA Go.Proofs.YthpmlnnjfmcglaaW.PrintWords Go.Proofs.YthpmlnnjfmcglaaW.PrintLast Go.Proofs.YthpmlnnjfmcglaaW.PrintMore
section
variable {P : Program} {md : Region.Mode} {l : List Oper} {Q : Exit → Act → World → Prop}
theorem a_take (i : Nat) {oi : Oper} {v : Value} {fuel : Nat} {listed : Array Bool} {a : Act} {w : World} (hi : l[i]? = some oi)
    (hs : Region.noSelect l.toArray = true) (hf : Region.free md l.toArray listed i = true) (hr : (Region.ready md l.toArray listed).contains i = true) (hQ : ∀ c a w, Q (.panic c) (a.put oi.dst v) w → Q (.panic c) a w)
    (hw : Region.wanted oi (yielded l.toArray a.tmps) = true) (hy : ∀ w, (execOp a.eval oi).run P w = .ok (.value v) w)
    (h : wpAny P md l.toArray Q fuel (listed.setIfInBounds i true) (a.put oi.dst v) w) : wpAny P md l.toArray Q (fuel + 1) listed a w :=
  wpAny_take (by rw [List.getElem?_toArray]; exact hi) hs hf hr hQ (Or.inl ⟨hw, hy⟩) h
theorem a_one (i : Nat) {oi : Oper} {fuel : Nat} {listed : Array Bool} {a : Act} {w : World}
    (hr : Region.ready md l.toArray listed = [i]) (hi : l[i]? = some oi) (hw : Region.wanted oi (yielded l.toArray a.tmps) = true)
    (h : ∀ K : Act → World → Prop, Aside0 (∀ a w, wpAny P md l.toArray Q fuel (listed.setIfInBounds i true) a w → K a w) → Oper.wp P oi a w K Q) : wpAny P md l.toArray Q (fuel + 1) listed a w :=
  wpAny_ready hr (by simp) (AllReady.cons (by rw [List.getElem?_toArray]; exact hi) (fun K hK => by rw [if_pos hw]; exact h K ⟨hK⟩) AllReady.nil)
theorem a_two (i j : Nat) {oi oj : Oper} {fuel : Nat} {listed : Array Bool} {a : Act} {w : World}
    (hr : Region.ready md l.toArray listed = [i, j]) (hi : l[i]? = some oi) (hw : Region.wanted oi (yielded l.toArray a.tmps) = true) (hi' : l[j]? = some oj) (hw' : Region.wanted oj (yielded l.toArray a.tmps) = true)
    (h : ∀ K : Act → World → Prop, Aside0 (∀ a w, wpAny P md l.toArray Q fuel (listed.setIfInBounds i true) a w → K a w) → Oper.wp P oi a w K Q)
    (h' : ∀ K : Act → World → Prop, Aside0 (∀ a w, wpAny P md l.toArray Q fuel (listed.setIfInBounds j true) a w → K a w) → Oper.wp P oj a w K Q) : wpAny P md l.toArray Q (fuel + 1) listed a w :=
  wpAny_ready hr (by simp) (AllReady.cons (by rw [List.getElem?_toArray]; exact hi) (fun K hK => by rw [if_pos hw]; exact h K ⟨hK⟩) (AllReady.cons (by rw [List.getElem?_toArray]; exact hi') (fun K hK => by rw [if_pos hw']; exact h' K ⟨hK⟩) AllReady.nil))
theorem a_one' (i : Nat) {oi : Oper} {fuel : Nat} {listed : Array Bool} {a : Act} {w : World}
    (hr : Region.ready md l.toArray listed = [i]) (hi : l[i]? = some oi)
    (h : if Region.wanted oi (yielded l.toArray a.tmps) = true then Oper.wp P oi a w (wpAny P md l.toArray Q fuel (listed.setIfInBounds i true)) Q else wpAny P md l.toArray Q fuel (listed.setIfInBounds i true) (a.put oi.dst undef) w) : wpAny P md l.toArray Q (fuel + 1) listed a w := by
  refine wpAny_all hr (by simp) (fun j hj => ?_)
  obtain rfl := List.mem_singleton.1 hj
  refine wpOp_step (by rw [List.getElem?_toArray]; exact hi) (fun K' hK => ?_)
  split
  · rename_i hw; rw [if_pos hw] at h; exact Oper.wp_mono hK h
  · rename_i hw; rw [if_neg hw] at h; exact hK _ _ h
end
theorem vf_seen (K : Nat → Rec) (v : Value) (n m : Nat) : (arrV 167 (vf K v n)).setIfInBounds 166 (.int .u64 (m : Int)) = arrV 167 (vf K v m) := by
  rw [arrV_set]
  refine arrV_congr (fun j hj => ?_)
  by_cases h : j = 166
  · rw [if_pos h, h]; rfl
  · rw [if_neg h]
    unfold vf
    by_cases h1 : j < 165
    · rw [if_pos h1, if_pos h1]
    · rw [if_neg h1, if_neg h1, if_pos (by omega), if_pos (by omega)]
theorem vf_ev (K : Nat → Rec) (v v' : Value) (n : Nat) : (arrV 167 (vf K v n)).setIfInBounds 165 v' = arrV 167 (vf K v' n) := by
  rw [arrV_set]
  refine arrV_congr (fun j hj => ?_)
  by_cases h : j = 165
  · rw [if_pos h, h]; rfl
  · rw [if_neg h]
    unfold vf
    by_cases h1 : j < 165
    · rw [if_pos h1, if_pos h1]
    · rw [if_neg h1, if_neg h1, if_neg h, if_neg h]
theorem vf_rec (K : Nat → Rec) (v : Value) (n i : Nat) (r : Rec) (hi : i < 33) :
    (((((arrV 167 (vf K v n)).setIfInBounds (i * 5) (.int .i64 r.id)).setIfInBounds (i * 5 + 1) (.int .i64 r.st)).setIfInBounds (i * 5 + 2) (.int .u32 r.inc)).setIfInBounds (i * 5 + 3) (.int .u32 r.ip)).setIfInBounds (i * 5 + 4) (.int .u16 r.po) = arrV 167 (vf (upd K i r) v n) := by
  rw [arrV_set, arrV_set, arrV_set, arrV_set, arrV_set]
  refine arrV_congr (fun j hj => ?_)
  unfold vf upd
  by_cases h1 : j < 165
  · rw [if_pos h1]
    by_cases h : j / 5 = i
    · rw [if_pos h]
      have h5 : j % 5 = 0 ∨ j % 5 = 1 ∨ j % 5 = 2 ∨ j % 5 = 3 ∨ j % 5 = 4 := by omega
      rcases h5 with h5 | h5 | h5 | h5 | h5
      · rw [if_neg (by omega), if_neg (by omega), if_neg (by omega), if_neg (by omega), if_pos (by omega), h5, if_pos h1]; rfl
      · rw [if_neg (by omega), if_neg (by omega), if_neg (by omega), if_pos (by omega), h5, if_pos h1]; rfl
      · rw [if_neg (by omega), if_neg (by omega), if_pos (by omega), h5, if_pos h1]; rfl
      · rw [if_neg (by omega), if_pos (by omega), h5, if_pos h1]; rfl
      · rw [if_pos (by omega), h5, if_pos h1]; rfl
    · rw [if_neg h, if_neg (by omega), if_neg (by omega), if_neg (by omega), if_neg (by omega), if_neg (by omega), if_pos h1]
  · rw [if_neg h1, if_neg (by omega), if_neg (by omega), if_neg (by omega), if_neg (by omega), if_neg (by omega), if_neg h1]
def z46 : Value := .agg #[.int .i64 0, .int .i64 0, .int .i64 0, .int .u32 0]
theorem info46 : (Try.prog.info? 46).map (fun i => (i.zero, i.size, i.bytes)) = some (some z46, 4, 32) := by kernel_rfl
def Ev.cells (x : Ev) : List Value := [.int .i64 x.id, .int .i64 x.was, .int .i64 x.is_, .int .u32 x.inc]
theorem evK_M (w : World) (base : Nat) (ok : Nat → Prop) (x : Ev) : evK.M w base ok x x.cells := ⟨[_], _, rfl, rfl, ⟨[_], _, rfl, rfl, ⟨[_], _, rfl, rfl, rfl⟩⟩⟩
theorem evK_open {w : World} {x : Ev} {cs : List Value} (h : evK.K w x cs) : cs = x.cells := by
  obtain ⟨_, _, rfl, rfl, ⟨_, _, rfl, rfl, ⟨_, _, rfl, rfl, rfl⟩⟩⟩ := h
  rfl
theorem facts4 {w0 w : World} {ok0 : Nat → Prop} {F : Asn} {g : Nat} {t : TypeId} {a b c d : Value} (h : Sep w0 ok0 (pt g #[a, b, c, d] t ⋆ F) w) :
    w.cell? ⟨g, 0, none⟩ = some a ∧ w.cell? ⟨g, 1, none⟩ = some b ∧ w.cell? ⟨g, 2, none⟩ = some c ∧ w.cell? ⟨g, 3, none⟩ = some d := ⟨sep_cell h 0, sep_cell h 1, sep_cell h 2, sep_cell h 3⟩
set_option maxHeartbeats 4000000 in
set_option maxRecDepth 100000 in
theorem view_tell (p : Nat) (s : VS) (e : Ev) (w : World) (ok : Nat → Prop) (hl : s.E.length ≤ 128) (hn : s.seen ≤ 1000000000) (h : (viewA p s ⋆ emp).H w ok) :
    Calls Try.prog 31 #[.pointer (some ⟨p, 0, none⟩), .agg #[.int .i64 e.id, .int .i64 e.was, .int .i64 e.is_, .int .u32 e.inc]] w fun x w' => x = .returned (.tuple #[]) ∧ Sep w ok (viewA p (tell s e) ⋆ emp) w' := by
  obtain ⟨v, n_⟩ := view_open (sep_begin h)
  obtain ⟨A, c, rfl, hc, -⟩ := sep_que (sep_l1 n_)
  have HS := Aside0.mk n_
  have HL := Aside0.mk (And.intro hl hn)
  clear n_ h hl hn hc
  go_enter Try.func31, Try.ntmps31
  go_upto_region 1 with (fail)
  have n_ := sep_l2 (sep_l2 (sep_alloc HS.out #[.int .i64 e.id, .int .i64 e.was, .int .i64 e.is_, .int .u32 e.inc] 46))
  have n0_ := Aside0.mk n_; clear HS n_; have HS := n0_; clear n0_
  generalize w.alloc (.cells #[.int .i64 e.id, .int .i64 e.was, .int .i64 e.is_, .int .u32 e.inc] 46) = wa at HS ⊢
  generalize w.heap.size = g3 at HS ⊢
  have b1 := view_seen HS.out
  have b3 := sep_frozen HS.out 166
  have w1_ : IntKind.u64.wrap ((s.seen : Int) + 1) = ((s.seen + 1 : Nat) : Int) := by have := HL.out.2; rw [IntKind.wrap_u64]; omega
  go_upto_region 2 with (fail)
  have n_ := sep_set HS.out 166 (.int .u64 ((s.seen + 1 : Nat) : Int))
  rw [vf_seen, show ((s.seen + 1 : Nat) : Int) = (s.seen : Int) + 1 from rfl] at n_
  replace n_ := sep_drew (sep_l2 n_)
  have n0_ := Aside0.mk n_; clear HS n_; have HS := n0_; clear n0_
  generalize (wa.setCell ⟨p, 166, none⟩ (.int .u64 ((s.seen : Int) + 1))) = wb at HS ⊢
  clear b1 b3 w1_
  obtain ⟨k1, k2, k3, k4⟩ := facts4 HS.out
  have b1 := view_ev (sep_l1 HS.out)
  have b3 := sep_frozen (sep_l1 HS.out) 165
  refine wp_region_any (by kernel_rfl) ?_
  change wpAny _ _ _ _ _ _ _ (World.drew _)
  generalize wb.drew = w9 at HS k1 k2 k3 k4 b1 b3 ⊢
  (refine a_take 0 rfl (by kernel_rfl) (by kernel_rfl) (by kernel_rfl) (fun _ _ _ h => h) (by rfl) (by intro w; go_simp; all_goals (with_reducible rfl)) ?_; simp only [Act.put, List.setIfInBounds_toArray, List.set_cons_zero, List.set_cons_succ])
  (refine a_take 1 rfl (by kernel_rfl) (by kernel_rfl) (by kernel_rfl) (fun _ _ _ h => h) (by rfl) (by intro w; go_simp; all_goals (with_reducible rfl)) ?_; simp only [Act.put, List.setIfInBounds_toArray, List.set_cons_zero, List.set_cons_succ])
  (refine a_take 2 rfl (by kernel_rfl) (by kernel_rfl) (by kernel_rfl) (fun _ _ _ h => h) (by rfl) (by intro w; go_simp; all_goals (with_reducible rfl)) ?_; simp only [Act.put, List.setIfInBounds_toArray, List.set_cons_zero, List.set_cons_succ])
  (refine a_take 3 rfl (by kernel_rfl) (by kernel_rfl) (by kernel_rfl) (fun _ _ _ h => h) (by rfl) (by intro w; go_simp; all_goals (with_reducible rfl)) ?_; simp only [Act.put, List.setIfInBounds_toArray, List.set_cons_zero, List.set_cons_succ])
  refine a_two 4 5 (by kernel_rfl) rfl (by rfl) rfl (by rfl) (fun K hK => ?_) (fun K hK => ?_)
  · go_simp
    (refine hK.out _ _ ?_; clear hK K; (try simp only [Act.put, List.setIfInBounds_toArray, List.set_cons_zero, List.set_cons_succ]))
    (refine a_one 5 (by kernel_rfl) rfl (by rfl) (fun K hK => ?_); go_simp; (refine hK.out _ _ ?_; clear hK K; (try simp only [Act.put, List.setIfInBounds_toArray, List.set_cons_zero, List.set_cons_succ])))
    (refine a_one 6 (by kernel_rfl) rfl (by rfl) (fun K hK => ?_); go_simp; (refine hK.out _ _ ?_; clear hK K; (try simp only [Act.put, List.setIfInBounds_toArray, List.set_cons_zero, List.set_cons_succ])))
    refine a_one' 7 (by kernel_rfl) rfl (step_qappend (w0 := w) (ok0 := ok) evK (by rfl) (.tmp 15) (.tmp 17) 43 46 z46 32 rfl rfl info46 rfl (by decide) (by decide) (.slice A s.E.length c) s.E e e.cells rfl rfl (evK_M _ _ _ _) (sep_l2 HS.out) (by have := HL.out.1; omega) (fun v1 w5 hs => ?_))
    simp only [Act.put, List.setIfInBounds_toArray, List.set_cons_zero, List.set_cons_succ]
    clear HS k1 k2 k3 k4 b1 b3
    obtain ⟨A5, c5, rfl, -, -⟩ := sep_que hs
    have b1 := view_ev (sep_l2 hs)
    have b3 := sep_frozen (sep_l2 hs) 165
    have HS := Aside0.mk hs
    clear hs
    (refine a_one 8 (by kernel_rfl) rfl (by rfl) (fun K hK => ?_); go_simp; (refine hK.out _ _ ?_; clear hK K; (try simp only [Act.put, List.setIfInBounds_toArray, List.set_cons_zero, List.set_cons_succ])))
    (refine a_one 9 (by kernel_rfl) rfl (by rfl) (fun K hK => ?_); go_simp; (refine hK.out _ _ ?_; clear hK K; (try simp only [Act.put, List.setIfInBounds_toArray, List.set_cons_zero, List.set_cons_succ])))
    (refine a_one 10 (by kernel_rfl) rfl (by rfl) (fun K hK => ?_); go_simp; (refine hK.out _ _ ?_; clear hK K; (try simp only [Act.put, List.setIfInBounds_toArray, List.set_cons_zero, List.set_cons_succ])))
    refine wpAny_done (by kernel_rfl) ?_ _
    have n_ := sep_set (sep_l2 HS.out) 165 (.slice A5 (s.E ++ [e]).length c5)
    rw [vf_ev, List.length_append, List.length_singleton] at n_
    replace n_ := sep_drop (sep_l2 n_)
    have n0_ := Aside0.mk n_; clear HS n_; have HS := n0_; clear n0_
    generalize w5.setCell ⟨p, 165, none⟩ (.slice A5 (s.E.length + 1) c5) = w6 at HS ⊢
    clear b1 b3
    go_upto_region 3 with (fail)
    obtain ⟨n, hn⟩ : ∃ n, s.E.length + 1 = n := ⟨_, rfl⟩
    have hE : (s.E ++ [e]).length = n := by rw [List.length_append, List.length_singleton]; exact hn
    have hn9 : n ≤ 129 := by have := HL.out.1; omega
    have HTL := Aside0.mk (show (tell s e) = ⟨s.K, (s.E ++ [e]).drop (n - 128), s.seen + 1⟩ by rw [← hn]; rfl)
    rw [hn] at HS ⊢
    generalize s.E ++ [e] = E2 at hE HS HTL
    have HE := Aside0.mk hE
    clear hn hE
    have b1 := view_ev (sep_drew HS.out)
    have b3 := sep_frozen (sep_drew HS.out) 165
    obtain ⟨i0, hi0, hz_⟩ := Option.map_eq_some_iff.1 info46
    have hsz0 : i0.size = 4 := by injection hz_ with _ h1; injection h1
    rcases Nat.lt_trichotomy n 128 with h8 | h8 | h8
    · have s1 : ((n : Int) - 128 < 0) = True := eq_true (by omega)
      have s2 : ((n : Int) < 128) = True := eq_true (by omega)
      have w2_ : wrap64 ((n : Int) - 128) = (n : Int) - 128 := by unfold wrap64; omega
      rw [show n - 128 = 0 by omega] at HTL
      have hc5 := (sep_que' (sep_l1 HS.out)).2.1
      obtain ⟨A6, hA6⟩ : ∃ A6, (if c5 = 0 then A5 else A5.map (·.add (0 * 4))) = A6 := ⟨_, rfl⟩
      have hcut : ∀ W : World, (Instr.slice 43 (.slice A5 n c5) (some (.int .i64 0)) none none).run Try.prog W = .ok (.slice A6 (n - 0) (c5 - 0)) W := by
        have := cut_from (P := Try.prog) 43 46 .i64 Try.underlying43 hi0 4 hsz0 A5 n c5 (0 : Int) (by omega) (by omega)
        rw [show (((0 : Int)).toNat) = 0 from rfl, hA6] at this
        exact this
      have n_ := sep_que_drop (k := 0) (sep_l1 HS.out) (by rw [HE.out]; omega)
      rw [show (if c5 = 0 then A5 else A5.map (·.add (0 * evK.sz))) = A6 from hA6] at n_
      replace n_ := sep_l1 n_
      have n0_ := Aside0.mk n_; clear HS n_; have HS := n0_; clear n0_
      clear hz_ hsz0 hi0 hA6 hc5
      go_region
      all_goals
        go_end0
        have n_ := sep_drew (sep_set HS.out 165 (.slice A6 (n - 0) (c5 - 0)))
        rw [vf_ev] at n_
        rw [HTL.out]
        exact ⟨rfl, view_mk (s := ⟨s.K, E2.drop 0, s.seen + 1⟩) n_⟩
    · subst h8
      have hc5 := (sep_que' (sep_l1 HS.out)).2.1
      obtain ⟨A6, hA6⟩ : ∃ A6, (if c5 = 0 then A5 else A5.map (·.add (0 * 4))) = A6 := ⟨_, rfl⟩
      have hcut : ∀ W : World, (Instr.slice 43 (.slice A5 128 c5) (some (.int .i64 0)) none none).run Try.prog W = .ok (.slice A6 (128 - 0) (c5 - 0)) W := by
        have := cut_from (P := Try.prog) 43 46 .i64 Try.underlying43 hi0 4 hsz0 A5 128 c5 (0 : Int) (by omega) (by omega)
        rw [show (((0 : Int)).toNat) = 0 from rfl, hA6] at this
        exact this
      have n_ := sep_que_drop (k := 0) (sep_l1 HS.out) (by rw [HE.out]; omega)
      rw [show (if c5 = 0 then A5 else A5.map (·.add (0 * evK.sz))) = A6 from hA6] at n_
      replace n_ := sep_l1 n_
      have n0_ := Aside0.mk n_; clear HS n_; have HS := n0_; clear n0_
      clear hz_ hsz0 hi0 hA6 hc5
      go_region
      all_goals
        go_end0
        have n_ := sep_drew (sep_set HS.out 165 (.slice A6 (128 - 0) (c5 - 0)))
        rw [vf_ev] at n_
        rw [HTL.out]
        exact ⟨rfl, view_mk (s := ⟨s.K, E2.drop 0, s.seen + 1⟩) n_⟩
    · obtain rfl : n = 129 := by omega
      have hc5 := (sep_que' (sep_l1 HS.out)).2.1
      obtain ⟨A6, hA6⟩ : ∃ A6, (if c5 = 1 then A5 else A5.map (·.add (1 * 4))) = A6 := ⟨_, rfl⟩
      have hcut : ∀ W : World, (Instr.slice 43 (.slice A5 129 c5) (some (.int .i64 1)) none none).run Try.prog W = .ok (.slice A6 (129 - 1) (c5 - 1)) W := by
        have := cut_from (P := Try.prog) 43 46 .i64 Try.underlying43 hi0 4 hsz0 A5 129 c5 (1 : Int) (by omega) (by omega)
        rw [show (((1 : Int)).toNat) = 1 from rfl, hA6] at this
        exact this
      have n_ := sep_que_drop (k := 1) (sep_l1 HS.out) (by rw [HE.out]; omega)
      rw [show (if c5 = 1 then A5 else A5.map (·.add (1 * evK.sz))) = A6 from hA6] at n_
      replace n_ := sep_l1 n_
      have n0_ := Aside0.mk n_; clear HS n_; have HS := n0_; clear n0_
      clear hz_ hsz0 hi0 hA6 hc5
      go_region
      all_goals
        go_end0
        have n_ := sep_drew (sep_set HS.out 165 (.slice A6 (129 - 1) (c5 - 1)))
        rw [vf_ev] at n_
        rw [HTL.out]
        exact ⟨rfl, view_mk (s := ⟨s.K, E2.drop 1, s.seen + 1⟩) n_⟩
  · go_simp
    (refine hK.out _ _ ?_; clear hK K; (try simp only [Act.put, List.setIfInBounds_toArray, List.set_cons_zero, List.set_cons_succ]))
    refine a_two 4 6 (by kernel_rfl) rfl (by rfl) rfl (by rfl) (fun K hK => ?_) (fun K hK => ?_)
    · go_simp
      (refine hK.out _ _ ?_; clear hK K; (try simp only [Act.put, List.setIfInBounds_toArray, List.set_cons_zero, List.set_cons_succ]))
      (refine a_one 6 (by kernel_rfl) rfl (by rfl) (fun K hK => ?_); go_simp; (refine hK.out _ _ ?_; clear hK K; (try simp only [Act.put, List.setIfInBounds_toArray, List.set_cons_zero, List.set_cons_succ])))
      refine a_one' 7 (by kernel_rfl) rfl (step_qappend (w0 := w) (ok0 := ok) evK (by rfl) (.tmp 15) (.tmp 17) 43 46 z46 32 rfl rfl info46 rfl (by decide) (by decide) (.slice A s.E.length c) s.E e e.cells rfl rfl (evK_M _ _ _ _) (sep_l2 HS.out) (by have := HL.out.1; omega) (fun v1 w5 hs => ?_))
      simp only [Act.put, List.setIfInBounds_toArray, List.set_cons_zero, List.set_cons_succ]
      clear HS k1 k2 k3 k4 b1 b3
      obtain ⟨A5, c5, rfl, -, -⟩ := sep_que hs
      have b1 := view_ev (sep_l2 hs)
      have b3 := sep_frozen (sep_l2 hs) 165
      have HS := Aside0.mk hs
      clear hs
      (refine a_one 8 (by kernel_rfl) rfl (by rfl) (fun K hK => ?_); go_simp; (refine hK.out _ _ ?_; clear hK K; (try simp only [Act.put, List.setIfInBounds_toArray, List.set_cons_zero, List.set_cons_succ])))
      (refine a_one 9 (by kernel_rfl) rfl (by rfl) (fun K hK => ?_); go_simp; (refine hK.out _ _ ?_; clear hK K; (try simp only [Act.put, List.setIfInBounds_toArray, List.set_cons_zero, List.set_cons_succ])))
      (refine a_one 10 (by kernel_rfl) rfl (by rfl) (fun K hK => ?_); go_simp; (refine hK.out _ _ ?_; clear hK K; (try simp only [Act.put, List.setIfInBounds_toArray, List.set_cons_zero, List.set_cons_succ])))
      refine wpAny_done (by kernel_rfl) ?_ _
      have n_ := sep_set (sep_l2 HS.out) 165 (.slice A5 (s.E ++ [e]).length c5)
      rw [vf_ev, List.length_append, List.length_singleton] at n_
      replace n_ := sep_drop (sep_l2 n_)
      have n0_ := Aside0.mk n_; clear HS n_; have HS := n0_; clear n0_
      generalize w5.setCell ⟨p, 165, none⟩ (.slice A5 (s.E.length + 1) c5) = w6 at HS ⊢
      clear b1 b3
      go_upto_region 3 with (fail)
      obtain ⟨n, hn⟩ : ∃ n, s.E.length + 1 = n := ⟨_, rfl⟩
      have hE : (s.E ++ [e]).length = n := by rw [List.length_append, List.length_singleton]; exact hn
      have hn9 : n ≤ 129 := by have := HL.out.1; omega
      have HTL := Aside0.mk (show (tell s e) = ⟨s.K, (s.E ++ [e]).drop (n - 128), s.seen + 1⟩ by rw [← hn]; rfl)
      rw [hn] at HS ⊢
      generalize s.E ++ [e] = E2 at hE HS HTL
      have HE := Aside0.mk hE
      clear hn hE
      have b1 := view_ev (sep_drew HS.out)
      have b3 := sep_frozen (sep_drew HS.out) 165
      obtain ⟨i0, hi0, hz_⟩ := Option.map_eq_some_iff.1 info46
      have hsz0 : i0.size = 4 := by injection hz_ with _ h1; injection h1
      rcases Nat.lt_trichotomy n 128 with h8 | h8 | h8
      · have s1 : ((n : Int) - 128 < 0) = True := eq_true (by omega)
        have s2 : ((n : Int) < 128) = True := eq_true (by omega)
        have w2_ : wrap64 ((n : Int) - 128) = (n : Int) - 128 := by unfold wrap64; omega
        rw [show n - 128 = 0 by omega] at HTL
        have hc5 := (sep_que' (sep_l1 HS.out)).2.1
        obtain ⟨A6, hA6⟩ : ∃ A6, (if c5 = 0 then A5 else A5.map (·.add (0 * 4))) = A6 := ⟨_, rfl⟩
        have hcut : ∀ W : World, (Instr.slice 43 (.slice A5 n c5) (some (.int .i64 0)) none none).run Try.prog W = .ok (.slice A6 (n - 0) (c5 - 0)) W := by
          have := cut_from (P := Try.prog) 43 46 .i64 Try.underlying43 hi0 4 hsz0 A5 n c5 (0 : Int) (by omega) (by omega)
          rw [show (((0 : Int)).toNat) = 0 from rfl, hA6] at this
          exact this
        have n_ := sep_que_drop (k := 0) (sep_l1 HS.out) (by rw [HE.out]; omega)
        rw [show (if c5 = 0 then A5 else A5.map (·.add (0 * evK.sz))) = A6 from hA6] at n_
        replace n_ := sep_l1 n_
        have n0_ := Aside0.mk n_; clear HS n_; have HS := n0_; clear n0_
        clear hz_ hsz0 hi0 hA6 hc5
        go_region
        all_goals
          go_end0
          have n_ := sep_drew (sep_set HS.out 165 (.slice A6 (n - 0) (c5 - 0)))
          rw [vf_ev] at n_
          rw [HTL.out]
          exact ⟨rfl, view_mk (s := ⟨s.K, E2.drop 0, s.seen + 1⟩) n_⟩
      · subst h8
        have hc5 := (sep_que' (sep_l1 HS.out)).2.1
        obtain ⟨A6, hA6⟩ : ∃ A6, (if c5 = 0 then A5 else A5.map (·.add (0 * 4))) = A6 := ⟨_, rfl⟩
        have hcut : ∀ W : World, (Instr.slice 43 (.slice A5 128 c5) (some (.int .i64 0)) none none).run Try.prog W = .ok (.slice A6 (128 - 0) (c5 - 0)) W := by
          have := cut_from (P := Try.prog) 43 46 .i64 Try.underlying43 hi0 4 hsz0 A5 128 c5 (0 : Int) (by omega) (by omega)
          rw [show (((0 : Int)).toNat) = 0 from rfl, hA6] at this
          exact this
        have n_ := sep_que_drop (k := 0) (sep_l1 HS.out) (by rw [HE.out]; omega)
        rw [show (if c5 = 0 then A5 else A5.map (·.add (0 * evK.sz))) = A6 from hA6] at n_
        replace n_ := sep_l1 n_
        have n0_ := Aside0.mk n_; clear HS n_; have HS := n0_; clear n0_
        clear hz_ hsz0 hi0 hA6 hc5
        go_region
        all_goals
          go_end0
          have n_ := sep_drew (sep_set HS.out 165 (.slice A6 (128 - 0) (c5 - 0)))
          rw [vf_ev] at n_
          rw [HTL.out]
          exact ⟨rfl, view_mk (s := ⟨s.K, E2.drop 0, s.seen + 1⟩) n_⟩
      · obtain rfl : n = 129 := by omega
        have hc5 := (sep_que' (sep_l1 HS.out)).2.1
        obtain ⟨A6, hA6⟩ : ∃ A6, (if c5 = 1 then A5 else A5.map (·.add (1 * 4))) = A6 := ⟨_, rfl⟩
        have hcut : ∀ W : World, (Instr.slice 43 (.slice A5 129 c5) (some (.int .i64 1)) none none).run Try.prog W = .ok (.slice A6 (129 - 1) (c5 - 1)) W := by
          have := cut_from (P := Try.prog) 43 46 .i64 Try.underlying43 hi0 4 hsz0 A5 129 c5 (1 : Int) (by omega) (by omega)
          rw [show (((1 : Int)).toNat) = 1 from rfl, hA6] at this
          exact this
        have n_ := sep_que_drop (k := 1) (sep_l1 HS.out) (by rw [HE.out]; omega)
        rw [show (if c5 = 1 then A5 else A5.map (·.add (1 * evK.sz))) = A6 from hA6] at n_
        replace n_ := sep_l1 n_
        have n0_ := Aside0.mk n_; clear HS n_; have HS := n0_; clear n0_
        clear hz_ hsz0 hi0 hA6 hc5
        go_region
        all_goals
          go_end0
          have n_ := sep_drew (sep_set HS.out 165 (.slice A6 (129 - 1) (c5 - 1)))
          rw [vf_ev] at n_
          rw [HTL.out]
          exact ⟨rfl, view_mk (s := ⟨s.K, E2.drop 1, s.seen + 1⟩) n_⟩
    · go_simp
      (refine hK.out _ _ ?_; clear hK K; (try simp only [Act.put, List.setIfInBounds_toArray, List.set_cons_zero, List.set_cons_succ]))
      have m1 : ∀ o, (w9.alloc o).cell? ⟨p, 165, none⟩ = some (.slice A s.E.length c) := fun o => view_ev (sep_l1 (sep_skip HS.out o))
      (refine a_one 4 (by kernel_rfl) rfl (by rfl) (fun K hK => ?_); go_simp; (refine hK.out _ _ ?_; clear hK K; (try simp only [Act.put, List.setIfInBounds_toArray, List.set_cons_zero, List.set_cons_succ])))
      clear m1
      refine a_one' 7 (by kernel_rfl) rfl (step_qappend (w0 := w) (ok0 := ok) evK (by rfl) (.tmp 15) (.tmp 17) 43 46 z46 32 rfl rfl info46 rfl (by decide) (by decide) (.slice A s.E.length c) s.E e e.cells rfl rfl (evK_M _ _ _ _) (sep_l2 HS.out) (by have := HL.out.1; omega) (fun v1 w5 hs => ?_))
      simp only [Act.put, List.setIfInBounds_toArray, List.set_cons_zero, List.set_cons_succ]
      clear HS k1 k2 k3 k4 b1 b3
      obtain ⟨A5, c5, rfl, -, -⟩ := sep_que hs
      have b1 := view_ev (sep_l2 hs)
      have b3 := sep_frozen (sep_l2 hs) 165
      have HS := Aside0.mk hs
      clear hs
      (refine a_one 8 (by kernel_rfl) rfl (by rfl) (fun K hK => ?_); go_simp; (refine hK.out _ _ ?_; clear hK K; (try simp only [Act.put, List.setIfInBounds_toArray, List.set_cons_zero, List.set_cons_succ])))
      (refine a_one 9 (by kernel_rfl) rfl (by rfl) (fun K hK => ?_); go_simp; (refine hK.out _ _ ?_; clear hK K; (try simp only [Act.put, List.setIfInBounds_toArray, List.set_cons_zero, List.set_cons_succ])))
      (refine a_one 10 (by kernel_rfl) rfl (by rfl) (fun K hK => ?_); go_simp; (refine hK.out _ _ ?_; clear hK K; (try simp only [Act.put, List.setIfInBounds_toArray, List.set_cons_zero, List.set_cons_succ])))
      refine wpAny_done (by kernel_rfl) ?_ _
      have n_ := sep_set (sep_l2 HS.out) 165 (.slice A5 (s.E ++ [e]).length c5)
      rw [vf_ev, List.length_append, List.length_singleton] at n_
      replace n_ := sep_drop (sep_l2 n_)
      have n0_ := Aside0.mk n_; clear HS n_; have HS := n0_; clear n0_
      generalize w5.setCell ⟨p, 165, none⟩ (.slice A5 (s.E.length + 1) c5) = w6 at HS ⊢
      clear b1 b3
      go_upto_region 3 with (fail)
      obtain ⟨n, hn⟩ : ∃ n, s.E.length + 1 = n := ⟨_, rfl⟩
      have hE : (s.E ++ [e]).length = n := by rw [List.length_append, List.length_singleton]; exact hn
      have hn9 : n ≤ 129 := by have := HL.out.1; omega
      have HTL := Aside0.mk (show (tell s e) = ⟨s.K, (s.E ++ [e]).drop (n - 128), s.seen + 1⟩ by rw [← hn]; rfl)
      rw [hn] at HS ⊢
      generalize s.E ++ [e] = E2 at hE HS HTL
      have HE := Aside0.mk hE
      clear hn hE
      have b1 := view_ev (sep_drew HS.out)
      have b3 := sep_frozen (sep_drew HS.out) 165
      obtain ⟨i0, hi0, hz_⟩ := Option.map_eq_some_iff.1 info46
      have hsz0 : i0.size = 4 := by injection hz_ with _ h1; injection h1
      rcases Nat.lt_trichotomy n 128 with h8 | h8 | h8
      · have s1 : ((n : Int) - 128 < 0) = True := eq_true (by omega)
        have s2 : ((n : Int) < 128) = True := eq_true (by omega)
        have w2_ : wrap64 ((n : Int) - 128) = (n : Int) - 128 := by unfold wrap64; omega
        rw [show n - 128 = 0 by omega] at HTL
        have hc5 := (sep_que' (sep_l1 HS.out)).2.1
        obtain ⟨A6, hA6⟩ : ∃ A6, (if c5 = 0 then A5 else A5.map (·.add (0 * 4))) = A6 := ⟨_, rfl⟩
        have hcut : ∀ W : World, (Instr.slice 43 (.slice A5 n c5) (some (.int .i64 0)) none none).run Try.prog W = .ok (.slice A6 (n - 0) (c5 - 0)) W := by
          have := cut_from (P := Try.prog) 43 46 .i64 Try.underlying43 hi0 4 hsz0 A5 n c5 (0 : Int) (by omega) (by omega)
          rw [show (((0 : Int)).toNat) = 0 from rfl, hA6] at this
          exact this
        have n_ := sep_que_drop (k := 0) (sep_l1 HS.out) (by rw [HE.out]; omega)
        rw [show (if c5 = 0 then A5 else A5.map (·.add (0 * evK.sz))) = A6 from hA6] at n_
        replace n_ := sep_l1 n_
        have n0_ := Aside0.mk n_; clear HS n_; have HS := n0_; clear n0_
        clear hz_ hsz0 hi0 hA6 hc5
        go_region
        all_goals
          go_end0
          have n_ := sep_drew (sep_set HS.out 165 (.slice A6 (n - 0) (c5 - 0)))
          rw [vf_ev] at n_
          rw [HTL.out]
          exact ⟨rfl, view_mk (s := ⟨s.K, E2.drop 0, s.seen + 1⟩) n_⟩
      · subst h8
        have hc5 := (sep_que' (sep_l1 HS.out)).2.1
        obtain ⟨A6, hA6⟩ : ∃ A6, (if c5 = 0 then A5 else A5.map (·.add (0 * 4))) = A6 := ⟨_, rfl⟩
        have hcut : ∀ W : World, (Instr.slice 43 (.slice A5 128 c5) (some (.int .i64 0)) none none).run Try.prog W = .ok (.slice A6 (128 - 0) (c5 - 0)) W := by
          have := cut_from (P := Try.prog) 43 46 .i64 Try.underlying43 hi0 4 hsz0 A5 128 c5 (0 : Int) (by omega) (by omega)
          rw [show (((0 : Int)).toNat) = 0 from rfl, hA6] at this
          exact this
        have n_ := sep_que_drop (k := 0) (sep_l1 HS.out) (by rw [HE.out]; omega)
        rw [show (if c5 = 0 then A5 else A5.map (·.add (0 * evK.sz))) = A6 from hA6] at n_
        replace n_ := sep_l1 n_
        have n0_ := Aside0.mk n_; clear HS n_; have HS := n0_; clear n0_
        clear hz_ hsz0 hi0 hA6 hc5
        go_region
        all_goals
          go_end0
          have n_ := sep_drew (sep_set HS.out 165 (.slice A6 (128 - 0) (c5 - 0)))
          rw [vf_ev] at n_
          rw [HTL.out]
          exact ⟨rfl, view_mk (s := ⟨s.K, E2.drop 0, s.seen + 1⟩) n_⟩
      · obtain rfl : n = 129 := by omega
        have hc5 := (sep_que' (sep_l1 HS.out)).2.1
        obtain ⟨A6, hA6⟩ : ∃ A6, (if c5 = 1 then A5 else A5.map (·.add (1 * 4))) = A6 := ⟨_, rfl⟩
        have hcut : ∀ W : World, (Instr.slice 43 (.slice A5 129 c5) (some (.int .i64 1)) none none).run Try.prog W = .ok (.slice A6 (129 - 1) (c5 - 1)) W := by
          have := cut_from (P := Try.prog) 43 46 .i64 Try.underlying43 hi0 4 hsz0 A5 129 c5 (1 : Int) (by omega) (by omega)
          rw [show (((1 : Int)).toNat) = 1 from rfl, hA6] at this
          exact this
        have n_ := sep_que_drop (k := 1) (sep_l1 HS.out) (by rw [HE.out]; omega)
        rw [show (if c5 = 1 then A5 else A5.map (·.add (1 * evK.sz))) = A6 from hA6] at n_
        replace n_ := sep_l1 n_
        have n0_ := Aside0.mk n_; clear HS n_; have HS := n0_; clear n0_
        clear hz_ hsz0 hi0 hA6 hc5
        go_region
        all_goals
          go_end0
          have n_ := sep_drew (sep_set HS.out 165 (.slice A6 (129 - 1) (c5 - 1)))
          rw [vf_ev] at n_
          rw [HTL.out]
          exact ⟨rfl, view_mk (s := ⟨s.K, E2.drop 1, s.seen + 1⟩) n_⟩
end Go.Proofs.Ythpmlnnjfmcglaa.VW
