/- The view: Clone, Events. Conditions: those that each theorem names. -/
import Derived.Test.YthpmlnnjfmcglaaVC
namespace Go.Proofs.Ythpmlnnjfmcglaa.VW
set_option linter.unusedVariables false
set_option linter.unusedSimpArgs false
open Go Go.RowKit Go.Proofs.YthpmlnnjfmcglaaS Go.Proofs.YthpmlnnjfmcglaaS.Asn Go.Proofs.Ythpmlnnjfmcglaa.PA Go.Proofs.YthpmlnnjfmcglaaW.PrintWords Go.Proofs.YthpmlnnjfmcglaaW.PrintLast Go.Proofs.YthpmlnnjfmcglaaW.PrintMore
section
variable {P : Program} {ops : Array Oper} {rest : List Oper} {o : Oper} {a : Act} {Q : Exit → Act → World → Prop} {α : Type} {w0 W : World} {ok0 : Nat → Prop} {F : Asn}
theorem wp_append_rows (d : Kd α) (hgd : o.guard = none) (s x : Operand) (t e : TypeId) (z : Value) (bytes : Nat)
    (ho : o.op = .call { callee := .builtin .append, args := #[s, x], argTypes := #[t, t] })
    (ht : P.underlying t = some (.slice e)) (hinfo : (P.info? e).map (fun i => (i.zero, i.size, i.bytes)) = some (some z, d.sz, bytes)) (hz : z.cells.size = d.sz) (hs0 : 0 < d.sz) (hb0 : 0 < bytes)
    (v : Value) (xs ys : List α) (A : Option Addr) (m c : Nat) (hs : a.eval s = v) (hx : a.eval x = .slice A m c)
    (HS : Sep w0 ok0 (row d e v xs ⋆ F) W) (HR : d.C W A m ys) (hKM : ∀ x cs, d.K W x cs → d.M W 0 (fun _ => False) x cs) (hl : (xs.length + m) * bytes ≤ 140737488355328)
    (h : ∀ v1 w1, Sep w0 ok0 (row d e v1 (xs ++ ys) ⋆ F) w1 → wpList P ops Q rest (a.put o.dst v1) w1) : wpList P ops Q (o :: rest) a W := by
  obtain ⟨ok, hr, hh⟩ := sep_grown HS
  exact Kd.R_append_rows d (Rr := d.K W) (w0 := W) 0 hgd s x t e z bytes ho ht hinfo hz hs0 hb0 v xs ys A m c (fun k => ok k ∨ W.heap.size ≤ k) (fun _ => False) hs hx (Kd.R_mono hr (fun k hk => .inl hk)) HR hKM (fun _ h => h.elim) (fun k hk => .inr hk) (Below.refl _ _) (Nat.zero_le _) hl (fun v1 w1 hr1 hb hg _ => h v1 w1 (hh v1 w1 _ hr1 hb hg))
theorem sep_empty {d : Kd α} {e : Nat} (h : Sep w0 ok0 F W) : Sep w0 ok0 (row d e (.slice (some ⟨W.heap.size, 0, none⟩) 0 0) [] ⋆ F) (W.alloc (.cells #[] e (0, 0))) := by
  refine sep_new (A := row d e _ []) (ok := fun k => k = W.heap.size) h (below_alloc (Below.refl _ _) _) ⟨fun k hk => ?_, [], ⟨by simp, .inr ⟨W.heap.size, 0, #[], rfl, Nat.zero_le _, blk_new W _, Nat.le_refl _, by decide, by simp, by simp⟩⟩, Reps.none _ _⟩ (fun k hk => by omega)
  have : W.heap.size = k := by simpa [Value.ownBlock] using hk
  exact this.symm
end
theorem ev_Clone (A : Option Addr) (c : Nat) (l : List Ev) (w : World) (hC : evK.C w A l.length l) (hc : l.length ≤ c) (hl : l.length ≤ 1000000) :
    Calls Try.prog 36 #[.slice A l.length c] w fun e w' => ∃ v, e = .returned v ∧ Sep w (fun _ => False) (row evK 46 v l ⋆ emp) w' := by
  have HS := Aside0.mk (sep_start w)
  have HC := Aside0.mk hC
  have HL := Aside0.mk hl
  have hnil : ∀ (w : World) (a : Option Addr) (n c n' c' : Nat), (Go.binOp .eql 43 (.slice a n c) (.slice none n' c')).run Try.prog w = .ok (.bool a.isNone) w := fun w a n c n' c' => Lib.run_eql_slice_nil w _ _ a n c n' c' Try.underlying43
  cases A with
  | none =>
    have h0 : l = [] := by
      cases l with
      | nil => rfl
      | cons x r => obtain ⟨ad, h, _⟩ := hC.2.2 (by simp); cases h
    subst h0
    clear hC hc hl
    go_enter Try.func36, Try.ntmps36
    go_wp2
    go_ret
    exact ⟨_, rfl, sep_row_nil HS.out⟩
  | some ad =>
    clear hC hc hl
    go_enter Try.func36, Try.ntmps36
    go_wp2_with ((with_reducible refine gate_builtin (b := .append) (xs := #[.tmp 5, .tmp 6]) rfl ?_); at_builtin; refine wp_append_rows evK rfl (.tmp 5) (.tmp 6) 43 46 z46 32 rfl Try.underlying43 info46 rfl (by decide) (by decide) _ [] l (some ad) l.length c (by rfl) (by rfl) (sep_empty HS.out) (Kd.C_alloc HC.out _) (fun x cs hk => by rw [evK_open hk]; exact evK_M _ _ _ _) (by have := HL.out; simp only [List.length_nil]; omega) ?_; intro v1 w1 n_; clear HS; have HS := Aside0.mk n_; clear n_)
    go_ret
    exact ⟨_, rfl, HS.out⟩
theorem view_Events (p : Nat) (s : VS) (w : World) (ok : Nat → Prop) (hl : s.E.length ≤ 1000000) (h : (viewA p s ⋆ emp).H w ok) :
    Calls Try.prog 16 #[.pointer (some ⟨p, 0, none⟩)] w fun e w' => ∃ v, e = .returned v ∧ Sep w ok (row evK 46 v s.E ⋆ viewA p s ⋆ emp) w' := by
  obtain ⟨v, hs⟩ := view_open (sep_begin h)
  obtain ⟨A, c, rfl, hc, hC⟩ := sep_que (sep_l1 hs)
  have HS := Aside0.mk hs
  have HC := Aside0.mk hC
  have HCC := Aside0.mk hc
  have HL := Aside0.mk hl
  have b1 := view_ev hs
  clear hs hC hc h hl
  go_enter Try.func16, Try.ntmps16
  go_wp2_with (go_at_call 36; have hx_ := ev_Clone A c s.E _ HC.out HCC.out HL.out; (with_reducible refine Calls.mono hx_ ?_); rintro e w5 ⟨v5_, rfl, hq_⟩; have n_ := sep_made_of HS.out (sep_only hq_); clear hx_ hq_ HS; have HS := Aside0.mk n_; clear n_)
  go_ret
  refine ⟨_, rfl, sep_l1 (view_mk (sep_l2 (sep_l2 HS.out)))⟩
end Go.Proofs.Ythpmlnnjfmcglaa.VW
