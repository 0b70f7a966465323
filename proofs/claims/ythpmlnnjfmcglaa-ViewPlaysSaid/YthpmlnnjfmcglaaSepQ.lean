/- Queues over separate blocks: append, cuts. No condition but those that each theorem names. -/
import Derived.Test.YthpmlnnjfmcglaaSep
namespace Go.Proofs.YthpmlnnjfmcglaaS
set_option linter.unusedVariables false
set_option linter.unusedSimpArgs false
open Go Go.RowKit Go.Proofs.YthpmlnnjfmcglaaW.PrintWords Asn
section
variable {P : Program} {ops : Array Oper} {rest : List Oper} {o : Oper} {a : Act} {Q : Exit → Act → World → Prop} {α : Type} {w0 w W : World} {ok0 : Nat → Prop} {F : Asn}
theorem sep_que' {d : Kd α} {e : Nat} {A : Option Addr} {n c : Nat} {xs : List α} (h : Sep w0 ok0 (que d e (.slice A n c) xs ⋆ F) w) : n = xs.length ∧ n ≤ c ∧ d.C w A xs.length xs := by
  obtain ⟨_, _, ⟨_, _, hA, _⟩, _⟩ := h
  exact Kd.Q_reads' hA
theorem sep_que_nil {d : Kd α} {e : Nat} (h : Sep w0 ok0 F w) : Sep w0 ok0 (que d e (.slice none 0 0) [] ⋆ F) w :=
  sep_new (A := que d e (.slice none 0 0) []) h (Below.refl _ _) (ok := fun _ => False) (Kd.Q_nil _ _ _ _ _) (fun _ h => h.elim)
theorem sep_que_drop {d : Kd α} {e : Nat} {A : Option Addr} {k n c : Nat} {xs : List α} (h : Sep w0 ok0 (que d e (.slice A n c) xs ⋆ F) w) (hk : k ≤ xs.length) :
    Sep w0 ok0 (que d e (.slice (if c = k then A else A.map (·.add (k * d.sz))) (n - k) (c - k)) (xs.drop k) ⋆ F) w :=
  sep_head h (fun ok hq => Kd.Q_drop hq hk)
theorem sep_row_que {d : Kd α} {e : Nat} {v : Value} {xs : List α} (h : Sep w0 ok0 (row d e v xs ⋆ F) w) : Sep w0 ok0 (que d e v xs ⋆ F) w :=
  sep_head h (fun ok hq => Kd.Q_of_R hq)
/-- Behind an append to a queue. -/
theorem sep_qgrown {d : Kd α} {e : Nat} {v : Value} {xs : List α} (h : Sep w0 ok0 (que d e v xs ⋆ F) w) :
    ∃ ok, d.Q e w 0 ok v xs ∧ ∀ v1 w1 (ys : List α), d.Q e w1 0 (fun k => ok k ∨ w.heap.size ≤ k) v1 ys → Below 0 w w1 → w.grownBy w1 v.ownBlock → Sep w0 ok0 (que d e v1 ys ⋆ F) w1 := by
  obtain ⟨ok, hr, hh⟩ := sep_call h
  refine ⟨ok, hr, fun v1 w1 ys hr1 hb hg => hh _ _ ⟨⟨hb.os, hb.tape, hb.output, hb.size, fun k hlt hn => hg.block k hlt (fun he => hn (hr.1 k he.symm))⟩, _, hr1, fun k hk => hk⟩⟩
theorem wp_qappend (d : Kd α) (hgd : o.guard = none) (s x : Operand) (t e : TypeId) (z : Value) (bytes : Nat)
    (ho : o.op = .call { callee := .builtin .append, args := #[s, x], argTypes := #[t, t] })
    (ht : P.underlying t = some (.slice e)) (hinfo : (P.info? e).map (fun i => (i.zero, i.size, i.bytes)) = some (some z, d.sz, bytes)) (hz : z.cells.size = d.sz) (hs0 : 0 < d.sz) (hb0 : 0 < bytes)
    (v : Value) (xs : List α) (p : α) (cs : List Value) (hs : a.eval s = v) (hx : a.eval x = .slice (some ⟨W.heap.size, 0, none⟩) 1 1) (hp : d.M W 0 (fun _ => False) p cs)
    (HS : Sep w0 ok0 (que d e v xs ⋆ F) W) (hl : (xs.length + 1) * bytes ≤ 140737488355328)
    (h : ∀ v1 w1, Sep w0 ok0 (que d e v1 (xs ++ [p]) ⋆ F) w1 → wpList P ops Q rest (a.put o.dst v1) w1) :
    wpList P ops Q (o :: rest) a (W.alloc (.cells cs.toArray e)) := by
  obtain ⟨ok, hr, hh⟩ := sep_qgrown HS
  exact Kd.Q_append d (w0 := W) 0 hgd s x t e z bytes ho ht hinfo hz hs0 hb0 v xs p cs (fun k => ok k ∨ W.heap.size ≤ k) (fun _ => False) hs hx hp (fun _ h => h.elim) (fun k hk => .inr hk) (Kd.Q_mono hr (fun k hk => .inl hk)) (Below.refl _ _) (Nat.zero_le _) hl (fun v1 w1 hr1 hb hg _ => h v1 w1 (hh v1 w1 _ hr1 hb hg))
theorem step_qappend {Kc : Act → World → Prop} (d : Kd α) (hw : Region.wanted o (yielded ops a.tmps) = true) (s x : Operand) (t e : TypeId) (z : Value) (bytes : Nat)
    (ho : o.op = .call { callee := .builtin .append, args := #[s, x], argTypes := #[t, t] })
    (ht : P.underlying t = some (.slice e)) (hinfo : (P.info? e).map (fun i => (i.zero, i.size, i.bytes)) = some (some z, d.sz, bytes)) (hz : z.cells.size = d.sz) (hs0 : 0 < d.sz) (hb0 : 0 < bytes)
    (v : Value) (xs : List α) (p : α) (cs : List Value) (hs : a.eval s = v) (hx : a.eval x = .slice (some ⟨W.heap.size, 0, none⟩) 1 1) (hp : d.M W 0 (fun _ => False) p cs)
    (HS : Sep w0 ok0 (que d e v xs ⋆ F) W) (hl : (xs.length + 1) * bytes ≤ 140737488355328)
    (h : ∀ v1 w1, Sep w0 ok0 (que d e v1 (xs ++ [p]) ⋆ F) w1 → Kc (a.put o.dst v1) w1) :
    if Region.wanted o (yielded ops a.tmps) = true then Oper.wp P o a (W.alloc (.cells cs.toArray e)) Kc Q else Kc (a.put o.dst undef) (W.alloc (.cells cs.toArray e)) := by
  obtain ⟨ok, hr, hh⟩ := sep_qgrown HS
  exact Kd.Q_append_step d (w0 := W) 0 hw s x t e z bytes ho ht hinfo hz hs0 hb0 v xs p cs (fun k => ok k ∨ W.heap.size ≤ k) (fun _ => False) hs hx hp (fun _ h => h.elim) (fun k hk => .inr hk) (Kd.Q_mono hr (fun k hk => .inl hk)) (Below.refl _ _) (Nat.zero_le _) hl (fun v1 w1 hr1 hb hg _ => h v1 w1 (hh v1 w1 _ hr1 hb hg))
end
end Go.Proofs.YthpmlnnjfmcglaaS
