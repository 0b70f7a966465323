/- Many separate things of one kind: iterated stars; rows that are only read, shared by many (pools). No condition but those that each theorem names. -/
import Derived.Test.YtobfabfoenldfaaSep
namespace Go.Proofs.YtobfabfoenldfaaS
set_option linter.unusedVariables false
set_option linter.unusedSimpArgs false
open Go Go.RowKit Go.Proofs.YtobfabfoenldfaaW.PrintWords Asn
/-- f 0 to f (n - 1). -/
def all : Nat → (Nat → Asn) → Asn
  | 0, _ => emp
  | n + 1, f => f n ⋆ all n f
/-- All but i. -/
def allx : Nat → Nat → (Nat → Asn) → Asn
  | 0, _, _ => emp
  | n + 1, i, f => if n = i then allx n i f else f n ⋆ allx n i f
theorem allx_ge : ∀ (n i : Nat) (f : Nat → Asn), n ≤ i → allx n i f = all n f
  | 0, _, _, _ => rfl
  | n + 1, i, f, h => by
    show (if n = i then allx n i f else f n ⋆ allx n i f) = (f n ⋆ all n f)
    rw [if_neg (by omega), allx_ge n i f (by omega)]
theorem allx_congr : ∀ (n i : Nat) (f g : Nat → Asn), (∀ j, j < n → j ≠ i → f j = g j) → allx n i f = allx n i g
  | 0, _, _, _, _ => rfl
  | n + 1, i, f, g, h => by
    show (if n = i then allx n i f else f n ⋆ allx n i f) = (if n = i then allx n i g else g n ⋆ allx n i g)
    rw [allx_congr n i f g (fun j hj hji => h j (by omega) hji)]
    by_cases hn : n = i
    · rw [if_pos hn, if_pos hn]
    · rw [if_neg hn, if_neg hn, h n (by omega) hn]
theorem all_out : ∀ (n i : Nat) (f : Nat → Asn) (w : World) (ok : Nat → Prop), i < n → (all n f).H w ok → (f i ⋆ allx n i f).H w ok
  | n + 1, i, f, w, ok, hi, h => by
    by_cases hn : n = i
    · subst hn
      rw [show allx (n + 1) n f = allx n n f from if_pos rfl, allx_ge n n f (Nat.le_refl _)]
      exact h
    · rw [show allx (n + 1) i f = (f n ⋆ allx n i f) from if_neg hn]
      obtain ⟨o1, o2, hA, hB, r⟩ := h
      exact star_l1 ⟨o1, o2, hA, all_out n i f w o2 (by omega) hB, r⟩
theorem all_in : ∀ (n i : Nat) (f : Nat → Asn) (w : World) (ok : Nat → Prop), i < n → (f i ⋆ allx n i f).H w ok → (all n f).H w ok
  | n + 1, i, f, w, ok, hi, h => by
    by_cases hn : n = i
    · subst hn
      rw [show allx (n + 1) n f = allx n n f from if_pos rfl, allx_ge n n f (Nat.le_refl _)] at h
      exact h
    · rw [show allx (n + 1) i f = (f n ⋆ allx n i f) from if_neg hn] at h
      obtain ⟨o1, o2, hA, hB, r⟩ := star_l1 h
      exact ⟨o1, o2, hA, all_in n i f w o2 (by omega) hB, r⟩
theorem all_none : ∀ (n : Nat) (f : Nat → Asn) (w : World), (∀ j, j < n → (f j).H w (fun _ => False)) → (all n f).H w (fun _ => False)
  | 0, _, _, _ => trivial
  | n + 1, f, w, h => ⟨fun _ => False, fun _ => False, h n (Nat.lt_succ_self n), all_none n f w (fun j hj => h j (by omega)), fun _ h _ => h, fun _ h => h, fun _ h => h⟩
/-- Rows that are only read; who refers to them may be many. -/
def pool {α : Type} (d : Kd α) (L : List (Option Addr × List α)) : Asn where
  H := fun w ok => ∀ x ∈ L, Kd.F d w ok x.1 x.2.length x.2
  mono := fun h hk x hx => Kd.F_mono (h x hx) hk
  bound := fun h x hx => Kd.F_bound (h x hx)
  move := fun h hm x hx => Kd.F_step (h x hx) (fun k hk _ => hm k hk)
section
variable {α : Type} {d : Kd α} {w0 w w1 : World} {ok0 : Nat → Prop} {F A : Asn} {n i : Nat} {f g : Nat → Asn} {L M : List (Option Addr × List α)}
theorem sep_all_out (h : Sep w0 ok0 (all n f ⋆ F) w) (hi : i < n) : Sep w0 ok0 (f i ⋆ allx n i f ⋆ F) w := sep_flat (sep_head h (fun ok hh => all_out n i f w ok hi hh))
theorem sep_all_in (h : Sep w0 ok0 (f i ⋆ allx n i f ⋆ F) w) (hi : i < n) : Sep w0 ok0 (all n f ⋆ F) w := sep_head (sep_fold h) (fun ok hh => all_in n i f w ok hi hh)
theorem sep_all_none (h : Sep w0 ok0 F w) (n : Nat) (f : Nat → Asn) (hf : ∀ j, j < n → ∀ w, (f j).H w (fun _ => False)) : Sep w0 ok0 (all n f ⋆ F) w :=
  sep_new (A := all n f) h (Below.refl _ _) (ok := fun _ => False) (all_none n f w (fun j hj => hf j hj w)) (fun _ h => h.elim)
theorem sep_pool_nil (h : Sep w0 ok0 F w) : Sep w0 ok0 (pool d [] ⋆ F) w := sep_new (A := pool d []) h (Below.refl _ _) (ok := fun _ => False) (fun x hx => by cases hx) (fun _ h => h.elim)
theorem pool_app {ok : Nat → Prop} (h : (pool d L ⋆ pool d M).H w ok) : (pool d (L ++ M)).H w ok := by
  obtain ⟨o1, o2, hA, hB, -, h1, h2⟩ := h
  intro x hx
  rcases List.mem_append.1 hx with hx | hx
  · exact Kd.F_mono (hA x hx) h1
  · exact Kd.F_mono (hB x hx) h2
theorem sep_pool_app (h : Sep w0 ok0 (pool d L ⋆ pool d M ⋆ F) w) : Sep w0 ok0 (pool d (L ++ M) ⋆ F) w := sep_head (sep_fold h) (fun ok hh => pool_app hh)
theorem sep_pool_sub (h : Sep w0 ok0 (pool d L ⋆ F) w) (hs : ∀ x ∈ M, x ∈ L) : Sep w0 ok0 (pool d M ⋆ F) w := sep_head h (fun ok hh x hx => hh x (hs x hx))
theorem sep_pool_at (h : Sep w0 ok0 (pool d L ⋆ F) w) {a : Option Addr} {xs : List α} (hm : (a, xs) ∈ L) : d.C w a xs.length xs := by
  obtain ⟨_, ok, ⟨_, _, hA, _⟩, _⟩ := h
  exact Kd.F_now (hA _ hm)
theorem row_pool {e : Nat} {a : Option Addr} {m c : Nat} {xs : List α} {ok : Nat → Prop} (h : (row d e (.slice a m c) xs).H w ok) : (pool d [(a, xs)]).H w ok := by
  intro x hx
  obtain rfl := List.mem_singleton.1 hx
  intro W' hm
  have hb := (row d e (.slice a m c) xs).bound h
  exact (Kd.R_reads' ((row d e (.slice a m c) xs).move hb (fun k hk => hm k hk.1 hk.2))).2.2
theorem sep_row_pool {e : Nat} {a : Option Addr} {m c : Nat} {xs : List α} (h : Sep w0 ok0 (row d e (.slice a m c) xs ⋆ F) w) : Sep w0 ok0 (pool d [(a, xs)] ⋆ F) w := sep_head h (fun ok hh => row_pool hh)
end
section
variable {w0 w w1 : World} {ok0 : Nat → Prop} {A B C D E F G H I : Asn}
theorem star_l5 {ok : Nat → Prop} (h : (A ⋆ B ⋆ C ⋆ D ⋆ E ⋆ G ⋆ F).H w ok) : (G ⋆ A ⋆ B ⋆ C ⋆ D ⋆ E ⋆ F).H w ok := by
  obtain ⟨o1, o2, hA, hB, r⟩ := h
  exact star_l1 ⟨o1, o2, hA, star_l4 hB, r⟩
theorem sep_l6 (h : Sep w0 ok0 (A ⋆ B ⋆ C ⋆ D ⋆ E ⋆ G ⋆ H ⋆ F) w) : Sep w0 ok0 (H ⋆ A ⋆ B ⋆ C ⋆ D ⋆ E ⋆ G ⋆ F) w := sep_l1 (sep_inner h (fun _ h => star_l5 h))
theorem star_l6 {ok : Nat → Prop} (h : (A ⋆ B ⋆ C ⋆ D ⋆ E ⋆ G ⋆ H ⋆ F).H w ok) : (H ⋆ A ⋆ B ⋆ C ⋆ D ⋆ E ⋆ G ⋆ F).H w ok := by
  obtain ⟨o1, o2, hA, hB, r⟩ := h
  exact star_l1 ⟨o1, o2, hA, star_l5 hB, r⟩
theorem sep_l7 (h : Sep w0 ok0 (A ⋆ B ⋆ C ⋆ D ⋆ E ⋆ G ⋆ H ⋆ I ⋆ F) w) : Sep w0 ok0 (I ⋆ A ⋆ B ⋆ C ⋆ D ⋆ E ⋆ G ⋆ H ⋆ F) w := sep_l1 (sep_inner h (fun _ h => star_l6 h))
end
section
variable {P : Program} {ops : Array Oper} {rest : List Oper} {o : Oper} {a : Act} {Q : Exit → Act → World → Prop} {α : Type} {w0 W : World} {ok0 : Nat → Prop} {F : Asn}
theorem wp_append_rows (d : Kd α) (hgd : o.guard = none) (s x : Operand) (t e : TypeId) (z : Value) (bytes : Nat)
    (ho : o.op = .call { callee := .builtin .append, args := #[s, x], argTypes := #[t, t] })
    (ht : P.underlying t = some (.slice e)) (hinfo : (P.info? e).map (fun i => (i.zero, i.size, i.bytes)) = some (some z, d.sz, bytes)) (hz : z.cells.size = d.sz) (hs0 : 0 < d.sz) (hb0 : 0 < bytes)
    (v : Value) (xs ys : List α) (A : Option Addr) (m c : Nat) (hs : a.eval s = v) (hx : a.eval x = .slice A m c)
    (HS : Sep w0 ok0 (row d e v xs ⋆ F) W) (HR : d.C W A m ys) (hKM : ∀ x cs, d.K W x cs → d.M W 0 (fun _ => False) x cs) (hl : (xs.length + m) * bytes ≤ 140737488355328)
    (h : ∀ v1 w1, Sep w0 ok0 (row d e v1 (xs ++ ys) ⋆ F) w1 → wpList P ops Q rest (a.put o.dst v1) w1) : wpList P ops Q (o :: rest) a W := by
  obtain ⟨ok, hr, hh⟩ := sep_grown HS
  exact Kd.R_append_rows d (Rr := d.K W) (w0 := W) 0 hgd s x t e z bytes ho ht hinfo hz hs0 hb0 v xs ys A m c (fun k => ok k ∨ W.heap.size ≤ k) (fun _ => False) hs hx (Kd.R_mono hr (fun k hk => .inl hk)) HR hKM (fun _ h => h.elim) (fun k hk => .inr hk) (Below.refl _ _) (Nat.zero_le _) hl (fun v1 w1 hr1 hb hg _ => h v1 w1 (hh v1 w1 _ hr1 hb hg))
theorem sep_empty {d : Kd α} {e : Nat} (h : Sep w0 ok0 F W) : Sep w0 ok0 (row d e (.slice (some ⟨W.heap.size, 0, none⟩) 0 0) [] ⋆ F) (W.alloc (.cells #[] e (0, 0))) := by
  refine sep_new (A := row d e _ []) (ok := fun k => k = W.heap.size) h (below_alloc (Below.refl _ _) _) ⟨fun k hk => ?_, [], ⟨by simp, .inr ⟨W.heap.size, 0, #[], rfl, Nat.zero_le _, blk_new W _, Nat.le_refl _, by decide, by simp, by simp⟩⟩, Reps.none _ _⟩ (fun k hk => by omega)
  have : W.heap.size = k := by simpa [Value.ownBlock] using hk
  exact this.symm
end
section
variable {w0 w : World} {ok0 : Nat → Prop} {F : Asn} {g : Nat} {t : TypeId} {a b c d e : Value}
theorem facts5 (h : Sep w0 ok0 (pt g #[a, b, c, d, e] t ⋆ F) w) :
    w.cell? ⟨g, 0, none⟩ = some a ∧ w.cell? ⟨g, 1, none⟩ = some b ∧ w.cell? ⟨g, 2, none⟩ = some c ∧ w.cell? ⟨g, 3, none⟩ = some d ∧ w.cell? ⟨g, 4, none⟩ = some e :=
  ⟨sep_cell h 0, sep_cell h 1, sep_cell h 2, sep_cell h 3, sep_cell h 4⟩
theorem facts5f (h : Sep w0 ok0 (pt g #[a, b, c, d, e] t ⋆ F) w) :
    w.frozen? ⟨g, 0, none⟩ = false ∧ w.frozen? ⟨g, 1, none⟩ = false ∧ w.frozen? ⟨g, 2, none⟩ = false ∧ w.frozen? ⟨g, 3, none⟩ = false ∧ w.frozen? ⟨g, 4, none⟩ = false :=
  ⟨sep_frozen h 0, sep_frozen h 1, sep_frozen h 2, sep_frozen h 3, sep_frozen h 4⟩
end
end Go.Proofs.YtobfabfoenldfaaS
