/- Separate things in memory: an assertion says what stands in blocks of its own; 'Sep w0 ok0 A w': since the world w0 nothing has turned but the blocks ok0, and A holds of blocks that are of ok0 or new. No condition. -/
import Derived.Test.YtobfabfoenldfaaWShare
import Derived.Test.YtobfabfoenldfaaWN
namespace Go.Proofs.YtobfabfoenldfaaS
set_option linter.unusedVariables false
set_option linter.unusedSimpArgs false
open Go Go.RowKit Go.Proofs.YtobfabfoenldfaaW.PrintWords

/-- What is said of blocks; ok: which they may be. -/
structure Asn where
  H : World → (Nat → Prop) → Prop
  mono : ∀ {w : World} {ok ok' : Nat → Prop}, H w ok → (∀ k, ok k → ok' k) → H w ok'
  bound : ∀ {w : World} {ok : Nat → Prop}, H w ok → H w (fun k => ok k ∧ k < w.heap.size)
  move : ∀ {w w1 : World} {ok : Nat → Prop}, H w ok → (∀ k, ok k → w1.heap[k]? = w.heap[k]?) → H w1 ok
namespace Asn
theorem step {A : Asn} {w w1 : World} {ok : Nat → Prop} (h : A.H w ok) (hm : ∀ k, ok k → k < w.heap.size → w1.heap[k]? = w.heap[k]?) : A.H w1 (fun k => ok k ∧ k < w.heap.size) :=
  A.move (A.bound h) (fun k hk => hm k hk.1 hk.2)
def emp : Asn := ⟨fun _ _ => True, fun _ _ => trivial, fun _ => trivial, fun _ _ => trivial⟩
/-- Block g holds the cells cs, of type t. -/
def pt (g : Nat) (cs : Array Value) (t : TypeId) : Asn where
  H := fun w ok => ok g ∧ w.heap[g]? = some (.cells cs t (0, 0))
  mono := fun h hk => ⟨hk _ h.1, h.2⟩
  bound := fun h => ⟨⟨h.1, (Array.getElem?_eq_some_iff.1 h.2).1⟩, h.2⟩
  move := fun h hm => ⟨h.1, (hm _ h.1).trans h.2⟩
/-- A row of one's own. -/
def row {α : Type} (d : Kd α) (e : Nat) (v : Value) (xs : List α) : Asn where
  H := fun w ok => d.R e w 0 ok v xs
  mono := fun h hk => Kd.R_mono h hk
  bound := fun h => Kd.R_mono (Kd.R_bound h) (fun _ hk => ⟨hk.1, hk.2.2.1⟩)
  move := fun h hm => Kd.R_move h hm
/-- A row of one's own that may begin inside its block. -/
def que {α : Type} (d : Kd α) (e : Nat) (v : Value) (xs : List α) : Asn where
  H := fun w ok => d.Q e w 0 ok v xs
  mono := fun h hk => Kd.Q_mono h hk
  bound := fun h => Kd.Q_mono (Kd.Q_bound h) (fun _ hk => ⟨hk.1, hk.2.2.1⟩)
  move := fun h hm => Kd.Q_move h hm
/-- A row that is only read. -/
def rdo {α : Type} (d : Kd α) (A : Option Addr) (xs : List α) : Asn where
  H := fun w ok => Kd.F d w ok A xs.length xs
  mono := fun h hk => Kd.F_mono h hk
  bound := fun h => Kd.F_bound h
  move := fun h hm => Kd.F_step h (fun k hk _ => hm k hk)
def star (A B : Asn) : Asn where
  H := fun w ok => ∃ o1 o2 : Nat → Prop, A.H w o1 ∧ B.H w o2 ∧ (∀ k, o1 k → o2 k → False) ∧ (∀ k, o1 k → ok k) ∧ (∀ k, o2 k → ok k)
  mono := fun ⟨o1, o2, ha, hb, hd, h1, h2⟩ hk => ⟨o1, o2, ha, hb, hd, fun k h => hk k (h1 k h), fun k h => hk k (h2 k h)⟩
  bound := fun {w _} ⟨o1, o2, ha, hb, hd, h1, h2⟩ => ⟨fun k => o1 k ∧ k < w.heap.size, fun k => o2 k ∧ k < w.heap.size, A.bound ha, B.bound hb, fun k hk hk' => hd k hk.1 hk'.1, fun k hk => ⟨h1 k hk.1, hk.2⟩, fun k hk => ⟨h2 k hk.1, hk.2⟩⟩
  move := fun ⟨o1, o2, ha, hb, hd, h1, h2⟩ hm => ⟨o1, o2, A.move ha (fun k hk => hm k (h1 k hk)), B.move hb (fun k hk => hm k (h2 k hk)), hd, h1, h2⟩
def ex {α : Type} (A : α → Asn) : Asn where
  H := fun w ok => ∃ x, (A x).H w ok
  mono := fun ⟨x, h⟩ hk => ⟨x, (A x).mono h hk⟩
  bound := fun ⟨x, h⟩ => ⟨x, (A x).bound h⟩
  move := fun ⟨x, h⟩ hm => ⟨x, (A x).move h hm⟩
def fact (p : Prop) : Asn := ⟨fun _ _ => p, fun h _ => h, fun h => h, fun h _ => h⟩
end Asn
open Asn
infixr:35 " ⋆ " => Asn.star

/-- Nothing has turned but the blocks ok0, and what is new. -/
structure Out (ok0 : Nat → Prop) (w0 w : World) : Prop where
  os : w.os = w0.os
  tape : w.tape = w0.tape
  output : w.output = w0.output
  size : w0.heap.size ≤ w.heap.size
  block : ∀ k, k < w0.heap.size → ¬ ok0 k → w.heap[k]? = w0.heap[k]?
theorem Out.refl (ok0 : Nat → Prop) (w : World) : Out ok0 w w := ⟨rfl, rfl, rfl, Nat.le_refl _, fun _ _ _ => rfl⟩
theorem Out.below {w0 w : World} (h : Out (fun _ => False) w0 w) : Below w0.heap.size w0 w := ⟨h.os, h.tape, h.output, h.size, fun k hk => h.block k hk id⟩
theorem Out.of_below {w w1 : World} (h : Below w.heap.size w w1) (ok : Nat → Prop) : Out ok w w1 := ⟨h.os, h.tape, h.output, h.size, fun k hk _ => h.block k hk⟩

structure Sep (w0 : World) (ok0 : Nat → Prop) (A : Asn) (w : World) : Prop where
  out : Out ok0 w0 w
  has : ∃ ok : Nat → Prop, A.H w ok ∧ ∀ k, ok k → ok0 k ∨ w0.heap.size ≤ k

section
variable {w0 w w1 : World} {ok0 : Nat → Prop} {A B C D E F G : Asn}
theorem sep_start (w : World) : Sep w (fun _ => False) emp w := ⟨Out.refl _ _, fun _ => False, trivial, fun _ h => .inl h⟩
theorem sep_begin {ok : Nat → Prop} (h : A.H w ok) : Sep w ok A w := ⟨Out.refl _ _, ok, h, fun _ h => .inl h⟩
theorem sep_below (h : Sep w0 ok0 A w) (hb : Below w.heap.size w w1) : Sep w0 ok0 A w1 := by
  obtain ⟨⟨a, b, c, d, e⟩, ok, hA, hk⟩ := h
  exact ⟨⟨hb.os.trans a, hb.tape.trans b, hb.output.trans c, Nat.le_trans d hb.size, fun k hlt hn => (hb.block k (Nat.lt_of_lt_of_le hlt d)).trans (e k hlt hn)⟩, _, Asn.step hA (fun k _ hlt => hb.block k hlt), fun k hh => hk k hh.1⟩
theorem sep_imp (h : Sep w0 ok0 A w) (hi : ∀ ok, A.H w ok → B.H w ok) : Sep w0 ok0 B w := by
  obtain ⟨o, ok, hA, hk⟩ := h
  exact ⟨o, ok, hi _ hA, hk⟩
theorem sep_ex {α : Type} {A : α → Asn} (h : Sep w0 ok0 (ex A) w) : ∃ x, Sep w0 ok0 (A x) w := by
  obtain ⟨o, ok, ⟨x, hA⟩, hk⟩ := h
  exact ⟨x, o, ok, hA, hk⟩
theorem sep_ex_star {α : Type} {A : α → Asn} (h : Sep w0 ok0 (ex A ⋆ F) w) : ∃ x, Sep w0 ok0 (A x ⋆ F) w := by
  obtain ⟨o, ok, ⟨o1, o2, ⟨x, hA⟩, r⟩, hk⟩ := h
  exact ⟨x, o, ok, ⟨o1, o2, hA, r⟩, hk⟩
theorem sep_fact {p : Prop} (h : Sep w0 ok0 (fact p ⋆ F) w) : p ∧ Sep w0 ok0 F w := by
  obtain ⟨o, ok, ⟨o1, o2, hA, hF, _, _, h2⟩, hk⟩ := h
  exact ⟨hA, o, o2, hF, fun k hh => hk k (h2 k hh)⟩
theorem sep_drop (h : Sep w0 ok0 (A ⋆ F) w) : Sep w0 ok0 F w := by
  obtain ⟨o, ok, ⟨o1, o2, _, hF, _, _, h2⟩, hk⟩ := h
  exact ⟨o, o2, hF, fun k hh => hk k (h2 k hh)⟩
theorem sep_only (h : Sep w0 ok0 (A ⋆ F) w) : Sep w0 ok0 A w := by
  obtain ⟨o, ok, ⟨o1, o2, hA, _, _, h1, _⟩, hk⟩ := h
  exact ⟨o, o1, hA, fun k hh => hk k (h1 k hh)⟩
theorem sep_flat (h : Sep w0 ok0 ((A ⋆ B) ⋆ F) w) : Sep w0 ok0 (A ⋆ B ⋆ F) w := by
  obtain ⟨o, ok, ⟨o12, o3, ⟨o1, o2, hA, hB, hd, h1, h2⟩, hF, hd', h12, h3⟩, hk⟩ := h
  exact ⟨o, ok, ⟨o1, fun k => o2 k ∨ o3 k, hA, ⟨o2, o3, hB, hF, fun k a b => hd' k (h2 k a) b, fun k a => .inl a, fun k a => .inr a⟩, fun k a b => b.elim (hd k a) (hd' k (h1 k a)), fun k a => h12 k (h1 k a), fun k a => a.elim (fun a => h12 k (h2 k a)) (h3 k)⟩, hk⟩
theorem sep_fold (h : Sep w0 ok0 (A ⋆ B ⋆ F) w) : Sep w0 ok0 ((A ⋆ B) ⋆ F) w := by
  obtain ⟨o, ok, ⟨o1, o23, hA, ⟨o2, o3, hB, hF, hd, h2, h3⟩, hd', h1, h23⟩, hk⟩ := h
  exact ⟨o, ok, ⟨fun k => o1 k ∨ o2 k, o3, ⟨o1, o2, hA, hB, fun k a b => hd' k a (h2 k b), fun k a => .inl a, fun k a => .inr a⟩, hF, fun k a b => a.elim (fun a => hd' k a (h3 k b)) (fun a => hd k a b), fun k a => a.elim (h1 k) (fun a => h23 k (h2 k a)), fun k a => h23 k (h3 k a)⟩, hk⟩
theorem sep_swap (h : Sep w0 ok0 (A ⋆ B) w) : Sep w0 ok0 (B ⋆ A) w := by
  obtain ⟨o, ok, ⟨o1, o2, hA, hB, hd, h1, h2⟩, hk⟩ := h
  exact ⟨o, ok, ⟨o2, o1, hB, hA, fun k a b => hd k b a, h2, h1⟩, hk⟩
/-- An assertion under another one's star is turned. -/
theorem sep_inner (h : Sep w0 ok0 (A ⋆ B) w) (hi : ∀ ok, B.H w ok → C.H w ok) : Sep w0 ok0 (A ⋆ C) w := by
  obtain ⟨o, ok, ⟨o1, o2, hA, hB, r⟩, hk⟩ := h
  exact ⟨o, ok, ⟨o1, o2, hA, hi _ hB, r⟩, hk⟩
theorem sep_head (h : Sep w0 ok0 (A ⋆ B) w) (hi : ∀ ok, A.H w ok → C.H w ok) : Sep w0 ok0 (C ⋆ B) w := by
  obtain ⟨o, ok, ⟨o1, o2, hA, hB, r⟩, hk⟩ := h
  exact ⟨o, ok, ⟨o1, o2, hi _ hA, hB, r⟩, hk⟩
theorem sep_l1 (h : Sep w0 ok0 (A ⋆ B ⋆ F) w) : Sep w0 ok0 (B ⋆ A ⋆ F) w := sep_flat (sep_head (sep_fold h) (fun _ ⟨o1, o2, hA, hB, hd, h1, h2⟩ => ⟨o2, o1, hB, hA, fun k a b => hd k b a, h2, h1⟩))
theorem star_l1 {ok : Nat → Prop} (h : (A ⋆ B ⋆ F).H w ok) : (B ⋆ A ⋆ F).H w ok := by
  obtain ⟨o1, o23, hA, ⟨o2, o3, hB, hF, hd, h2, h3⟩, hd', h1, h23⟩ := h
  exact ⟨o2, fun k => o1 k ∨ o3 k, hB, ⟨o1, o3, hA, hF, fun k a b => hd' k a (h3 k b), fun k a => .inl a, fun k a => .inr a⟩, fun k a b => b.elim (fun b => hd' k b (h2 k a)) (hd k a), fun k a => h23 k (h2 k a), fun k a => a.elim (h1 k) (fun a => h23 k (h3 k a))⟩
theorem sep_l2 (h : Sep w0 ok0 (A ⋆ B ⋆ C ⋆ F) w) : Sep w0 ok0 (C ⋆ A ⋆ B ⋆ F) w := sep_l1 (sep_inner h (fun _ h => star_l1 h))
theorem star_l2 {ok : Nat → Prop} (h : (A ⋆ B ⋆ C ⋆ F).H w ok) : (C ⋆ A ⋆ B ⋆ F).H w ok := by
  obtain ⟨o1, o2, hA, hB, r⟩ := h
  exact star_l1 ⟨o1, o2, hA, star_l1 hB, r⟩
theorem sep_l3 (h : Sep w0 ok0 (A ⋆ B ⋆ C ⋆ D ⋆ F) w) : Sep w0 ok0 (D ⋆ A ⋆ B ⋆ C ⋆ F) w := sep_l1 (sep_inner h (fun _ h => star_l2 h))
theorem star_l3 {ok : Nat → Prop} (h : (A ⋆ B ⋆ C ⋆ D ⋆ F).H w ok) : (D ⋆ A ⋆ B ⋆ C ⋆ F).H w ok := by
  obtain ⟨o1, o2, hA, hB, r⟩ := h
  exact star_l1 ⟨o1, o2, hA, star_l2 hB, r⟩
theorem sep_l4 (h : Sep w0 ok0 (A ⋆ B ⋆ C ⋆ D ⋆ E ⋆ F) w) : Sep w0 ok0 (E ⋆ A ⋆ B ⋆ C ⋆ D ⋆ F) w := sep_l1 (sep_inner h (fun _ h => star_l3 h))
theorem star_l4 {ok : Nat → Prop} (h : (A ⋆ B ⋆ C ⋆ D ⋆ E ⋆ F).H w ok) : (E ⋆ A ⋆ B ⋆ C ⋆ D ⋆ F).H w ok := by
  obtain ⟨o1, o2, hA, hB, r⟩ := h
  exact star_l1 ⟨o1, o2, hA, star_l3 hB, r⟩
theorem sep_l5 (h : Sep w0 ok0 (A ⋆ B ⋆ C ⋆ D ⋆ E ⋆ G ⋆ F) w) : Sep w0 ok0 (G ⋆ A ⋆ B ⋆ C ⋆ D ⋆ E ⋆ F) w := sep_l1 (sep_inner h (fun _ h => star_l4 h))

/-- A call that takes what A says, and leaves what A' says. -/
theorem sep_call (h : Sep w0 ok0 (A ⋆ F) w) : ∃ ok, A.H w ok ∧ ∀ (A' : Asn) (w' : World), Sep w ok A' w' → Sep w0 ok0 (A' ⋆ F) w' := by
  obtain ⟨⟨a, b, c, d, e⟩, ok, ⟨o1, o2, hA, hF, hd, h1, h2⟩, hk⟩ := h
  refine ⟨fun k => o1 k ∧ k < w.heap.size, A.bound hA, fun A' w' ⟨⟨a', b', c', d', e'⟩, ok', hA', hk'⟩ => ⟨⟨a'.trans a, b'.trans b, c'.trans c, Nat.le_trans d d', fun k hlt hn => ?_⟩, fun k => ok' k ∨ (o2 k ∧ k < w.heap.size), ⟨ok', fun k => o2 k ∧ k < w.heap.size, hA', ?_, ?_, fun k hh => .inl hh, fun k hh => .inr hh⟩, ?_⟩⟩
  · rw [e' k (Nat.lt_of_lt_of_le hlt d) (fun hh => ?_), e k hlt hn]
    rcases hk k (h1 k hh.1) with hh | hh
    · exact hn hh
    · omega
  · exact Asn.step hF (fun k hh hlt => e' k hlt (fun hh' => hd k hh'.1 hh))
  · rintro k hh ⟨hh', hlt⟩
    rcases hk' k hh with hh | hh
    · exact hd k hh.1 hh'
    · omega
  · rintro k (hh | hh)
    · rcases hk' k hh with hh | hh
      · exact hk k (h1 k hh.1)
      · right; omega
    · exact hk k (h2 k hh.1)
/-- Something new stands beside. -/
theorem sep_new (h : Sep w0 ok0 F w) (hb : Below w.heap.size w w1) {ok : Nat → Prop} (hA : A.H w1 ok) (hok : ∀ k, ok k → w.heap.size ≤ k) : Sep w0 ok0 (A ⋆ F) w1 := by
  obtain ⟨⟨a, b, c, d, e⟩, o2, hF, hk⟩ := h
  refine ⟨⟨hb.os.trans a, hb.tape.trans b, hb.output.trans c, Nat.le_trans d hb.size, fun k hlt hn => (hb.block k (Nat.lt_of_lt_of_le hlt d)).trans (e k hlt hn)⟩, fun k => ok k ∨ (o2 k ∧ k < w.heap.size), ⟨ok, fun k => o2 k ∧ k < w.heap.size, hA, Asn.step hF (fun k _ hlt => hb.block k hlt), ?_, fun k hh => .inl hh, fun k hh => .inr hh⟩, ?_⟩
  · rintro k hh ⟨_, hlt⟩
    have := hok k hh
    omega
  · rintro k (hh | hh)
    · have := hok k hh
      right; omega
    · exact hk k hh.1
theorem sep_alloc (h : Sep w0 ok0 F w) (cs : Array Value) (t : TypeId) : Sep w0 ok0 (pt w.heap.size cs t ⋆ F) (w.alloc (.cells cs t (0, 0))) :=
  sep_new (A := pt w.heap.size cs t) (ok := fun k => k = w.heap.size) h (below_alloc (Below.refl _ _) _) ⟨rfl, blk_new w _⟩ (fun k hk => by omega)
theorem sep_skip (h : Sep w0 ok0 F w) (o : Obj) : Sep w0 ok0 F (w.alloc o) := sep_below h (below_alloc (Below.refl _ _) o)
theorem sep_drew (h : Sep w0 ok0 F w) : Sep w0 ok0 F w.drew := sep_below h (below_drew (Below.refl _ _))
theorem sep_drewN (h : Sep w0 ok0 F w) (n : Nat) : Sep w0 ok0 F (w.drewN n) := sep_below h (pw_below_drewN (Below.refl _ _) n)
theorem sep_drawn (h : Sep w0 ok0 F w) (hd : Drawn0 w w1) : Sep w0 ok0 F w1 := sep_below h hd.below
theorem sep_set {g : Nat} {cs : Array Value} {t : TypeId} (h : Sep w0 ok0 (pt g cs t ⋆ F) w) (j : Nat) (v : Value) : Sep w0 ok0 (pt g (cs.setIfInBounds j v) t ⋆ F) (w.setCell ⟨g, j, none⟩ v) := by
  obtain ⟨ok, ⟨ho, hg⟩, hh⟩ := sep_call h
  refine hh _ _ ⟨⟨rfl, rfl, rfl, by simp [World.setCell], fun k _ hn => Below.heap_setCell w _ v k (fun e => hn ?_)⟩, ok, ⟨ho, blk_set hg j v⟩, fun k hk => .inl hk⟩
  show ok k
  rw [e]
  exact ho
theorem sep_pt {g : Nat} {cs : Array Value} {t : TypeId} (h : Sep w0 ok0 (pt g cs t ⋆ F) w) : w.heap[g]? = some (.cells cs t (0, 0)) := by
  obtain ⟨_, _, ⟨_, _, hA, _⟩, _⟩ := h
  exact hA.2
theorem sep_cell {g : Nat} {cs : Array Value} {t : TypeId} (h : Sep w0 ok0 (pt g cs t ⋆ F) w) (j : Nat) : w.cell? ⟨g, j, none⟩ = cs[j]? := blk_cell (sep_pt h) j
theorem sep_frozen {g : Nat} {cs : Array Value} {t : TypeId} (h : Sep w0 ok0 (pt g cs t ⋆ F) w) (j : Nat) : w.frozen? ⟨g, j, none⟩ = false := blk_frozen (sep_pt h) j
theorem sep_row {α : Type} {d : Kd α} {e : Nat} {v : Value} {xs : List α} (h : Sep w0 ok0 (row d e v xs ⋆ F) w) : ∃ A c, v = .slice A xs.length c ∧ xs.length ≤ c ∧ d.C w A xs.length xs := by
  obtain ⟨_, _, ⟨_, _, hA, _⟩, _⟩ := h
  exact Kd.R_reads hA
theorem sep_row' {α : Type} {d : Kd α} {e : Nat} {A : Option Addr} {n c : Nat} {xs : List α} (h : Sep w0 ok0 (row d e (.slice A n c) xs ⋆ F) w) : n = xs.length ∧ n ≤ c ∧ d.C w A xs.length xs := by
  obtain ⟨_, _, ⟨_, _, hA, _⟩, _⟩ := h
  exact Kd.R_reads' hA
theorem sep_rdo {α : Type} {d : Kd α} {A : Option Addr} {xs : List α} (h : Sep w0 ok0 (rdo d A xs ⋆ F) w) : d.C w A xs.length xs := by
  obtain ⟨_, _, ⟨_, _, hA, _⟩, _⟩ := h
  exact Kd.F_now hA
theorem sep_que {α : Type} {d : Kd α} {e : Nat} {v : Value} {xs : List α} (h : Sep w0 ok0 (que d e v xs ⋆ F) w) : ∃ A c, v = .slice A xs.length c ∧ xs.length ≤ c ∧ d.C w A xs.length xs := by
  obtain ⟨_, _, ⟨_, _, hA, _⟩, _⟩ := h
  exact Kd.Q_reads hA
/-- The row that a printed contract leaves. -/
theorem sep_made {α : Type} {d : Kd α} {e : Nat} {v : Value} {xs : List α} {ok : Nat → Prop} (h : Sep w0 ok0 F w) (hr : d.R e w1 w.heap.size ok v xs) (hb : Below w.heap.size w w1) : Sep w0 ok0 (row d e v xs ⋆ F) w1 :=
  sep_new (A := row d e v xs) h hb (Kd.R_lower (Kd.R_bound hr) (Nat.zero_le _)) (fun k hk => hk.2.1)
theorem sep_rest (h : Sep w0 ok0 A w) : Sep w0 ok0 (A ⋆ emp) w := by
  obtain ⟨o, ok, hA, hk⟩ := h
  exact ⟨o, ok, ⟨ok, fun _ => False, hA, trivial, fun _ _ h => h, fun _ h => h, fun _ h => h.elim⟩, hk⟩
/-- Behind an append to v. -/
theorem sep_grown {α : Type} {d : Kd α} {e : Nat} {v : Value} {xs : List α} (h : Sep w0 ok0 (row d e v xs ⋆ F) w) :
    ∃ ok, d.R e w 0 ok v xs ∧ ∀ v1 w1 (ys : List α), d.R e w1 0 (fun k => ok k ∨ w.heap.size ≤ k) v1 ys → Below 0 w w1 → w.grownBy w1 v.ownBlock → Sep w0 ok0 (row d e v1 ys ⋆ F) w1 := by
  obtain ⟨ok, hr, hh⟩ := sep_call h
  refine ⟨ok, hr, fun v1 w1 ys hr1 hb hg => hh _ _ ⟨⟨hb.os, hb.tape, hb.output, hb.size, fun k hlt hn => hg.block k hlt (fun he => hn (hr.1 k he.symm))⟩, _, hr1, fun k hk => hk⟩⟩
/-- What a call made anew stands beside. -/
theorem sep_made_of (h : Sep w0 ok0 F w) (hm : Sep w (fun _ => False) A w1) : Sep w0 ok0 (A ⋆ F) w1 := by
  obtain ⟨o, ok, hA, hk⟩ := hm
  exact sep_new h o.below hA (fun k hh => (hk k hh).elim False.elim id)
theorem sep_all {α : Type} {d : Kd α} {Ad : Option Addr} {xs : List α} (h : d.C w Ad xs.length xs) (hn : xs = []) : (rdo d Ad xs).H w (fun _ => False) := by
  subst hn
  intro W' _
  obtain ⟨h1, h2, h3⟩ := h
  exact ⟨rfl, by simp, fun hp => absurd hp (by simp)⟩
theorem sep_nil {α : Type} {d : Kd α} (h : Sep w0 ok0 F w) : Sep w0 ok0 (rdo d none [] ⋆ F) w :=
  sep_new (A := rdo d none []) h (Below.refl _ _) (ok := fun _ => False) (Kd.F_nil _ _ _) (fun _ h => h.elim)
theorem sep_row_nil {α : Type} {d : Kd α} {e : Nat} (h : Sep w0 ok0 F w) : Sep w0 ok0 (row d e (.slice none 0 0) [] ⋆ F) w :=
  sep_new (A := row d e (.slice none 0 0) []) h (Below.refl _ _) (ok := fun _ => False) (Kd.R_nil _ _ _ _ _) (fun _ h => h.elim)
/-- A literal of scalars. -/
theorem sep_lit {α : Type} {enc : α → Value} {h1 : ∀ x, (enc x).oneCell' = true} (h : Sep w0 ok0 F w) (e : Nat) (xs : List α) (hm : xs.length ≤ 9223372036854775807) :
    Sep w0 ok0 (row (Kd.scalar enc h1) e (.slice (some ⟨w.heap.size, 0, none⟩) xs.length xs.length) xs ⋆ F) (w.alloc (.cells (xs.map enc).toArray e (0, 0))) := by
  refine sep_new (A := row (Kd.scalar enc h1) e _ xs) (ok := fun k => k = w.heap.size) h (below_alloc (Below.refl _ _) _) ⟨fun k hk => ?_, OwnRow.lit w 0 ⟨?_, ?_⟩ (Nat.zero_le _) hm⟩ (fun k hk => by omega)
  · have : w.heap.size = k := by simpa [Value.ownBlock] using hk
    exact this.symm
  · simp [Kd.scalar]
  · intro j x hx
    show _ = [enc x]
    obtain ⟨hj, rfl⟩ := List.getElem?_eq_some_iff.1 hx
    simp only [Kd.scalar, Nat.mul_one]
    rw [List.drop_eq_getElem_cons (by simpa using hj)]
    simp
/-- A contract's assertions, one behind the other. -/
def app : List Asn → Asn → Asn
  | [], F => F
  | A :: L, F => A ⋆ app L F
theorem app_emp : ∀ (L : List Asn) {w0 w : World} {ok0 : Nat → Prop} {F : Asn}, Sep w0 ok0 (app L F) w → Sep w0 ok0 (app L emp ⋆ F) w
  | [], _, _, _, _, h => sep_new (A := emp) (ok := fun _ => False) h (Below.refl _ _) trivial (fun _ h => h.elim)
  | A :: L, w0, w, ok0, F, ⟨o, ok, ⟨o1, o2, hA, hB, hd, h1, h2⟩, hk⟩ => by
    obtain ⟨_, ok', ⟨p1, p2, hL, hF, hd', k1, k2⟩, hk'⟩ := app_emp L (w0 := w) (ok0 := o2) (sep_begin hB)
    have hb := A.bound hA
    have hlt : ∀ k, (o1 k ∧ k < w.heap.size) → ok' k → False := fun k ⟨a, lt⟩ b => (hk' k b).elim (hd k a) (fun h => by omega)
    refine ⟨o, fun k => (o1 k ∧ k < w.heap.size) ∨ ok' k, ⟨fun k => (o1 k ∧ k < w.heap.size) ∨ p1 k, p2, ⟨fun k => o1 k ∧ k < w.heap.size, p1, hb, hL, fun k a b => hlt k a (k1 k b), fun k a => .inl a, fun k a => .inr a⟩, hF, fun k a b => a.elim (fun a => hlt k a (k2 k b)) (fun a => hd' k a b), fun k a => a.imp id (k1 k), fun k a => .inr (k2 k a)⟩, fun k a => a.elim (fun a => hk k (h1 k a.1)) (fun a => (hk' k a).elim (fun a => hk k (h2 k a)) (fun a => .inr (by have := o.size; omega)))⟩
theorem emp_app : ∀ (L : List Asn) {w0 w : World} {ok0 : Nat → Prop} {F : Asn}, Sep w0 ok0 (app L emp ⋆ F) w → Sep w0 ok0 (app L F) w
  | [], _, _, _, _, h => sep_drop h
  | A :: L, w0, w, ok0, F, h => by
    obtain ⟨o, ok, ⟨o1, o2, hA, hB, hd, h1, h2⟩, hk⟩ := sep_flat h
    obtain ⟨_, ok', hL, hk'⟩ := emp_app L (w0 := w) (ok0 := o2) (sep_begin hB)
    exact ⟨o, fun k => (o1 k ∧ k < w.heap.size) ∨ ok' k, ⟨fun k => o1 k ∧ k < w.heap.size, ok', A.bound hA, hL, fun k a b => (hk' k b).elim (hd k a.1) (fun h => by have := a.2; omega), fun k a => .inl a, fun k a => .inr a⟩, fun k a => a.elim (fun a => hk k (h1 k a.1)) (fun a => (hk' k a).elim (fun a => hk k (h2 k a)) (fun a => .inr (by have := o.size; omega)))⟩
/-- What a contract leaves stands beside the rest. -/
def Back (w0 : World) (ok0 : Nat → Prop) (w : World) (ok : Nat → Prop) (F : Asn) : Prop := ∀ (A' : Asn) (w' : World), Sep w ok A' w' → Sep w0 ok0 (A' ⋆ F) w'
theorem sep_use1 (h : Sep w0 ok0 (A ⋆ F) w) : ∃ ok, (A ⋆ emp).H w ok ∧ Back w0 ok0 w ok F := sep_call (app_emp [A] h)
theorem sep_use2 (h : Sep w0 ok0 (A ⋆ B ⋆ F) w) : ∃ ok, (A ⋆ B ⋆ emp).H w ok ∧ Back w0 ok0 w ok F := sep_call (app_emp [A, B] h)
theorem sep_use3 (h : Sep w0 ok0 (A ⋆ B ⋆ C ⋆ F) w) : ∃ ok, (A ⋆ B ⋆ C ⋆ emp).H w ok ∧ Back w0 ok0 w ok F := sep_call (app_emp [A, B, C] h)
theorem sep_use4 (h : Sep w0 ok0 (A ⋆ B ⋆ C ⋆ D ⋆ F) w) : ∃ ok, (A ⋆ B ⋆ C ⋆ D ⋆ emp).H w ok ∧ Back w0 ok0 w ok F := sep_call (app_emp [A, B, C, D] h)
theorem back0 {ok : Nat → Prop} (hk : Back w0 ok0 w ok F) (h : Sep w ok emp w1) : Sep w0 ok0 F w1 := sep_drop (hk _ _ h)
theorem back1 {ok : Nat → Prop} (hk : Back w0 ok0 w ok F) (h : Sep w ok (A ⋆ emp) w1) : Sep w0 ok0 (A ⋆ F) w1 := emp_app [A] (hk _ _ h)
theorem back2 {ok : Nat → Prop} (hk : Back w0 ok0 w ok F) (h : Sep w ok (A ⋆ B ⋆ emp) w1) : Sep w0 ok0 (A ⋆ B ⋆ F) w1 := emp_app [A, B] (hk _ _ h)
theorem back3 {ok : Nat → Prop} (hk : Back w0 ok0 w ok F) (h : Sep w ok (A ⋆ B ⋆ C ⋆ emp) w1) : Sep w0 ok0 (A ⋆ B ⋆ C ⋆ F) w1 := emp_app [A, B, C] (hk _ _ h)
theorem back4 {ok : Nat → Prop} (hk : Back w0 ok0 w ok F) (h : Sep w ok (A ⋆ B ⋆ C ⋆ D ⋆ emp) w1) : Sep w0 ok0 (A ⋆ B ⋆ C ⋆ D ⋆ F) w1 := emp_app [A, B, C, D] (hk _ _ h)
theorem sep_below_of (h : Sep w0 (fun _ => False) A w) : Below w0.heap.size w0 w := h.out.below
end
/-! ## arrays in memory -/
def arrV (n : Nat) (f : Nat → Value) : Array Value := ((List.range n).map f).toArray
theorem arrV_get {n j : Nat} (f : Nat → Value) (h : j < n) : (arrV n f)[j]? = some (f j) := by simp [arrV, h]
theorem arrV_set {n : Nat} (f : Nat → Value) (j : Nat) (y : Value) : (arrV n f).setIfInBounds j y = arrV n (fun v => if v = j then y else f v) := by
  apply Array.ext
  · simp [arrV]
  · intro i h1 h2
    simp only [arrV, List.size_toArray, List.length_map, List.length_range] at h2
    rw [Array.getElem_setIfInBounds (by simpa [arrV] using h2)]
    by_cases hj : j = i
    · subst hj
      simp [arrV]
    · rw [if_neg hj]
      simp [arrV, Ne.symm hj]
theorem arrV_congr {n : Nat} {f g : Nat → Value} (h : ∀ j, j < n → f j = g j) : arrV n f = arrV n g := by
  unfold arrV
  congr 1
  exact List.map_congr_left (fun j hj => h j (List.mem_range.1 hj))
section
variable {P : Program} {ops : Array Oper} {rest : List Oper} {o : Oper} {a : Act} {Q : Exit → Act → World → Prop} {α : Type} {w0 W : World} {ok0 : Nat → Prop} {F : Asn}
/-- append(v, x), x's cells laid in a block of their own ahead of it; kinds whose cells lead nowhere. -/
theorem wp_append (d : Kd α) (hgd : o.guard = none) (s x : Operand) (t e : TypeId) (z : Value) (bytes : Nat)
    (ho : o.op = .call { callee := .builtin .append, args := #[s, x], argTypes := #[t, t] })
    (ht : P.underlying t = some (.slice e)) (hinfo : (P.info? e).map (fun i => (i.zero, i.size, i.bytes)) = some (some z, d.sz, bytes)) (hz : z.cells.size = d.sz) (hs0 : 0 < d.sz) (hb0 : 0 < bytes)
    (v : Value) (xs : List α) (p : α) (cs : List Value) (hs : a.eval s = v) (hx : a.eval x = .slice (some ⟨W.heap.size, 0, none⟩) 1 1) (hp : d.M W 0 (fun _ => False) p cs)
    (HS : Sep w0 ok0 (row d e v xs ⋆ F) W) (hl : (xs.length + 1) * bytes ≤ 140737488355328)
    (h : ∀ v1 w1, Sep w0 ok0 (row d e v1 (xs ++ [p]) ⋆ F) w1 → wpList P ops Q rest (a.put o.dst v1) w1) :
    wpList P ops Q (o :: rest) a (W.alloc (.cells cs.toArray e)) := by
  obtain ⟨ok, hr, hh⟩ := sep_grown HS
  exact Kd.R_append d (w0 := W) 0 hgd s x t e z bytes ho ht hinfo hz hs0 hb0 v xs p cs (fun k => ok k ∨ W.heap.size ≤ k) (fun _ => False) hs hx hp (fun _ h => h.elim) (fun k hk => .inr hk) (Kd.R_mono hr (fun k hk => .inl hk)) (Below.refl _ _) (Nat.zero_le _) hl (fun v1 w1 hr1 hb hg _ => h v1 w1 (hh v1 w1 _ hr1 hb hg))
/-- The same in a region that draws its order (go_region_held3's arm). -/
theorem step_append {Kc : Act → World → Prop} (d : Kd α) (hw : Region.wanted o (yielded ops a.tmps) = true) (s x : Operand) (t e : TypeId) (z : Value) (bytes : Nat)
    (ho : o.op = .call { callee := .builtin .append, args := #[s, x], argTypes := #[t, t] })
    (ht : P.underlying t = some (.slice e)) (hinfo : (P.info? e).map (fun i => (i.zero, i.size, i.bytes)) = some (some z, d.sz, bytes)) (hz : z.cells.size = d.sz) (hs0 : 0 < d.sz) (hb0 : 0 < bytes)
    (v : Value) (xs : List α) (p : α) (cs : List Value) (hs : a.eval s = v) (hx : a.eval x = .slice (some ⟨W.heap.size, 0, none⟩) 1 1) (hp : d.M W 0 (fun _ => False) p cs)
    (HS : Sep w0 ok0 (row d e v xs ⋆ F) W) (hl : (xs.length + 1) * bytes ≤ 140737488355328)
    (h : ∀ v1 w1, Sep w0 ok0 (row d e v1 (xs ++ [p]) ⋆ F) w1 → Kc (a.put o.dst v1) w1) :
    if Region.wanted o (yielded ops a.tmps) = true then Oper.wp P o a (W.alloc (.cells cs.toArray e)) Kc Q else Kc (a.put o.dst undef) (W.alloc (.cells cs.toArray e)) := by
  obtain ⟨ok, hr, hh⟩ := sep_grown HS
  exact Kd.R_append_step d (w0 := W) 0 hw s x t e z bytes ho ht hinfo hz hs0 hb0 v xs p cs (fun k => ok k ∨ W.heap.size ≤ k) (fun _ => False) hs hx hp (fun _ h => h.elim) (fun k hk => .inr hk) (Kd.R_mono hr (fun k hk => .inl hk)) (Below.refl _ _) (Nat.zero_le _) hl (fun v1 w1 hr1 hb hg _ => h v1 w1 (hh v1 w1 _ hr1 hb hg))
end
end Go.Proofs.YtobfabfoenldfaaS
