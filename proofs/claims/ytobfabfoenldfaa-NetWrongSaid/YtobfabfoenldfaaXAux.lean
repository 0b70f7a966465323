/- Small lemmas of this seat's own, used by the printed texts: a slice's reading at another spelling of its length; a scope whose gotos go to labels of its own. -/
import Derived.Test.YtobfabfoenldfaaWWords
import Derived.WalkKit
import Derived.Deep.LoopGhost
import Derived.ScopeJumps
import Derived.WalkMore
namespace Go.Proofs.YtobfabfoenldfaaX
open Go Go.RowKit Go.Proofs.YtobfabfoenldfaaW.PrintWords

/-- A row of bools by its bits. -/
def bm (n m : Nat) : Array Bool := ((List.range n).map fun i => m.testBit i).toArray
theorem ne_nil (t : ByteArray) : (t.toList != ([] : List UInt8)) = (!t.toList.isEmpty) := by cases t.toList <;> rfl
theorem eq_nil (t : ByteArray) : (t.toList == ([] : List UInt8)) = t.toList.isEmpty := by cases t.toList <;> rfl
theorem C_len {α : Type} {d : Kd α} {w : World} {A : Option Addr} {n m : Nat} {xs : List α} (h : Kd.C d w A n xs) (e : n = m) : Kd.C d w A m xs := by
  subst e
  exact h

theorem cell_keep {w : World} {p q : Addr} {u v : Value} (h : w.cell? p = some v) (hq : q ≠ p ∨ u = v) : (w.setCell q u).cell? p = some v := by
  by_cases e : q = p
  · subst e
    rcases hq with hq | rfl
    · exact absurd rfl hq
    · exact World.cell?_setCell_same _ _ _ h
  · rw [World.cell?_setCell_other _ _ _ _ e]
    exact h

/-- As Q; by a goto to label l: J l. -/
def jumps (J : Nat → Act → World → Prop) (Q : Exit → Act → World → Prop) : Exit → Act → World → Prop
  | .goto l, a, w => J l a w
  | e, a, w => Q e a w

section
variable {P : Program} {a : Act} {w : World} {Q : Exit → Act → World → Prop} {J : Nat → Act → World → Prop}
theorem jumps_normal : jumps J Q .normal a w = Q .normal a w := rfl
theorem jumps_exit (id : Nat) : jumps J Q (.exit id) a w = Q (.exit id) a w := rfl
theorem jumps_ret : jumps J Q .ret a w = Q .ret a w := rfl
theorem jumps_panic (ch : List PanicEntry) : jumps J Q (.panic ch) a w = Q (.panic ch) a w := rfl

attribute [go_sem] jumps_normal jumps_exit jumps_ret jumps_panic

theorem wp_scope_k {c : Code} (h : ∀ J : Nat → Act → World → Prop, (∀ l rest a w, findLabel c l = some rest → rest.wp P (jumps J Q) a w → J l a w) → c.wp P (jumps J Q) a w) : (Code.scope c).wp P Q a w := by
  have first := h (fun l a w => ∃ rest, findLabel c l = some rest ∧ ∀ b k cs, ∃ e a' w', Q e a' w' ∧ Arrives P (lone (b.at a (.code rest :: .inScope c :: k)) cs w) b k cs e a' w') ?_
  · intro b k cs
    obtain ⟨e, a₁, w₁, hq, harr⟩ := first b (.inScope c :: k) cs
    cases e with
    | normal => exact ⟨.normal, a₁, w₁, hq, .head step_scope (Steps.trans harr (.one step_inScope))⟩
    | exit id => exact ⟨.exit id, a₁, w₁, hq, fun k' hk => .head step_scope (harr k' (by simp [exitTo, hk]))⟩
    | goto l =>
      obtain ⟨rest, hf, hr⟩ := hq
      obtain ⟨e₂, a₂, w₂, hq₂, harr₂⟩ := hr b k cs
      exact ⟨e₂, a₂, w₂, hq₂, .of_steps (.head step_scope (harr _ (by simp [gotoIn, hf]))) harr₂⟩
    | ret => exact ⟨_, a₁, w₁, hq, .of_steps (.one step_scope) harr⟩
    | panic ch => exact ⟨_, a₁, w₁, hq, .of_steps (.one step_scope) harr⟩
    | outgrown => exact ⟨_, a₁, w₁, hq, .of_steps (.one step_scope) harr⟩
  · intro l rest a w hf hr
    refine ⟨rest, hf, fun b k cs => ?_⟩
    obtain ⟨e, a₁, w₁, hq, harr⟩ := hr b (.inScope c :: k) cs
    cases e with
    | normal => exact ⟨.normal, a₁, w₁, hq, Steps.trans harr (.one step_inScope)⟩
    | exit id => exact ⟨.exit id, a₁, w₁, hq, fun k' hk => harr k' (by simp [exitTo, hk])⟩
    | goto l' =>
      obtain ⟨rest', hf', hr'⟩ := hq
      obtain ⟨e₂, a₂, w₂, hq₂, harr₂⟩ := hr' b k cs
      exact ⟨e₂, a₂, w₂, hq₂, .of_steps (harr _ (by simp [gotoIn, hf'])) harr₂⟩
    | ret => exact ⟨_, a₁, w₁, hq, harr⟩
    | panic ch => exact ⟨_, a₁, w₁, hq, harr⟩
    | outgrown => exact ⟨_, a₁, w₁, hq, harr⟩

/-- The frame with the slots ds at what u says. -/
def setAll (t : Array Value) : List Nat → (Nat → Value) → Array Value
  | [], _ => t
  | d :: ds, u => setAll (t.setIfInBounds d (u d)) ds u

def FrameAt (t : Array Value) (df : List Deferred) (ds : List Nat) (rel : Nat → (Nat → Value) → World → Prop) (k : Nat) (a : Act) (w : World) : Prop :=
  ∃ u : Nat → Value, rel k u w ∧ a = ⟨setAll t ds u, df⟩

theorem setAll_self (t : Array Value) (ds : List Nat) : setAll t ds (fun d => t.getD d undef) = t := by
  induction ds with
  | nil => rfl
  | cons d ds ih =>
    have h : t.setIfInBounds d (t.getD d undef) = t := by
      apply Array.ext
      · simp
      · intro i h1 h2
        rw [Array.getElem_setIfInBounds]
        split
        · rename_i h
          subst h
          simp [Array.getD, h2]
        · rfl
    simp only [setAll, h]
    exact ih

/-- The values that a list tells, slot by slot. -/
def sel : List (Nat × Value) → Nat → Value
  | [], _ => undef
  | (i, v) :: r, d => if i = d then v else sel r d

/-- A label that is jumped back to: the relation bears a number, which every jump lowers. -/
theorem wp_label_ghost {body : Code} {t : Array Value} {df : List Deferred} (l : Nat) (ds : List Nat) (rel : Nat → (Nat → Value) → World → Prop) (n₀ : Nat)
    (hJ : ∀ a w, body.wp P (jumps J Q) a w → J l a w)
    (h₀ : rel n₀ (fun d => t.getD d undef) w)
    (round : ∀ n u w, rel n u w → ∀ J' : Nat → Act → World → Prop, (∀ k a' w', FrameAt t df ds rel k a' w' → J' k a' w') → (∀ a' w', Handed J' n a' w' → J l a' w') → body.wp P (jumps J Q) ⟨setAll t ds u, df⟩ w) :
    body.wp P (jumps J Q) ⟨t, df⟩ w := by
  have key : ∀ n a w, FrameAt t df ds rel n a w → body.wp P (jumps J Q) a w := by
    intro n
    induction n using Nat.strongRecOn with
    | _ n ih =>
      rintro a w ⟨u, hr, rfl⟩
      refine round n u w hr (FrameAt t df ds rel) (fun _ _ _ h => h) (fun a' w' h => ?_)
      obtain ⟨k, hk, hf⟩ := h
      exact hJ _ _ (ih k hk a' w' hf)
  exact key n₀ _ _ ⟨_, h₀, by rw [setAll_self]⟩

theorem wp_skip_seq {body : Code} (h : body.wp P Q a w) : (Code.skip.seq body).wp P Q a w := by
  refine wp_seq ?_
  refine wp_skip ?_
  exact h
end
end Go.Proofs.YtobfabfoenldfaaX
