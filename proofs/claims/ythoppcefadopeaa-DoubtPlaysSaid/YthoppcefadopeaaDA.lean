/- The doubts (package doubt): New, of, Until, Clear, Begin. Conditions: those that each theorem names. -/
import Derived.Test.YthoppcefadopeaaDP
import Derived.Test.YthoppcefadopeaaPAx
import Derived.Deep.RegionHeld3
namespace Go.Proofs.Ythoppcefadopeaa.DW
set_option linter.unusedVariables false
set_option linter.unusedSimpArgs false
open Go Go.RowKit Go.Proofs.YthoppcefadopeaaS Go.Proofs.YthoppcefadopeaaS.Asn Go.Proofs.Ythoppcefadopeaa.PA Go.Proofs.YthoppcefadopeaaW.PrintWords Go.Proofs.YthoppcefadopeaaW.PrintLast Go.Proofs.YthoppcefadopeaaW.PrintMore
def itCell (x : It) (v : Value) : Nat → Value
  | 0 => .int .i64 x.id
  | 1 => .int .u32 x.inc
  | 2 => .int .u64 x.since
  | 3 => .int .u64 x.hold
  | _ => v
/-- The doubts' cells. -/
def df (I : Nat → It) (V : Nat → Value) (k : Nat) : Value := itCell (I (k / 5)) (V (k / 5)) (k % 5)
def whoA (I : Nat → It) (V : Nat → Value) (i : Nat) : Asn := row (Kd.int .i64) 3 (V i) (I i).who
/-- The doubts at block p. -/
def doubtA (p : Nat) (I : Nat → It) : Asn := ex fun V : Nat → Value => pt p (arrV 165 (df I V)) 61 ⋆ all 33 (whoA I V)
section
variable {w0 w : World} {ok0 : Nat → Prop} {F : Asn} {p : Nat} {I : Nat → It} {V : Nat → Value}
theorem dt_mk (h : Sep w0 ok0 (pt p (arrV 165 (df I V)) 61 ⋆ all 33 (whoA I V) ⋆ F) w) : Sep w0 ok0 (doubtA p I ⋆ F) w := sep_head (sep_fold h) (fun ok hh => ⟨V, hh⟩)
theorem dt_open (h : Sep w0 ok0 (doubtA p I ⋆ F) w) : ∃ V, Sep w0 ok0 (pt p (arrV 165 (df I V)) 61 ⋆ all 33 (whoA I V) ⋆ F) w := by
  obtain ⟨V, h⟩ := sep_ex_star h
  exact ⟨V, sep_flat h⟩
theorem dt_cell (h : Sep w0 ok0 (pt p (arrV 165 (df I V)) 61 ⋆ F) w) (i j : Nat) (hi : i < 33) (hj : j < 5) : w.cell? ⟨p, i * 5 + j, none⟩ = some (itCell (I i) (V i) j) := by
  rw [sep_cell h, arrV_get _ (by omega)]
  unfold df
  rw [show (i * 5 + j) / 5 = i by omega, show (i * 5 + j) % 5 = j by omega]
theorem dt_facts (h : Sep w0 ok0 (pt p (arrV 165 (df I V)) 61 ⋆ F) w) (i : Nat) (hi : i < 33) :
    w.cell? ⟨p, i * 5, none⟩ = some (.int .i64 (I i).id) ∧ w.cell? ⟨p, i * 5 + 1, none⟩ = some (.int .u32 (I i).inc) ∧ w.cell? ⟨p, i * 5 + 2, none⟩ = some (.int .u64 (I i).since) ∧ w.cell? ⟨p, i * 5 + 3, none⟩ = some (.int .u64 (I i).hold) ∧ w.cell? ⟨p, i * 5 + 4, none⟩ = some (V i) :=
  ⟨dt_cell h i 0 hi (by decide), dt_cell h i 1 hi (by decide), dt_cell h i 2 hi (by decide), dt_cell h i 3 hi (by decide), dt_cell h i 4 hi (by decide)⟩
theorem dt_frozen (h : Sep w0 ok0 (pt p (arrV 165 (df I V)) 61 ⋆ F) w) (i : Nat) :
    w.frozen? ⟨p, i * 5, none⟩ = false ∧ w.frozen? ⟨p, i * 5 + 1, none⟩ = false ∧ w.frozen? ⟨p, i * 5 + 2, none⟩ = false ∧ w.frozen? ⟨p, i * 5 + 3, none⟩ = false ∧ w.frozen? ⟨p, i * 5 + 4, none⟩ = false :=
  ⟨sep_frozen h _, sep_frozen h _, sep_frozen h _, sep_frozen h _, sep_frozen h _⟩
theorem df_set5 (I : Nat → It) (V : Nat → Value) (i : Nat) (x : It) (v : Value) (hi : i < 33) :
    (((((arrV 165 (df I V)).setIfInBounds (i * 5) (.int .i64 x.id)).setIfInBounds (i * 5 + 1) (.int .u32 x.inc)).setIfInBounds (i * 5 + 2) (.int .u64 x.since)).setIfInBounds (i * 5 + 3) (.int .u64 x.hold)).setIfInBounds (i * 5 + 4) v = arrV 165 (df (upd I i x) (upd V i v)) := by
  rw [arrV_set, arrV_set, arrV_set, arrV_set, arrV_set]
  refine arrV_congr (fun j hj => ?_)
  unfold df upd
  by_cases h : j / 5 = i
  · rw [if_pos h, if_pos h]
    have h5 : j % 5 = 0 ∨ j % 5 = 1 ∨ j % 5 = 2 ∨ j % 5 = 3 ∨ j % 5 = 4 := by omega
    rcases h5 with h5 | h5 | h5 | h5 | h5
    · rw [if_neg (by omega), if_neg (by omega), if_neg (by omega), if_neg (by omega), if_pos (by omega), h5]; rfl
    · rw [if_neg (by omega), if_neg (by omega), if_neg (by omega), if_pos (by omega), h5]; rfl
    · rw [if_neg (by omega), if_neg (by omega), if_pos (by omega), h5]; rfl
    · rw [if_neg (by omega), if_pos (by omega), h5]; rfl
    · rw [if_pos (by omega), h5]; rfl
  · rw [if_neg h, if_neg h, if_neg (by omega), if_neg (by omega), if_neg (by omega), if_neg (by omega), if_neg (by omega)]
theorem df_set1 (I : Nat → It) (V : Nat → Value) (i : Nat) (l : List Int) (v : Value) (hi : i < 33) :
    (arrV 165 (df I V)).setIfInBounds (i * 5 + 4) v = arrV 165 (df (upd I i { I i with who := l }) (upd V i v)) := by
  rw [arrV_set]
  refine arrV_congr (fun j hj => ?_)
  unfold df upd
  by_cases h : j / 5 = i
  · rw [if_pos h, if_pos h]
    have h5 : j % 5 = 0 ∨ j % 5 = 1 ∨ j % 5 = 2 ∨ j % 5 = 3 ∨ j % 5 = 4 := by omega
    rcases h5 with h5 | h5 | h5 | h5 | h5
    · rw [if_neg (by omega), h5, h]; rfl
    · rw [if_neg (by omega), h5, h]; rfl
    · rw [if_neg (by omega), h5, h]; rfl
    · rw [if_neg (by omega), h5, h]; rfl
    · rw [if_pos (by omega), h5]; rfl
  · rw [if_neg h, if_neg h, if_neg (by omega)]
theorem whoA_upd (I : Nat → It) (V : Nat → Value) (i : Nat) (x : It) (v : Value) : allx 33 i (whoA I V) = allx 33 i (whoA (upd I i x) (upd V i v)) :=
  allx_congr 33 i _ _ (fun j _ hji => by unfold whoA; rw [upd_ne _ _ _ _ hji, upd_ne _ _ _ _ hji])
theorem whoA_at (I : Nat → It) (V : Nat → Value) (i : Nat) (x : It) (v : Value) : whoA (upd I i x) (upd V i v) i = row (Kd.int .i64) 3 v x.who := by unfold whoA; rw [upd_same, upd_same]
/-- What is known of i, taken out. -/
theorem dt_out (h : Sep w0 ok0 (pt p (arrV 165 (df I V)) 61 ⋆ all 33 (whoA I V) ⋆ F) w) (i : Nat) (hi : i < 33) :
    Sep w0 ok0 (row (Kd.int .i64) 3 (V i) (I i).who ⋆ pt p (arrV 165 (df I V)) 61 ⋆ allx 33 i (whoA I V) ⋆ F) w := sep_l1 (sep_inner (B := all 33 (whoA I V) ⋆ F) (C := whoA I V i ⋆ allx 33 i (whoA I V) ⋆ F) h (fun ok hh => by
      obtain ⟨o1, o2, hA, hB, hd, h1, h2⟩ := hh
      obtain ⟨p1, p2, hA1, hA2, hd', k1, k2⟩ := all_out 33 i (whoA I V) w o1 hi hA
      exact ⟨p1, fun k => p2 k ∨ o2 k, hA1, ⟨p2, o2, hA2, hB, fun k a b => hd k (k2 k a) b, fun k a => .inl a, fun k a => .inr a⟩, fun k a b => b.elim (hd' k a) (hd k (k1 k a)), fun k a => h1 k (k1 k a), fun k a => a.elim (fun a => h1 k (k2 k a)) (h2 k)⟩))
/-- .. and put back, another one. -/
theorem dt_in (x : It) (v : Value) (i : Nat) (hi : i < 33) (h : Sep w0 ok0 (row (Kd.int .i64) 3 v x.who ⋆ pt p (arrV 165 (df (upd I i x) (upd V i v))) 61 ⋆ allx 33 i (whoA I V) ⋆ F) w) : Sep w0 ok0 (doubtA p (upd I i x) ⋆ F) w := by
  rw [whoA_upd I V i x v, ← whoA_at I V i x v] at h
  exact dt_mk (sep_l1 (sep_all_in (sep_l1 (sep_l2 h)) hi))
end
end Go.Proofs.Ythoppcefadopeaa.DW
