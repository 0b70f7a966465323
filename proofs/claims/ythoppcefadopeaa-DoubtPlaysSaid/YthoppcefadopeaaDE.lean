/- The doubts: those that fall due, all of them (some, its closures, slices.Clone). Conditions: those that each theorem names. -/
import Derived.Test.YthoppcefadopeaaDD
namespace Go.Proofs.Ythoppcefadopeaa.DW
set_option linter.unusedVariables false
set_option linter.unusedSimpArgs false
open Go Go.RowKit Go.Proofs.YthoppcefadopeaaS Go.Proofs.YthoppcefadopeaaS.Asn Go.Proofs.Ythoppcefadopeaa.PA Go.Proofs.YthoppcefadopeaaW.PrintWords Go.Proofs.YthoppcefadopeaaW.PrintLast Go.Proofs.YthoppcefadopeaaW.PrintMore
/-- An item's cells: the last one says where who confirmed stands. -/
structure RIt where
  id : Int
  inc : Int
  since : Int
  hold : Int
  A : Option Addr
  n : Nat
  c : Nat
def slK : Kd (Option Addr × Nat × Nat) := Kd.scalar (fun x => Value.slice x.1 x.2.1 x.2.2) (fun _ => rfl)
def ritK : Kd RIt := Kd.iso (Kd.pair (Kd.int .i64) (Kd.pair (Kd.int .u32) (Kd.pair (Kd.int .u64) (Kd.pair (Kd.int .u64) slK)))) (fun r : RIt => (r.id, r.inc, r.since, r.hold, (r.A, r.n, r.c)))
def RIt.cells (r : RIt) : List Value := [.int .i64 r.id, .int .u32 r.inc, .int .u64 r.since, .int .u64 r.hold, .slice r.A r.n r.c]
theorem ritK_M (w : World) (base : Nat) (ok : Nat → Prop) (x : RIt) : ritK.M w base ok x x.cells := ⟨[_], _, rfl, rfl, ⟨[_], _, rfl, rfl, ⟨[_], _, rfl, rfl, ⟨[_], _, rfl, rfl, rfl⟩⟩⟩⟩
theorem ritK_open {w : World} {x : RIt} {cs : List Value} (h : ritK.K w x cs) : cs = x.cells := by
  obtain ⟨_, _, rfl, rfl, ⟨_, _, rfl, rfl, ⟨_, _, rfl, rfl, ⟨_, _, rfl, rfl, rfl⟩⟩⟩⟩ := h
  rfl
def z53 : Value := .agg #[.int .i64 0, .int .u32 0, .int .u64 0, .int .u64 0, .slice none 0 0]
theorem info53 : (Try.prog.info? 53).map (fun i => (i.zero, i.size, i.bytes)) = some (some z53, 5, 56) := by kernel_rfl
theorem info3 : (Try.prog.info? 3).map (fun i => (i.zero, i.size, i.bytes)) = some (some (.int .i64 0), 1, 8) := by kernel_rfl
def Mat (r : RIt) (x : It) : Prop := r.id = x.id ∧ r.inc = x.inc ∧ r.since = x.since ∧ r.hold = x.hold ∧ r.n = x.who.length ∧ x.who.length ≤ r.c
def MatL (R : List RIt) (L : List It) : Prop := R.length = L.length ∧ ∀ (j : Nat) (r : RIt) (x : It), R[j]? = some r → L[j]? = some x → Mat r x
theorem MatL_nil : MatL [] [] := ⟨rfl, fun j r x h => by cases h⟩
theorem MatL_snoc {R : List RIt} {L : List It} {r : RIt} {x : It} (h : MatL R L) (hm : Mat r x) : MatL (R ++ [r]) (L ++ [x]) := by
  refine ⟨by rw [List.length_append, List.length_append, h.1]; rfl, fun j q y hq hy => ?_⟩
  rcases Nat.lt_or_ge j R.length with hj | hj
  · rw [List.getElem?_append_left hj] at hq
    rw [List.getElem?_append_left (by rw [← h.1]; exact hj)] at hy
    exact h.2 j q y hq hy
  · rw [List.getElem?_append_right hj] at hq
    rw [List.getElem?_append_right (by rw [← h.1]; exact hj), ← h.1] at hy
    cases hk : j - R.length with
    | zero =>
      rw [hk] at hq hy
      cases hq
      cases hy
      exact hm
    | succ k => rw [hk] at hq; simp at hq
def poolOf (R : List RIt) (L : List It) : List (Option Addr × List Int) := (R.zip L).map (fun q => (q.1.A, q.2.who))
theorem poolOf_snoc {R : List RIt} {L : List It} (r : RIt) (x : It) (h : MatL R L) : poolOf (R ++ [r]) (L ++ [x]) = poolOf R L ++ [(r.A, x.who)] := by
  unfold poolOf
  rw [List.zip_append h.1, List.map_append]
  rfl
/-- A list of items, each with its own who. -/
def itemsA (v : Value) (L : List It) : Asn := ex fun R : List RIt => fact (MatL R L) ⋆ row ritK 53 v R ⋆ pool (Kd.int .i64) (poolOf R L)
theorem items_mk {w0 w : World} {ok0 : Nat → Prop} {F : Asn} {v : Value} {R : List RIt} {L : List It} (hm : MatL R L) (h : Sep w0 ok0 (row ritK 53 v R ⋆ pool (Kd.int .i64) (poolOf R L) ⋆ F) w) : Sep w0 ok0 (itemsA v L ⋆ F) w :=
  sep_head (sep_fold h) (fun ok hh => ⟨R, fun _ => False, ok, hm, hh, fun _ h _ => h, fun _ h => h.elim, fun _ h => h⟩)
theorem items_open {w0 w : World} {ok0 : Nat → Prop} {F : Asn} {v : Value} {L : List It} (h : Sep w0 ok0 (itemsA v L ⋆ F) w) : ∃ R, MatL R L ∧ Sep w0 ok0 (row ritK 53 v R ⋆ pool (Kd.int .i64) (poolOf R L) ⋆ F) w := by
  obtain ⟨R, h⟩ := sep_ex_star h
  obtain ⟨hm, h⟩ := sep_fact (sep_flat h)
  exact ⟨R, hm, sep_flat h⟩
theorem clone (A : Option Addr) (c : Nat) (l : List Int) (w : World) (hC : (Kd.int .i64).C w A l.length l) (hl : l.length ≤ 1000000) :
    Calls Try.prog 38 #[.slice A l.length c] w fun e w' => ∃ v, e = .returned v ∧ Sep w (fun _ => False) (row (Kd.int .i64) 3 v l ⋆ emp) w' := by
  have HS := Aside0.mk (sep_start w)
  have HC := Aside0.mk hC
  have HL := Aside0.mk hl
  have hnil : ∀ (w : World) (a : Option Addr) (n c n' c' : Nat), (Go.binOp .eql 51 (.slice a n c) (.slice none n' c')).run Try.prog w = .ok (.bool a.isNone) w := fun w a n c n' c' => Lib.run_eql_slice_nil w _ _ a n c n' c' Try.underlying51
  cases A with
  | none =>
    have h0 : l = [] := by
      cases l with
      | nil => rfl
      | cons x r => obtain ⟨ad, h, _⟩ := hC.2.2 (by simp); cases h
    subst h0
    clear hC hl
    go_enter Try.func38, Try.ntmps38
    go_wp2
    go_ret
    exact ⟨_, rfl, sep_row_nil HS.out⟩
  | some ad =>
    clear hC hl
    go_enter Try.func38, Try.ntmps38
    go_wp2_with ((with_reducible refine gate_builtin (b := .append) (xs := #[.tmp 5, .tmp 6]) rfl ?_); at_builtin; refine wp_append_rows (Kd.int .i64) rfl (.tmp 5) (.tmp 6) 51 3 (.int .i64 0) 8 rfl Try.underlying51 info3 rfl (by decide) (by decide) _ [] l (some ad) l.length c (by rfl) (by rfl) (sep_empty HS.out) (Kd.C_alloc HC.out _) (fun x cs hk => hk) (by have := HL.out; simp only [List.length_nil]; omega) ?_; intro v1 w1 n_; clear HS; have HS := Aside0.mk n_; clear n_)
    go_ret
    exact ⟨_, rfl, HS.out⟩
end Go.Proofs.Ythoppcefadopeaa.DW
