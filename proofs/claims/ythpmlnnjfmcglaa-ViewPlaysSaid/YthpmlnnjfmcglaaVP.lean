/- What a view does, as plain functions, and what follows. No condition but those that each theorem names. -/
import Derived.Test.YthpmlnnjfmcglaaSepQ
namespace Go.Proofs.Ythpmlnnjfmcglaa.VW
set_option linter.unusedVariables false
set_option linter.unusedSimpArgs false
open Go Go.RowKit
/-- A record: ID, state, Inc, IP, port. -/
structure Rec where
  id : Int
  st : Int
  inc : Int
  ip : Int
  po : Int
/-- An event: ID, was, is, Inc. -/
structure Ev where
  id : Int
  was : Int
  is_ : Int
  inc : Int
def Rec.zero : Rec := ⟨0, 0, 0, 0, 0⟩
/-- What a view holds: what is known of each ID, the last events, how many there were. -/
structure VS where
  K : Nat → Rec
  E : List Ev
  seen : Nat
def VS.new : VS := ⟨fun _ => Rec.zero, [], 0⟩
def right (r : Rec) : Bool := decide (1 ≤ r.id ∧ r.id ≤ 32 ∧ 0 ≤ r.st ∧ r.st ≤ 3 ∧ r.ip ≠ 0 ∧ r.po ≠ 0)
def cmpI (a b : Int) : Int := if a < b then -1 else if a > b then 1 else 0
def or2 (a b : Int) : Int := if a = 0 then b else a
def ordA (a0 a1 b0 b1 : Int) : Int := or2 (cmpI a0 b0) (cmpI a1 b1)
def ordR (a1 a2 a3 a4 b1 b2 b3 b4 : Int) : Int := or2 (cmpI a2 b2) (or2 (cmpI a1 b1) (ordA a3 a4 b3 b4))
/-- How two records stand: by Inc, then the state, then the IP, then the port. -/
def order (a b : Rec) : Int := ordR a.st a.inc a.ip a.po b.st b.inc b.ip b.po
def over (a b : Rec) : Bool := decide (order a b > 0)
def ofE (s : VS) (id : Int) : Rec × Bool := if id < 1 ∨ 32 < id ∨ (s.K id.toNat).id = 0 then (Rec.zero, false) else (s.K id.toNat, true)
def tell (s : VS) (e : Ev) : VS := { s with E := (s.E ++ [e]).drop (s.E.length + 1 - 128), seen := s.seen + 1 }
def upd (K : Nat → Rec) (i : Nat) (r : Rec) : Nat → Rec := fun j => if j = i then r else K j
def wasE (s : VS) (id : Int) : Int := if (ofE s id).2 then (ofE s id).1.st else -1
def takeE (s : VS) (r : Rec) : Bool × Int × VS :=
  if right r = false then (false, 1, s)
  else if (ofE s r.id).2 = true ∧ over r (ofE s r.id).1 = false then (false, 0, s)
  else if wasE s r.id = r.st then (true, 0, { s with K := upd s.K r.id.toNat r })
  else (true, 0, tell { s with K := upd s.K r.id.toNat r } ⟨r.id, wasE s r.id, r.st, r.inc⟩)
def members (s : VS) : List Rec := ((List.range 33).map s.K).filter (fun r => decide (0 < r.id))
def liveB (r : Rec) : Bool := r.st == 0 || r.st == 1
def liveE (s : VS) : List Int := ((List.range 32).filter (fun i : Nat => (ofE s ((i : Int) + 1)).2 && liveB (ofE s ((i : Int) + 1)).1)).map (fun i : Nat => ((i : Int) + 1))
/-- What always holds of a view. -/
structure Good (s : VS) : Prop where
  know : ∀ i, i < 33 → s.K i = Rec.zero ∨ ((s.K i).id = i ∧ right (s.K i) = true)
  len : s.E.length ≤ 128
  seen : s.E.length ≤ s.seen
end Go.Proofs.Ythpmlnnjfmcglaa.VW
