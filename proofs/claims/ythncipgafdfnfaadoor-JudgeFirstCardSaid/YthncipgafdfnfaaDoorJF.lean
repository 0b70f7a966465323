/- JudgeFirst: the plain law; contracts. Conditions: those that each theorem names. -/
import Derived.Test.YthncipgafdfnfaaDoorXD
namespace Go.Proofs.YthncipgafdfnfaaDoor.JW
set_option linter.unusedVariables false
set_option linter.unusedSimpArgs false
open Go Go.RowKit Go.Proofs.YthncipgafdfnfaaDoorS Go.Proofs.YthncipgafdfnfaaDoorS.Asn Go.Proofs.YthncipgafdfnfaaDoor.PA Go.Proofs.YthncipgafdfnfaaDoorW.PrintWords Go.Proofs.YthncipgafdfnfaaDoorW.PrintLast Go.Proofs.YthncipgafdfnfaaDoorW.PrintMore

def r1 : Rec := ⟨1, 0, 0, 0, 0⟩
theorem first_hd (a : Rec) (l : List Rec) (id : Int) (h : a.id = id) : firstE (a :: l) id = (a, true) := by
  unfold firstE
  rw [idx_found (isId id) (a :: l) 0 a rfl (decide_eq_true h) (by simp)]
  rfl
theorem first_nil (id : Int) : firstE [] id = (Rec.zero, false) := by unfold firstE; rw [idx_none _ [] rfl]; rfl
theorem live_hd (a : Rec) (l : List Rec) (id : Int) (h : a.id = id) : liveE (a :: l) id = liveB a := by unfold liveE; rw [first_hd a l id h]; rfl
theorem live_nil (id : Int) : liveE [] id = false := by unfold liveE; rw [first_nil]; rfl
theorem wrong_two (V : List (List Rec)) (u0 u1 : Bool) : wrongE V [u0, u1] = (if (u0 && (u1 != liveE (V.getD 0 []) 2)) = true then [(1, 2)] else []) ++ (if (u1 && (u0 != liveE (V.getD 1 []) 1)) = true then [(2, 1)] else []) := by
  have h : wrongE V [u0, u1] = wrong1 V [u0, u1] 0 2 ++ wrong1 V [u0, u1] 1 2 := by
    unfold wrongE
    rw [show ([u0, u1] : List Bool).length = 0 + 1 + 1 from rfl, wrong2_succ, wrong2_succ, show wrong2 V [u0, u1] 0 = [] from rfl]
    rfl
  rw [h, show (2 : Nat) = 0 + 1 + 1 from rfl, wrong1_succ, wrong1_succ, wrong1_succ, wrong1_succ]
  rw [show wrong1 V [u0, u1] 0 0 = [] from rfl, show wrong1 V [u0, u1] 1 0 = [] from rfl]
  cases u0 <;> cases u1 <;> simp
theorem first_w (a b : Rec) (ha : a.id = 2) (up : Bool) : wrongE [[a, b], [r1]] [true, up] = if up = liveB a then [] else [(1, 2)] := by
  rw [wrong_two]
  show (if (true && (up != liveE [a, b] 2)) = true then [(1, 2)] else []) ++ (if (up && (true != liveE [r1] 1)) = true then [(2, 1)] else []) = _
  rw [live_hd a [b] 2 ha, live_hd r1 [] 1 rfl, show liveB r1 = true from rfl]
  cases up <;> cases liveB a <;> rfl
theorem first_n (up : Bool) : wrongE [] [true, up] = if up = true then [(1, 2), (2, 1)] else [] := by
  rw [wrong_two]
  show (if (true && (up != liveE [] 2)) = true then [(1, 2)] else []) ++ (if (up && (true != liveE [] 1)) = true then [(2, 1)] else []) = _
  rw [live_nil, live_nil]
  cases up <;> rfl
theorem first_r (a b : Rec) : risesE [a] [a, b] = true := by
  unfold risesE badB
  simp [first_hd a [b] a.id rfl, order_self]
theorem first_s (a b : Rec) (h : a.id = b.id) : risesE [a, b] [b] = decide (order b a ≥ 0) := by
  unfold risesE badB
  simp only [List.any_cons, List.any_nil, Bool.or_false, first_hd b [] a.id h.symm, first_hd b [] b.id rfl, order_self]
  have e : decide (order b a ≥ 0) = !decide (order b a < 0) := by
    by_cases q : order b a < 0
    · rw [decide_eq_true q, decide_eq_false (show ¬ order b a ≥ 0 by omega)]; rfl
    · rw [decide_eq_false q, decide_eq_true (show order b a ≥ 0 by omega)]; rfl
  rw [e]
  simp
theorem c_wrong (a b : Rec) (up : Bool) (A U : Option Addr) (w : World) (hA : llK.C w A (2 : Nat) [[a, b], [r1]]) (hU : Kd.bool.C w U (2 : Nat) [true, up]) (ha : a.id = 2) :
    Calls Tryd.prog 12 #[.slice A 2 2, .slice U 2 2] w fun e w' => ∃ v, e = .returned v ∧ Sep w (fun _ => False) (row prK 40 v (if up = liveB a then [] else [(1, 2)]) ⋆ emp) w' := by
  have hx := wrong_walk A U 2 2 [[a, b], [r1]] [true, up] w hA hU (by simp)
  rw [first_w a b ha] at hx
  exact hx
theorem c_none (up : Bool) (U : Option Addr) (w : World) (hU : Kd.bool.C w U (2 : Nat) [true, up]) :
    Calls Tryd.prog 12 #[.slice none 0 0, .slice U 2 2] w fun e w' => ∃ v, e = .returned v ∧ Sep w (fun _ => False) (row prK 40 v (if up = true then [(1, 2), (2, 1)] else []) ⋆ emp) w' := by
  have hx := wrong_walk none U 0 2 [] [true, up] w (ll_nil w) hU (by simp)
  rw [first_n] at hx
  exact hx
theorem c_rises1 (a b : Rec) (A B : Option Addr) (w : World) (h : recK.C w A (1 : Nat) [a]) (h2 : recK.C w B (2 : Nat) [a, b]) : Calls Tryd.prog 11 #[.slice A 1 1, .slice B 2 2] w fun e w' => e = .returned (.bool true) ∧ Below w.heap.size w w' := by
  have hx := rises_walk A B 1 2 [a] [a, b] w h h2
  rw [first_r] at hx
  exact hx
theorem c_rises2 (a b : Rec) (A B : Option Addr) (w : World) (h : recK.C w A (2 : Nat) [a, b]) (h2 : recK.C w B (1 : Nat) [b]) (hi : a.id = b.id) : Calls Tryd.prog 11 #[.slice A 2 2, .slice B 1 1] w fun e w' => e = .returned (.bool (decide (order b a ≥ 0))) ∧ Below w.heap.size w w' := by
  have hx := rises_walk A B 2 1 [a, b] [b] w h h2
  rw [first_s a b hi] at hx
  exact hx
theorem keep10 {w0 w' : World} {ok0 : Nat → Prop} {A B F : Asn} {g3 g4 : Nat} {a b : Rec} (h : Sep w0 ok0 (A ⋆ B ⋆ pt g4 #[.int .i64 b.id, .int .i64 b.st, .int .u32 b.inc, .int .u32 b.ip, .int .u16 b.po] 36 ⋆ pt g3 #[.int .i64 a.id, .int .i64 a.st, .int .u32 a.inc, .int .u32 a.ip, .int .u16 a.po] 36 ⋆ F) w') : w'.cell? ⟨g4, 0, none⟩ = some (.int .i64 b.id) ∧ w'.cell? ⟨g4, 1, none⟩ = some (.int .i64 b.st) ∧ w'.cell? ⟨g4, 2, none⟩ = some (.int .u32 b.inc) ∧ w'.cell? ⟨g4, 3, none⟩ = some (.int .u32 b.ip) ∧ w'.cell? ⟨g4, 4, none⟩ = some (.int .u16 b.po) ∧ w'.cell? ⟨g3, 0, none⟩ = some (.int .i64 a.id) ∧ w'.cell? ⟨g3, 1, none⟩ = some (.int .i64 a.st) ∧ w'.cell? ⟨g3, 2, none⟩ = some (.int .u32 a.inc) ∧ w'.cell? ⟨g3, 3, none⟩ = some (.int .u32 a.ip) ∧ w'.cell? ⟨g3, 4, none⟩ = some (.int .u16 a.po) := by
  obtain ⟨m1, m2, m3, m4, m5⟩ := facts5 (sep_l2 h)
  obtain ⟨k1, k2, k3, k4, k5⟩ := facts5 (sep_l3 h)
  exact ⟨m1, m2, m3, m4, m5, k1, k2, k3, k4, k5⟩
end Go.Proofs.YthncipgafdfnfaaDoor.JW
