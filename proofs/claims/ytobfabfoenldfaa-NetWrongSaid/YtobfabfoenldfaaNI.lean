/- Boxes: Rebind, New, IP. Conditions: those that each theorem names. -/
import Derived.Test.YtobfabfoenldfaaNH
namespace Go.Proofs.Ytobfabfoenldfaa.NW
set_option linter.unusedVariables false
set_option linter.unusedSimpArgs false
open Go Go.RowKit Go.Proofs.YtobfabfoenldfaaS Go.Proofs.YtobfabfoenldfaaS.Asn Go.Proofs.Ytobfabfoenldfaa.PA Go.Proofs.YtobfabfoenldfaaW.PrintWords Go.Proofs.YtobfabfoenldfaaW.PrintLast Go.Proofs.YtobfabfoenldfaaW.PrintMore


theorem box_IP (p : Nat) (ip : Int) (w : World) (h : w.cell? ⟨p, 2, none⟩ = some (.int .u32 ip)) : Calls Try.prog 16 #[.pointer (some ⟨p, 0, none⟩)] w fun e w' => e = .returned (.int .u32 ip) ∧ Below w.heap.size w w' := by
  go_enter Try.func16, Try.ntmps16
  go_wp2
  go_ret
  exact ⟨rfl, Below.refl _ _⟩
set_option maxRecDepth 100000 in
theorem box_Rebind0 (p : Nat) (w : World) : Calls Try.prog 33 #[.pointer (some ⟨p, 0, none⟩), .int .u32 0] w fun e w' => e = .returned (.int .i64 1) ∧ Below w.heap.size w w' := by
  go_enter Try.func33, Try.ntmps33
  go_wp2
  go_ret
  exact ⟨rfl, Below.refl _ _⟩
set_option maxRecDepth 100000 in
theorem box_Rebind (p : Nat) (B : Bx) (ip : Int) (w : World) (ok : Nat → Prop) (hi : ip ≠ 0) (h : (boxA p B ⋆ emp).H w ok) : Calls Try.prog 33 #[.pointer (some ⟨p, 0, none⟩), .int .u32 ip] w fun e w' => e = .returned (.int .i64 0) ∧ Sep w ok (boxA p { B with ip := ip, l := [] } ⋆ emp) w' := by
  obtain ⟨A, c, R, hm, hc, n_⟩ := box_open (sep_begin h)
  have HS := Aside0.mk n_
  have i1 : (ip == 0) = false := beq_eq_false_iff_ne.2 hi
  have i2 := eq_false hi
  have e2 := sep_cell HS.out 2
  have e5 := sep_cell HS.out 5
  have f0 := sep_frozen HS.out
  have f02 := f0 2
  have f05 := f0 5
  clear h n_ hm hc f0
  go_enter Try.func33, Try.ntmps33
  go_wp2
  go_ret
  have n_ := sep_set (sep_set HS.out 2 (.int .u32 ip)) 5 (.slice none 0 0)
  refine ⟨rfl, box_mk (B := { B with ip := ip, l := [] }) (v := .slice none 0 0) (R := []) ⟨rfl, fun j r x hr => by simp at hr⟩ ?_⟩
  exact sep_l1 (sep_row_nil (sep_l1 (sep_pool_sub (M := []) (sep_l1 (sep_drop (sep_l1 n_))) (fun y hy => by cases hy))))
theorem right_f (mp fl : Int) (h1 : 0 ≤ mp ∧ mp < 3) (h2 : 0 ≤ fl ∧ fl < 3) : rule_Right.f mp fl = some true := by
  unfold rule_Right.f rule_kind.f
  rw [if_pos (by omega), if_pos (by omega), decide_eq_true h1.2, decide_eq_true h2.2]
  rfl
set_option maxRecDepth 100000 in
theorem box_New (mp fl ip hold room : Int) (w : World) (h1 : 0 ≤ mp ∧ mp < 3) (h2 : 0 ≤ fl ∧ fl < 3) (h3 : ip ≠ 0) (h4 : 1 ≤ hold ∧ hold ≤ 1000000) (h5 : 1 ≤ room ∧ room ≤ 64) : Calls Try.prog 27 #[.agg #[.int .i64 mp, .int .i64 fl], .int .u32 ip, .int .u64 hold, .int .i64 room] w fun e w' => ∃ p : Nat, e = .returned (.tuple #[.pointer (some ⟨p, 0, none⟩), .int .i64 0]) ∧ Sep w (fun _ => False) (boxA p ⟨mp, fl, ip, hold, room, []⟩ ⋆ emp) w' := by
  have H1 : Aside0 (rule_Right.f mp fl = some true) := ⟨right_f mp fl h1 h2⟩
  have i1 : (ip == 0) = false := beq_eq_false_iff_ne.2 h3
  have i2 := eq_false h3
  have i3 : (hold == 0) = false := beq_eq_false_iff_ne.2 (by omega)
  have i4 : (hold = 0) = False := eq_false (by omega)
  have i5 : decide (1000000 < hold) = false := decide_eq_false (by omega)
  have i6 : (1000000 < hold) = False := eq_false (by omega)
  have i7 : decide (room < 1) = false := decide_eq_false (by omega)
  have i8 : (room < 1) = False := eq_false (by omega)
  have i9 : decide (64 < room) = false := decide_eq_false (by omega)
  have i10 : (64 < room) = False := eq_false (by omega)
  clear h1 h2 h3 h4 h5
  have HS := Aside0.mk (sep_start w)
  go_enter Try.func27, Try.ntmps27
  go_upto_region 1 with (fail)
  have n_ := sep_allocg HS.out #[.int .i64 mp, .int .i64 fl] 24 _ rfl
  have n0_ := Aside0.mk n_; clear HS n_; have HS := n0_; clear n0_
  generalize World.alloc _ _ = wa at HS ⊢
  generalize Array.size (World.heap _) = g4 at HS ⊢
  have m1 := sep_cell HS.out 0
  have m2 := sep_cell HS.out 1
  go_upto_region 3 with ((go_at_call 39; (with_reducible refine Calls.mono (rule_Right.calls mp fl true _ H1.out) ?_); rintro e w1 ⟨rfl, hb_⟩; have n_ := sep_below HS.out hb_; clear hb_; have n0_ := Aside0.mk n_; clear HS n_; have HS := n0_; clear n0_; skip))
  clear m1 m2
  have m1 := sep_cell HS.out 0
  have m2 := sep_cell HS.out 1
  go_wp2
  go_ret2
  have n_ := sep_allocg (sep_row_nil (d := rbdK) (e := 100) (sep_pool_nil (d := k28) (sep_drop HS.out))) #[.int .i64 (⟨mp, fl, ip, hold, room, []⟩ : Bx).mp, .int .i64 (⟨mp, fl, ip, hold, room, []⟩ : Bx).fl, .int .u32 (⟨mp, fl, ip, hold, room, []⟩ : Bx).ip, .int .u64 (⟨mp, fl, ip, hold, room, []⟩ : Bx).hold, .int .i64 (⟨mp, fl, ip, hold, room, []⟩ : Bx).room, .slice none 0 0] 86 _ rfl
  exact ⟨_, rfl, box_mk (v := .slice none 0 0) (R := []) ⟨rfl, fun j r x hr => by simp at hr⟩ n_⟩
set_option maxRecDepth 100000 in
theorem box_New0 (mp fl ip room : Int) (w : World) (h1 : 0 ≤ mp ∧ mp < 3) (h2 : 0 ≤ fl ∧ fl < 3) (h3 : ip ≠ 0) : Calls Try.prog 27 #[.agg #[.int .i64 mp, .int .i64 fl], .int .u32 ip, .int .u64 0, .int .i64 room] w fun e w' => e = .returned (.tuple #[.pointer none, .int .i64 1]) ∧ Below w.heap.size w w' := by
  have H1 : Aside0 (rule_Right.f mp fl = some true) := ⟨right_f mp fl h1 h2⟩
  have i1 : (ip == 0) = false := beq_eq_false_iff_ne.2 h3
  have i2 := eq_false h3
  clear h1 h2 h3
  have HS := Aside0.mk (sep_start w)
  go_enter Try.func27, Try.ntmps27
  go_upto_region 1 with (fail)
  have n_ := sep_allocg HS.out #[.int .i64 mp, .int .i64 fl] 24 _ rfl
  have n0_ := Aside0.mk n_; clear HS n_; have HS := n0_; clear n0_
  generalize World.alloc _ _ = wa at HS ⊢
  generalize Array.size (World.heap _) = g4 at HS ⊢
  have m1 := sep_cell HS.out 0
  have m2 := sep_cell HS.out 1
  go_wp2_with ((go_at_call 39; (with_reducible refine Calls.mono (rule_Right.calls mp fl true _ H1.out) ?_); rintro e w1 ⟨rfl, hb_⟩; have n_ := sep_below HS.out hb_; clear hb_; have n0_ := Aside0.mk n_; clear HS n_; have HS := n0_; clear n0_; skip))
  go_ret2
  exact ⟨rfl, sep_below_of HS.out⟩
end Go.Proofs.Ytobfabfoenldfaa.NW
