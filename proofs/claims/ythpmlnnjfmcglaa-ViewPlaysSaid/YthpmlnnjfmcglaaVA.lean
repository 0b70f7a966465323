/- The view (package view): New, Seen, Of. Conditions: those that each theorem names. -/
import Derived.Test.YthpmlnnjfmcglaaVP
import Derived.Test.YthpmlnnjfmcglaaPAx
import Derived.Deep.RegionHeld3
namespace Go.Proofs.Ythpmlnnjfmcglaa.VW
set_option linter.unusedVariables false
set_option linter.unusedSimpArgs false
open Go Go.RowKit Go.Proofs.YthpmlnnjfmcglaaS Go.Proofs.YthpmlnnjfmcglaaS.Asn Go.Proofs.Ythpmlnnjfmcglaa.PA Go.Proofs.YthpmlnnjfmcglaaW.PrintWords Go.Proofs.YthpmlnnjfmcglaaW.PrintLast Go.Proofs.YthpmlnnjfmcglaaW.PrintMore
def evK : Kd Ev := Kd.iso (Kd.pair (Kd.int .i64) (Kd.pair (Kd.int .i64) (Kd.pair (Kd.int .i64) (Kd.int .u32)))) (fun e : Ev => (e.id, e.was, e.is_, e.inc))
def recCell (r : Rec) : Nat → Value
  | 0 => .int .i64 r.id
  | 1 => .int .i64 r.st
  | 2 => .int .u32 r.inc
  | 3 => .int .u32 r.ip
  | _ => .int .u16 r.po
/-- A view's cells. -/
def vf (K : Nat → Rec) (v : Value) (seen : Nat) (k : Nat) : Value := if k < 165 then recCell (K (k / 5)) (k % 5) else if k = 165 then v else .int .u64 (seen : Int)
/-- A view at block p. -/
def viewA (p : Nat) (s : VS) : Asn := ex fun v : Value => pt p (arrV 167 (vf s.K v s.seen)) 81 ⋆ que evK 46 v s.E
section
variable {w0 w : World} {ok0 : Nat → Prop} {F : Asn} {p : Nat} {s : VS}
theorem view_mk {v : Value} (h : Sep w0 ok0 (pt p (arrV 167 (vf s.K v s.seen)) 81 ⋆ que evK 46 v s.E ⋆ F) w) : Sep w0 ok0 (viewA p s ⋆ F) w := sep_head (sep_fold h) (fun ok hh => ⟨v, hh⟩)
theorem view_open (h : Sep w0 ok0 (viewA p s ⋆ F) w) : ∃ v, Sep w0 ok0 (pt p (arrV 167 (vf s.K v s.seen)) 81 ⋆ que evK 46 v s.E ⋆ F) w := by
  obtain ⟨v, h⟩ := sep_ex_star h
  exact ⟨v, sep_flat h⟩
theorem view_rec {K : Nat → Rec} {v : Value} {n : Nat} (h : Sep w0 ok0 (pt p (arrV 167 (vf K v n)) 81 ⋆ F) w) (i j : Nat) (hi : i < 33) (hj : j < 5) : w.cell? ⟨p, i * 5 + j, none⟩ = some (recCell (K i) j) := by
  rw [sep_cell h, arrV_get _ (by omega)]
  unfold vf
  rw [if_pos (by omega), show (i * 5 + j) / 5 = i by omega, show (i * 5 + j) % 5 = j by omega]
theorem view_facts {K : Nat → Rec} {v : Value} {n : Nat} (h : Sep w0 ok0 (pt p (arrV 167 (vf K v n)) 81 ⋆ F) w) (i : Nat) (hi : i < 33) :
    w.cell? ⟨p, i * 5, none⟩ = some (.int .i64 (K i).id) ∧ w.cell? ⟨p, i * 5 + 1, none⟩ = some (.int .i64 (K i).st) ∧ w.cell? ⟨p, i * 5 + 2, none⟩ = some (.int .u32 (K i).inc) ∧ w.cell? ⟨p, i * 5 + 3, none⟩ = some (.int .u32 (K i).ip) ∧ w.cell? ⟨p, i * 5 + 4, none⟩ = some (.int .u16 (K i).po) :=
  ⟨view_rec h i 0 hi (by decide), view_rec h i 1 hi (by decide), view_rec h i 2 hi (by decide), view_rec h i 3 hi (by decide), view_rec h i 4 hi (by decide)⟩
theorem facts5 {w0 w : World} {ok0 : Nat → Prop} {F : Asn} {g : Nat} {t : TypeId} {a b c d e : Value} (h : Sep w0 ok0 (pt g #[a, b, c, d, e] t ⋆ F) w) :
    w.cell? ⟨g, 0, none⟩ = some a ∧ w.cell? ⟨g, 1, none⟩ = some b ∧ w.cell? ⟨g, 2, none⟩ = some c ∧ w.cell? ⟨g, 3, none⟩ = some d ∧ w.cell? ⟨g, 4, none⟩ = some e :=
  ⟨sep_cell h 0, sep_cell h 1, sep_cell h 2, sep_cell h 3, sep_cell h 4⟩
theorem facts5f {w0 w : World} {ok0 : Nat → Prop} {F : Asn} {g : Nat} {t : TypeId} {a b c d e : Value} (h : Sep w0 ok0 (pt g #[a, b, c, d, e] t ⋆ F) w) :
    w.frozen? ⟨g, 0, none⟩ = false ∧ w.frozen? ⟨g, 1, none⟩ = false ∧ w.frozen? ⟨g, 2, none⟩ = false ∧ w.frozen? ⟨g, 3, none⟩ = false ∧ w.frozen? ⟨g, 4, none⟩ = false :=
  ⟨sep_frozen h 0, sep_frozen h 1, sep_frozen h 2, sep_frozen h 3, sep_frozen h 4⟩
theorem sep_set5 {w0 w : World} {ok0 : Nat → Prop} {F : Asn} {g : Nat} {t : TypeId} {a b c d e : Value} (h : Sep w0 ok0 (pt g #[a, b, c, d, e] t ⋆ F) w) (a' b' c' d' e' : Value) :
    Sep w0 ok0 (pt g #[a', b', c', d', e'] t ⋆ F) (((((w.setCell ⟨g, 0, none⟩ a').setCell ⟨g, 1, none⟩ b').setCell ⟨g, 2, none⟩ c').setCell ⟨g, 3, none⟩ d').setCell ⟨g, 4, none⟩ e') :=
  sep_set (sep_set (sep_set (sep_set (sep_set h 0 a') 1 b') 2 c') 3 d') 4 e'
theorem view_ev {K : Nat → Rec} {v : Value} {n : Nat} (h : Sep w0 ok0 (pt p (arrV 167 (vf K v n)) 81 ⋆ F) w) : w.cell? ⟨p, 165, none⟩ = some v := by
  rw [sep_cell h, arrV_get _ (by decide)]
  rfl
theorem view_seen {K : Nat → Rec} {v : Value} {n : Nat} (h : Sep w0 ok0 (pt p (arrV 167 (vf K v n)) 81 ⋆ F) w) : w.cell? ⟨p, 166, none⟩ = some (.int .u64 (n : Int)) := by
  rw [sep_cell h, arrV_get _ (by decide)]
  rfl
end
theorem zero81 (w : World) : (zeroValue 81).run Try.prog w = .ok (.agg (arrV 167 (vf VS.new.K (.slice none 0 0) VS.new.seen))) w := by kernel_rfl
theorem view_New (w : World) : Calls Try.prog 10 #[] w fun e w' => ∃ p : Nat, e = .returned (.pointer (some ⟨p, 0, none⟩)) ∧ Sep w (fun _ => False) (viewA p VS.new ⋆ emp) w' := by
  have HS := Aside0.mk (sep_start w)
  have hz := zero81
  have HZ := Aside0.mk (view_mk (s := VS.new) (sep_alloc (sep_que_nil HS.out) (arrV 167 (vf VS.new.K (.slice none 0 0) VS.new.seen)) 81))
  generalize arrV 167 (vf VS.new.K (.slice none 0 0) VS.new.seen) = cs at hz HZ
  go_enter Try.func10, Try.ntmps10
  go_wp2
  go_ret
  exact ⟨_, rfl, HZ.out⟩
theorem view_Seen (p : Nat) (s : VS) (w : World) (ok : Nat → Prop) (h : (viewA p s ⋆ emp).H w ok) :
    Calls Try.prog 13 #[.pointer (some ⟨p, 0, none⟩)] w fun e w' => e = .returned (.int .u64 (s.seen : Int)) ∧ Sep w ok (viewA p s ⋆ emp) w' := by
  have HS := Aside0.mk (sep_begin h)
  obtain ⟨v, n_⟩ := view_open (sep_begin h)
  have c1 := view_seen n_
  clear n_ h
  go_enter Try.func13, Try.ntmps13
  go_wp2
  go_ret
  exact ⟨rfl, HS.out⟩
theorem view_Of (p : Nat) (s : VS) (id : Int) (w : World) (ok : Nat → Prop) (h : (viewA p s ⋆ emp).H w ok) :
    Calls Try.prog 12 #[.pointer (some ⟨p, 0, none⟩), .int .i64 id] w fun e w' => e = .returned (.tuple #[.agg #[.int .i64 (ofE s id).1.id, .int .i64 (ofE s id).1.st, .int .u32 (ofE s id).1.inc, .int .u32 (ofE s id).1.ip, .int .u16 (ofE s id).1.po], .bool (ofE s id).2]) ∧ Sep w ok (viewA p s ⋆ emp) w' := by
  obtain ⟨v, n_⟩ := view_open (sep_begin h)
  have HS := Aside0.mk n_
  clear n_ h
  obtain ⟨⟨r, b⟩, hr⟩ : ∃ r, ofE s id = r := ⟨_, rfl⟩
  rw [hr]
  unfold ofE at hr
  have HR := Aside0.mk hr
  clear hr
  go_enter Try.func12, Try.ntmps12
  go_upto_region 1 with (fail)
  have n_ := sep_l2 (sep_l2 (sep_alloc HS.out #[.int .i64 0, .int .i64 0, .int .u32 0, .int .u32 0, .int .u16 0] 31))
  have n0_ := Aside0.mk n_; clear HS n_; have HS := n0_; clear n0_
  generalize w.alloc (.cells #[.int .i64 0, .int .i64 0, .int .u32 0, .int .u32 0, .int .u16 0] 31) = wa at HS ⊢
  generalize w.heap.size = g4 at HS ⊢
  obtain ⟨m1, m2, m3, m4, m5⟩ := facts5 (sep_l2 HS.out)
  obtain ⟨q1, q2, q3, q4, q5⟩ := facts5f (sep_l2 HS.out)
  by_cases h1 : id < 1
  · have e1 : decide (id < 1) = true := decide_eq_true h1
    go_wp2
    have hr := HR.out
    rw [if_pos (.inl (by omega))] at hr
    have n_ := sep_set5 (sep_l2 HS.out) (.int .i64 0) (.int .i64 0) (.int .u32 0) (.int .u32 0) (.int .u16 0)
    refine bodyPost_ret (results_ct rfl _ _ g4 31 #[.int .i64 Rec.zero.id, .int .i64 Rec.zero.st, .int .u32 Rec.zero.inc, .int .u32 Rec.zero.ip, .int .u16 Rec.zero.po] (0, 0) _ rfl (sep_pt n_) Try.underlying31 rfl (by kernel_rfl)) rfl ?_
    cases hr
    exact ⟨rfl, view_mk (sep_drop n_)⟩
  · by_cases h2 : 32 < id
    · have e1 : decide (id < 1) = false := decide_eq_false h1
      have e2 : decide (32 < id) = true := decide_eq_true h2
      go_wp2
      have hr := HR.out
      rw [if_pos (.inr (.inl (by omega)))] at hr
      have n_ := sep_set5 (sep_l2 HS.out) (.int .i64 0) (.int .i64 0) (.int .u32 0) (.int .u32 0) (.int .u16 0)
      refine bodyPost_ret (results_ct rfl _ _ g4 31 #[.int .i64 Rec.zero.id, .int .i64 Rec.zero.st, .int .u32 Rec.zero.inc, .int .u32 Rec.zero.ip, .int .u16 Rec.zero.po] (0, 0) _ rfl (sep_pt n_) Try.underlying31 rfl (by kernel_rfl)) rfl ?_
      cases hr
      exact ⟨rfl, view_mk (sep_drop n_)⟩
    · obtain ⟨i, rfl⟩ : ∃ i : Nat, id = (i : Int) := ⟨id.toNat, by omega⟩
      have e1 : decide ((i : Int) < 1) = false := decide_eq_false (by omega)
      have e2 : decide ((32 : Int) < (i : Int)) = false := decide_eq_false (by omega)
      have e3 : ((i : Int) < 33) = True := eq_true (by omega)
      have e4 := eq_true (Int.natCast_nonneg i)
      have e5 : (i < 33) = True := eq_true (by omega)
      have hr := HR.out
      rw [Int.toNat_natCast] at hr
      clear HR
      obtain ⟨k1, k2, k3, k4, k5⟩ := view_facts HS.out i (by omega)
      by_cases h0 : (s.K i).id = 0
      · have t1 : ((s.K i).id == 0) = true := by simpa using h0
        rw [if_pos (.inr (.inr h0))] at hr
        have HR := Aside0.mk hr
        clear hr
        generalize (s.K i).id = z at k1 t1 h0
        go_wp2
        have hr := HR.out
        have n_ := sep_set5 (sep_l2 HS.out) (.int .i64 0) (.int .i64 0) (.int .u32 0) (.int .u32 0) (.int .u16 0)
        refine bodyPost_ret (results_ct rfl _ _ g4 31 #[.int .i64 Rec.zero.id, .int .i64 Rec.zero.st, .int .u32 Rec.zero.inc, .int .u32 Rec.zero.ip, .int .u16 Rec.zero.po] (0, 0) _ rfl (sep_pt n_) Try.underlying31 rfl (by kernel_rfl)) rfl ?_
        cases hr
        exact ⟨rfl, view_mk (sep_drop n_)⟩
      · have t1 : ((s.K i).id == 0) = false := by simpa using h0
        rw [if_neg (by omega)] at hr
        have HR := Aside0.mk hr
        clear hr
        obtain ⟨y, hy⟩ : ∃ y, s.K i = y := ⟨_, rfl⟩
        rw [hy] at k1 k2 k3 k4 k5 t1 h0 HR
        have t3 := eq_false h0
        clear hy h0
        go_wp2
        have n_ := sep_set5 (sep_l2 HS.out) (.int .i64 y.id) (.int .i64 y.st) (.int .u32 y.inc) (.int .u32 y.ip) (.int .u16 y.po)
        refine bodyPost_ret (results_ct rfl _ _ g4 31 #[.int .i64 y.id, .int .i64 y.st, .int .u32 y.inc, .int .u32 y.ip, .int .u16 y.po] (0, 0) _ rfl (sep_pt n_) Try.underlying31 rfl (by kernel_rfl)) rfl ?_
        have hr := HR.out
        cases hr
        exact ⟨rfl, view_mk (sep_drop n_)⟩
end Go.Proofs.Ythpmlnnjfmcglaa.VW
