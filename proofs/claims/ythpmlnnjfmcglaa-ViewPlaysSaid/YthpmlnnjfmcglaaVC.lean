/- The view: Take. Conditions: those that each theorem names. -/
import Derived.Test.YthpmlnnjfmcglaaVB
import Derived.Test.YthpmlnnjfmcglaaMA
namespace Go.Proofs.Ythpmlnnjfmcglaa.VW
set_option linter.unusedVariables false
set_option linter.unusedSimpArgs false
open Go Go.RowKit Go.Proofs.YthpmlnnjfmcglaaS Go.Proofs.YthpmlnnjfmcglaaS.Asn Go.Proofs.Ythpmlnnjfmcglaa.PA Go.Proofs.YthpmlnnjfmcglaaW.PrintWords Go.Proofs.YthpmlnnjfmcglaaW.PrintLast Go.Proofs.YthpmlnnjfmcglaaW.PrintMore
theorem view_frozen {w0 w : World} {ok0 : Nat → Prop} {F : Asn} {p : Nat} {K : Nat → Rec} {v : Value} {n : Nat} (h : Sep w0 ok0 (pt p (arrV 167 (vf K v n)) 81 ⋆ F) w) (i : Nat) :
    w.frozen? ⟨p, i * 5, none⟩ = false ∧ w.frozen? ⟨p, i * 5 + 1, none⟩ = false ∧ w.frozen? ⟨p, i * 5 + 2, none⟩ = false ∧ w.frozen? ⟨p, i * 5 + 3, none⟩ = false ∧ w.frozen? ⟨p, i * 5 + 4, none⟩ = false :=
  ⟨sep_frozen h _, sep_frozen h _, sep_frozen h _, sep_frozen h _, sep_frozen h _⟩
/-- A record is stored. -/
theorem view_put {w0 w : World} {ok0 : Nat → Prop} {F : Asn} {p : Nat} {K : Nat → Rec} {v : Value} {n : Nat} (h : Sep w0 ok0 (pt p (arrV 167 (vf K v n)) 81 ⋆ F) w) (i : Nat) (r : Rec) (hi : i < 33) :
    Sep w0 ok0 (pt p (arrV 167 (vf (upd K i r) v n)) 81 ⋆ F) (((((w.setCell ⟨p, i * 5, none⟩ (.int .i64 r.id)).setCell ⟨p, i * 5 + 1, none⟩ (.int .i64 r.st)).setCell ⟨p, i * 5 + 2, none⟩ (.int .u32 r.inc)).setCell ⟨p, i * 5 + 3, none⟩ (.int .u32 r.ip)).setCell ⟨p, i * 5 + 4, none⟩ (.int .u16 r.po)) := by
  have := sep_set (sep_set (sep_set (sep_set (sep_set h (i * 5) (.int .i64 r.id)) (i * 5 + 1) (.int .i64 r.st)) (i * 5 + 2) (.int .u32 r.inc)) (i * 5 + 3) (.int .u32 r.ip)) (i * 5 + 4) (.int .u16 r.po)
  rw [vf_rec K v n i r hi] at this
  exact this
set_option maxHeartbeats 4000000 in
set_option maxRecDepth 100000 in
theorem view_Take (p : Nat) (s : VS) (r : Rec) (w : World) (ok : Nat → Prop) (hl : s.E.length ≤ 128) (hn : s.seen ≤ 1000000000) (h : (viewA p s ⋆ emp).H w ok) :
    Calls Try.prog 14 #[.pointer (some ⟨p, 0, none⟩), .agg #[.int .i64 r.id, .int .i64 r.st, .int .u32 r.inc, .int .u32 r.ip, .int .u16 r.po]] w fun e w' => e = .returned (.tuple #[.bool (takeE s r).1, .int .i64 (takeE s r).2.1]) ∧ Sep w ok (viewA p (takeE s r).2.2 ⋆ emp) w' := by
  have HS := Aside0.mk (sep_begin h)
  have HL := Aside0.mk (And.intro hl hn)
  clear h hl hn
  obtain ⟨⟨rb, re, rs⟩, hr⟩ : ∃ x, takeE s r = x := ⟨_, rfl⟩
  rw [hr]
  unfold takeE at hr
  obtain ⟨g, hg⟩ : ∃ g, right r = g := ⟨_, rfl⟩
  have HG : Aside0 (record_Right.f r.id r.st r.inc r.ip r.po = some g) := ⟨by rw [right_f, hg]⟩
  rw [hg] at hr
  have HR := Aside0.mk hr
  have HGG := Aside0.mk hg
  clear hr hg
  go_enter Try.func14, Try.ntmps14
  go_upto_region 1 with (fail)
  have n_ := sep_l1 (sep_alloc HS.out #[.int .i64 r.id, .int .i64 r.st, .int .u32 r.inc, .int .u32 r.ip, .int .u16 r.po] 31)
  have n0_ := Aside0.mk n_; clear HS n_; have HS := n0_; clear n0_
  generalize w.alloc (.cells #[.int .i64 r.id, .int .i64 r.st, .int .u32 r.inc, .int .u32 r.ip, .int .u16 r.po] 31) = wa at HS ⊢
  generalize w.heap.size = g3 at HS ⊢
  obtain ⟨m1, m2, m3, m4, m5⟩ := facts5 (sep_l1 HS.out)
  cases g with
  | false =>
    go_wp2_with (first | (go_at_call 29; (with_reducible refine Calls.mono (record_Right.calls r.id r.st r.inc r.ip r.po false _ HG.out) ?_); rintro e w1 ⟨rfl, hb_⟩; have n_ := sep_below HS.out hb_; clear hb_; have n0_ := Aside0.mk n_; clear HS n_; have HS := n0_; clear n0_; clear m1 m2 m3 m4 m5; obtain ⟨m1, m2, m3, m4, m5⟩ := facts5 (sep_l1 HS.out)))
    go_ret2
    have hr := HR.out
    rw [if_pos trivial] at hr
    cases hr
    exact ⟨rfl, sep_drop (sep_l1 HS.out)⟩
  | true =>
    have hg := HGG.out
    unfold right at hg
    have hg := of_decide_eq_true hg
    have hr := HR.out
    rw [if_neg (by decide)] at hr
    clear HR
    obtain ⟨rid, st, inc, ip, po⟩ := r
    dsimp only at hg hr HG m1 m2 m3 m4 m5
    obtain ⟨i, rfl⟩ : ∃ i : Nat, rid = (i : Int) := ⟨rid.toNat, by omega⟩
    have HI : Aside0 (1 ≤ i ∧ i < 33) := ⟨by omega⟩
    obtain ⟨⟨y, th⟩, hy⟩ : ∃ x, ofE s (i : Int) = x := ⟨_, rfl⟩
    have HST : Aside0 (0 ≤ st) := ⟨hg.2.2.1⟩
    have hwas : wasE s (i : Int) = if th = true then y.st else -1 := by unfold wasE; rw [hy]
    rw [hwas, hy, Int.toNat_natCast] at hr
    dsimp only at hr
    have HR := Aside0.mk hr
    have HY := Aside0.mk hy
    clear hr hy hg hwas
    dsimp only at HS ⊢
    go_upto_region 3 with (first | (go_at_call 29; (with_reducible refine Calls.mono (record_Right.calls (i : Int) st inc ip po true _ HG.out) ?_); rintro e w1 ⟨rfl, hb_⟩; have n_ := sep_below HS.out hb_; clear hb_; have n0_ := Aside0.mk n_; clear HS n_; have HS := n0_; clear n0_; clear m1 m2 m3 m4 m5; obtain ⟨m1, m2, m3, m4, m5⟩ := facts5 (sep_l1 HS.out)))
    go_upto_region 5 with (go_at_call 12; obtain ⟨ok_, hp_, hk_⟩ := sep_use1 HS.out; have hx_ := view_Of p s (i : Int) _ ok_ hp_; rw [HY.out] at hx_; dsimp only at hx_; (with_reducible refine Calls.mono hx_ ?_); rintro e w1 ⟨rfl, hq_⟩; have n_ := back1 hk_ hq_; clear hx_ hp_ hk_ hq_; have n0_ := Aside0.mk n_; clear HS n_; have HS := n0_; clear n0_; clear m1 m2 m3 m4 m5; obtain ⟨m1, m2, m3, m4, m5⟩ := facts5 (sep_l1 HS.out))
    have n_ := sep_l2 (sep_l2 (sep_alloc HS.out #[.int .i64 y.id, .int .i64 y.st, .int .u32 y.inc, .int .u32 y.ip, .int .u16 y.po] 31))
    have n0_ := Aside0.mk n_; clear HS n_; have HS := n0_; clear n0_
    generalize w1.alloc (.cells #[.int .i64 y.id, .int .i64 y.st, .int .u32 y.inc, .int .u32 y.ip, .int .u16 y.po] 31) = wb at HS ⊢
    generalize w1.heap.size = g7 at HS ⊢
    clear m1 m2 m3 m4 m5; obtain ⟨m1, m2, m3, m4, m5⟩ := facts5 (sep_l1 HS.out)
    cases th with
    | false =>
      have hr := HR.out
      rw [if_neg (by rintro ⟨h, _⟩; cases h), show (if false = true then y.st else (-1 : Int)) = -1 from rfl, if_neg (by have := HST.out; omega)] at hr
      clear HR
      have HR := Aside0.mk hr
      clear hr
      go_upto_region 9 with (fail)
      obtain ⟨v, n_⟩ := view_open HS.out
      have hs9 := Aside0.mk n_
      obtain ⟨k1, k2, k3, k4, k5⟩ := view_facts n_ i HI.out.2
      obtain ⟨f1, f2, f3, f4, f5⟩ := view_frozen n_ i
      obtain ⟨l1, l2, l3, l4, l5⟩ := view_facts (sep_drew n_) i HI.out.2
      obtain ⟨h1, h2, h3, h4, h5⟩ := view_frozen (sep_drew n_) i
      clear n_ m1 m2 m3 m4 m5
      obtain ⟨m1, m2, m3, m4, m5⟩ := facts5 (sep_l1 (sep_drew HS.out))
      clear HS
      have a1 : ((i : Int) < 33) = True := eq_true (by have := HI.out; omega)
      have a2 := eq_true (Int.natCast_nonneg i)
      have a3 : (i < 33) = True := eq_true HI.out.2
      go_region
      all_goals
        have HS := Aside0.mk (view_mk (s := ⟨upd s.K i ⟨(i : Int), st, inc, ip, po⟩, s.E, s.seen⟩) (sep_drew (view_put hs9.out i ⟨(i : Int), st, inc, ip, po⟩ HI.out.2)))
        dsimp only at HS
        generalize (((((wb.setCell ⟨p, i * 5, none⟩ (.int .i64 (i : Int))).setCell ⟨p, i * 5 + 1, none⟩ (.int .i64 st)).setCell ⟨p, i * 5 + 2, none⟩ (.int .u32 inc)).setCell ⟨p, i * 5 + 3, none⟩ (.int .u32 ip)).setCell ⟨p, i * 5 + 4, none⟩ (.int .u16 po)).drew = wc at HS ⊢
        clear hs9 k1 k2 k3 k4 k5 f1 f2 f3 f4 f5 l1 l2 l3 l4 l5 h1 h2 h3 h4 h5 m1 m2 m3 m4 m5
        obtain ⟨m1, m2, m3, m4, m5⟩ := facts5 (sep_l1 HS.out)
      all_goals
        have t1 : ((-1 : Int) == st) = false := by rw [beq_eq_false_iff_ne]; have := HST.out; omega
        have t2 : ((-1 : Int) = st) = False := eq_false (by have := HST.out; omega)
        go_wp2_with (go_at_call 31; obtain ⟨ok_, hp_, hk_⟩ := sep_use1 HS.out; have hx_ := view_tell p ⟨upd s.K i ⟨(i : Int), st, inc, ip, po⟩, s.E, s.seen⟩ ⟨(i : Int), (-1), st, inc⟩ _ ok_ HL.out.1 HL.out.2 hp_; dsimp only at hx_; (with_reducible refine Calls.mono hx_ ?_); rintro e w1 ⟨rfl, hq_⟩; have n_ := back1 hk_ hq_; clear hx_ hp_ hk_ hq_; have n0_ := Aside0.mk n_; clear HS n_; have HS := n0_; clear n0_; clear m1 m2 m3 m4 m5; obtain ⟨m1, m2, m3, m4, m5⟩ := facts5 (sep_l1 HS.out))
        go_ret2
        have hr := HR.out
        cases hr
        exact ⟨rfl, sep_drop (sep_l1 (sep_drop (sep_l2 HS.out)))⟩
    | true =>
      obtain ⟨ov, hov⟩ : ∃ b, over ⟨(i : Int), st, inc, ip, po⟩ y = b := ⟨_, rfl⟩
      have HO : Aside0 (record_Over.f 5 (i : Int) st inc ip po y.id y.st y.inc y.ip y.po = some ov) := ⟨by rw [← hov]; exact over_f ⟨(i : Int), st, inc, ip, po⟩ y⟩
      have hr := HR.out
      rw [hov] at hr
      clear HR hov
      obtain ⟨r1, r2, r3, r4, r5⟩ := facts5 (sep_l2 HS.out)
      cases ov with
      | false =>
        rw [if_pos ⟨rfl, rfl⟩] at hr
        have HR := Aside0.mk hr
        clear hr
        go_wp2_with (go_at_call 30; (with_reducible refine Calls.mono (record_Over.calls 5 (i : Int) st inc ip po y.id y.st y.inc y.ip y.po false _ HO.out) ?_); rintro e w1 ⟨rfl, hb_⟩; have n_ := sep_below HS.out hb_; clear hb_; have n0_ := Aside0.mk n_; clear HS n_; have HS := n0_; clear n0_; clear m1 m2 m3 m4 m5; obtain ⟨m1, m2, m3, m4, m5⟩ := facts5 (sep_l1 HS.out))
        go_ret2
        have hr := HR.out
        cases hr
        exact ⟨rfl, sep_drop (sep_l1 (sep_drop (sep_l2 HS.out)))⟩
      | true =>
        rw [if_neg (by rintro ⟨_, h⟩; cases h), show (if true = true then y.st else (-1 : Int)) = y.st from rfl] at hr
        go_upto_region 8 with (go_at_call 30; (with_reducible refine Calls.mono (record_Over.calls 5 (i : Int) st inc ip po y.id y.st y.inc y.ip y.po true _ HO.out) ?_); rintro e w1 ⟨rfl, hb_⟩; have n_ := sep_below HS.out hb_; clear hb_; have n0_ := Aside0.mk n_; clear HS n_; have HS := n0_; clear n0_; clear m1 m2 m3 m4 m5; obtain ⟨m1, m2, m3, m4, m5⟩ := facts5 (sep_l1 HS.out))
        clear r1 r2 r3 r4 r5
        generalize w1 = wb at HS ⊢
        by_cases hsame : y.st = st
        · rw [if_pos hsame] at hr
          have HR := Aside0.mk hr
          have t1 : (y.st == st) = true := by simpa using hsame
          have t2 := eq_true hsame
          clear hr hsame
          go_upto_region 9 with (fail)
          obtain ⟨v, n_⟩ := view_open HS.out
          have hs9 := Aside0.mk n_
          obtain ⟨k1, k2, k3, k4, k5⟩ := view_facts n_ i HI.out.2
          obtain ⟨f1, f2, f3, f4, f5⟩ := view_frozen n_ i
          obtain ⟨l1, l2, l3, l4, l5⟩ := view_facts (sep_drew n_) i HI.out.2
          obtain ⟨h1, h2, h3, h4, h5⟩ := view_frozen (sep_drew n_) i
          clear n_ m1 m2 m3 m4 m5
          obtain ⟨m1, m2, m3, m4, m5⟩ := facts5 (sep_l1 (sep_drew HS.out))
          clear HS
          have a1 : ((i : Int) < 33) = True := eq_true (by have := HI.out; omega)
          have a2 := eq_true (Int.natCast_nonneg i)
          have a3 : (i < 33) = True := eq_true HI.out.2
          go_region
          all_goals
            have HS := Aside0.mk (view_mk (s := ⟨upd s.K i ⟨(i : Int), st, inc, ip, po⟩, s.E, s.seen⟩) (sep_drew (view_put hs9.out i ⟨(i : Int), st, inc, ip, po⟩ HI.out.2)))
            dsimp only at HS
            generalize (((((wb.setCell ⟨p, i * 5, none⟩ (.int .i64 (i : Int))).setCell ⟨p, i * 5 + 1, none⟩ (.int .i64 st)).setCell ⟨p, i * 5 + 2, none⟩ (.int .u32 inc)).setCell ⟨p, i * 5 + 3, none⟩ (.int .u32 ip)).setCell ⟨p, i * 5 + 4, none⟩ (.int .u16 po)).drew = wc at HS ⊢
            clear hs9 k1 k2 k3 k4 k5 f1 f2 f3 f4 f5 l1 l2 l3 l4 l5 h1 h2 h3 h4 h5 m1 m2 m3 m4 m5
            obtain ⟨m1, m2, m3, m4, m5⟩ := facts5 (sep_l1 HS.out)
          all_goals
            go_wp2
            go_ret2
            have hr := HR.out
            cases hr
            exact ⟨rfl, sep_drop (sep_l1 (sep_drop (sep_l2 HS.out)))⟩
        · rw [if_neg hsame] at hr
          have HR := Aside0.mk hr
          have t1 : (y.st == st) = false := by simpa using hsame
          have t2 := eq_false hsame
          clear hr hsame
          go_upto_region 9 with (fail)
          obtain ⟨v, n_⟩ := view_open HS.out
          have hs9 := Aside0.mk n_
          obtain ⟨k1, k2, k3, k4, k5⟩ := view_facts n_ i HI.out.2
          obtain ⟨f1, f2, f3, f4, f5⟩ := view_frozen n_ i
          obtain ⟨l1, l2, l3, l4, l5⟩ := view_facts (sep_drew n_) i HI.out.2
          obtain ⟨h1, h2, h3, h4, h5⟩ := view_frozen (sep_drew n_) i
          clear n_ m1 m2 m3 m4 m5
          obtain ⟨m1, m2, m3, m4, m5⟩ := facts5 (sep_l1 (sep_drew HS.out))
          clear HS
          have a1 : ((i : Int) < 33) = True := eq_true (by have := HI.out; omega)
          have a2 := eq_true (Int.natCast_nonneg i)
          have a3 : (i < 33) = True := eq_true HI.out.2
          go_region
          all_goals
            have HS := Aside0.mk (view_mk (s := ⟨upd s.K i ⟨(i : Int), st, inc, ip, po⟩, s.E, s.seen⟩) (sep_drew (view_put hs9.out i ⟨(i : Int), st, inc, ip, po⟩ HI.out.2)))
            dsimp only at HS
            generalize (((((wb.setCell ⟨p, i * 5, none⟩ (.int .i64 (i : Int))).setCell ⟨p, i * 5 + 1, none⟩ (.int .i64 st)).setCell ⟨p, i * 5 + 2, none⟩ (.int .u32 inc)).setCell ⟨p, i * 5 + 3, none⟩ (.int .u32 ip)).setCell ⟨p, i * 5 + 4, none⟩ (.int .u16 po)).drew = wc at HS ⊢
            clear hs9 k1 k2 k3 k4 k5 f1 f2 f3 f4 f5 l1 l2 l3 l4 l5 h1 h2 h3 h4 h5 m1 m2 m3 m4 m5
            obtain ⟨m1, m2, m3, m4, m5⟩ := facts5 (sep_l1 HS.out)
          all_goals
            go_wp2_with (go_at_call 31; obtain ⟨ok_, hp_, hk_⟩ := sep_use1 HS.out; have hx_ := view_tell p ⟨upd s.K i ⟨(i : Int), st, inc, ip, po⟩, s.E, s.seen⟩ ⟨(i : Int), y.st, st, inc⟩ _ ok_ HL.out.1 HL.out.2 hp_; dsimp only at hx_; (with_reducible refine Calls.mono hx_ ?_); rintro e w1 ⟨rfl, hq_⟩; have n_ := back1 hk_ hq_; clear hx_ hp_ hk_ hq_; have n0_ := Aside0.mk n_; clear HS n_; have HS := n0_; clear n0_; clear m1 m2 m3 m4 m5; obtain ⟨m1, m2, m3, m4, m5⟩ := facts5 (sep_l1 HS.out))
            go_ret2
            have hr := HR.out
            cases hr
            exact ⟨rfl, sep_drop (sep_l1 (sep_drop (sep_l2 HS.out)))⟩
end Go.Proofs.Ythpmlnnjfmcglaa.VW
