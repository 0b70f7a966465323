/- DoubtPlays, walked. Conditions: those that the theorem names. -/
import Derived.Test.YthoppcefadopeaaEG
import Derived.Test.YthoppcefadopeaaXE
import Derived.Deep.DeepCutAuto
import Derived.Deep.CutBlock
namespace Go.Proofs.Ythoppcefadopeaa.DW
set_option linter.unusedVariables false
set_option linter.unusedSimpArgs false
open Go Go.RowKit Go.Proofs.YthoppcefadopeaaS Go.Proofs.YthoppcefadopeaaS.Asn Go.Proofs.Ythoppcefadopeaa.PA Go.Proofs.YthoppcefadopeaaW.PrintWords Go.Proofs.YthoppcefadopeaaW.PrintLast Go.Proofs.YthoppcefadopeaaW.PrintMore
theorem facts7 {w0 w : World} {ok0 : Nat → Prop} {F : Asn} {g : Nat} {t : TypeId} {a0 a1 a2 a3 a4 a5 a6 : Value} (h : Sep w0 ok0 (pt g #[a0, a1, a2, a3, a4, a5, a6] t ⋆ F) w) :
    (w.cell? ⟨g, 0, none⟩ = some a0 ∧ w.cell? ⟨g, 1, none⟩ = some a1 ∧ w.cell? ⟨g, 2, none⟩ = some a2 ∧ w.cell? ⟨g, 3, none⟩ = some a3 ∧ w.cell? ⟨g, 4, none⟩ = some a4 ∧ w.cell? ⟨g, 5, none⟩ = some a5 ∧ w.cell? ⟨g, 6, none⟩ = some a6) ∧
    w.frozen? ⟨g, 1, none⟩ = false ∧ w.frozen? ⟨g, 2, none⟩ = false ∧ w.frozen? ⟨g, 3, none⟩ = false ∧ w.frozen? ⟨g, 4, none⟩ = false ∧ w.frozen? ⟨g, 5, none⟩ = false :=
  ⟨⟨sep_cell h 0, sep_cell h 1, sep_cell h 2, sep_cell h 3, sep_cell h 4, sep_cell h 5, sep_cell h 6⟩, sep_frozen h 1, sep_frozen h 2, sep_frozen h 3, sep_frozen h 4, sep_frozen h 5⟩
theorem keepB {w0 w' : World} {ok0 : Nat → Prop} {F : Asn} {g7 : Nat} {d : Dd} {id inc who now hold : Int} (h : Sep w0 ok0 (pt g7 #[.int .u8 d.kind, .int .i64 id, .int .u32 inc, .int .i64 who, .int .u64 now, .int .u64 hold, .bool d.near] 33 ⋆ F) w') : w'.cell? ⟨g7, 1, none⟩ = some (.int .i64 id) ∧ w'.cell? ⟨g7, 2, none⟩ = some (.int .u32 inc) ∧ w'.cell? ⟨g7, 3, none⟩ = some (.int .i64 who) ∧ w'.cell? ⟨g7, 4, none⟩ = some (.int .u64 now) ∧ w'.cell? ⟨g7, 5, none⟩ = some (.int .u64 hold) := by
  obtain ⟨⟨-, k1, k2, k3, k4, k5, -⟩, -⟩ := facts7 h
  exact ⟨k1, k2, k3, k4, k5⟩
theorem dd_now {w wr : World} {A : Option Addr} {ds : List Dd} (h : deedK.C w A ds.length ds) (hb : Below w.heap.size w wr) (i : Nat) (d : Dd) (hd : ds[i]? = some d) :
    ∃ ad : Addr, A = some ad ∧ wr.cell? (ad.add (i * 7)) = some (.int .u8 d.kind) ∧ wr.cell? ⟨(ad.add (i * 7)).block, (ad.add (i * 7)).off + 1, none⟩ = some (.int .i64 d.id) ∧ wr.cell? ⟨(ad.add (i * 7)).block, (ad.add (i * 7)).off + 2, none⟩ = some (.int .u32 d.inc) ∧ wr.cell? ⟨(ad.add (i * 7)).block, (ad.add (i * 7)).off + 3, none⟩ = some (.int .i64 d.who) ∧ wr.cell? ⟨(ad.add (i * 7)).block, (ad.add (i * 7)).off + 4, none⟩ = some (.int .u64 d.now) ∧ wr.cell? ⟨(ad.add (i * 7)).block, (ad.add (i * 7)).off + 5, none⟩ = some (.int .u64 d.hold) ∧ wr.cell? ⟨(ad.add (i * 7)).block, (ad.add (i * 7)).off + 6, none⟩ = some (.bool d.near) := by
  obtain ⟨ad, rfl, h0, hc⟩ := deed_at h i d hd
  exact ⟨ad, rfl, cell_now h0 hb, cell_now (hc 1 _ (by decide) rfl) hb, cell_now (hc 2 _ (by decide) rfl) hb, cell_now (hc 3 _ (by decide) rfl) hb, cell_now (hc 4 _ (by decide) rfl) hb, cell_now (hc 5 _ (by decide) rfl) hb, cell_now (hc 6 _ (by decide) rfl) hb⟩
theorem rem5 (x m : Int) (hm : 0 < m) (hm2 : m ≤ 60) : ∃ z, Int.tmod (IntKind.u64.wrap x) m = z ∧ IntKind.u64.wrap x % m = z ∧ wrap64 z = z ∧ IntKind.i64.wrap z = z ∧ IntKind.u64.wrap z = z := by
  have e0 : 0 ≤ IntKind.u64.wrap x := by rw [IntKind.wrap_u64]; omega
  have h1 := Int.emod_nonneg (IntKind.u64.wrap x) (show m ≠ 0 by omega)
  have h2 := Int.emod_lt_of_pos (IntKind.u64.wrap x) hm
  refine ⟨_, Int.tmod_eq_emod_of_nonneg e0, rfl, ?_, ?_, ?_⟩
  · unfold wrap64; omega
  · rw [IntKind.wrap_i64]; omega
  · rw [IntKind.wrap_u64]; omega
theorem rem0 (x m : Int) (hx : 0 ≤ x) (hm : 0 < m) (hm2 : m ≤ 60) : ∃ z, Int.tmod x m = z ∧ x % m = z ∧ 0 ≤ z ∧ IntKind.u32.wrap z = z ∧ IntKind.u64.wrap z = z := by
  have h1 := Int.emod_nonneg x (show m ≠ 0 by omega)
  have h2 := Int.emod_lt_of_pos x hm
  refine ⟨_, Int.tmod_eq_emod_of_nonneg hx, rfl, h1, ?_, ?_⟩
  · show IntKind.u32.wrap _ = _
    rw [show IntKind.u32.wrap (x % m) = (x % m) % 4294967296 from rfl]
    omega
  · rw [IntKind.wrap_u64]; omega
set_option maxHeartbeats 8000000 in
set_option maxRecDepth 100000 in
theorem plays_walk (A1 : Option Addr) (c1 : Nat) (l : List Dd) (w : World) (hr1 : deedK.C w A1 l.length l) (hc1 : l.length ≤ c1) (hok : ∀ d ∈ l, ddOk d) :
    Calls Try.prog 3 #[.slice A1 l.length c1] w fun e w' => e = .returned (.bool true) ∧ Below w.heap.size w w' := by
  have HS := Aside0.mk (sep_start w)
  have HR1 := Aside0.mk hr1
  have HOK := Aside0.mk hok
  clear hr1 hc1 hok
  go_enter Try.func3, Try.ntmps3
  go_upto_region 5 with (first | (go_at_call 9; (with_reducible refine Calls.mono (examples_walk _) ?_); rintro e w1 ⟨rfl, hb_⟩; have n_ := sep_below HS.out hb_; clear hb_; have n0_ := Aside0.mk n_; clear HS n_; have HS := n0_; clear n0_) | (go_at_call 10; (with_reducible refine Calls.mono (dt_New _) ?_); rintro e w2 ⟨p, rfl, hm_⟩; have n_ := sep_made_of HS.out (sep_only hm_); clear hm_; have n0_ := Aside0.mk n_; clear HS n_; have HS := n0_; clear n0_))
  go_upto_region 9 with (fail)
  have n_ := sep_l1 (ref_mk MatL_nil (sep_alloc (sep_row_nil (d := ritK) (e := 70) (sep_pool_nil (d := Kd.int .i64) HS.out)) #[.slice none 0 0] 29))
  have n0_ := Aside0.mk n_; clear HS n_; have HS := n0_; clear n0_
  generalize w2.alloc (.cells #[.slice none 0 0] 29) = wa at HS ⊢
  generalize w2.heap.size = q at HS ⊢
  go_loopg [6] l.length (fun gg v6 wr => ∃ i : Nat, i ≤ l.length ∧ i ≤ 80 ∧ l.length - i ≤ gg ∧ v6 = .int .i64 (i : Int) ∧ ∃ I L, Aside0 (Rel I L) ∧ Aside0 (Sep w (fun _ => False) (doubtA p I ⋆ refD q L ⋆ emp) wr))
  case atStart => exact ⟨0, Nat.zero_le _, by decide, by omega, rfl, new, [], ⟨Rel_new⟩, HS⟩
  case round =>
    clear HS
    obtain ⟨i, hi, hi80, hgi, rfl, I, L, HREL, HS⟩ := hrel
    by_cases hlt : i < l.length
    · have c1b : decide ((i : Int) < (l.length : Int)) = true := decide_eq_true (Int.ofNat_lt.2 hlt); have c1n : decide (i < l.length) = true := decide_eq_true hlt; have c1q : (i < l.length) = True := eq_true hlt; have p0_ := eq_true (Int.natCast_nonneg i)
      by_cases h80 : i < 80
      · have c6b : decide ((i : Int) < 80) = true := decide_eq_true (by omega)
        have c6q : (i < 80) = True := eq_true h80
        have c6r : ((i : Int) < 80) = True := eq_true (by omega)
        obtain ⟨d, hd⟩ : ∃ d, l[i]? = some d := ⟨_, List.getElem?_eq_getElem hlt⟩
        have HDO := Aside0.mk (HOK.out d (List.mem_of_getElem? hd))
        obtain ⟨ad, hA, k0, k1, k2, k3, k4, k5, k6⟩ := dd_now HR1.out (sep_below_of HS.out) i d hd
        subst hA
        have HI := Aside0.mk (And.intro hlt (And.intro h80 hgi))
        clear hi hi80 hgi hlt h80 hd
        go_upto_region 12 with (fail)
        clear k0 k1 k2 k3 k4 k5 k6
        have n_ := sep_alloc HS.out #[.int .u8 d.kind, .int .i64 d.id, .int .u32 d.inc, .int .i64 d.who, .int .u64 d.now, .int .u64 d.hold, .bool d.near] 33
        have n0_ := Aside0.mk n_; clear HS n_; have HS := n0_; clear n0_
        generalize wr.alloc (.cells #[.int .u8 d.kind, .int .i64 d.id, .int .u32 d.inc, .int .i64 d.who, .int .u64 d.now, .int .u64 d.hold, .bool d.near] 33) = wb at HS ⊢
        generalize wr.heap.size = g7 at HS ⊢
        (try clear b0 b1 b2 b3 b4 b5 b6 f1 f2 f3 f4 f5); obtain ⟨⟨b0, b1, b2, b3, b4, b5, b6⟩, f1, f2, f3, f4, f5⟩ := facts7 HS.out
        go_upto_if 37 with (fail)
        go_cut [] (fun wx => ∃ id inc who now hold : Int, 0 ≤ now ∧ 0 ≤ hold ∧ Aside0 (Sep w (fun _ => False) (pt g7 #[.int .u8 d.kind, .int .i64 id, .int .u32 inc, .int .i64 who, .int .u64 now, .int .u64 hold, .bool d.near] 33 ⋆ doubtA p I ⋆ refD q L ⋆ emp) wx))
        case first =>
          cases hn : d.near with
          | false =>
            rw [hn] at b6
            go_wp2_with fail
            go_meet
            case rel => exact ⟨d.id, d.inc, d.who, d.now, d.hold, HDO.out.2.2.2.2.1.1, HDO.out.2.2.2.2.2.1, HS⟩
          | true =>
            rw [hn] at b6
            obtain ⟨z1, p1, p2, p3, p4, p5⟩ := rem5 d.id 5 (by decide) (by decide)
            obtain ⟨z2, q1, q2, q0, q3, -⟩ := rem0 d.inc 4 HDO.out.2.2.1.1 (by decide) (by decide)
            obtain ⟨z3, r1, r2, r3, r4, r5⟩ := rem5 d.who 6 (by decide) (by decide)
            obtain ⟨z4, s1, s2, s0, -, s3⟩ := rem0 d.now 60 HDO.out.2.2.2.2.1.1 (by decide) (by decide)
            obtain ⟨z5, t1, t2, t0, -, t3⟩ := rem0 d.hold 30 HDO.out.2.2.2.2.2.1 (by decide) (by decide)
            go_upto_region 14 with (fail)
            have n_ := sep_set HS.out 1 (.int .i64 z1)
            have n0_ := Aside0.mk n_; clear HS n_; have HS := n0_; clear n0_
            generalize wb.setCell ⟨g7, 1, none⟩ (.int .i64 z1) = wc at HS ⊢
            (try clear b0 b1 b2 b3 b4 b5 b6 f1 f2 f3 f4 f5); obtain ⟨⟨b0, b1, b2, b3, b4, b5, b6⟩, f1, f2, f3, f4, f5⟩ := facts7 HS.out
            go_upto_region 15 with (fail)
            have n_ := sep_set HS.out 2 (.int .u32 z2)
            have n0_ := Aside0.mk n_; clear HS n_; have HS := n0_; clear n0_
            generalize wc.setCell ⟨g7, 2, none⟩ (.int .u32 z2) = wd at HS ⊢
            (try clear b0 b1 b2 b3 b4 b5 b6 f1 f2 f3 f4 f5); obtain ⟨⟨b0, b1, b2, b3, b4, b5, b6⟩, f1, f2, f3, f4, f5⟩ := facts7 HS.out
            go_upto_region 16 with (fail)
            have n_ := sep_set HS.out 3 (.int .i64 z3)
            have n0_ := Aside0.mk n_; clear HS n_; have HS := n0_; clear n0_
            generalize wd.setCell ⟨g7, 3, none⟩ (.int .i64 z3) = we at HS ⊢
            (try clear b0 b1 b2 b3 b4 b5 b6 f1 f2 f3 f4 f5); obtain ⟨⟨b0, b1, b2, b3, b4, b5, b6⟩, f1, f2, f3, f4, f5⟩ := facts7 HS.out
            go_upto_region 17 with (fail)
            have n_ := sep_set HS.out 4 (.int .u64 z4)
            have n0_ := Aside0.mk n_; clear HS n_; have HS := n0_; clear n0_
            generalize we.setCell ⟨g7, 4, none⟩ (.int .u64 z4) = wf at HS ⊢
            (try clear b0 b1 b2 b3 b4 b5 b6 f1 f2 f3 f4 f5); obtain ⟨⟨b0, b1, b2, b3, b4, b5, b6⟩, f1, f2, f3, f4, f5⟩ := facts7 HS.out
            go_wp2_with fail
            have n_ := sep_set HS.out 5 (.int .u64 z5)
            have n0_ := Aside0.mk n_; clear HS n_; have HS := n0_; clear n0_
            go_meet
            case rel => exact ⟨z1, z2, z3, z4, z5, s0, t0, HS⟩
        case rest =>
          obtain ⟨id, inc, who, now, hold, hnow, hhold, HSC⟩ := hcut
          clear HS b0 b1 b2 b3 b4 b5 b6 f1 f2 f3 f4 f5
          have HS := HSC
          clear HSC
          have HNH := Aside0.mk (And.intro hnow hhold)
          clear hnow hhold
          (try clear b0 b1 b2 b3 b4 b5 b6 f1 f2 f3 f4 f5); obtain ⟨⟨b0, b1, b2, b3, b4, b5, b6⟩, f1, f2, f3, f4, f5⟩ := facts7 HS.out
          obtain ⟨m, km1⟩ : ∃ m, Int.tmod d.kind 8 = m := ⟨_, rfl⟩
          have km2 : d.kind % 8 = m := by rw [← km1]; exact (Int.tmod_eq_emod_of_nonneg HDO.out.1.1).symm
          have hm8 : m = 0 ∨ m = 1 ∨ m = 2 ∨ m = 3 ∨ m = 4 ∨ m = 5 ∨ m = 6 ∨ m = 7 := by omega
          have HM8 := Aside0.mk hm8
          clear hm8
          go_upto_block 2 with fail
          go_cut [8] (fun s8 wx => s8 = .bool true ∧ ∃ I2 L2, Aside0 (Rel I2 L2) ∧ Aside0 (Sep w (fun _ => False) (pt g7 #[.int .u8 d.kind, .int .i64 id, .int .u32 inc, .int .i64 who, .int .u64 now, .int .u64 hold, .bool d.near] 33 ⋆ doubtA p I2 ⋆ refD q L2 ⋆ emp) wx))
          case first =>
            rcases HM8.out with rfl | rfl | rfl | rfl | rfl | rfl | rfl | rfl
            · skip
              go_upto_region 20 with (fail)
              have n_ := sep_drew HS.out
              have n0_ := Aside0.mk n_; clear HS n_; have HS := n0_; clear n0_
              clear b0 b1 b2 b3 b4 b5 b6 f1 f2 f3 f4 f5
              have u1_ : ((beginE I id inc now hold).1 == (beginE I id inc now hold).1) = true := by simp
              go_region_held3 (fun w' => w'.cell? ⟨g7, 1, none⟩ = some (.int .i64 id) ∧ w'.cell? ⟨g7, 2, none⟩ = some (.int .u32 inc) ∧ w'.cell? ⟨g7, 3, none⟩ = some (.int .i64 who) ∧ w'.cell? ⟨g7, 4, none⟩ = some (.int .u64 now) ∧ w'.cell? ⟨g7, 5, none⟩ = some (.int .u64 hold)) (exact keepB HS.out) (first | (go_at_call 18; obtain ⟨ok_, hp_, hk_⟩ := sep_use1 (sep_l1 HS.out); have hx_ := dt_Begin p I id inc now hold _ ok_ hp_; (with_reducible refine Calls.mono hx_ ?_); rintro e w1 ⟨rfl, hq_⟩; have n_ := sep_l1 (back1 hk_ hq_); clear hx_ hp_ hk_ hq_; have n0_ := Aside0.mk n_; clear HS n_; have HS := n0_; clear n0_) | (go_at_call 19; obtain ⟨ok_, hp_, hk_⟩ := sep_use1 (sep_l2 HS.out); have hx_ := rBegin_walk q L id inc now hold _ ok_ (by have := Rel_len HREL.out; omega) hp_; rw [(rel_begin HREL.out id inc now hold HNH.out.1 HNH.out.2).1] at hx_; (with_reducible refine Calls.mono hx_ ?_); rintro e w1 ⟨rfl, hq_⟩; have n_ := sep_l2 (sep_l2 (back1 hk_ hq_)); clear hx_ hp_ hk_ hq_; have n0_ := Aside0.mk n_; clear HS n_; have HS := n0_; clear n0_) | fail)
              all_goals
                go_wp2_with fail
                go_meet
                case rel => exact ⟨rfl, _, _, ⟨(rel_begin HREL.out id inc now hold HNH.out.1 HNH.out.2).2⟩, HS⟩
            · skip
              go_upto_region 20 with (fail)
              have n_ := sep_drew HS.out
              have n0_ := Aside0.mk n_; clear HS n_; have HS := n0_; clear n0_
              clear b0 b1 b2 b3 b4 b5 b6 f1 f2 f3 f4 f5
              have u1_ : ((beginE I id inc now hold).1 == (beginE I id inc now hold).1) = true := by simp
              go_region_held3 (fun w' => w'.cell? ⟨g7, 1, none⟩ = some (.int .i64 id) ∧ w'.cell? ⟨g7, 2, none⟩ = some (.int .u32 inc) ∧ w'.cell? ⟨g7, 3, none⟩ = some (.int .i64 who) ∧ w'.cell? ⟨g7, 4, none⟩ = some (.int .u64 now) ∧ w'.cell? ⟨g7, 5, none⟩ = some (.int .u64 hold)) (exact keepB HS.out) (first | (go_at_call 18; obtain ⟨ok_, hp_, hk_⟩ := sep_use1 (sep_l1 HS.out); have hx_ := dt_Begin p I id inc now hold _ ok_ hp_; (with_reducible refine Calls.mono hx_ ?_); rintro e w1 ⟨rfl, hq_⟩; have n_ := sep_l1 (back1 hk_ hq_); clear hx_ hp_ hk_ hq_; have n0_ := Aside0.mk n_; clear HS n_; have HS := n0_; clear n0_) | (go_at_call 19; obtain ⟨ok_, hp_, hk_⟩ := sep_use1 (sep_l2 HS.out); have hx_ := rBegin_walk q L id inc now hold _ ok_ (by have := Rel_len HREL.out; omega) hp_; rw [(rel_begin HREL.out id inc now hold HNH.out.1 HNH.out.2).1] at hx_; (with_reducible refine Calls.mono hx_ ?_); rintro e w1 ⟨rfl, hq_⟩; have n_ := sep_l2 (sep_l2 (back1 hk_ hq_)); clear hx_ hp_ hk_ hq_; have n0_ := Aside0.mk n_; clear HS n_; have HS := n0_; clear n0_) | fail)
              all_goals
                go_wp2_with fail
                go_meet
                case rel => exact ⟨rfl, _, _, ⟨(rel_begin HREL.out id inc now hold HNH.out.1 HNH.out.2).2⟩, HS⟩
            · skip
              go_upto_region 20 with (fail)
              have n_ := sep_drew HS.out
              have n0_ := Aside0.mk n_; clear HS n_; have HS := n0_; clear n0_
              clear b0 b1 b2 b3 b4 b5 b6 f1 f2 f3 f4 f5
              have u1_ : ((beginE I id inc now hold).1 == (beginE I id inc now hold).1) = true := by simp
              go_region_held3 (fun w' => w'.cell? ⟨g7, 1, none⟩ = some (.int .i64 id) ∧ w'.cell? ⟨g7, 2, none⟩ = some (.int .u32 inc) ∧ w'.cell? ⟨g7, 3, none⟩ = some (.int .i64 who) ∧ w'.cell? ⟨g7, 4, none⟩ = some (.int .u64 now) ∧ w'.cell? ⟨g7, 5, none⟩ = some (.int .u64 hold)) (exact keepB HS.out) (first | (go_at_call 18; obtain ⟨ok_, hp_, hk_⟩ := sep_use1 (sep_l1 HS.out); have hx_ := dt_Begin p I id inc now hold _ ok_ hp_; (with_reducible refine Calls.mono hx_ ?_); rintro e w1 ⟨rfl, hq_⟩; have n_ := sep_l1 (back1 hk_ hq_); clear hx_ hp_ hk_ hq_; have n0_ := Aside0.mk n_; clear HS n_; have HS := n0_; clear n0_) | (go_at_call 19; obtain ⟨ok_, hp_, hk_⟩ := sep_use1 (sep_l2 HS.out); have hx_ := rBegin_walk q L id inc now hold _ ok_ (by have := Rel_len HREL.out; omega) hp_; rw [(rel_begin HREL.out id inc now hold HNH.out.1 HNH.out.2).1] at hx_; (with_reducible refine Calls.mono hx_ ?_); rintro e w1 ⟨rfl, hq_⟩; have n_ := sep_l2 (sep_l2 (back1 hk_ hq_)); clear hx_ hp_ hk_ hq_; have n0_ := Aside0.mk n_; clear HS n_; have HS := n0_; clear n0_) | fail)
              all_goals
                go_wp2_with fail
                go_meet
                case rel => exact ⟨rfl, _, _, ⟨(rel_begin HREL.out id inc now hold HNH.out.1 HNH.out.2).2⟩, HS⟩
            · skip
              go_upto_region 24 with (fail)
              have n_ := sep_drew HS.out
              have n0_ := Aside0.mk n_; clear HS n_; have HS := n0_; clear n0_
              clear b0 b1 b2 b3 b4 b5 b6 f1 f2 f3 f4 f5
              have u1_ : ((confirmE I id inc who).1 == (confirmE I id inc who).1) = true := by simp
              go_region_held3 (fun w' => w'.cell? ⟨g7, 1, none⟩ = some (.int .i64 id) ∧ w'.cell? ⟨g7, 2, none⟩ = some (.int .u32 inc) ∧ w'.cell? ⟨g7, 3, none⟩ = some (.int .i64 who) ∧ w'.cell? ⟨g7, 4, none⟩ = some (.int .u64 now) ∧ w'.cell? ⟨g7, 5, none⟩ = some (.int .u64 hold)) (exact keepB HS.out) (first | (go_at_call 11; obtain ⟨ok_, hp_, hk_⟩ := sep_use1 (sep_l1 HS.out); have hx_ := dt_Confirm p I id inc who _ ok_ HREL.out.good hp_; (with_reducible refine Calls.mono hx_ ?_); rintro e w1 ⟨rfl, hq_⟩; have n_ := sep_l1 (back1 hk_ hq_); clear hx_ hp_ hk_ hq_; have n0_ := Aside0.mk n_; clear HS n_; have HS := n0_; clear n0_) | (go_at_call 12; obtain ⟨ok_, hp_, hk_⟩ := sep_use1 (sep_l2 HS.out); have hx_ := rConfirm_walk q L id inc who _ ok_ (by have := Rel_len HREL.out; omega) (Rel_good HREL.out) hp_; rw [(rel_confirm HREL.out id inc who).1] at hx_; (with_reducible refine Calls.mono hx_ ?_); rintro e w1 ⟨rfl, hq_⟩; have n_ := sep_l2 (sep_l2 (back1 hk_ hq_)); clear hx_ hp_ hk_ hq_; have n0_ := Aside0.mk n_; clear HS n_; have HS := n0_; clear n0_) | fail)
              all_goals
                go_wp2_with fail
                go_meet
                case rel => exact ⟨rfl, _, _, ⟨(rel_confirm HREL.out id inc who).2⟩, HS⟩
            · skip
              go_upto_region 24 with (fail)
              have n_ := sep_drew HS.out
              have n0_ := Aside0.mk n_; clear HS n_; have HS := n0_; clear n0_
              clear b0 b1 b2 b3 b4 b5 b6 f1 f2 f3 f4 f5
              have u1_ : ((confirmE I id inc who).1 == (confirmE I id inc who).1) = true := by simp
              go_region_held3 (fun w' => w'.cell? ⟨g7, 1, none⟩ = some (.int .i64 id) ∧ w'.cell? ⟨g7, 2, none⟩ = some (.int .u32 inc) ∧ w'.cell? ⟨g7, 3, none⟩ = some (.int .i64 who) ∧ w'.cell? ⟨g7, 4, none⟩ = some (.int .u64 now) ∧ w'.cell? ⟨g7, 5, none⟩ = some (.int .u64 hold)) (exact keepB HS.out) (first | (go_at_call 11; obtain ⟨ok_, hp_, hk_⟩ := sep_use1 (sep_l1 HS.out); have hx_ := dt_Confirm p I id inc who _ ok_ HREL.out.good hp_; (with_reducible refine Calls.mono hx_ ?_); rintro e w1 ⟨rfl, hq_⟩; have n_ := sep_l1 (back1 hk_ hq_); clear hx_ hp_ hk_ hq_; have n0_ := Aside0.mk n_; clear HS n_; have HS := n0_; clear n0_) | (go_at_call 12; obtain ⟨ok_, hp_, hk_⟩ := sep_use1 (sep_l2 HS.out); have hx_ := rConfirm_walk q L id inc who _ ok_ (by have := Rel_len HREL.out; omega) (Rel_good HREL.out) hp_; rw [(rel_confirm HREL.out id inc who).1] at hx_; (with_reducible refine Calls.mono hx_ ?_); rintro e w1 ⟨rfl, hq_⟩; have n_ := sep_l2 (sep_l2 (back1 hk_ hq_)); clear hx_ hp_ hk_ hq_; have n0_ := Aside0.mk n_; clear HS n_; have HS := n0_; clear n0_) | fail)
              all_goals
                go_wp2_with fail
                go_meet
                case rel => exact ⟨rfl, _, _, ⟨(rel_confirm HREL.out id inc who).2⟩, HS⟩
            · skip
              go_upto_region 24 with (fail)
              have n_ := sep_drew HS.out
              have n0_ := Aside0.mk n_; clear HS n_; have HS := n0_; clear n0_
              clear b0 b1 b2 b3 b4 b5 b6 f1 f2 f3 f4 f5
              have u1_ : ((confirmE I id inc who).1 == (confirmE I id inc who).1) = true := by simp
              go_region_held3 (fun w' => w'.cell? ⟨g7, 1, none⟩ = some (.int .i64 id) ∧ w'.cell? ⟨g7, 2, none⟩ = some (.int .u32 inc) ∧ w'.cell? ⟨g7, 3, none⟩ = some (.int .i64 who) ∧ w'.cell? ⟨g7, 4, none⟩ = some (.int .u64 now) ∧ w'.cell? ⟨g7, 5, none⟩ = some (.int .u64 hold)) (exact keepB HS.out) (first | (go_at_call 11; obtain ⟨ok_, hp_, hk_⟩ := sep_use1 (sep_l1 HS.out); have hx_ := dt_Confirm p I id inc who _ ok_ HREL.out.good hp_; (with_reducible refine Calls.mono hx_ ?_); rintro e w1 ⟨rfl, hq_⟩; have n_ := sep_l1 (back1 hk_ hq_); clear hx_ hp_ hk_ hq_; have n0_ := Aside0.mk n_; clear HS n_; have HS := n0_; clear n0_) | (go_at_call 12; obtain ⟨ok_, hp_, hk_⟩ := sep_use1 (sep_l2 HS.out); have hx_ := rConfirm_walk q L id inc who _ ok_ (by have := Rel_len HREL.out; omega) (Rel_good HREL.out) hp_; rw [(rel_confirm HREL.out id inc who).1] at hx_; (with_reducible refine Calls.mono hx_ ?_); rintro e w1 ⟨rfl, hq_⟩; have n_ := sep_l2 (sep_l2 (back1 hk_ hq_)); clear hx_ hp_ hk_ hq_; have n0_ := Aside0.mk n_; clear HS n_; have HS := n0_; clear n0_) | fail)
              all_goals
                go_wp2_with fail
                go_meet
                case rel => exact ⟨rfl, _, _, ⟨(rel_confirm HREL.out id inc who).2⟩, HS⟩
            · skip
              go_upto_region 26 with (fail)
              have n_ := sep_drew HS.out
              have n0_ := Aside0.mk n_; clear HS n_; have HS := n0_; clear n0_
              clear b0 b1 b2 b3 b4 b5 b6 f1 f2 f3 f4 f5
              have u1_ : ((clearE I id inc).1 == (clearE I id inc).1) = true := by simp
              go_region_held3 (fun w' => w'.cell? ⟨g7, 1, none⟩ = some (.int .i64 id) ∧ w'.cell? ⟨g7, 2, none⟩ = some (.int .u32 inc) ∧ w'.cell? ⟨g7, 3, none⟩ = some (.int .i64 who) ∧ w'.cell? ⟨g7, 4, none⟩ = some (.int .u64 now) ∧ w'.cell? ⟨g7, 5, none⟩ = some (.int .u64 hold)) (exact keepB HS.out) (first | (go_at_call 13; obtain ⟨ok_, hp_, hk_⟩ := sep_use1 (sep_l1 HS.out); have hx_ := dt_Clear p I id inc _ ok_ hp_; (with_reducible refine Calls.mono hx_ ?_); rintro e w1 ⟨rfl, hq_⟩; have n_ := sep_l1 (back1 hk_ hq_); clear hx_ hp_ hk_ hq_; have n0_ := Aside0.mk n_; clear HS n_; have HS := n0_; clear n0_) | (go_at_call 14; obtain ⟨ok_, hp_, hk_⟩ := sep_use1 (sep_l2 HS.out); have hx_ := rClear_walk q L id inc _ ok_ (by have := Rel_len HREL.out; omega) hp_; rw [(rel_clear HREL.out id inc).1] at hx_; (with_reducible refine Calls.mono hx_ ?_); rintro e w1 ⟨rfl, hq_⟩; have n_ := sep_l2 (sep_l2 (back1 hk_ hq_)); clear hx_ hp_ hk_ hq_; have n0_ := Aside0.mk n_; clear HS n_; have HS := n0_; clear n0_) | fail)
              all_goals
                go_wp2_with fail
                go_meet
                case rel => exact ⟨rfl, _, _, ⟨(rel_clear HREL.out id inc).2⟩, HS⟩
            · skip
              have hre := rel_due HREL.out now
              obtain ⟨⟨L1, I2⟩, hI2⟩ : ∃ z, dueE I now = z := ⟨_, rfl⟩
              obtain ⟨⟨L3, L2⟩, hL2⟩ : ∃ z, rDue L now = z := ⟨_, rfl⟩
              rw [hI2, hL2] at hre
              dsimp only at hre
              obtain ⟨e1_, hre⟩ := hre
              subst e1_
              have HRE := Aside0.mk hre
              have HI2 := Aside0.mk hI2
              have HL2 := Aside0.mk hL2
              have hsub : L3.length ≤ 33 ∧ ∀ x ∈ L3, x.who.length ≤ 64 := by
                have e : L3 = L.filter (isDue now) := (congrArg Prod.fst hL2).symm
                refine ⟨by rw [e]; exact Nat.le_trans (List.length_filter_le _ _) (Rel_len HREL.out), fun x hx => ?_⟩
                rw [e] at hx
                exact (Rel_good HREL.out x (List.mem_filter.1 hx).1).few
              have HSB := Aside0.mk hsub
              clear hre hI2 hL2 hsub
              go_upto_region 28 with (fail)
              have n_ := sep_drew HS.out
              have n0_ := Aside0.mk n_; clear HS n_; have HS := n0_; clear n0_
              clear b0 b1 b2 b3 b4 b5 b6 f1 f2 f3 f4 f5
              go_region_held3 (fun w' => w'.cell? ⟨g7, 1, none⟩ = some (.int .i64 id) ∧ w'.cell? ⟨g7, 2, none⟩ = some (.int .u32 inc) ∧ w'.cell? ⟨g7, 3, none⟩ = some (.int .i64 who) ∧ w'.cell? ⟨g7, 4, none⟩ = some (.int .u64 now) ∧ w'.cell? ⟨g7, 5, none⟩ = some (.int .u64 hold)) (first | exact keepB HS.out | exact keepB (sep_l3 HS.out) | exact keepB (sep_l7 HS.out)) (first | (go_at_call 16; obtain ⟨ok_, hp_, hk_⟩ := sep_use1 (sep_l1 HS.out); have hx_ := dt_Due p I now _ ok_ HREL.out.good hp_; rw [HI2.out] at hx_; dsimp only at hx_; (with_reducible refine Calls.mono hx_ ?_); rintro e w1 ⟨v_, rfl, hq_⟩; have n_ := back2 hk_ hq_; clear hx_ hp_ hk_ hq_; obtain ⟨Rv, hmv, m_⟩ := items_open n_; clear n_; have n_ := m_; clear m_; have HMV := Aside0.mk hmv; clear hmv; obtain ⟨Av, cv, rfl, -, -⟩ := sep_row n_; rw [HMV.out.1] at n_ ⊢; have n0_ := Aside0.mk n_; clear HS n_; have HS := n0_; clear n0_) | (go_at_call 17; obtain ⟨ok_, hp_, hk_⟩ := sep_use1 (sep_l4 HS.out); have hx_ := rDue_walk q L now _ ok_ (by have := Rel_len HREL.out; omega) (Rel_good HREL.out) hp_; rw [HL2.out] at hx_; dsimp only at hx_; (with_reducible refine Calls.mono hx_ ?_); rintro e w1 ⟨v_, vs, Ra, Rs, M, rfl, hma, hms, hsa, hss, hq_⟩; have n_ := back4 hk_ hq_; clear hx_ hp_ hk_ hq_; have HMA := Aside0.mk (And.intro hma (And.intro hms (And.intro hsa hss))); clear hma hms hsa hss; obtain ⟨Aa, ca, rfl, -, -⟩ := sep_row n_; rw [HMA.out.1.1] at n_ ⊢; have n0_ := Aside0.mk n_; clear HS n_; have HS := n0_; clear n0_) | (go_at_call 15; have hx_ := same_walk Av Aa cv ca Rv Ra L3 _ HMV.out HMA.out.1 (sep_row' (sep_l4 HS.out)).2.2 (sep_row' HS.out).2.2 (fun y hy => sep_pool_at (sep_l5 HS.out) hy) (fun y hy => sep_pool_at (sep_l3 HS.out) (HMA.out.2.2.1 y hy)) (by have := HSB.out.1; omega) (fun x hx => by have := HSB.out.2 x hx; omega); (with_reducible refine Calls.mono hx_ ?_); rintro e w1 ⟨rfl, hb_⟩; have n_ := sep_below HS.out hb_; clear hx_ hb_; have n0_ := Aside0.mk n_; clear HS n_; have HS := n0_; clear n0_) | fail)
              all_goals
                have n_ := sep_pool_sub (sep_l2 (sep_drop (sep_l3 (sep_drop (sep_l3 (sep_drop HS.out)))))) HMA.out.2.2.2
                replace n_ := sep_l2 (sep_l1 (ref_mk HMA.out.2.1 (sep_l2 (sep_l2 n_))))
                have n0_ := Aside0.mk n_; clear HS n_; have HS := n0_; clear n0_
                go_wp2_with fail
                go_meet
                case rel => exact ⟨rfl, _, _, HRE, HS⟩
          case rest =>
            obtain ⟨rfl, I2, L2, HREL2, HSC⟩ := hcut
            clear HS b0 b1 b2 b3 b4 b5 b6 f1 f2 f3 f4 f5
            have HS := HSC
            clear HSC
            (try clear b0 b1 b2 b3 b4 b5 b6 f1 f2 f3 f4 f5); obtain ⟨⟨b0, b1, b2, b3, b4, b5, b6⟩, f1, f2, f3, f4, f5⟩ := facts7 HS.out
            obtain ⟨⟨ua, ub⟩, hu⟩ : ∃ z, untilE I2 id = z := ⟨_, rfl⟩
            have hru := rel_until HREL2.out id
            rw [hu] at hru
            have HU := Aside0.mk (And.intro hu hru)
            clear hu hru
            go_upto_region 30 with (go_at_call 20; obtain ⟨ok_, hp_, hk_⟩ := sep_use1 (sep_l1 HS.out); have hx_ := dt_Until p I2 id _ ok_ HREL2.out.good hp_; rw [HU.out.1] at hx_; dsimp only at hx_; (with_reducible refine Calls.mono hx_ ?_); rintro e w1 ⟨rfl, hq_⟩; have n_ := sep_l1 (back1 hk_ hq_); clear hx_ hp_ hk_ hq_; have n0_ := Aside0.mk n_; clear HS n_; have HS := n0_; clear n0_; (try clear b0 b1 b2 b3 b4 b5 b6 f1 f2 f3 f4 f5); obtain ⟨⟨b0, b1, b2, b3, b4, b5, b6⟩, f1, f2, f3, f4, f5⟩ := facts7 HS.out)
            go_upto_region 31 with (go_at_call 21; obtain ⟨ok_, hp_, hk_⟩ := sep_use1 (sep_l2 HS.out); have hx_ := rUntil_walk q L2 id _ ok_ (by have := Rel_len HREL2.out; omega) (Rel_good HREL2.out) hp_; rw [HU.out.2] at hx_; dsimp only at hx_; (with_reducible refine Calls.mono hx_ ?_); rintro e w1 ⟨rfl, hq_⟩; have n_ := sep_l2 (sep_l2 (back1 hk_ hq_)); clear hx_ hp_ hk_ hq_; have n0_ := Aside0.mk n_; clear HS n_; have HS := n0_; clear n0_)
            obtain ⟨A2, c2, R2, hm2, hc2, n_⟩ := ref_open (sep_l1 (sep_drop HS.out))
            have HM2 := Aside0.mk hm2
            replace n_ := sep_drew n_
            clear hm2 hc2 b0 b1 b2 b3 b4 b5 b6 f1 f2 f3 f4 f5
            have n0_ := Aside0.mk n_; clear HS n_; have HS := n0_; clear n0_
            have HIT := Aside0.mk (rel_items HREL2.out)
            have HSB : Aside0 (L2.length ≤ 33 ∧ ∀ x ∈ L2, x.who.length ≤ 64) := ⟨Rel_len HREL2.out, fun x hx => (Rel_good HREL2.out x hx).few⟩
            go_region_held3 (fun w' => w'.cell? ⟨q, 0, none⟩ = some (.slice A2 L2.length c2)) (first | exact (rv1 HS.out).1 | exact (rv1 (sep_l3 HS.out)).1) (first | (go_at_call 22; obtain ⟨ok_, hp_, hk_⟩ := sep_use1 (sep_l3 HS.out); have hx_ := dt_Items p I2 _ ok_ HREL2.out.good hp_; rw [HIT.out] at hx_; (with_reducible refine Calls.mono hx_ ?_); rintro e w1 ⟨v_, rfl, hq_⟩; have n_ := back2 hk_ hq_; clear hx_ hp_ hk_ hq_; obtain ⟨Rv, hmv, m_⟩ := items_open n_; clear n_; have n_ := m_; clear m_; have HMV := Aside0.mk hmv; clear hmv; obtain ⟨Av, cv, rfl, -, -⟩ := sep_row n_; rw [HMV.out.1] at n_ ⊢; have n0_ := Aside0.mk n_; clear HS n_; have HS := n0_; clear n0_) | (go_at_call 15; have hx_ := same_walk Av A2 cv c2 Rv R2 L2 _ HMV.out HM2.out (sep_row' HS.out).2.2 (sep_row' (sep_l4 HS.out)).2.2 (fun y hy => sep_pool_at (sep_l1 HS.out) hy) (fun y hy => sep_pool_at (sep_l5 HS.out) hy) (by have := HSB.out.1; omega) (fun x hx => by have := HSB.out.2 x hx; omega); (with_reducible refine Calls.mono hx_ ?_); rintro e w1 ⟨rfl, hb_⟩; have n_ := sep_below HS.out hb_; clear hx_ hb_; have n0_ := Aside0.mk n_; clear HS n_; have HS := n0_; clear n0_) | fail)
            all_goals
              have n_ := sep_l1 (ref_mk HM2.out (sep_l3 (sep_l3 (sep_l3 (sep_drop (sep_drop HS.out))))))
              have n0_ := Aside0.mk n_; clear HS n_; have HS := n0_; clear n0_
              have u1_ : (ua != ua) = false := by simp
              have u2_ : (ub != ub) = false := by simp
              go_wp2
              go_roundg (l.length - (i + 1))
              case measure => have := HI.out; omega
              case rel => exact ⟨i + 1, HI.out.1, HI.out.2.1, Nat.le_refl _, congrArg (Value.int .i64) (by have := HI.out; unfold wrap64; omega), I2, L2, HREL2, HS⟩
      · obtain rfl : i = 80 := by omega
        have c6b : decide (((80 : Nat) : Int) < 80) = false := by decide
        clear hi hi80 hgi h80
        go_wp2
        go_ret
        exact ⟨rfl, sep_below_of HS.out⟩
    · obtain rfl : i = l.length := by omega
      have c2b : decide ((l.length : Int) < (l.length : Int)) = false := decide_eq_false (by omega)
      clear hi hi80 hgi hlt
      go_wp2
      go_ret
      exact ⟨rfl, sep_below_of HS.out⟩
end Go.Proofs.Ythoppcefadopeaa.DW
