/- ViewRises, walked. Conditions: those that the theorem names. -/
import Derived.Test.YthpmlnnjfmcglaaXD
namespace Go.Proofs.Ythpmlnnjfmcglaa.VW
set_option linter.unusedVariables false
set_option linter.unusedSimpArgs false
open Go Go.RowKit Go.Proofs.YthpmlnnjfmcglaaS Go.Proofs.YthpmlnnjfmcglaaS.Asn Go.Proofs.Ythpmlnnjfmcglaa.PA Go.Proofs.YthpmlnnjfmcglaaW.PrintWords Go.Proofs.YthpmlnnjfmcglaaW.PrintLast Go.Proofs.YthpmlnnjfmcglaaW.PrintMore
theorem facts6 {w0 w : World} {ok0 : Nat → Prop} {F : Asn} {g : Nat} {t : TypeId} {a b c d e f : Value} (h : Sep w0 ok0 (pt g #[a, b, c, d, e, f] t ⋆ F) w) :
    w.cell? ⟨g, 0, none⟩ = some a ∧ w.cell? ⟨g, 1, none⟩ = some b ∧ w.cell? ⟨g, 2, none⟩ = some c ∧ w.cell? ⟨g, 3, none⟩ = some d ∧ w.cell? ⟨g, 4, none⟩ = some e ∧ w.cell? ⟨g, 5, none⟩ = some f :=
  ⟨sep_cell h 0, sep_cell h 1, sep_cell h 2, sep_cell h 3, sep_cell h 4, sep_cell h 5⟩
/-- A thing read, later on. -/
theorem th_now {w wr : World} {A : Option Addr} {ds : List Th} (h : thK.C w A ds.length ds) (hb : Below w.heap.size w wr) (i : Nat) (d : Th) (hd : ds[i]? = some d) :
    ∃ ad : Addr, A = some ad ∧ wr.cell? (ad.add (i * 6)) = some (.int .i64 d.r.id) ∧ wr.cell? ⟨(ad.add (i * 6)).block, (ad.add (i * 6)).off + 1, none⟩ = some (.int .i64 d.r.st) ∧ wr.cell? ⟨(ad.add (i * 6)).block, (ad.add (i * 6)).off + 2, none⟩ = some (.int .u32 d.r.inc) ∧ wr.cell? ⟨(ad.add (i * 6)).block, (ad.add (i * 6)).off + 3, none⟩ = some (.int .u32 d.r.ip) ∧ wr.cell? ⟨(ad.add (i * 6)).block, (ad.add (i * 6)).off + 4, none⟩ = some (.int .u16 d.r.po) ∧ wr.cell? ⟨(ad.add (i * 6)).block, (ad.add (i * 6)).off + 5, none⟩ = some (.bool d.own) := by
  obtain ⟨ad, rfl, h0, hc⟩ := th_at h i d hd
  refine ⟨ad, rfl, ?_, ?_, ?_, ?_, ?_, ?_⟩
  · exact (hb.cell (World.block_lt_of_cell? w _ h0)).trans h0
  · have h1 := hc 1 _ (by decide) rfl; exact (hb.cell (World.block_lt_of_cell? w _ h1)).trans h1
  · have h1 := hc 2 _ (by decide) rfl; exact (hb.cell (World.block_lt_of_cell? w _ h1)).trans h1
  · have h1 := hc 3 _ (by decide) rfl; exact (hb.cell (World.block_lt_of_cell? w _ h1)).trans h1
  · have h1 := hc 4 _ (by decide) rfl; exact (hb.cell (World.block_lt_of_cell? w _ h1)).trans h1
  · have h1 := hc 5 _ (by decide) rfl; exact (hb.cell (World.block_lt_of_cell? w _ h1)).trans h1
set_option maxHeartbeats 4000000 in
set_option maxRecDepth 100000 in
theorem rises_walk (A1 : Option Addr) (c1 : Nat) (l : List Th) (w : World) (hr1 : Kd.C thK w A1 l.length l) (hc1 : l.length ≤ c1) (hok : ∀ x ∈ l, thOk x) :
    Calls Try.prog 3 #[.slice A1 l.length c1] w fun e w' => e = .returned (.bool true) ∧ Below w.heap.size w w' := by
  have HS := Aside0.mk (sep_start w)
  have HR1 := Aside0.mk hr1
  have HOK := Aside0.mk hok
  have HLN := Aside0.mk hr1.2.1
  clear hr1 hc1 hok
  go_enter Try.func3, Try.ntmps3
  go_upto_region 7 with (first | (go_at_call 9; (with_reducible refine Calls.mono (examples_walk _) ?_); rintro e w1 ⟨rfl, hb_⟩; have n_ := sep_below HS.out hb_; clear hb_; have n0_ := Aside0.mk n_; clear HS n_; have HS := n0_; clear n0_) | (go_at_call 10; (with_reducible refine Calls.mono (view_New _) ?_); rintro e w2 ⟨p, rfl, hm_⟩; have n_ := sep_made_of HS.out (sep_only hm_); clear hm_; have n0_ := Aside0.mk n_; clear HS n_; have HS := n0_; clear n0_))
  go_upto_region 8 with (fail)
  go_loopg [5] 60 (fun gg v5 wr => ∃ i : Nat, i ≤ l.length ∧ i ≤ 60 ∧ 60 - i ≤ gg ∧ v5 = .int .i64 (i : Int) ∧ ∃ s, Aside0 (Six s ∧ s.E.length ≤ 128 ∧ s.seen ≤ i) ∧ Aside0 (Sep w (fun _ => False) (viewA p s ⋆ emp) wr))
  case atStart => exact ⟨0, Nat.zero_le _, by omega, by omega, rfl, _, ⟨Six_new, by decide, by decide⟩, HS⟩
  case round =>
    clear HS
    obtain ⟨i, hi, hi60, hgi, rfl, s, HI6, HS⟩ := hrel
    by_cases hlt : i < l.length
    · have c1b : decide ((i : Int) < (l.length : Int)) = true := decide_eq_true (Int.ofNat_lt.2 hlt); have c1n : decide (i < l.length) = true := decide_eq_true hlt; have c1q : (i < l.length) = True := eq_true hlt; have p0_ := eq_true (Int.natCast_nonneg i)
      by_cases h60 : i < 60
      · have c2b : decide ((i : Int) < 60) = true := decide_eq_true (by omega)
        have c2q : ((i : Int) < 60) = True := eq_true (by omega)
        have c2n := eq_true h60
        obtain ⟨t, ht⟩ : ∃ t, l[i]? = some t := ⟨_, List.getElem?_eq_getElem hlt⟩
        have HTO := Aside0.mk (HOK.out t (List.mem_of_getElem? ht))
        obtain ⟨ad, hA, k0, k1, k2, k3, k4, k5⟩ := th_now HR1.out (sep_below_of HS.out) i t ht
        subst hA
        have HI := Aside0.mk (And.intro hlt (And.intro h60 hgi))
        clear hi hi60 hgi hlt h60 ht
        go_upto_region 11 with (fail)
        have n_ := sep_l1 (sep_alloc HS.out #[.int .i64 t.r.id, .int .i64 t.r.st, .int .u32 t.r.inc, .int .u32 t.r.ip, .int .u16 t.r.po, .bool t.own] 33)
        have n0_ := Aside0.mk n_; clear HS n_; have HS := n0_; clear n0_
        generalize wr.alloc (.cells #[.int .i64 t.r.id, .int .i64 t.r.st, .int .u32 t.r.inc, .int .u32 t.r.ip, .int .u16 t.r.po, .bool t.own] 33) = wa at HS ⊢
        generalize wr.heap.size = g6 at HS ⊢
        clear k0 k1 k2 k3 k4 k5
        have k5 := sep_cell (sep_l1 HS.out) 5
        have f5 := sep_frozen (sep_l1 HS.out) 5
        go_upto_region 12 with (fail)
        have n_ := sep_l1 (sep_set (sep_l1 HS.out) 5 (.bool true))
        rw [show (#[.int .i64 t.r.id, .int .i64 t.r.st, .int .u32 t.r.inc, .int .u32 t.r.ip, .int .u16 t.r.po, .bool t.own] : Array Value).setIfInBounds 5 (.bool true) = #[.int .i64 t.r.id, .int .i64 t.r.st, .int .u32 t.r.inc, .int .u32 t.r.ip, .int .u16 t.r.po, .bool true] from rfl] at n_
        have n0_ := Aside0.mk n_; clear HS n_; have HS := n0_; clear n0_
        generalize wa.setCell ⟨g6, 5, none⟩ (.bool true) = wb at HS ⊢
        clear k5 f5
        obtain ⟨k0, k1, k2, k3, k4, k5⟩ := facts6 (sep_l1 HS.out)
        obtain ⟨r, hr⟩ : ∃ r, thE ⟨t.r, true⟩ = r := ⟨_, rfl⟩
        have hf := thing_f ⟨t.r, true⟩ HTO.out
        have hg := thE_own ⟨t.r, true⟩ HTO.out rfl
        rw [hr] at hf hg
        dsimp only at hf
        have HF := Aside0.mk hf
        have HG := Aside0.mk hg
        clear hf hg hr HTO
        go_upto_region 13 with (go_at_call 11; (with_reducible refine Calls.mono (scuttlebuttlaw11_Thing_thing.calls t.r.id t.r.st t.r.inc t.r.ip t.r.po true r.id r.st r.inc r.ip r.po _ HF.out) ?_); rintro e w1 ⟨rfl, hb_⟩; have n_ := sep_below HS.out hb_; clear hb_; have n0_ := Aside0.mk n_; clear HS n_; have HS := n0_; clear n0_)
        have n_ := sep_l1 (sep_drop (sep_l2 (sep_alloc HS.out #[.int .i64 r.id, .int .i64 r.st, .int .u32 r.inc, .int .u32 r.ip, .int .u16 r.po] 31)))
        have n0_ := Aside0.mk n_; clear HS n_; have HS := n0_; clear n0_
        generalize w1.alloc (.cells #[.int .i64 r.id, .int .i64 r.st, .int .u32 r.inc, .int .u32 r.ip, .int .u16 r.po] 31) = wc at HS ⊢
        generalize w1.heap.size = g7 at HS ⊢
        clear k0 k1 k2 k3 k4 k5
        obtain ⟨m1, m2, m3, m4, m5⟩ := facts5 (sep_l1 HS.out)
        have HORR := Aside0.mk (order_f r r)
        rw [order_self] at HORR
        obtain ⟨N, hN⟩ : ∃ N, s.seen = N := ⟨_, rfl⟩
        have HNS := Aside0.mk hN
        have hN60 : N ≤ 60 := by have := HI6.out.2.2; have := HI.out; omega
        have z1 : IntKind.u64.wrap ((N : Int) + 1) = (N : Int) + 1 := by rw [IntKind.wrap_u64]; omega
        have z2 : ((N : Int) == (N : Int) + 1) = false := by rw [beq_eq_false_iff_ne]; omega
        have z3 : ((N : Int) = (N : Int) + 1) = False := eq_false (by omega)
        have hI7 : Six (takeE s r).2.2 ∧ (takeE s r).2.2.E.length ≤ 128 ∧ (takeE s r).2.2.seen ≤ i + 1 := ⟨Six_take s r HI6.out.1 (right_id HG.out.1).1 HG.out.2, take_len _ _ HI6.out.2.1, Nat.le_trans (take_seen _ _) (Nat.succ_le_succ HI6.out.2.2)⟩
        have htu := turn s r HG.out.1 HI6.out.2.1
        rcases htu with ⟨ho, ht, hn, hs, hl⟩ | ⟨y, ho, ht, h1⟩ | ⟨y, ho, ht, hn, hs, h1, h2⟩ | ⟨y, ho, ht, hn, hs, hl, h1, h2⟩
        · generalize (takeE s r).2.2 = s' at ht hn hs hl hI7
          generalize Rec.zero = y at ho
          rw [hN] at hs
          have HO := Aside0.mk ho
          have HT := Aside0.mk ht
          have HN := Aside0.mk hn
          have HNT := Aside0.mk hs
          have HL := Aside0.mk hl
          have HI7 := Aside0.mk hI7
          have HE1 := Aside0.mk hI7.2.1
          clear ho ht hn hs hl hI7 hN hN60
          go_upto_region 14 with (go_at_call 12; obtain ⟨ok_, hp_, hk_⟩ := sep_use1 HS.out; have hx_ := view_Of p s r.id _ ok_ hp_; rw [HO.out] at hx_; dsimp only at hx_; (with_reducible refine Calls.mono hx_ ?_); rintro e w1 ⟨rfl, hq_⟩; have n_ := back1 hk_ hq_; clear hx_ hp_ hk_ hq_; have n0_ := Aside0.mk n_; clear HS n_; have HS := n0_; clear n0_; clear m1 m2 m3 m4 m5; obtain ⟨m1, m2, m3, m4, m5⟩ := facts5 (sep_l1 HS.out))
          have n_ := sep_l1 (sep_alloc HS.out #[.int .i64 y.id, .int .i64 y.st, .int .u32 y.inc, .int .u32 y.ip, .int .u16 y.po] 31)
          have n0_ := Aside0.mk n_; clear HS n_; have HS := n0_; clear n0_
          generalize w1.alloc (.cells #[.int .i64 y.id, .int .i64 y.st, .int .u32 y.inc, .int .u32 y.ip, .int .u16 y.po] 31) = w2 at HS ⊢
          generalize w1.heap.size = g8 at HS ⊢
          clear m1 m2 m3 m4 m5; obtain ⟨m1, m2, m3, m4, m5⟩ := facts5 (sep_l2 HS.out); (try clear a1 a2 a3 a4 a5); obtain ⟨a1, a2, a3, a4, a5⟩ := facts5 (sep_l1 HS.out)
          go_upto_region 15 with (go_at_call 13; obtain ⟨ok_, hp_, hk_⟩ := sep_use1 HS.out; have hx_ := view_Seen p s _ ok_ hp_; rw [HNS.out] at hx_; (with_reducible refine Calls.mono hx_ ?_); rintro e w1 ⟨rfl, hq_⟩; have n_ := back1 hk_ hq_; clear hx_ hp_ hk_ hq_; have n0_ := Aside0.mk n_; clear HS n_; have HS := n0_; clear n0_; clear m1 m2 m3 m4 m5; obtain ⟨m1, m2, m3, m4, m5⟩ := facts5 (sep_l2 HS.out); (try clear a1 a2 a3 a4 a5); obtain ⟨a1, a2, a3, a4, a5⟩ := facts5 (sep_l1 HS.out))
          go_upto_region 16 with (go_at_call 14; obtain ⟨ok_, hp_, hk_⟩ := sep_use1 HS.out; have hx_ := view_Take p s r _ ok_ HI6.out.2.1 (by have := HI6.out.2.2; have := HI.out; omega) hp_; rw [HT.out] at hx_; dsimp only at hx_; (with_reducible refine Calls.mono hx_ ?_); rintro e w1 ⟨rfl, hq_⟩; have n_ := back1 hk_ hq_; clear hx_ hp_ hk_ hq_; have n0_ := Aside0.mk n_; clear HS n_; have HS := n0_; clear n0_; clear m1 m2 m3 m4 m5; obtain ⟨m1, m2, m3, m4, m5⟩ := facts5 (sep_l2 HS.out); (try clear a1 a2 a3 a4 a5); obtain ⟨a1, a2, a3, a4, a5⟩ := facts5 (sep_l1 HS.out))
          go_upto_region 17 with (go_at_call 12; obtain ⟨ok_, hp_, hk_⟩ := sep_use1 HS.out; have hx_ := view_Of p s' r.id _ ok_ hp_; rw [HN.out] at hx_; dsimp only at hx_; (with_reducible refine Calls.mono hx_ ?_); rintro e w1 ⟨rfl, hq_⟩; have n_ := back1 hk_ hq_; clear hx_ hp_ hk_ hq_; have n0_ := Aside0.mk n_; clear HS n_; have HS := n0_; clear n0_; clear m1 m2 m3 m4 m5; obtain ⟨m1, m2, m3, m4, m5⟩ := facts5 (sep_l2 HS.out); (try clear a1 a2 a3 a4 a5); obtain ⟨a1, a2, a3, a4, a5⟩ := facts5 (sep_l1 HS.out))
          have n_ := sep_l1 (sep_alloc HS.out #[.int .i64 r.id, .int .i64 r.st, .int .u32 r.inc, .int .u32 r.ip, .int .u16 r.po] 31)
          have n0_ := Aside0.mk n_; clear HS n_; have HS := n0_; clear n0_
          generalize w1.alloc (.cells #[.int .i64 r.id, .int .i64 r.st, .int .u32 r.inc, .int .u32 r.ip, .int .u16 r.po] 31) = w3 at HS ⊢
          generalize w1.heap.size = g13 at HS ⊢
          clear m1 m2 m3 m4 m5; obtain ⟨m1, m2, m3, m4, m5⟩ := facts5 (sep_l3 HS.out); clear a1 a2 a3 a4 a5; obtain ⟨a1, a2, a3, a4, a5⟩ := facts5 (sep_l2 HS.out); (try clear b1 b2 b3 b4 b5); obtain ⟨b1, b2, b3, b4, b5⟩ := facts5 (sep_l1 HS.out)
          go_upto_region 19 with (go_at_call 15; (with_reducible refine Calls.mono (record_Order.calls 5 r.id r.st r.inc r.ip r.po r.id r.st r.inc r.ip r.po _ _ HORR.out) ?_); rintro e w1 ⟨rfl, hb_⟩; have n_ := sep_below HS.out hb_; clear hb_; have n0_ := Aside0.mk n_; clear HS n_; have HS := n0_; clear n0_; clear m1 m2 m3 m4 m5; obtain ⟨m1, m2, m3, m4, m5⟩ := facts5 (sep_l3 HS.out); clear a1 a2 a3 a4 a5; obtain ⟨a1, a2, a3, a4, a5⟩ := facts5 (sep_l2 HS.out); (try clear b1 b2 b3 b4 b5); obtain ⟨b1, b2, b3, b4, b5⟩ := facts5 (sep_l1 HS.out))
          go_upto_region 20 with (go_at_call 13; obtain ⟨ok_, hp_, hk_⟩ := sep_use1 HS.out; have hx_ := view_Seen p s' _ ok_ hp_; rw [HNT.out] at hx_; (with_reducible refine Calls.mono hx_ ?_); rintro e w1 ⟨rfl, hq_⟩; have n_ := back1 hk_ hq_; clear hx_ hp_ hk_ hq_; have n0_ := Aside0.mk n_; clear HS n_; have HS := n0_; clear n0_; clear m1 m2 m3 m4 m5; obtain ⟨m1, m2, m3, m4, m5⟩ := facts5 (sep_l3 HS.out); clear a1 a2 a3 a4 a5; obtain ⟨a1, a2, a3, a4, a5⟩ := facts5 (sep_l2 HS.out); (try clear b1 b2 b3 b4 b5); obtain ⟨b1, b2, b3, b4, b5⟩ := facts5 (sep_l1 HS.out))
          clear z1 z2 z3
          go_upto_region 22 with (fail)
          go_upto_region 23 with (go_at_call 16; obtain ⟨ok_, hp_, hk_⟩ := sep_use1 HS.out; have hx_ := view_Events p s' _ ok_ (Nat.le_trans HE1.out (by decide)) hp_; (with_reducible refine Calls.mono hx_ ?_); rintro e w1 ⟨v_, rfl, hq_⟩; have n_ := back2 hk_ hq_; clear hx_ hp_ hk_ hq_; have n0_ := Aside0.mk n_; clear HS n_; have HS := n0_; clear n0_)
          have HS2 := Aside0.mk (sep_l1 HS.out)
          clear m1 m2 m3 m4 m5 a1 a2 a3 a4 a5 b1 b2 b3 b4 b5
          obtain ⟨m, hlen, hm⟩ := HL.out
          obtain ⟨A, c, rfl, -, -⟩ := sep_row HS.out
          have hml : m ≤ 128 := by have := HE1.out; omega
          obtain ⟨g, rfl⟩ := row_addr HS.out (by rw [hlen]; omega)
          obtain ⟨e0, e1, e2, e3⟩ := ev_cells HS.out m _ hm
          dsimp only at e0 e1 e2 e3
          rw [hlen] at HS ⊢
          obtain ⟨m1, m2, m3, m4, m5⟩ := facts5 (sep_l4 HS.out)
          obtain ⟨a1, a2, a3, a4, a5⟩ := facts5 (sep_l3 HS.out)
          have z1 : wrap64 ((m : Int) + 1 - 1) = (m : Int) := by unfold wrap64; omega
          have z2 : wrap64 (m : Int) = (m : Int) := by unfold wrap64; omega
          have z3 : (m : Int) + 1 - 1 = (m : Int) := by omega
          have z4 : decide ((m : Int) < (m : Int) + 1) = true := decide_eq_true (by omega)
          have z5 : ((m : Int) < (m : Int) + 1) = True := eq_true (by omega)
          have z6 : ((m : Int) + 1 = 0) = False := eq_false (by omega)
          have z7 : (((m : Int) + 1) == 0) = false := by rw [beq_eq_false_iff_ne]; omega
          have z8 : (m + 1 = 0) = False := eq_false (by omega)
          have z9 := eq_true (Int.natCast_nonneg m)
          clear hlen hm hml
          go_upto_region 27 with (fail)
          have n_ := sep_alloc HS.out #[.int .i64 r.id, .int .i64 (-1), .int .i64 r.st, .int .u32 r.inc] 46
          have n0_ := Aside0.mk n_; clear HS n_; have HS := n0_; clear n0_
          generalize w1.alloc (.cells #[.int .i64 r.id, .int .i64 (-1), .int .i64 r.st, .int .u32 r.inc] 46) = w5 at HS ⊢
          generalize w1.heap.size = g17 at HS ⊢
          clear m1 m2 m3 m4 m5 a1 a2 a3 a4 a5 e0 e1 e2 e3 z1 z2 z3 z4 z5 z6 z7 z8 z9 HS2
          obtain ⟨m1, m2, m3, m4, m5⟩ := facts5 (sep_l5 HS.out)
          obtain ⟨a1, a2, a3, a4, a5⟩ := facts5 (sep_l4 HS.out)
          obtain ⟨e0, e1, e2, e3⟩ := facts4 HS.out
          have n_ := sep_rest (sep_only (sep_l2 HS.out))
          have n0_ := Aside0.mk n_; clear HS n_; have HS := n0_; clear n0_
          go_wp2
          go_roundg (60 - (i + 1))
          case measure => have := HI.out; omega
          case rel => exact ⟨i + 1, HI.out.1, HI.out.2.1, Nat.le_refl _, congrArg (Value.int .i64) (by have := HI.out; unfold wrap64; omega), _, ⟨HI7.out⟩, HS⟩
        · have HO := Aside0.mk ho
          have HT := Aside0.mk ht
          have HN := HO
          have HNT := HNS
          rw [ht] at hI7
          have HI7 := Aside0.mk hI7
          have HE1 := Aside0.mk hI7.2.1
          have HOYY := Aside0.mk (order_f y y)
          rw [order_self] at HOYY
          have HOR := Aside0.mk (order_f y r)
          obtain ⟨d, hd⟩ : ∃ d, order y r = d := ⟨_, rfl⟩
          rw [hd] at HOR h1
          have d1 : decide (d < 0) = false := decide_eq_false (by omega)
          have d2 : (d < 0) = False := eq_false (by omega)
          clear ho ht hI7 hN hN60 h1 hd
          go_upto_region 14 with (go_at_call 12; obtain ⟨ok_, hp_, hk_⟩ := sep_use1 HS.out; have hx_ := view_Of p s r.id _ ok_ hp_; rw [HO.out] at hx_; dsimp only at hx_; (with_reducible refine Calls.mono hx_ ?_); rintro e w1 ⟨rfl, hq_⟩; have n_ := back1 hk_ hq_; clear hx_ hp_ hk_ hq_; have n0_ := Aside0.mk n_; clear HS n_; have HS := n0_; clear n0_; clear m1 m2 m3 m4 m5; obtain ⟨m1, m2, m3, m4, m5⟩ := facts5 (sep_l1 HS.out))
          have n_ := sep_l1 (sep_alloc HS.out #[.int .i64 y.id, .int .i64 y.st, .int .u32 y.inc, .int .u32 y.ip, .int .u16 y.po] 31)
          have n0_ := Aside0.mk n_; clear HS n_; have HS := n0_; clear n0_
          generalize w1.alloc (.cells #[.int .i64 y.id, .int .i64 y.st, .int .u32 y.inc, .int .u32 y.ip, .int .u16 y.po] 31) = w2 at HS ⊢
          generalize w1.heap.size = g8 at HS ⊢
          clear m1 m2 m3 m4 m5; obtain ⟨m1, m2, m3, m4, m5⟩ := facts5 (sep_l2 HS.out); (try clear a1 a2 a3 a4 a5); obtain ⟨a1, a2, a3, a4, a5⟩ := facts5 (sep_l1 HS.out)
          go_upto_region 15 with (go_at_call 13; obtain ⟨ok_, hp_, hk_⟩ := sep_use1 HS.out; have hx_ := view_Seen p s _ ok_ hp_; rw [HNS.out] at hx_; (with_reducible refine Calls.mono hx_ ?_); rintro e w1 ⟨rfl, hq_⟩; have n_ := back1 hk_ hq_; clear hx_ hp_ hk_ hq_; have n0_ := Aside0.mk n_; clear HS n_; have HS := n0_; clear n0_; clear m1 m2 m3 m4 m5; obtain ⟨m1, m2, m3, m4, m5⟩ := facts5 (sep_l2 HS.out); (try clear a1 a2 a3 a4 a5); obtain ⟨a1, a2, a3, a4, a5⟩ := facts5 (sep_l1 HS.out))
          go_upto_region 16 with (go_at_call 14; obtain ⟨ok_, hp_, hk_⟩ := sep_use1 HS.out; have hx_ := view_Take p s r _ ok_ HI6.out.2.1 (by have := HI6.out.2.2; have := HI.out; omega) hp_; rw [HT.out] at hx_; dsimp only at hx_; (with_reducible refine Calls.mono hx_ ?_); rintro e w1 ⟨rfl, hq_⟩; have n_ := back1 hk_ hq_; clear hx_ hp_ hk_ hq_; have n0_ := Aside0.mk n_; clear HS n_; have HS := n0_; clear n0_; clear m1 m2 m3 m4 m5; obtain ⟨m1, m2, m3, m4, m5⟩ := facts5 (sep_l2 HS.out); (try clear a1 a2 a3 a4 a5); obtain ⟨a1, a2, a3, a4, a5⟩ := facts5 (sep_l1 HS.out))
          go_upto_region 17 with (go_at_call 12; obtain ⟨ok_, hp_, hk_⟩ := sep_use1 HS.out; have hx_ := view_Of p s r.id _ ok_ hp_; rw [HN.out] at hx_; dsimp only at hx_; (with_reducible refine Calls.mono hx_ ?_); rintro e w1 ⟨rfl, hq_⟩; have n_ := back1 hk_ hq_; clear hx_ hp_ hk_ hq_; have n0_ := Aside0.mk n_; clear HS n_; have HS := n0_; clear n0_; clear m1 m2 m3 m4 m5; obtain ⟨m1, m2, m3, m4, m5⟩ := facts5 (sep_l2 HS.out); (try clear a1 a2 a3 a4 a5); obtain ⟨a1, a2, a3, a4, a5⟩ := facts5 (sep_l1 HS.out))
          have n_ := sep_l1 (sep_alloc HS.out #[.int .i64 y.id, .int .i64 y.st, .int .u32 y.inc, .int .u32 y.ip, .int .u16 y.po] 31)
          have n0_ := Aside0.mk n_; clear HS n_; have HS := n0_; clear n0_
          generalize w1.alloc (.cells #[.int .i64 y.id, .int .i64 y.st, .int .u32 y.inc, .int .u32 y.ip, .int .u16 y.po] 31) = w3 at HS ⊢
          generalize w1.heap.size = g13 at HS ⊢
          clear m1 m2 m3 m4 m5; obtain ⟨m1, m2, m3, m4, m5⟩ := facts5 (sep_l3 HS.out); clear a1 a2 a3 a4 a5; obtain ⟨a1, a2, a3, a4, a5⟩ := facts5 (sep_l2 HS.out); (try clear b1 b2 b3 b4 b5); obtain ⟨b1, b2, b3, b4, b5⟩ := facts5 (sep_l1 HS.out)
          go_upto_region 19 with (first | (go_at_call 15; (with_reducible refine Calls.mono (record_Order.calls 5 y.id y.st y.inc y.ip y.po y.id y.st y.inc y.ip y.po _ _ HOYY.out) ?_); rintro e w1 ⟨rfl, hb_⟩; have n_ := sep_below HS.out hb_; clear hb_; have n0_ := Aside0.mk n_; clear HS n_; have HS := n0_; clear n0_; clear m1 m2 m3 m4 m5; obtain ⟨m1, m2, m3, m4, m5⟩ := facts5 (sep_l3 HS.out); clear a1 a2 a3 a4 a5; obtain ⟨a1, a2, a3, a4, a5⟩ := facts5 (sep_l2 HS.out); (try clear b1 b2 b3 b4 b5); obtain ⟨b1, b2, b3, b4, b5⟩ := facts5 (sep_l1 HS.out)) | (go_at_call 15; (with_reducible refine Calls.mono (record_Order.calls 5 y.id y.st y.inc y.ip y.po r.id r.st r.inc r.ip r.po _ _ HOR.out) ?_); rintro e w1 ⟨rfl, hb_⟩; have n_ := sep_below HS.out hb_; clear hb_; have n0_ := Aside0.mk n_; clear HS n_; have HS := n0_; clear n0_; clear m1 m2 m3 m4 m5; obtain ⟨m1, m2, m3, m4, m5⟩ := facts5 (sep_l3 HS.out); clear a1 a2 a3 a4 a5; obtain ⟨a1, a2, a3, a4, a5⟩ := facts5 (sep_l2 HS.out); (try clear b1 b2 b3 b4 b5); obtain ⟨b1, b2, b3, b4, b5⟩ := facts5 (sep_l1 HS.out)))
          go_upto_region 20 with (go_at_call 13; obtain ⟨ok_, hp_, hk_⟩ := sep_use1 HS.out; have hx_ := view_Seen p s _ ok_ hp_; rw [HNT.out] at hx_; (with_reducible refine Calls.mono hx_ ?_); rintro e w1 ⟨rfl, hq_⟩; have n_ := back1 hk_ hq_; clear hx_ hp_ hk_ hq_; have n0_ := Aside0.mk n_; clear HS n_; have HS := n0_; clear n0_; clear m1 m2 m3 m4 m5; obtain ⟨m1, m2, m3, m4, m5⟩ := facts5 (sep_l3 HS.out); clear a1 a2 a3 a4 a5; obtain ⟨a1, a2, a3, a4, a5⟩ := facts5 (sep_l2 HS.out); (try clear b1 b2 b3 b4 b5); obtain ⟨b1, b2, b3, b4, b5⟩ := facts5 (sep_l1 HS.out))
          clear z1 z2 z3
          go_upto_region 22 with (fail)
          go_upto_region 23 with (go_at_call 16; obtain ⟨ok_, hp_, hk_⟩ := sep_use1 HS.out; have hx_ := view_Events p s _ ok_ (Nat.le_trans HE1.out (by decide)) hp_; (with_reducible refine Calls.mono hx_ ?_); rintro e w1 ⟨v_, rfl, hq_⟩; have n_ := back2 hk_ hq_; clear hx_ hp_ hk_ hq_; have n0_ := Aside0.mk n_; clear HS n_; have HS := n0_; clear n0_)
          obtain ⟨A, c, rfl, -, -⟩ := sep_row HS.out
          have n_ := sep_rest (sep_only (sep_l1 HS.out))
          have n0_ := Aside0.mk n_; clear HS n_; have HS := n0_; clear n0_
          go_wp2
          go_roundg (60 - (i + 1))
          case measure => have := HI.out; omega
          case rel => exact ⟨i + 1, HI.out.1, HI.out.2.1, Nat.le_refl _, congrArg (Value.int .i64) (by have := HI.out; unfold wrap64; omega), _, ⟨HI7.out⟩, HS⟩
        · generalize (takeE s r).2.2 = s' at ht hn hs hI7
          rw [hN] at hs
          have HO := Aside0.mk ho
          have HT := Aside0.mk ht
          have HN := Aside0.mk hn
          have HNT := Aside0.mk hs
          have HI7 := Aside0.mk hI7
          have HE1 := Aside0.mk hI7.2.1
          have HOR := Aside0.mk (order_f r y)
          obtain ⟨d, hd⟩ : ∃ d, order r y = d := ⟨_, rfl⟩
          rw [hd] at HOR h1
          have d1 : decide (d < 0) = false := decide_eq_false (by omega)
          have d2 : (d < 0) = False := eq_false (by omega)
          have d3 : (y.st != r.st) = false := by rw [h2]; simp
          have d4 := eq_true h2
          clear ho ht hn hs hI7 hN hN60 h1 h2 hd
          go_upto_region 14 with (go_at_call 12; obtain ⟨ok_, hp_, hk_⟩ := sep_use1 HS.out; have hx_ := view_Of p s r.id _ ok_ hp_; rw [HO.out] at hx_; dsimp only at hx_; (with_reducible refine Calls.mono hx_ ?_); rintro e w1 ⟨rfl, hq_⟩; have n_ := back1 hk_ hq_; clear hx_ hp_ hk_ hq_; have n0_ := Aside0.mk n_; clear HS n_; have HS := n0_; clear n0_; clear m1 m2 m3 m4 m5; obtain ⟨m1, m2, m3, m4, m5⟩ := facts5 (sep_l1 HS.out))
          have n_ := sep_l1 (sep_alloc HS.out #[.int .i64 y.id, .int .i64 y.st, .int .u32 y.inc, .int .u32 y.ip, .int .u16 y.po] 31)
          have n0_ := Aside0.mk n_; clear HS n_; have HS := n0_; clear n0_
          generalize w1.alloc (.cells #[.int .i64 y.id, .int .i64 y.st, .int .u32 y.inc, .int .u32 y.ip, .int .u16 y.po] 31) = w2 at HS ⊢
          generalize w1.heap.size = g8 at HS ⊢
          clear m1 m2 m3 m4 m5; obtain ⟨m1, m2, m3, m4, m5⟩ := facts5 (sep_l2 HS.out); (try clear a1 a2 a3 a4 a5); obtain ⟨a1, a2, a3, a4, a5⟩ := facts5 (sep_l1 HS.out)
          go_upto_region 15 with (go_at_call 13; obtain ⟨ok_, hp_, hk_⟩ := sep_use1 HS.out; have hx_ := view_Seen p s _ ok_ hp_; rw [HNS.out] at hx_; (with_reducible refine Calls.mono hx_ ?_); rintro e w1 ⟨rfl, hq_⟩; have n_ := back1 hk_ hq_; clear hx_ hp_ hk_ hq_; have n0_ := Aside0.mk n_; clear HS n_; have HS := n0_; clear n0_; clear m1 m2 m3 m4 m5; obtain ⟨m1, m2, m3, m4, m5⟩ := facts5 (sep_l2 HS.out); (try clear a1 a2 a3 a4 a5); obtain ⟨a1, a2, a3, a4, a5⟩ := facts5 (sep_l1 HS.out))
          go_upto_region 16 with (go_at_call 14; obtain ⟨ok_, hp_, hk_⟩ := sep_use1 HS.out; have hx_ := view_Take p s r _ ok_ HI6.out.2.1 (by have := HI6.out.2.2; have := HI.out; omega) hp_; rw [HT.out] at hx_; dsimp only at hx_; (with_reducible refine Calls.mono hx_ ?_); rintro e w1 ⟨rfl, hq_⟩; have n_ := back1 hk_ hq_; clear hx_ hp_ hk_ hq_; have n0_ := Aside0.mk n_; clear HS n_; have HS := n0_; clear n0_; clear m1 m2 m3 m4 m5; obtain ⟨m1, m2, m3, m4, m5⟩ := facts5 (sep_l2 HS.out); (try clear a1 a2 a3 a4 a5); obtain ⟨a1, a2, a3, a4, a5⟩ := facts5 (sep_l1 HS.out))
          go_upto_region 17 with (go_at_call 12; obtain ⟨ok_, hp_, hk_⟩ := sep_use1 HS.out; have hx_ := view_Of p s' r.id _ ok_ hp_; rw [HN.out] at hx_; dsimp only at hx_; (with_reducible refine Calls.mono hx_ ?_); rintro e w1 ⟨rfl, hq_⟩; have n_ := back1 hk_ hq_; clear hx_ hp_ hk_ hq_; have n0_ := Aside0.mk n_; clear HS n_; have HS := n0_; clear n0_; clear m1 m2 m3 m4 m5; obtain ⟨m1, m2, m3, m4, m5⟩ := facts5 (sep_l2 HS.out); (try clear a1 a2 a3 a4 a5); obtain ⟨a1, a2, a3, a4, a5⟩ := facts5 (sep_l1 HS.out))
          have n_ := sep_l1 (sep_alloc HS.out #[.int .i64 r.id, .int .i64 r.st, .int .u32 r.inc, .int .u32 r.ip, .int .u16 r.po] 31)
          have n0_ := Aside0.mk n_; clear HS n_; have HS := n0_; clear n0_
          generalize w1.alloc (.cells #[.int .i64 r.id, .int .i64 r.st, .int .u32 r.inc, .int .u32 r.ip, .int .u16 r.po] 31) = w3 at HS ⊢
          generalize w1.heap.size = g13 at HS ⊢
          clear m1 m2 m3 m4 m5; obtain ⟨m1, m2, m3, m4, m5⟩ := facts5 (sep_l3 HS.out); clear a1 a2 a3 a4 a5; obtain ⟨a1, a2, a3, a4, a5⟩ := facts5 (sep_l2 HS.out); (try clear b1 b2 b3 b4 b5); obtain ⟨b1, b2, b3, b4, b5⟩ := facts5 (sep_l1 HS.out)
          go_upto_region 19 with (first | (go_at_call 15; (with_reducible refine Calls.mono (record_Order.calls 5 r.id r.st r.inc r.ip r.po y.id y.st y.inc y.ip y.po _ _ HOR.out) ?_); rintro e w1 ⟨rfl, hb_⟩; have n_ := sep_below HS.out hb_; clear hb_; have n0_ := Aside0.mk n_; clear HS n_; have HS := n0_; clear n0_; clear m1 m2 m3 m4 m5; obtain ⟨m1, m2, m3, m4, m5⟩ := facts5 (sep_l3 HS.out); clear a1 a2 a3 a4 a5; obtain ⟨a1, a2, a3, a4, a5⟩ := facts5 (sep_l2 HS.out); (try clear b1 b2 b3 b4 b5); obtain ⟨b1, b2, b3, b4, b5⟩ := facts5 (sep_l1 HS.out)) | (go_at_call 15; (with_reducible refine Calls.mono (record_Order.calls 5 r.id r.st r.inc r.ip r.po r.id r.st r.inc r.ip r.po _ _ HORR.out) ?_); rintro e w1 ⟨rfl, hb_⟩; have n_ := sep_below HS.out hb_; clear hb_; have n0_ := Aside0.mk n_; clear HS n_; have HS := n0_; clear n0_; clear m1 m2 m3 m4 m5; obtain ⟨m1, m2, m3, m4, m5⟩ := facts5 (sep_l3 HS.out); clear a1 a2 a3 a4 a5; obtain ⟨a1, a2, a3, a4, a5⟩ := facts5 (sep_l2 HS.out); (try clear b1 b2 b3 b4 b5); obtain ⟨b1, b2, b3, b4, b5⟩ := facts5 (sep_l1 HS.out)))
          go_upto_region 20 with (go_at_call 13; obtain ⟨ok_, hp_, hk_⟩ := sep_use1 HS.out; have hx_ := view_Seen p s' _ ok_ hp_; rw [HNT.out] at hx_; (with_reducible refine Calls.mono hx_ ?_); rintro e w1 ⟨rfl, hq_⟩; have n_ := back1 hk_ hq_; clear hx_ hp_ hk_ hq_; have n0_ := Aside0.mk n_; clear HS n_; have HS := n0_; clear n0_; clear m1 m2 m3 m4 m5; obtain ⟨m1, m2, m3, m4, m5⟩ := facts5 (sep_l3 HS.out); clear a1 a2 a3 a4 a5; obtain ⟨a1, a2, a3, a4, a5⟩ := facts5 (sep_l2 HS.out); (try clear b1 b2 b3 b4 b5); obtain ⟨b1, b2, b3, b4, b5⟩ := facts5 (sep_l1 HS.out))
          clear z1 z2 z3
          go_upto_region 22 with (fail)
          go_upto_region 23 with (go_at_call 16; obtain ⟨ok_, hp_, hk_⟩ := sep_use1 HS.out; have hx_ := view_Events p s' _ ok_ (Nat.le_trans HE1.out (by decide)) hp_; (with_reducible refine Calls.mono hx_ ?_); rintro e w1 ⟨v_, rfl, hq_⟩; have n_ := back2 hk_ hq_; clear hx_ hp_ hk_ hq_; have n0_ := Aside0.mk n_; clear HS n_; have HS := n0_; clear n0_)
          obtain ⟨A, c, rfl, -, -⟩ := sep_row HS.out
          have n_ := sep_rest (sep_only (sep_l1 HS.out))
          have n0_ := Aside0.mk n_; clear HS n_; have HS := n0_; clear n0_
          go_wp2
          go_roundg (60 - (i + 1))
          case measure => have := HI.out; omega
          case rel => exact ⟨i + 1, HI.out.1, HI.out.2.1, Nat.le_refl _, congrArg (Value.int .i64) (by have := HI.out; unfold wrap64; omega), _, ⟨HI7.out⟩, HS⟩
        · generalize (takeE s r).2.2 = s' at ht hn hs hl hI7
          rw [hN] at hs
          have HO := Aside0.mk ho
          have HT := Aside0.mk ht
          have HN := Aside0.mk hn
          have HNT := Aside0.mk hs
          have HL := Aside0.mk hl
          have HI7 := Aside0.mk hI7
          have HE1 := Aside0.mk hI7.2.1
          have HOR := Aside0.mk (order_f r y)
          obtain ⟨d, hd⟩ : ∃ d, order r y = d := ⟨_, rfl⟩
          rw [hd] at HOR h1
          have d1 : decide (d < 0) = false := decide_eq_false (by omega)
          have d2 : (d < 0) = False := eq_false (by omega)
          have d3 : (y.st != r.st) = true := bne_iff_ne.2 h2
          have d4 := eq_false h2
          clear ho ht hn hs hl hI7 hN hN60 h1 h2 hd
          go_upto_region 14 with (go_at_call 12; obtain ⟨ok_, hp_, hk_⟩ := sep_use1 HS.out; have hx_ := view_Of p s r.id _ ok_ hp_; rw [HO.out] at hx_; dsimp only at hx_; (with_reducible refine Calls.mono hx_ ?_); rintro e w1 ⟨rfl, hq_⟩; have n_ := back1 hk_ hq_; clear hx_ hp_ hk_ hq_; have n0_ := Aside0.mk n_; clear HS n_; have HS := n0_; clear n0_; clear m1 m2 m3 m4 m5; obtain ⟨m1, m2, m3, m4, m5⟩ := facts5 (sep_l1 HS.out))
          have n_ := sep_l1 (sep_alloc HS.out #[.int .i64 y.id, .int .i64 y.st, .int .u32 y.inc, .int .u32 y.ip, .int .u16 y.po] 31)
          have n0_ := Aside0.mk n_; clear HS n_; have HS := n0_; clear n0_
          generalize w1.alloc (.cells #[.int .i64 y.id, .int .i64 y.st, .int .u32 y.inc, .int .u32 y.ip, .int .u16 y.po] 31) = w2 at HS ⊢
          generalize w1.heap.size = g8 at HS ⊢
          clear m1 m2 m3 m4 m5; obtain ⟨m1, m2, m3, m4, m5⟩ := facts5 (sep_l2 HS.out); (try clear a1 a2 a3 a4 a5); obtain ⟨a1, a2, a3, a4, a5⟩ := facts5 (sep_l1 HS.out)
          go_upto_region 15 with (go_at_call 13; obtain ⟨ok_, hp_, hk_⟩ := sep_use1 HS.out; have hx_ := view_Seen p s _ ok_ hp_; rw [HNS.out] at hx_; (with_reducible refine Calls.mono hx_ ?_); rintro e w1 ⟨rfl, hq_⟩; have n_ := back1 hk_ hq_; clear hx_ hp_ hk_ hq_; have n0_ := Aside0.mk n_; clear HS n_; have HS := n0_; clear n0_; clear m1 m2 m3 m4 m5; obtain ⟨m1, m2, m3, m4, m5⟩ := facts5 (sep_l2 HS.out); (try clear a1 a2 a3 a4 a5); obtain ⟨a1, a2, a3, a4, a5⟩ := facts5 (sep_l1 HS.out))
          go_upto_region 16 with (go_at_call 14; obtain ⟨ok_, hp_, hk_⟩ := sep_use1 HS.out; have hx_ := view_Take p s r _ ok_ HI6.out.2.1 (by have := HI6.out.2.2; have := HI.out; omega) hp_; rw [HT.out] at hx_; dsimp only at hx_; (with_reducible refine Calls.mono hx_ ?_); rintro e w1 ⟨rfl, hq_⟩; have n_ := back1 hk_ hq_; clear hx_ hp_ hk_ hq_; have n0_ := Aside0.mk n_; clear HS n_; have HS := n0_; clear n0_; clear m1 m2 m3 m4 m5; obtain ⟨m1, m2, m3, m4, m5⟩ := facts5 (sep_l2 HS.out); (try clear a1 a2 a3 a4 a5); obtain ⟨a1, a2, a3, a4, a5⟩ := facts5 (sep_l1 HS.out))
          go_upto_region 17 with (go_at_call 12; obtain ⟨ok_, hp_, hk_⟩ := sep_use1 HS.out; have hx_ := view_Of p s' r.id _ ok_ hp_; rw [HN.out] at hx_; dsimp only at hx_; (with_reducible refine Calls.mono hx_ ?_); rintro e w1 ⟨rfl, hq_⟩; have n_ := back1 hk_ hq_; clear hx_ hp_ hk_ hq_; have n0_ := Aside0.mk n_; clear HS n_; have HS := n0_; clear n0_; clear m1 m2 m3 m4 m5; obtain ⟨m1, m2, m3, m4, m5⟩ := facts5 (sep_l2 HS.out); (try clear a1 a2 a3 a4 a5); obtain ⟨a1, a2, a3, a4, a5⟩ := facts5 (sep_l1 HS.out))
          have n_ := sep_l1 (sep_alloc HS.out #[.int .i64 r.id, .int .i64 r.st, .int .u32 r.inc, .int .u32 r.ip, .int .u16 r.po] 31)
          have n0_ := Aside0.mk n_; clear HS n_; have HS := n0_; clear n0_
          generalize w1.alloc (.cells #[.int .i64 r.id, .int .i64 r.st, .int .u32 r.inc, .int .u32 r.ip, .int .u16 r.po] 31) = w3 at HS ⊢
          generalize w1.heap.size = g13 at HS ⊢
          clear m1 m2 m3 m4 m5; obtain ⟨m1, m2, m3, m4, m5⟩ := facts5 (sep_l3 HS.out); clear a1 a2 a3 a4 a5; obtain ⟨a1, a2, a3, a4, a5⟩ := facts5 (sep_l2 HS.out); (try clear b1 b2 b3 b4 b5); obtain ⟨b1, b2, b3, b4, b5⟩ := facts5 (sep_l1 HS.out)
          go_upto_region 19 with (first | (go_at_call 15; (with_reducible refine Calls.mono (record_Order.calls 5 r.id r.st r.inc r.ip r.po y.id y.st y.inc y.ip y.po _ _ HOR.out) ?_); rintro e w1 ⟨rfl, hb_⟩; have n_ := sep_below HS.out hb_; clear hb_; have n0_ := Aside0.mk n_; clear HS n_; have HS := n0_; clear n0_; clear m1 m2 m3 m4 m5; obtain ⟨m1, m2, m3, m4, m5⟩ := facts5 (sep_l3 HS.out); clear a1 a2 a3 a4 a5; obtain ⟨a1, a2, a3, a4, a5⟩ := facts5 (sep_l2 HS.out); (try clear b1 b2 b3 b4 b5); obtain ⟨b1, b2, b3, b4, b5⟩ := facts5 (sep_l1 HS.out)) | (go_at_call 15; (with_reducible refine Calls.mono (record_Order.calls 5 r.id r.st r.inc r.ip r.po r.id r.st r.inc r.ip r.po _ _ HORR.out) ?_); rintro e w1 ⟨rfl, hb_⟩; have n_ := sep_below HS.out hb_; clear hb_; have n0_ := Aside0.mk n_; clear HS n_; have HS := n0_; clear n0_; clear m1 m2 m3 m4 m5; obtain ⟨m1, m2, m3, m4, m5⟩ := facts5 (sep_l3 HS.out); clear a1 a2 a3 a4 a5; obtain ⟨a1, a2, a3, a4, a5⟩ := facts5 (sep_l2 HS.out); (try clear b1 b2 b3 b4 b5); obtain ⟨b1, b2, b3, b4, b5⟩ := facts5 (sep_l1 HS.out)))
          go_upto_region 20 with (go_at_call 13; obtain ⟨ok_, hp_, hk_⟩ := sep_use1 HS.out; have hx_ := view_Seen p s' _ ok_ hp_; rw [HNT.out] at hx_; (with_reducible refine Calls.mono hx_ ?_); rintro e w1 ⟨rfl, hq_⟩; have n_ := back1 hk_ hq_; clear hx_ hp_ hk_ hq_; have n0_ := Aside0.mk n_; clear HS n_; have HS := n0_; clear n0_; clear m1 m2 m3 m4 m5; obtain ⟨m1, m2, m3, m4, m5⟩ := facts5 (sep_l3 HS.out); clear a1 a2 a3 a4 a5; obtain ⟨a1, a2, a3, a4, a5⟩ := facts5 (sep_l2 HS.out); (try clear b1 b2 b3 b4 b5); obtain ⟨b1, b2, b3, b4, b5⟩ := facts5 (sep_l1 HS.out))
          clear z1 z2 z3
          go_upto_region 22 with (fail)
          go_upto_region 23 with (go_at_call 16; obtain ⟨ok_, hp_, hk_⟩ := sep_use1 HS.out; have hx_ := view_Events p s' _ ok_ (Nat.le_trans HE1.out (by decide)) hp_; (with_reducible refine Calls.mono hx_ ?_); rintro e w1 ⟨v_, rfl, hq_⟩; have n_ := back2 hk_ hq_; clear hx_ hp_ hk_ hq_; have n0_ := Aside0.mk n_; clear HS n_; have HS := n0_; clear n0_)
          have HS2 := Aside0.mk (sep_l1 HS.out)
          clear m1 m2 m3 m4 m5 a1 a2 a3 a4 a5 b1 b2 b3 b4 b5
          obtain ⟨m, hlen, hm⟩ := HL.out
          obtain ⟨A, c, rfl, -, -⟩ := sep_row HS.out
          have hml : m ≤ 128 := by have := HE1.out; omega
          obtain ⟨g, rfl⟩ := row_addr HS.out (by rw [hlen]; omega)
          obtain ⟨e0, e1, e2, e3⟩ := ev_cells HS.out m _ hm
          dsimp only at e0 e1 e2 e3
          rw [hlen] at HS ⊢
          obtain ⟨m1, m2, m3, m4, m5⟩ := facts5 (sep_l4 HS.out)
          obtain ⟨a1, a2, a3, a4, a5⟩ := facts5 (sep_l3 HS.out)
          have z1 : wrap64 ((m : Int) + 1 - 1) = (m : Int) := by unfold wrap64; omega
          have z2 : wrap64 (m : Int) = (m : Int) := by unfold wrap64; omega
          have z3 : (m : Int) + 1 - 1 = (m : Int) := by omega
          have z4 : decide ((m : Int) < (m : Int) + 1) = true := decide_eq_true (by omega)
          have z5 : ((m : Int) < (m : Int) + 1) = True := eq_true (by omega)
          have z6 : ((m : Int) + 1 = 0) = False := eq_false (by omega)
          have z7 : (((m : Int) + 1) == 0) = false := by rw [beq_eq_false_iff_ne]; omega
          have z8 : (m + 1 = 0) = False := eq_false (by omega)
          have z9 := eq_true (Int.natCast_nonneg m)
          clear hlen hm hml
          go_upto_region 27 with (fail)
          have n_ := sep_alloc HS.out #[.int .i64 r.id, .int .i64 (y.st), .int .i64 r.st, .int .u32 r.inc] 46
          have n0_ := Aside0.mk n_; clear HS n_; have HS := n0_; clear n0_
          generalize w1.alloc (.cells #[.int .i64 r.id, .int .i64 (y.st), .int .i64 r.st, .int .u32 r.inc] 46) = w5 at HS ⊢
          generalize w1.heap.size = g17 at HS ⊢
          clear m1 m2 m3 m4 m5 a1 a2 a3 a4 a5 e0 e1 e2 e3 z1 z2 z3 z4 z5 z6 z7 z8 z9 HS2
          obtain ⟨m1, m2, m3, m4, m5⟩ := facts5 (sep_l5 HS.out)
          obtain ⟨a1, a2, a3, a4, a5⟩ := facts5 (sep_l4 HS.out)
          obtain ⟨e0, e1, e2, e3⟩ := facts4 HS.out
          have n_ := sep_rest (sep_only (sep_l2 HS.out))
          have n0_ := Aside0.mk n_; clear HS n_; have HS := n0_; clear n0_
          go_wp2
          go_roundg (60 - (i + 1))
          case measure => have := HI.out; omega
          case rel => exact ⟨i + 1, HI.out.1, HI.out.2.1, Nat.le_refl _, congrArg (Value.int .i64) (by have := HI.out; unfold wrap64; omega), _, ⟨HI7.out⟩, HS⟩
      · have c2b : decide ((i : Int) < 60) = false := decide_eq_false (by omega)
        have c2q : ((i : Int) < 60) = False := eq_false (by omega)
        have c2n := eq_false h60
        clear hi hi60 hgi hlt h60
        have hmem := Six_members s HI6.out.1
        obtain ⟨q, hq⟩ : ∃ q, (members s).length = q := ⟨_, rfl⟩
        have HQ := Aside0.mk hq
        rw [hq] at hmem
        have d1 : decide ((q : Int) ≤ 6) = true := decide_eq_true (by omega)
        have d2 : ((q : Int) ≤ 6) = True := eq_true (by omega)
        have d3 : (q ≤ 6) = True := eq_true hmem
        clear hmem hq
        go_wp2_with (go_at_call 17; obtain ⟨ok_, hp_, hk_⟩ := sep_use1 HS.out; have hx_ := view_Members p s _ ok_ hp_; (with_reducible refine Calls.mono hx_ ?_); rintro e w5 ⟨v_, rfl, hq_⟩; have n_ := back2 hk_ hq_; clear hx_ hp_ hk_ hq_; obtain ⟨Am, cm, rfl, -, -⟩ := sep_row n_; rw [HQ.out]; have n0_ := Aside0.mk n_; clear HS n_; have HS := n0_; clear n0_)
        go_ret
        exact ⟨rfl, sep_below_of HS.out⟩
    · obtain rfl : i = l.length := by omega
      have c2b : decide ((l.length : Int) < (l.length : Int)) = false := decide_eq_false (by omega)
      clear hi hi60 hgi hlt
      have hmem := Six_members s HI6.out.1
      obtain ⟨q, hq⟩ : ∃ q, (members s).length = q := ⟨_, rfl⟩
      have HQ := Aside0.mk hq
      rw [hq] at hmem
      have d1 : decide ((q : Int) ≤ 6) = true := decide_eq_true (by omega)
      have d2 : ((q : Int) ≤ 6) = True := eq_true (by omega)
      have d3 : (q ≤ 6) = True := eq_true hmem
      clear hmem hq
      go_wp2_with (go_at_call 17; obtain ⟨ok_, hp_, hk_⟩ := sep_use1 HS.out; have hx_ := view_Members p s _ ok_ hp_; (with_reducible refine Calls.mono hx_ ?_); rintro e w5 ⟨v_, rfl, hq_⟩; have n_ := back2 hk_ hq_; clear hx_ hp_ hk_ hq_; obtain ⟨Am, cm, rfl, -, -⟩ := sep_row n_; rw [HQ.out]; have n0_ := Aside0.mk n_; clear HS n_; have HS := n0_; clear n0_)
      go_ret
      exact ⟨rfl, sep_below_of HS.out⟩
end Go.Proofs.Ythpmlnnjfmcglaa.VW
