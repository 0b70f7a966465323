/- ViewOrder, walked. Conditions: those that the theorem names. -/
import Derived.Test.YthpmlnnjfmcglaaQM
import Derived.Test.YthpmlnnjfmcglaaLViewRises
namespace Go.Proofs.Ythpmlnnjfmcglaa.VW
set_option linter.unusedVariables false
set_option linter.unusedSimpArgs false
open Go Go.RowKit Go.Proofs.YthpmlnnjfmcglaaS Go.Proofs.YthpmlnnjfmcglaaS.Asn Go.Proofs.Ythpmlnnjfmcglaa.PA Go.Proofs.YthpmlnnjfmcglaaW.PrintWords Go.Proofs.YthpmlnnjfmcglaaW.PrintLast Go.Proofs.YthpmlnnjfmcglaaW.PrintMore
set_option maxHeartbeats 4000000 in
set_option maxRecDepth 100000 in
theorem order_walk (A1 : Option Addr) (c1 : Nat) (l : List Th) (w : World) (hr1 : Kd.C thK w A1 l.length l) (hc1 : l.length ≤ c1) (hok : ∀ x ∈ l, thOk x) :
    Calls Try.prog 7 #[.slice A1 l.length c1] w fun e w' => e = .returned (.bool true) ∧ Below w.heap.size w w' := by
  have HS := Aside0.mk (sep_start w)
  have HR1 := Aside0.mk hr1
  have HOK := Aside0.mk hok
  have HLN := Aside0.mk hr1.2.1
  obtain ⟨m, hm⟩ : ∃ m, min l.length 30 = m := ⟨_, rfl⟩
  have HM : Aside0 (m ≤ 30 ∧ m ≤ l.length) := ⟨by omega⟩
  have hmm : (if (l.length : Int) < 30 then (l.length : Int) else 30) = (m : Int) := by omega
  have hmn : (if (30 : Int) < (l.length : Int) then 30 else (l.length : Int)) = (m : Int) := by omega
  have hmo : min (l.length : Int) 30 = (m : Int) := by omega
  clear hr1 hc1 hok hm
  go_enter Try.func7, Try.ntmps7
  go_upto_region 5 with (first | (go_at_call 9; (with_reducible refine Calls.mono (examples_walk _) ?_); rintro e w1 ⟨rfl, hb_⟩; have n_ := sep_below HS.out hb_; clear hb_; have n0_ := Aside0.mk n_; clear HS n_; have HS := n0_; clear n0_) | (go_at_call 10; (with_reducible refine Calls.mono (view_New _) ?_); rintro e w2 ⟨pa, rfl, hm_⟩; have n_ := sep_made_of HS.out (sep_only hm_); clear hm_; have n0_ := Aside0.mk n_; clear HS n_; have HS := n0_; clear n0_))
  go_upto_region 6 with (first | (go_at_call 9; (with_reducible refine Calls.mono (examples_walk _) ?_); rintro e w1 ⟨rfl, hb_⟩; have n_ := sep_below HS.out hb_; clear hb_; have n0_ := Aside0.mk n_; clear HS n_; have HS := n0_; clear n0_) | (go_at_call 10; (with_reducible refine Calls.mono (view_New _) ?_); rintro e w2 ⟨pb, rfl, hm_⟩; have n_ := sep_made_of HS.out (sep_only hm_); clear hm_; have n0_ := Aside0.mk n_; clear HS n_; have HS := n0_; clear n0_))
  go_upto_region 11 with (first | (go_at_call 9; (with_reducible refine Calls.mono (examples_walk _) ?_); rintro e w1 ⟨rfl, hb_⟩; have n_ := sep_below HS.out hb_; clear hb_; have n0_ := Aside0.mk n_; clear HS n_; have HS := n0_; clear n0_) | (go_at_call 10; (with_reducible refine Calls.mono (view_New _) ?_); rintro e w2 ⟨pc, rfl, hm_⟩; have n_ := sep_made_of HS.out (sep_only hm_); clear hm_; have n0_ := Aside0.mk n_; clear HS n_; have HS := n0_; clear n0_))
  clear hmm hmn hmo
  have n_ := sep_row_nil (d := recK) (e := 31) HS.out
  have n0_ := Aside0.mk n_; clear HS n_; have HS := n0_; clear n0_
  go_upto_region 12 with (fail)
  go_loopg [7, 9] m (fun gg v7 v9 wr => ∃ i : Nat, i ≤ m ∧ m - i ≤ gg ∧ v9 = .int .i64 (i : Int) ∧ ∃ s, Aside0 (Kn s (ownL l i) ∧ s.E.length ≤ 128 ∧ s.seen ≤ i) ∧ Aside0 (Sep w (fun _ => False) (row recK 31 v7 (ownL l i) ⋆ viewA pc VS.new ⋆ viewA pb VS.new ⋆ viewA pa s ⋆ emp) wr))
  case atStart => exact ⟨0, Nat.zero_le _, by omega, rfl, _, ⟨Kn_new, by decide, by decide⟩, HS⟩
  case round =>
    clear HS
    obtain ⟨i, hi, hgi, rfl, s, HK, HS⟩ := hrel
    by_cases hlt0 : i < m
    · have c1b : decide ((i : Int) < (m : Int)) = true := decide_eq_true (Int.ofNat_lt.2 hlt0); have c1n : decide (i < m) = true := decide_eq_true hlt0; have c1q : (i < m) = True := eq_true hlt0; have p0_ := eq_true (Int.natCast_nonneg i)
      have hlt : i < l.length := Nat.lt_of_lt_of_le hlt0 HM.out.2
      have c3b : decide ((i : Int) < (l.length : Int)) = true := decide_eq_true (Int.ofNat_lt.2 hlt)
      have c3q := eq_true hlt
      have HIM := Aside0.mk hlt0
      obtain ⟨t, ht⟩ : ∃ t, l[i]? = some t := ⟨_, List.getElem?_eq_getElem hlt⟩
      have HTO := Aside0.mk (HOK.out t (List.mem_of_getElem? ht))
      obtain ⟨ad, hA, k0, k1, k2, k3, k4, k5⟩ := th_now HR1.out (sep_below_of HS.out) i t ht
      subst hA
      have hsu := ownL_succ l i t ht
      obtain ⟨r, hr⟩ : ∃ r, thE ⟨t.r, true⟩ = r := ⟨_, rfl⟩
      have hf := thing_f ⟨t.r, true⟩ HTO.out
      rw [show own1 t = r from hr] at hsu
      rw [hr] at hf
      dsimp only at hf
      have HF := Aside0.mk hf
      have HSU := Aside0.mk hsu
      have HI := Aside0.mk (And.intro hlt hgi)
      have HOL := Aside0.mk (ownL_len l i)
      have hrr := (thE_own ⟨t.r, true⟩ HTO.out rfl).1
      rw [hr] at hrr
      have HRR := Aside0.mk hrr
      clear hi hgi hlt hlt0 ht hf hr hsu hrr
      go_upto_region 15 with (fail)
      have n_ := sep_l1 (sep_alloc HS.out #[.int .i64 t.r.id, .int .i64 t.r.st, .int .u32 t.r.inc, .int .u32 t.r.ip, .int .u16 t.r.po, .bool t.own] 33)
      have n0_ := Aside0.mk n_; clear HS n_; have HS := n0_; clear n0_
      generalize wr.alloc (.cells #[.int .i64 t.r.id, .int .i64 t.r.st, .int .u32 t.r.inc, .int .u32 t.r.ip, .int .u16 t.r.po, .bool t.own] 33) = wa at HS ⊢
      generalize wr.heap.size = g6 at HS ⊢
      clear k0 k1 k2 k3 k4 k5
      have k5 := sep_cell (sep_l1 HS.out) 5
      have f5 := sep_frozen (sep_l1 HS.out) 5
      go_upto_region 16 with (fail)
      have n_ := sep_l1 (sep_set (sep_l1 HS.out) 5 (.bool true))
      rw [show (#[.int .i64 t.r.id, .int .i64 t.r.st, .int .u32 t.r.inc, .int .u32 t.r.ip, .int .u16 t.r.po, .bool t.own] : Array Value).setIfInBounds 5 (.bool true) = #[.int .i64 t.r.id, .int .i64 t.r.st, .int .u32 t.r.inc, .int .u32 t.r.ip, .int .u16 t.r.po, .bool true] from rfl] at n_
      have n0_ := Aside0.mk n_; clear HS n_; have HS := n0_; clear n0_
      generalize wa.setCell ⟨g6, 5, none⟩ (.bool true) = wb at HS ⊢
      clear k5 f5
      obtain ⟨k0, k1, k2, k3, k4, k5⟩ := facts6 (sep_l1 HS.out)
      go_upto_region 17 with (first | (go_at_call 11; (with_reducible refine Calls.mono (scuttlebuttlaw11_Thing_thing.calls t.r.id t.r.st t.r.inc t.r.ip t.r.po true r.id r.st r.inc r.ip r.po _ HF.out) ?_); rintro e w1 ⟨rfl, hb_⟩; have n_ := sep_below HS.out hb_; clear hb_; have n0_ := Aside0.mk n_; clear HS n_; have HS := n0_; clear n0_) | ((with_reducible refine gate_builtin (b := .append) (xs := #[.tmp 47, .tmp 50]) rfl ?_); at_builtin; refine wp_append recK rfl (.tmp 47) (.tmp 50) 47 31 z31 32 rfl Try.underlying47 info31 rfl (by decide) (by decide) _ (ownL l i) r (r).cells (by rfl) (by rfl) (recK_M _ _ _ _) HS.out (by have := HOL.out; have := HIM.out; have := HM.out; omega) ?_; intro v1_ w4 n_; have n0_ := Aside0.mk n_; clear HS n_; have HS := n0_; clear n0_))
      clear k0 k1 k2 k3 k4 k5
      obtain ⟨k0, k1, k2, k3, k4, k5⟩ := facts6 (sep_l1 HS.out)
      rw [← HSU.out] at HS
      go_wp2_with (first | (go_at_call 11; (with_reducible refine Calls.mono (scuttlebuttlaw11_Thing_thing.calls t.r.id t.r.st t.r.inc t.r.ip t.r.po true r.id r.st r.inc r.ip r.po _ HF.out) ?_); rintro e w1 ⟨rfl, hb_⟩; have n_ := sep_below HS.out hb_; clear hb_; have n0_ := Aside0.mk n_; clear HS n_; have HS := n0_; clear n0_) | (go_at_call 14; obtain ⟨ok_, hp_, hk_⟩ := sep_use1 (sep_l4 HS.out); have hx_ := view_Take pa s r _ ok_ (HK.out.2.1) ((by have := HK.out.2.2; have := HIM.out; have := HM.out; omega)) hp_; (with_reducible refine Calls.mono hx_ ?_); rintro e w1 ⟨rfl, hq_⟩; have n_ := back1 hk_ hq_; clear hx_ hp_ hk_ hq_; have n0_ := Aside0.mk n_; clear HS n_; have HS := n0_; clear n0_))
      have n_ := sep_l3 (sep_l3 (sep_l3 (sep_drop (sep_l2 HS.out))))
      have n0_ := Aside0.mk n_; clear HS n_; have HS := n0_; clear n0_
      go_roundg (m - (i + 1))
      case measure => have := HI.out; have := HIM.out; omega
      case rel => exact ⟨i + 1, HIM.out, Nat.le_refl _, congrArg (Value.int .i64) (by have := HIM.out; have := HM.out; unfold wrap64; omega), (takeE s r).2.2, ⟨by rw [HSU.out]; exact Kn_take HK.out.1 r HRR.out, take_len _ _ HK.out.2.1, Nat.le_trans (take_seen _ _) (Nat.succ_le_succ HK.out.2.2)⟩, HS⟩
    · obtain rfl : i = m := by omega
      have c2b : decide ((i : Int) < (i : Int)) = false := decide_eq_false (by omega)
      have hll := ownL_length l i HM.out.2
      have hrt := ownL_right l i HOK.out
      obtain ⟨LL, hLL⟩ : ∃ LL, ownL l i = LL := ⟨_, rfl⟩
      rw [hLL] at HS hll hrt HK
      obtain ⟨A, c, rfl, hc, hC⟩ := sep_row HS.out
      rw [hll] at HS ⊢
      have HLL := Aside0.mk hll
      have HRT := Aside0.mk hrt
      have HCC := Aside0.mk hc
      clear hi hgi hlt0 hLL hc hC hll hrt
      have w1_ : wrap64 ((i : Int) - 1) = (i : Int) - 1 := by have := HM.out; unfold wrap64; omega
      go_upto_region 19 with (fail)
      clear w1_
      go_loopg [11] i (fun gg v11 wr => ∃ r : Nat, r ≤ i ∧ r ≤ gg ∧ v11 = .int .i64 ((r : Int) - 1) ∧ ∃ s', Aside0 (Kb LL s' r) ∧ Aside0 (Sep w (fun _ => False) (viewA pb s' ⋆ row recK 31 (.slice A i c) LL ⋆ viewA pc VS.new ⋆ viewA pa s ⋆ emp) wr))
      case atStart => exact ⟨i, Nat.le_refl _, Nat.le_refl _, congrArg (Value.int .i64) (by have := HM.out; unfold wrap64; omega), _, ⟨by have := Kb_start LL; rw [HLL.out] at this; exact this⟩, ⟨sep_l2 HS.out⟩⟩
      case round =>
        clear HS
        obtain ⟨r, hr, hgr, rfl, s', HB, HS⟩ := hrel
        rcases Nat.eq_zero_or_pos r with h0 | h0
        · subst h0
          have hkb := Kb_end HB.out
          have hpos : ∀ r ∈ LL, (0 : Int) ≤ r.id := fun r hr => by have := (right_id (HRT.out r hr)).1; omega
          have hkc : Kn (mergeE VS.new LL).2.2 LL := by
            rw [merge_good VS.new LL (by rw [List.any_eq_false]; intro x hx; unfold bad; rw [HRT.out x hx]; decide)]
            have := Kn_mg Kn_new LL HRT.out
            rw [List.nil_append] at this
            exact this
          have e1 := members_congr (Kn_uniq hkb HK.out.1 hpos)
          have e2 := members_congr (Kn_uniq hkc HK.out.1 hpos)
          have e3 := merge_none HK.out.1 HRT.out
          have hrise := members_rise HK.out.1
          have hml := members_len s
          obtain ⟨M, hM⟩ : ∃ M, members s = M := ⟨_, rfl⟩
          rw [hM] at e1 e2 hrise hml
          have HMB := Aside0.mk e1
          have HMC := Aside0.mk e2
          have HMA := Aside0.mk hM
          have HNO := Aside0.mk e3
          have HRISE := Aside0.mk hrise
          have HML := Aside0.mk hml
          clear hr hgr hkb hpos hkc e1 e2 e3 hM hrise hml
          have d0 : ((0 : Nat) : Int) - 1 = -1 := rfl
          rw [d0]
          have n_ := sep_l2 (sep_l1 HS.out)
          have n0_ := Aside0.mk n_; clear HS n_; have HS := n0_; clear n0_
          go_upto_region 24 with (go_at_call 23; obtain ⟨ok_, hp_, hk_⟩ := sep_use2 HS.out; have hx_ := view_Merge pc VS.new A c LL _ ok_ ((by decide)) ((by decide)) (by have := HLL.out; have := HM.out; omega) (by rw [HLL.out]; exact hp_); rw [HLL.out] at hx_; skip; (with_reducible refine Calls.mono hx_ ?_); rintro e w1 ⟨v5_, rfl, hq_⟩; have n_ := back3 hk_ hq_; clear hx_ hp_ hk_ hq_; have n0_ := Aside0.mk n_; clear HS n_; have HS := n0_; clear n0_)
          have n_ := sep_drop HS.out
          have n0_ := Aside0.mk n_; clear HS n_; have HS := n0_; clear n0_
          go_upto_region 25 with (go_at_call 17; obtain ⟨ok_, hp_, hk_⟩ := sep_use1 (sep_l3 HS.out); have hx_ := view_Members pa s _ ok_ hp_; rw [HMA.out] at hx_; (with_reducible refine Calls.mono hx_ ?_); rintro e w1 ⟨v_, rfl, hq_⟩; have n_ := back2 hk_ hq_; clear hx_ hp_ hk_ hq_; have n0_ := Aside0.mk n_; clear HS n_; have HS := n0_; clear n0_)
          obtain ⟨Ax, cx, rfl, -, -⟩ := sep_row HS.out
          go_upto_region 26 with (go_at_call 17; obtain ⟨ok_, hp_, hk_⟩ := sep_use1 (sep_l4 HS.out); have hx_ := view_Members pb s' _ ok_ hp_; rw [HMB.out] at hx_; (with_reducible refine Calls.mono hx_ ?_); rintro e w1 ⟨v_, rfl, hq_⟩; have n_ := back2 hk_ hq_; clear hx_ hp_ hk_ hq_; have n0_ := Aside0.mk n_; clear HS n_; have HS := n0_; clear n0_)
          obtain ⟨Ay, cy, rfl, -, -⟩ := sep_row HS.out
          go_upto_region 27 with (go_at_call 17; obtain ⟨ok_, hp_, hk_⟩ := sep_use1 (sep_l4 HS.out); have hx_ := view_Members pc (mergeE VS.new LL).2.2 _ ok_ hp_; rw [HMC.out] at hx_; (with_reducible refine Calls.mono hx_ ?_); rintro e w1 ⟨v_, rfl, hq_⟩; have n_ := back2 hk_ hq_; clear hx_ hp_ hk_ hq_; have n0_ := Aside0.mk n_; clear HS n_; have HS := n0_; clear n0_)
          obtain ⟨Az, cz, rfl, -, -⟩ := sep_row HS.out
          have u1_ : ((M.length : Int) != (M.length : Int)) = false := by simp
          go_upto_region 30 with (fail)
          clear u1_
          go_loopg [15] M.length (fun gg v15 wr => ∃ kk : Nat, kk ≤ M.length ∧ M.length - kk ≤ gg ∧ v15 = .int .i64 (kk : Int) ∧ Aside0 (Sep w (fun _ => False) (row recK 31 (.slice Az M.length cz) M ⋆ viewA pc (mergeE VS.new LL).2.2 ⋆ row recK 31 (.slice Ay M.length cy) M ⋆ viewA pb s' ⋆ row recK 31 (.slice Ax M.length cx) M ⋆ viewA pa s ⋆ row recK 31 (.slice A i c) LL ⋆ emp) wr))
          case atStart => exact ⟨0, Nat.zero_le _, by omega, rfl, HS⟩
          case round =>
            clear HS
            obtain ⟨kk, hkk, hgk, rfl, HS⟩ := hrel
            by_cases hlt : kk < M.length
            · have c1b : decide ((kk : Int) < (M.length : Int)) = true := decide_eq_true (Int.ofNat_lt.2 hlt); have c1n : decide (kk < M.length) = true := decide_eq_true hlt; have c1q : (kk < M.length) = True := eq_true hlt; have p0_ := eq_true (Int.natCast_nonneg kk)
              obtain ⟨y, hy⟩ : ∃ y, M[kk]? = some y := ⟨_, List.getElem?_eq_getElem hlt⟩
              obtain ⟨gx, rfl⟩ := row_addr (sep_l4 HS.out) (by omega)
              obtain ⟨gy, rfl⟩ := row_addr (sep_l2 HS.out) (by omega)
              obtain ⟨gz, rfl⟩ := row_addr HS.out (by omega)
              obtain ⟨x0, x1, x2, x3, x4⟩ := rec_cells (sep_l4 HS.out) kk y hy
              obtain ⟨y0, y1, y2, y3, y4⟩ := rec_cells (sep_l2 HS.out) kk y hy
              obtain ⟨z0, z1, z2, z3, z4⟩ := rec_cells HS.out kk y hy
              rcases Nat.eq_zero_or_pos kk with h0 | h0
              · have t1 : decide ((kk : Int) > 0) = false := decide_eq_false (by omega)
                have t2 : decide ((0 : Int) < (kk : Int)) = false := decide_eq_false (by omega)
                have t3 : ((0 : Int) < (kk : Int)) = False := eq_false (by omega)
                have t4 : (0 < kk) = False := eq_false (by omega)
                have t5 : ((kk : Int) > 0) = False := eq_false (by omega)
                clear h0
                have HI := Aside0.mk (And.intro hlt hgk)
                clear hlt hgk hkk hy
                go_upto_region 32 with (fail)
                go_region
                all_goals
                  go_wp2
                  have n_ := sep_drew HS.out
                  have n0_ := Aside0.mk n_; clear HS n_; have HS := n0_; clear n0_
                  go_roundg (M.length - (kk + 1))
                  case measure => have := HI.out; omega
                  case rel => exact ⟨kk + 1, HI.out.1, Nat.le_refl _, congrArg (Value.int .i64) (by have := HI.out; have := HML.out; unfold wrap64; omega), HS⟩
              · obtain ⟨j, hj⟩ : ∃ j, kk = j + 1 := ⟨kk - 1, by omega⟩
                have hjl : j < M.length := by omega
                obtain ⟨v, hv⟩ : ∃ v, M[j]? = some v := ⟨_, List.getElem?_eq_getElem hjl⟩
                obtain ⟨v0, v1, v2, v3, v4⟩ := rec_cells (sep_l4 HS.out) j v hv
                have hlt2 := HRISE.out j v y hv (by rw [← hj]; exact hy)
                have s1 : decide (v.id ≥ y.id) = false := decide_eq_false (by omega)
                have s2 : decide (y.id ≤ v.id) = false := decide_eq_false (by omega)
                have s3 : (y.id ≤ v.id) = False := eq_false (by omega)
                have t1 : decide ((kk : Int) > 0) = true := decide_eq_true (by omega)
                have t2 : decide ((0 : Int) < (kk : Int)) = true := decide_eq_true (by omega)
                have t3 : ((0 : Int) < (kk : Int)) = True := eq_true (by omega)
                have t4 : (0 < kk) = True := eq_true (by omega)
                have w1_ : wrap64 ((kk : Int) - 1) = (j : Int) := by have := HML.out; unfold wrap64; omega
                have j1 := eq_true (Int.natCast_nonneg j)
                have j2 : ((j : Int) < (M.length : Int)) = True := eq_true (by omega)
                have j3 := eq_true hjl
                clear h0 hj hjl hv hlt2
                have HI := Aside0.mk (And.intro hlt hgk)
                clear hlt hgk hkk hy
                go_upto_region 32 with (fail)
                go_region
                all_goals
                  go_wp2
                  have n_ := sep_drew HS.out
                  have n0_ := Aside0.mk n_; clear HS n_; have HS := n0_; clear n0_
                  go_roundg (M.length - (kk + 1))
                  case measure => have := HI.out; omega
                  case rel => exact ⟨kk + 1, HI.out.1, Nat.le_refl _, congrArg (Value.int .i64) (by have := HI.out; have := HML.out; unfold wrap64; omega), HS⟩
            · obtain rfl : kk = M.length := by omega
              have c2b : decide ((M.length : Int) < (M.length : Int)) = false := decide_eq_false (by omega)
              have n_ := sep_l5 (sep_l5 (sep_drop HS.out))
              have n0_ := Aside0.mk n_; clear HS n_; have HS := n0_; clear n0_
              go_upto_region 35 with (go_at_call 23; obtain ⟨ok_, hp_, hk_⟩ := sep_use2 HS.out; have hx_ := view_Merge pa s A c LL _ ok_ (HK.out.2.1) ((by have := HK.out.2.2; have := HM.out; omega)) (by have := HLL.out; have := HM.out; omega) (by rw [HLL.out]; exact hp_); rw [HLL.out] at hx_; rw [HNO.out] at hx_; (with_reducible refine Calls.mono hx_ ?_); rintro e w1 ⟨v5_, rfl, hq_⟩; have n_ := back3 hk_ hq_; clear hx_ hp_ hk_ hq_; have n0_ := Aside0.mk n_; clear HS n_; have HS := n0_; clear n0_)
              obtain ⟨Aa, ca, rfl, -, -⟩ := sep_row HS.out
              go_wp2
              go_ret
              exact ⟨rfl, sep_below_of HS.out⟩
        · obtain ⟨r, rfl⟩ : ∃ r', r = r' + 1 := ⟨r - 1, by omega⟩
          have d0 : (((r + 1 : Nat)) : Int) - 1 = (r : Int) := by omega
          rw [d0]
          have hlt : r < i := by omega
          have c1b : decide ((r : Int) < (i : Int)) = true := decide_eq_true (Int.ofNat_lt.2 hlt); have c1n : decide (r < i) = true := decide_eq_true hlt; have c1q : (r < i) = True := eq_true hlt; have p0_ := eq_true (Int.natCast_nonneg r)
          obtain ⟨y, hy⟩ : ∃ y, LL[r]? = some y := ⟨_, List.getElem?_eq_getElem (by rw [HLL.out]; exact hlt)⟩
          obtain ⟨h, hh⟩ : ∃ h, i / 2 = h := ⟨_, rfl⟩
          have hhi : h < i := by omega
          obtain ⟨z, hz⟩ : ∃ z, LL[h]? = some z := ⟨_, List.getElem?_eq_getElem (by rw [HLL.out]; exact hhi)⟩
          obtain ⟨ga, rfl⟩ := row_addr (sep_l1 HS.out) (by rw [HLL.out]; omega)
          obtain ⟨x0, x1, x2, x3, x4⟩ := rec_cells (sep_l1 HS.out) r y hy
          have hb := HB.out
          obtain ⟨_, -, -, -, hE, hs⟩ := hb
          have HES : Aside0 (s'.E.length ≤ 128 ∧ s'.seen ≤ 60) := ⟨hE, by have := HLL.out; have := HM.out; omega⟩
          have HST := Aside0.mk (Kb_step HB.out hy hz HRT.out)
          have HY := Aside0.mk (And.intro hy hz)
          have HI := Aside0.mk (And.intro hlt hgr)
          have q1 : decide ((r : Int) ≥ 0) = true := decide_eq_true (by omega)
          have q2 : decide ((0 : Int) ≤ (r : Int)) = true := decide_eq_true (by omega)
          have q3 : Int.tdiv (i : Int) 2 = (h : Int) := by rw [Int.tdiv_eq_ediv_of_nonneg (by omega)]; omega
          have q4 : (i : Int) / 2 = (h : Int) := by omega
          have q5 : wrap64 (h : Int) = (h : Int) := by have := HM.out; unfold wrap64; omega
          have q6 := eq_true (Int.natCast_nonneg h)
          have q7 : ((h : Int) < (i : Int)) = True := eq_true (by omega)
          have q8 := eq_true hhi
          have w1_ : wrap64 ((r : Int) - 1) = (r : Int) - 1 := by have := HM.out; unfold wrap64; omega
          clear hr hgr h0 d0 hlt hy hz hh hhi hE hs
          go_upto_region 22 with (go_at_call 14; obtain ⟨ok_, hp_, hk_⟩ := sep_use1 (id HS.out); have hx_ := view_Take pb s' y _ ok_ (HES.out.1) ((by have := HES.out.2; omega)) hp_; (with_reducible refine Calls.mono hx_ ?_); rintro e w1 ⟨rfl, hq_⟩; have n_ := back1 hk_ hq_; clear hx_ hp_ hk_ hq_; have n0_ := Aside0.mk n_; clear HS n_; have HS := n0_; clear n0_)
          clear x0 x1 x2 x3 x4
          obtain ⟨x0, x1, x2, x3, x4⟩ := rec_cells (sep_l1 HS.out) h z HY.out.2
          go_wp2_with (go_at_call 14; obtain ⟨ok_, hp_, hk_⟩ := sep_use1 (id HS.out); have hx_ := view_Take pb (takeE s' y).2.2 z _ ok_ (take_len _ _ HES.out.1) ((by have := take_seen s' y; have := HES.out.2; omega)) hp_; (with_reducible refine Calls.mono hx_ ?_); rintro e w1 ⟨rfl, hq_⟩; have n_ := back1 hk_ hq_; clear hx_ hp_ hk_ hq_; have n0_ := Aside0.mk n_; clear HS n_; have HS := n0_; clear n0_)
          go_roundg r
          case measure => have := HI.out; omega
          case rel => exact ⟨r, Nat.le_of_lt HI.out.1, Nat.le_refl _, congrArg (Value.int .i64) (by have := HI.out; have := HM.out; unfold wrap64; omega), _, ⟨HST.out⟩, HS⟩
end Go.Proofs.Ythpmlnnjfmcglaa.VW
