/- ViewMerge, walked. Conditions: those that the theorem names. -/
import Derived.Test.YthpmlnnjfmcglaaQM
import Derived.Test.YthpmlnnjfmcglaaLViewRises
namespace Go.Proofs.Ythpmlnnjfmcglaa.VW
set_option linter.unusedVariables false
set_option linter.unusedSimpArgs false
open Go Go.RowKit Go.Proofs.YthpmlnnjfmcglaaS Go.Proofs.YthpmlnnjfmcglaaS.Asn Go.Proofs.Ythpmlnnjfmcglaa.PA Go.Proofs.YthpmlnnjfmcglaaW.PrintWords Go.Proofs.YthpmlnnjfmcglaaW.PrintLast Go.Proofs.YthpmlnnjfmcglaaW.PrintMore
theorem any_zero (a b : List Rec) : ((a ++ [Rec.zero]) ++ b).any bad = true := by
  rw [List.any_append, List.any_append, show [Rec.zero].any bad = true by decide +kernel, Bool.or_true, Bool.true_or]
set_option maxHeartbeats 4000000 in
set_option maxRecDepth 100000 in
theorem merge_walk (A1 : Option Addr) (c1 : Nat) (l : List Th) (bd : Bool) (x0 : Int) (w : World) (hr1 : Kd.C thK w A1 l.length l) (hc1 : l.length ≤ c1) (hok : ∀ x ∈ l, thOk x) (hx0 : 0 ≤ x0) (hx1 : x0 < 256) :
    Calls Try.prog 8 #[.slice A1 l.length c1, .bool bd, .int .u8 x0] w fun e w' => e = .returned (.bool true) ∧ Below w.heap.size w w' := by
  obtain ⟨x, rfl⟩ := Int.eq_ofNat_of_zero_le hx0
  have HX : Aside0 (x < 256) := ⟨by omega⟩
  have HS := Aside0.mk (sep_start w)
  have HR1 := Aside0.mk hr1
  have HOK := Aside0.mk hok
  have HLN := Aside0.mk hr1.2.1
  clear hr1 hc1 hok hx0 hx1
  go_enter Try.func8, Try.ntmps8
  go_upto_region 5 with (first | (go_at_call 9; (with_reducible refine Calls.mono (examples_walk _) ?_); rintro e w1 ⟨rfl, hb_⟩; have n_ := sep_below HS.out hb_; clear hb_; have n0_ := Aside0.mk n_; clear HS n_; have HS := n0_; clear n0_) | (go_at_call 10; (with_reducible refine Calls.mono (view_New _) ?_); rintro e w2 ⟨p, rfl, hm_⟩; have n_ := sep_made_of HS.out (sep_only hm_); clear hm_; have n0_ := Aside0.mk n_; clear HS n_; have HS := n0_; clear n0_))
  go_upto_region 9 with (first | (go_at_call 9; (with_reducible refine Calls.mono (examples_walk _) ?_); rintro e w1 ⟨rfl, hb_⟩; have n_ := sep_below HS.out hb_; clear hb_; have n0_ := Aside0.mk n_; clear HS n_; have HS := n0_; clear n0_) | (go_at_call 10; (with_reducible refine Calls.mono (view_New _) ?_); rintro e w2 ⟨q, rfl, hm_⟩; have n_ := sep_made_of HS.out (sep_only hm_); clear hm_; have n0_ := Aside0.mk n_; clear HS n_; have HS := n0_; clear n0_))
  have n_ := sep_row_nil (d := recK) (e := 31) HS.out
  have n0_ := Aside0.mk n_; clear HS n_; have HS := n0_; clear n0_
  go_upto_region 10 with (fail)
  go_loopg [10, 11] 20 (fun gg v10 v11 wr => ∃ i : Nat, i ≤ l.length ∧ i ≤ 20 ∧ 20 - i ≤ gg ∧ v11 = .int .i64 (i : Int) ∧ Aside0 (Sep w (fun _ => False) (row recK 31 v10 (ownL l i) ⋆ viewA q VS.new ⋆ viewA p VS.new ⋆ emp) wr))
  case atStart => exact ⟨0, Nat.zero_le _, by omega, by omega, rfl, HS⟩
  case round =>
    clear HS
    obtain ⟨i, hi, hi20, hgi, rfl, HS⟩ := hrel
    by_cases hlt : i < l.length
    · have c1b : decide ((i : Int) < (l.length : Int)) = true := decide_eq_true (Int.ofNat_lt.2 hlt); have c1n : decide (i < l.length) = true := decide_eq_true hlt; have c1q : (i < l.length) = True := eq_true hlt; have p0_ := eq_true (Int.natCast_nonneg i)
      by_cases h20 : i < 20
      · have c2b : decide ((i : Int) < 20) = true := decide_eq_true (by omega)
        have c2q : ((i : Int) < 20) = True := eq_true (by omega)
        have c2n := eq_true h20
        replace hgi := And.intro h20 hgi
        obtain ⟨t, ht⟩ : ∃ t, l[i]? = some t := ⟨_, List.getElem?_eq_getElem hlt⟩
        have HTO := Aside0.mk (HOK.out t (List.mem_of_getElem? ht))
        obtain ⟨ad, hA, k0, k1, k2, k3, k4, k5⟩ := th_now HR1.out (sep_below_of HS.out) i t ht
        subst hA
        have hsu := ownL_succ l i t ht
        obtain ⟨r, hr⟩ : ∃ r, thE ⟨t.r, true⟩ = r := ⟨_, rfl⟩
        have hf := thing_f ⟨t.r, true⟩ HTO.out
        rw [show own1 t = r from hr] at hsu
        rw [hr] at hf
        dsimp only at hf
        have HF := Aside0.mk hf
        have HSU := Aside0.mk hsu
        have HI := Aside0.mk (And.intro hlt hgi)
        have HOL := Aside0.mk (ownL_len l i)
        clear hi hi20 hgi hlt h20 ht hf hr hsu
        go_upto_region 13 with (fail)
        have n_ := sep_l1 (sep_alloc HS.out #[.int .i64 t.r.id, .int .i64 t.r.st, .int .u32 t.r.inc, .int .u32 t.r.ip, .int .u16 t.r.po, .bool t.own] 33)
        have n0_ := Aside0.mk n_; clear HS n_; have HS := n0_; clear n0_
        generalize wr.alloc (.cells #[.int .i64 t.r.id, .int .i64 t.r.st, .int .u32 t.r.inc, .int .u32 t.r.ip, .int .u16 t.r.po, .bool t.own] 33) = wa at HS ⊢
        generalize wr.heap.size = g6 at HS ⊢
        clear k0 k1 k2 k3 k4 k5
        have k5 := sep_cell (sep_l1 HS.out) 5
        have f5 := sep_frozen (sep_l1 HS.out) 5
        go_upto_region 14 with (fail)
        have n_ := sep_l1 (sep_set (sep_l1 HS.out) 5 (.bool true))
        rw [show (#[.int .i64 t.r.id, .int .i64 t.r.st, .int .u32 t.r.inc, .int .u32 t.r.ip, .int .u16 t.r.po, .bool t.own] : Array Value).setIfInBounds 5 (.bool true) = #[.int .i64 t.r.id, .int .i64 t.r.st, .int .u32 t.r.inc, .int .u32 t.r.ip, .int .u16 t.r.po, .bool true] from rfl] at n_
        have n0_ := Aside0.mk n_; clear HS n_; have HS := n0_; clear n0_
        generalize wa.setCell ⟨g6, 5, none⟩ (.bool true) = wb at HS ⊢
        clear k5 f5
        obtain ⟨k0, k1, k2, k3, k4, k5⟩ := facts6 (sep_l1 HS.out)
        go_wp2_with (first | (go_at_call 11; (with_reducible refine Calls.mono (scuttlebuttlaw11_Thing_thing.calls t.r.id t.r.st t.r.inc t.r.ip t.r.po true r.id r.st r.inc r.ip r.po _ HF.out) ?_); rintro e w1 ⟨rfl, hb_⟩; have n_ := sep_below HS.out hb_; clear hb_; have n0_ := Aside0.mk n_; clear HS n_; have HS := n0_; clear n0_) | ((with_reducible refine gate_builtin (b := .append) (xs := #[.tmp 47, .tmp 50]) rfl ?_); at_builtin; refine wp_append recK rfl (.tmp 47) (.tmp 50) 47 31 z31 32 rfl Try.underlying47 info31 rfl (by decide) (by decide) _ (ownL l i) r (r).cells (by rfl) (by rfl) (recK_M _ _ _ _) HS.out (by have := HOL.out; have := HI.out; omega) ?_; intro v1_ w4 n_; have n0_ := Aside0.mk n_; clear HS n_; have HS := n0_; clear n0_))
        rw [← HSU.out] at HS
        have n_ := sep_drop (sep_l1 HS.out)
        have n0_ := Aside0.mk n_; clear HS n_; have HS := n0_; clear n0_
        go_roundg (20 - (i + 1))
        case measure => have := HI.out; omega
        case rel => exact ⟨i + 1, HI.out.1, HI.out.2.1, Nat.le_refl _, congrArg (Value.int .i64) (by have := HI.out; unfold wrap64; omega), HS⟩
      · have c2b : decide ((i : Int) < 20) = false := decide_eq_false (by omega)
        have c2q : ((i : Int) < 20) = False := eq_false (by omega)
        have c2n := eq_false h20
        have HI : Aside0 (i ≤ 20) := ⟨hi20⟩
        clear hi hi20 hgi hlt h20
        go_upto_region 15 with (fail)
        have HRT := Aside0.mk (ownL_good l i HOK.out)
        have HLE := Aside0.mk (ownL_len l i)
        obtain ⟨LL, hLL⟩ : ∃ LL, ownL l i = LL := ⟨_, rfl⟩
        rw [hLL] at HS HRT HLE
        clear hLL
        obtain ⟨A, c, rfl, hc, hC⟩ := sep_row HS.out
        have HCC := Aside0.mk hc
        clear hc hC
        have HL20 : Aside0 (LL.length ≤ 20) := ⟨by have := HLE.out; have := HI.out; omega⟩
        cases bd with
        | true =>
          obtain ⟨n, hn⟩ : ∃ n, LL.length = n := ⟨_, rfl⟩
          have HN := Aside0.mk hn
          obtain ⟨k, hk⟩ : ∃ k, x % (n + 1) = k := ⟨_, rfl⟩
          have hkn : k ≤ n := by have := Nat.mod_lt x (show 0 < n + 1 by omega); omega
          have HK := Aside0.mk hkn
          have hn20 : n ≤ 20 := by have := HL20.out; omega
          have HN20 := Aside0.mk hn20
          have w1_ : wrap64 ((n : Int) + 1) = (n : Int) + 1 := by unfold wrap64; omega
          have w2_ : wrap64 (x : Int) = (x : Int) := by have := HX.out; unfold wrap64; omega
          have r2 : (x : Int) % ((n : Int) + 1) = (k : Int) := by rw [← hk]; rfl
          have r1 : Int.tmod (x : Int) ((n : Int) + 1) = (k : Int) := by rw [Int.tmod_eq_emod_of_nonneg (by omega)]; exact r2
          have e5 : ((n : Int) + 1 = 0) = False := eq_false (by omega)
          have e6 : (((n : Int) + 1) == 0) = false := by rw [beq_eq_false_iff_ne]; omega
          have e7 : (n + 1 = 0) = False := eq_false (by omega)
          rw [hn] at HS ⊢
          have hcn : n ≤ c := by have := HCC.out; omega
          have HCN := Aside0.mk hcn
          clear HCC
          obtain ⟨i0, hi0, hz_⟩ := Option.map_eq_some_iff.1 info31
          have hsz0 : i0.size = 5 := by injection hz_ with _ h1; injection h1
          have hcutA : ∀ W : World, (Instr.slice 47 (.slice A n c) none (some (.int .i64 (k : Int))) none).run Try.prog W = .ok (.slice A k c) W := cut_to (P := Try.prog) 47 31 .i64 Try.underlying47 hi0 A n c (k : Int) (by omega) (by omega) hcn
          obtain ⟨A2, hA2⟩ : ∃ A2, (if c = k then A else A.map (·.add (k * 5))) = A2 := ⟨_, rfl⟩
          have hcutB : ∀ W : World, (Instr.slice 47 (.slice A n c) (some (.int .i64 (k : Int))) none none).run Try.prog W = .ok (.slice A2 (n - k) (c - k)) W := by
            have := cut_from (P := Try.prog) 47 31 .i64 Try.underlying47 hi0 5 hsz0 A n c (k : Int) (by omega) (by omega)
            rw [show ((k : Int)).toNat = k by omega, hA2] at this
            exact this
          have HA2 := Aside0.mk hA2
          have p1_ := eq_true (Int.natCast_nonneg k)
          have p2_ : ((k : Int) ≤ (n : Int)) = True := eq_true (by omega)
          have p3_ := eq_true hkn
          clear hz_ hsz0 hi0 hA2 hk hkn hn hn20 hcn
          go_upto_region 18 with (fail)
          have n_ := sep_row_nil (d := recK) (e := 31) HS.out
          have n0_ := Aside0.mk n_; clear HS n_; have HS := n0_; clear n0_
          clear w1_ w2_ r1 r2 e5 e6 e7
          go_upto_region 19 with ((with_reducible refine gate_builtin (b := .append) (xs := #[.tmp 59, .tmp 62]) rfl ?_); at_builtin; refine wp_append_rows recK rfl (.tmp 59) (.tmp 62) 47 31 z31 32 rfl Try.underlying47 info31 rfl (by decide) (by decide) _ [] (LL.take k) A k c (by rfl) (by rfl) HS.out (by have h := Kd.C_take (sep_row' (sep_l1 HS.out)).2.2 (show k ≤ LL.length by rw [HN.out]; exact HK.out); rw [List.length_take, HN.out, Nat.min_eq_left HK.out] at h; exact h) (fun x cs hk => by rw [recK_open hk]; exact recK_M _ _ _ _) (by have := HK.out; have := HN20.out; simp only [List.length_nil]; omega) ?_; intro v1_ w4 n_; have n0_ := Aside0.mk n_; clear HS n_; have HS := n0_; clear n0_)
          rw [List.nil_append] at HS
          go_upto_region 20 with ((with_reducible refine gate_builtin (b := .append) (xs := #[.tmp 64, .tmp 66]) rfl ?_); at_builtin; refine wp_append recK rfl (.tmp 64) (.tmp 66) 47 31 z31 32 rfl Try.underlying47 info31 rfl (by decide) (by decide) _ (LL.take k) Rec.zero [.int .i64 0, .int .i64 0, .int .u32 0, .int .u32 0, .int .u16 0] (by rfl) (by rfl) (recK_M _ _ _ Rec.zero) HS.out (by have := HK.out; have := HN20.out; rw [List.length_take]; omega) ?_; intro v1_ w4 n_; have n0_ := Aside0.mk n_; clear HS n_; have HS := n0_; clear n0_)
          go_upto_region 21 with ((with_reducible refine gate_builtin (b := .append) (xs := #[.tmp 68, .tmp 71]) rfl ?_); at_builtin; refine wp_append_rows recK rfl (.tmp 68) (.tmp 71) 47 31 z31 32 rfl Try.underlying47 info31 rfl (by decide) (by decide) _ (LL.take k ++ [Rec.zero]) (LL.drop k) A2 (n - k) (c - k) (by rfl) (by rfl) HS.out (by have h := Kd.C_drop (m := k) (sep_row' (sep_l1 HS.out)).2.2 (show k ≤ LL.length by rw [HN.out]; exact HK.out) (show LL.length ≤ c by rw [HN.out]; exact HCN.out); rw [List.length_drop, HN.out] at h; rw [← HA2.out]; exact h) (fun x cs hk => by rw [recK_open hk]; exact recK_M _ _ _ _) (by have := HK.out; have := HN20.out; simp only [List.length_append, List.length_take, List.length_singleton]; omega) ?_; intro v1_ w4 n_; have n0_ := Aside0.mk n_; clear HS n_; have HS := n0_; clear n0_)
          have HBD := Aside0.mk (any_zero (LL.take k) (LL.drop k))
          have HB22 : Aside0 (((LL.take k ++ [Rec.zero]) ++ LL.drop k).length ≤ 100000000) := ⟨by have := HN20.out; have := HN.out; simp only [List.length_append, List.length_take, List.length_singleton, List.length_drop]; omega⟩
          generalize (LL.take k ++ [Rec.zero]) ++ LL.drop k = NL at HS HBD HB22
          have HME := Aside0.mk (merge_bad VS.new NL HBD.out)
          obtain ⟨A3, c3, rfl, -, -⟩ := sep_row HS.out
          have n_ := sep_l2 (sep_drop (sep_l1 HS.out))
          have n0_ := Aside0.mk n_; clear HS n_; have HS := n0_; clear n0_
          clear hcutA hcutB p1_ p2_ p3_
          go_upto_region 23 with (go_at_call 23; obtain ⟨ok_, hp_, hk_⟩ := sep_use2 HS.out; have hx_ := view_Merge p VS.new A3 c3 NL _ ok_ (by decide) (by decide) (by exact HB22.out) hp_; rw [HME.out] at hx_; dsimp only at hx_; (with_reducible refine Calls.mono hx_ ?_); rintro e w1 ⟨v5_, rfl, hq_⟩; have n_ := back3 hk_ hq_; clear hx_ hp_ hk_ hq_; have n0_ := Aside0.mk n_; clear HS n_; have HS := n0_; clear n0_)
          obtain ⟨A4, c4, rfl, -, -⟩ := sep_row HS.out
          have n_ := sep_drop HS.out
          have n0_ := Aside0.mk n_; clear HS n_; have HS := n0_; clear n0_
          go_wp2_with (first | (go_at_call 17; obtain ⟨ok_, hp_, hk_⟩ := sep_use1 HS.out; have hx_ := view_Members p VS.new _ ok_ hp_; rw [members_new] at hx_; (with_reducible refine Calls.mono hx_ ?_); rintro e w5 ⟨v_, rfl, hq_⟩; have n_ := sep_drop (back2 hk_ hq_); have n2_ := back2 hk_ hq_; clear hx_ hp_ hk_ hq_; obtain ⟨Am, cm, rfl, -, -⟩ := sep_row n2_; clear n2_; have n0_ := Aside0.mk n_; clear HS n_; have HS := n0_; clear n0_) | (go_at_call 13; obtain ⟨ok_, hp_, hk_⟩ := sep_use1 (id HS.out); have hx_ := view_Seen p VS.new _ ok_ hp_; (with_reducible refine Calls.mono hx_ ?_); rintro e w1 ⟨rfl, hq_⟩; have n_ := back1 hk_ hq_; clear hx_ hp_ hk_ hq_; have n0_ := Aside0.mk n_; clear HS n_; have HS := n0_; clear n0_))
          go_ret
          exact ⟨rfl, sep_below_of HS.out⟩
        | false =>
          have HME := Aside0.mk (merge_good VS.new LL HRT.out)
          have n_ := sep_l2 HS.out
          have n0_ := Aside0.mk n_; clear HS n_; have HS := n0_; clear n0_
          go_upto_region 22 with (go_at_call 23; obtain ⟨ok_, hp_, hk_⟩ := sep_use2 HS.out; have hx_ := view_Merge p VS.new A c LL _ ok_ (by decide) (by decide) (by have := HL20.out; omega) hp_; rw [HME.out] at hx_; dsimp only at hx_; (with_reducible refine Calls.mono hx_ ?_); rintro e w1 ⟨v5_, rfl, hq_⟩; have n_ := back3 hk_ hq_; clear hx_ hp_ hk_ hq_; have n0_ := Aside0.mk n_; clear HS n_; have HS := n0_; clear n0_)
          obtain ⟨o, ho⟩ : ∃ o, (mg VS.new LL).1 = o := ⟨_, rfl⟩
          obtain ⟨sv, hsv⟩ : ∃ sv, (mg VS.new LL).2 = sv := ⟨_, rfl⟩
          rw [ho, hsv] at HS
          have HO := Aside0.mk ho
          have HSV := Aside0.mk hsv
          clear ho hsv
          obtain ⟨Ao, co, rfl, -, hCo⟩ := sep_row HS.out
          have HOL : Aside0 (o.length ≤ 20) := ⟨by have h := (mg_ok VS.new LL LL.length (by decide)).2.2; rw [List.take_length, HO.out] at h; have := HL20.out; omega⟩
          have n_ := sep_l3 (sep_l2 HS.out)
          have n0_ := Aside0.mk n_; clear HS n_; have HS := n0_; clear n0_
          clear hCo
          go_upto_region 26 with (fail)
          go_loopg [17, 18] LL.length (fun gg v17 v18 wr => ∃ i : Nat, i ≤ LL.length ∧ LL.length - i ≤ gg ∧ v18 = .int .i64 (i : Int) ∧ v17 = .int .i64 ((mg VS.new (LL.take i)).1.length : Int) ∧ Aside0 (Sep w (fun _ => False) (viewA q (mg VS.new (LL.take i)).2 ⋆ row recK 31 (.slice A LL.length c) LL ⋆ row recK 31 (.slice Ao o.length co) o ⋆ viewA p sv ⋆ emp) wr))
          case atStart => exact ⟨0, Nat.zero_le _, by omega, rfl, rfl, HS⟩
          case round =>
            clear HS HI
            obtain ⟨i, hi, hgi, rfl, rfl, HS⟩ := hrel
            by_cases hlt : i < LL.length
            · have c1b : decide ((i : Int) < (LL.length : Int)) = true := decide_eq_true (Int.ofNat_lt.2 hlt); have c1n : decide (i < LL.length) = true := decide_eq_true hlt; have c1q : (i < LL.length) = True := eq_true hlt; have p0_ := eq_true (Int.natCast_nonneg i)
              obtain ⟨y, hy⟩ : ∃ y, LL[i]? = some y := ⟨_, List.getElem?_eq_getElem hlt⟩
              obtain ⟨ga, rfl⟩ := row_addr (sep_l1 HS.out) (by omega)
              obtain ⟨k0, k1, k2, k3, k4⟩ := rec_cells (sep_l1 HS.out) i y hy
              have hsn : mg VS.new (LL.take (i + 1)) = mgF (mg VS.new (LL.take i)) y := by rw [List.take_add_one, hy, Option.toList_some, mg_snoc]
              have hmk := mg_ok VS.new LL i (by decide)
              have hat := mg_at VS.new LL i y hy
              obtain ⟨⟨o1, s1⟩, hm⟩ : ∃ x, mg VS.new (LL.take i) = x := ⟨_, rfl⟩
              rw [hm] at HS hsn hmk hat
              dsimp only at HS hmk hat
              unfold mgF at hsn
              dsimp only at hsn
              obtain ⟨⟨tk, te, s2⟩, ht⟩ : ∃ x, takeE s1 y = x := ⟨_, rfl⟩
              rw [ht] at hsn hat
              rw [HO.out] at hat
              dsimp only at hsn hat
              obtain ⟨mn, hmn⟩ : ∃ mn, o1.length = mn := ⟨_, rfl⟩
              have hgm : ((mg VS.new (LL.take i)).1.length : Int) = (mn : Int) := by rw [hm]; exact congrArg _ hmn
              rw [hgm]
              rw [hmn] at hmk hat
              have HT := Aside0.mk ht
              have HSN := Aside0.mk hsn
              have HMN := Aside0.mk hmn
              have HMK := Aside0.mk hmk
              have HI := Aside0.mk (And.intro hlt hgi)
              have HAT := Aside0.mk hat
              have HY := Aside0.mk hy
              clear hi hgi hlt hy hsn hm hmk ht hat hgm hmn
              go_upto_region 29 with (go_at_call 14; obtain ⟨ok_, hp_, hk_⟩ := sep_use1 HS.out; have hx_ := view_Take q s1 y _ ok_ HMK.out.1 (by have := HMK.out.2.1; have := HI.out; have := HL20.out; have h0 : VS.new.seen = 0 := rfl; omega) hp_; rw [HT.out] at hx_; dsimp only at hx_; (with_reducible refine Calls.mono hx_ ?_); rintro e w1 ⟨rfl, hq_⟩; have n_ := back1 hk_ hq_; clear hx_ hp_ hk_ hq_; have n0_ := Aside0.mk n_; clear HS n_; have HS := n0_; clear n0_)
              have hsn := HSN.out
              clear k0 k1 k2 k3 k4
              cases tk with
              | true =>
                rw [if_pos rfl] at hsn
                have hat := HAT.out rfl
                obtain ⟨hlo, -⟩ := List.getElem?_eq_some_iff.1 hat
                obtain ⟨go, rfl⟩ := row_addr (sep_l2 HS.out) (by omega)
                obtain ⟨k0, k1, k2, k3, k4⟩ := rec_cells (sep_l1 HS.out) i y HY.out
                obtain ⟨m0, m1, m2, m3, m4⟩ := rec_cells (sep_l2 HS.out) mn y hat
                have d1 : decide ((mn : Int) ≥ (o.length : Int)) = false := decide_eq_false (by omega)
                have d2 : decide ((o.length : Int) ≤ (mn : Int)) = false := decide_eq_false (by omega)
                have d3 : ((o.length : Int) ≤ (mn : Int)) = False := eq_false (by omega)
                have d4 : decide ((mn : Int) < (o.length : Int)) = true := decide_eq_true (by omega)
                have d5 : ((mn : Int) < (o.length : Int)) = True := eq_true (by omega)
                have d6 := eq_true hlo
                have d7 := eq_true (Int.natCast_nonneg mn)
                have hmn20 : mn ≤ 20 := by have := HOL.out; omega
                have w1_ : wrap64 ((mn : Int) + 1) = (mn : Int) + 1 := by unfold wrap64; omega
                clear hat hlo hmn20
                go_upto_region 30 with (fail)
                go_region
                all_goals
                  go_wp2
                  have n_ := sep_drew HS.out
                  have n0_ := Aside0.mk n_; clear HS n_; have HS := n0_; clear n0_
                  go_roundg (LL.length - (i + 1))
                  case measure => have := HI.out; omega
                  case rel =>
                    refine ⟨i + 1, HI.out.1, Nat.le_refl _, congrArg (Value.int .i64) (by have := HI.out; have := HL20.out; unfold wrap64; omega), ?_, ⟨?_⟩⟩
                    · rw [hsn, List.length_append, List.length_singleton, HMN.out]; rfl
                    · rw [hsn]; exact HS.out
              | false =>
                rw [if_neg (by decide)] at hsn
                go_wp2
                go_roundg (LL.length - (i + 1))
                case measure => have := HI.out; omega
                case rel =>
                  refine ⟨i + 1, HI.out.1, Nat.le_refl _, congrArg (Value.int .i64) (by have := HI.out; have := HL20.out; unfold wrap64; omega), ?_, ⟨?_⟩⟩
                  · rw [hsn, HMN.out]
                  · rw [hsn]; exact HS.out
            · obtain rfl : i = LL.length := by omega
              rw [List.take_length] at HS ⊢
              rw [HO.out]
              rw [HSV.out] at HS
              have c2b : decide ((LL.length : Int) < (LL.length : Int)) = false := decide_eq_false (by omega)
              go_wp2_with (first | (go_at_call 13; obtain ⟨ok_, hp_, hk_⟩ := sep_use1 (sep_l3 HS.out); have hx_ := view_Seen p sv _ ok_ hp_; (with_reducible refine Calls.mono hx_ ?_); rintro e w1 ⟨rfl, hq_⟩; have n_ := back1 hk_ hq_; clear hx_ hp_ hk_ hq_; have n0_ := Aside0.mk n_; clear HS n_; have HS := n0_; clear n0_) | (go_at_call 13; obtain ⟨ok_, hp_, hk_⟩ := sep_use1 (sep_l1 HS.out); have hx_ := view_Seen q sv _ ok_ hp_; (with_reducible refine Calls.mono hx_ ?_); rintro e w1 ⟨rfl, hq_⟩; have n_ := back1 hk_ hq_; clear hx_ hp_ hk_ hq_; have n0_ := Aside0.mk n_; clear HS n_; have HS := n0_; clear n0_))
              go_ret
              exact ⟨rfl, sep_below_of HS.out⟩
    · obtain rfl : i = l.length := by omega
      have c2b : decide ((l.length : Int) < (l.length : Int)) = false := decide_eq_false (by omega)
      have HI : Aside0 (l.length ≤ 20) := ⟨hi20⟩
      clear hi hi20 hgi hlt
      go_upto_region 15 with (fail)
      generalize l.length = i at HI HS ⊢
      have HRT := Aside0.mk (ownL_good l i HOK.out)
      have HLE := Aside0.mk (ownL_len l i)
      obtain ⟨LL, hLL⟩ : ∃ LL, ownL l i = LL := ⟨_, rfl⟩
      rw [hLL] at HS HRT HLE
      clear hLL
      obtain ⟨A, c, rfl, hc, hC⟩ := sep_row HS.out
      have HCC := Aside0.mk hc
      clear hc hC
      have HL20 : Aside0 (LL.length ≤ 20) := ⟨by have := HLE.out; have := HI.out; omega⟩
      cases bd with
      | true =>
        obtain ⟨n, hn⟩ : ∃ n, LL.length = n := ⟨_, rfl⟩
        have HN := Aside0.mk hn
        obtain ⟨k, hk⟩ : ∃ k, x % (n + 1) = k := ⟨_, rfl⟩
        have hkn : k ≤ n := by have := Nat.mod_lt x (show 0 < n + 1 by omega); omega
        have HK := Aside0.mk hkn
        have hn20 : n ≤ 20 := by have := HL20.out; omega
        have HN20 := Aside0.mk hn20
        have w1_ : wrap64 ((n : Int) + 1) = (n : Int) + 1 := by unfold wrap64; omega
        have w2_ : wrap64 (x : Int) = (x : Int) := by have := HX.out; unfold wrap64; omega
        have r2 : (x : Int) % ((n : Int) + 1) = (k : Int) := by rw [← hk]; rfl
        have r1 : Int.tmod (x : Int) ((n : Int) + 1) = (k : Int) := by rw [Int.tmod_eq_emod_of_nonneg (by omega)]; exact r2
        have e5 : ((n : Int) + 1 = 0) = False := eq_false (by omega)
        have e6 : (((n : Int) + 1) == 0) = false := by rw [beq_eq_false_iff_ne]; omega
        have e7 : (n + 1 = 0) = False := eq_false (by omega)
        rw [hn] at HS ⊢
        have hcn : n ≤ c := by have := HCC.out; omega
        have HCN := Aside0.mk hcn
        clear HCC
        obtain ⟨i0, hi0, hz_⟩ := Option.map_eq_some_iff.1 info31
        have hsz0 : i0.size = 5 := by injection hz_ with _ h1; injection h1
        have hcutA : ∀ W : World, (Instr.slice 47 (.slice A n c) none (some (.int .i64 (k : Int))) none).run Try.prog W = .ok (.slice A k c) W := cut_to (P := Try.prog) 47 31 .i64 Try.underlying47 hi0 A n c (k : Int) (by omega) (by omega) hcn
        obtain ⟨A2, hA2⟩ : ∃ A2, (if c = k then A else A.map (·.add (k * 5))) = A2 := ⟨_, rfl⟩
        have hcutB : ∀ W : World, (Instr.slice 47 (.slice A n c) (some (.int .i64 (k : Int))) none none).run Try.prog W = .ok (.slice A2 (n - k) (c - k)) W := by
          have := cut_from (P := Try.prog) 47 31 .i64 Try.underlying47 hi0 5 hsz0 A n c (k : Int) (by omega) (by omega)
          rw [show ((k : Int)).toNat = k by omega, hA2] at this
          exact this
        have HA2 := Aside0.mk hA2
        have p1_ := eq_true (Int.natCast_nonneg k)
        have p2_ : ((k : Int) ≤ (n : Int)) = True := eq_true (by omega)
        have p3_ := eq_true hkn
        clear hz_ hsz0 hi0 hA2 hk hkn hn hn20 hcn
        go_upto_region 18 with (fail)
        have n_ := sep_row_nil (d := recK) (e := 31) HS.out
        have n0_ := Aside0.mk n_; clear HS n_; have HS := n0_; clear n0_
        clear w1_ w2_ r1 r2 e5 e6 e7
        go_upto_region 19 with ((with_reducible refine gate_builtin (b := .append) (xs := #[.tmp 59, .tmp 62]) rfl ?_); at_builtin; refine wp_append_rows recK rfl (.tmp 59) (.tmp 62) 47 31 z31 32 rfl Try.underlying47 info31 rfl (by decide) (by decide) _ [] (LL.take k) A k c (by rfl) (by rfl) HS.out (by have h := Kd.C_take (sep_row' (sep_l1 HS.out)).2.2 (show k ≤ LL.length by rw [HN.out]; exact HK.out); rw [List.length_take, HN.out, Nat.min_eq_left HK.out] at h; exact h) (fun x cs hk => by rw [recK_open hk]; exact recK_M _ _ _ _) (by have := HK.out; have := HN20.out; simp only [List.length_nil]; omega) ?_; intro v1_ w4 n_; have n0_ := Aside0.mk n_; clear HS n_; have HS := n0_; clear n0_)
        rw [List.nil_append] at HS
        go_upto_region 20 with ((with_reducible refine gate_builtin (b := .append) (xs := #[.tmp 64, .tmp 66]) rfl ?_); at_builtin; refine wp_append recK rfl (.tmp 64) (.tmp 66) 47 31 z31 32 rfl Try.underlying47 info31 rfl (by decide) (by decide) _ (LL.take k) Rec.zero [.int .i64 0, .int .i64 0, .int .u32 0, .int .u32 0, .int .u16 0] (by rfl) (by rfl) (recK_M _ _ _ Rec.zero) HS.out (by have := HK.out; have := HN20.out; rw [List.length_take]; omega) ?_; intro v1_ w4 n_; have n0_ := Aside0.mk n_; clear HS n_; have HS := n0_; clear n0_)
        go_upto_region 21 with ((with_reducible refine gate_builtin (b := .append) (xs := #[.tmp 68, .tmp 71]) rfl ?_); at_builtin; refine wp_append_rows recK rfl (.tmp 68) (.tmp 71) 47 31 z31 32 rfl Try.underlying47 info31 rfl (by decide) (by decide) _ (LL.take k ++ [Rec.zero]) (LL.drop k) A2 (n - k) (c - k) (by rfl) (by rfl) HS.out (by have h := Kd.C_drop (m := k) (sep_row' (sep_l1 HS.out)).2.2 (show k ≤ LL.length by rw [HN.out]; exact HK.out) (show LL.length ≤ c by rw [HN.out]; exact HCN.out); rw [List.length_drop, HN.out] at h; rw [← HA2.out]; exact h) (fun x cs hk => by rw [recK_open hk]; exact recK_M _ _ _ _) (by have := HK.out; have := HN20.out; simp only [List.length_append, List.length_take, List.length_singleton]; omega) ?_; intro v1_ w4 n_; have n0_ := Aside0.mk n_; clear HS n_; have HS := n0_; clear n0_)
        have HBD := Aside0.mk (any_zero (LL.take k) (LL.drop k))
        have HB22 : Aside0 (((LL.take k ++ [Rec.zero]) ++ LL.drop k).length ≤ 100000000) := ⟨by have := HN20.out; have := HN.out; simp only [List.length_append, List.length_take, List.length_singleton, List.length_drop]; omega⟩
        generalize (LL.take k ++ [Rec.zero]) ++ LL.drop k = NL at HS HBD HB22
        have HME := Aside0.mk (merge_bad VS.new NL HBD.out)
        obtain ⟨A3, c3, rfl, -, -⟩ := sep_row HS.out
        have n_ := sep_l2 (sep_drop (sep_l1 HS.out))
        have n0_ := Aside0.mk n_; clear HS n_; have HS := n0_; clear n0_
        clear hcutA hcutB p1_ p2_ p3_
        go_upto_region 23 with (go_at_call 23; obtain ⟨ok_, hp_, hk_⟩ := sep_use2 HS.out; have hx_ := view_Merge p VS.new A3 c3 NL _ ok_ (by decide) (by decide) (by exact HB22.out) hp_; rw [HME.out] at hx_; dsimp only at hx_; (with_reducible refine Calls.mono hx_ ?_); rintro e w1 ⟨v5_, rfl, hq_⟩; have n_ := back3 hk_ hq_; clear hx_ hp_ hk_ hq_; have n0_ := Aside0.mk n_; clear HS n_; have HS := n0_; clear n0_)
        obtain ⟨A4, c4, rfl, -, -⟩ := sep_row HS.out
        have n_ := sep_drop HS.out
        have n0_ := Aside0.mk n_; clear HS n_; have HS := n0_; clear n0_
        go_wp2_with (first | (go_at_call 17; obtain ⟨ok_, hp_, hk_⟩ := sep_use1 HS.out; have hx_ := view_Members p VS.new _ ok_ hp_; rw [members_new] at hx_; (with_reducible refine Calls.mono hx_ ?_); rintro e w5 ⟨v_, rfl, hq_⟩; have n_ := sep_drop (back2 hk_ hq_); have n2_ := back2 hk_ hq_; clear hx_ hp_ hk_ hq_; obtain ⟨Am, cm, rfl, -, -⟩ := sep_row n2_; clear n2_; have n0_ := Aside0.mk n_; clear HS n_; have HS := n0_; clear n0_) | (go_at_call 13; obtain ⟨ok_, hp_, hk_⟩ := sep_use1 (id HS.out); have hx_ := view_Seen p VS.new _ ok_ hp_; (with_reducible refine Calls.mono hx_ ?_); rintro e w1 ⟨rfl, hq_⟩; have n_ := back1 hk_ hq_; clear hx_ hp_ hk_ hq_; have n0_ := Aside0.mk n_; clear HS n_; have HS := n0_; clear n0_))
        go_ret
        exact ⟨rfl, sep_below_of HS.out⟩
      | false =>
        have HME := Aside0.mk (merge_good VS.new LL HRT.out)
        have n_ := sep_l2 HS.out
        have n0_ := Aside0.mk n_; clear HS n_; have HS := n0_; clear n0_
        go_upto_region 22 with (go_at_call 23; obtain ⟨ok_, hp_, hk_⟩ := sep_use2 HS.out; have hx_ := view_Merge p VS.new A c LL _ ok_ (by decide) (by decide) (by have := HL20.out; omega) hp_; rw [HME.out] at hx_; dsimp only at hx_; (with_reducible refine Calls.mono hx_ ?_); rintro e w1 ⟨v5_, rfl, hq_⟩; have n_ := back3 hk_ hq_; clear hx_ hp_ hk_ hq_; have n0_ := Aside0.mk n_; clear HS n_; have HS := n0_; clear n0_)
        obtain ⟨o, ho⟩ : ∃ o, (mg VS.new LL).1 = o := ⟨_, rfl⟩
        obtain ⟨sv, hsv⟩ : ∃ sv, (mg VS.new LL).2 = sv := ⟨_, rfl⟩
        rw [ho, hsv] at HS
        have HO := Aside0.mk ho
        have HSV := Aside0.mk hsv
        clear ho hsv
        obtain ⟨Ao, co, rfl, -, hCo⟩ := sep_row HS.out
        have HOL : Aside0 (o.length ≤ 20) := ⟨by have h := (mg_ok VS.new LL LL.length (by decide)).2.2; rw [List.take_length, HO.out] at h; have := HL20.out; omega⟩
        have n_ := sep_l3 (sep_l2 HS.out)
        have n0_ := Aside0.mk n_; clear HS n_; have HS := n0_; clear n0_
        clear hCo
        go_upto_region 26 with (fail)
        go_loopg [17, 18] LL.length (fun gg v17 v18 wr => ∃ i : Nat, i ≤ LL.length ∧ LL.length - i ≤ gg ∧ v18 = .int .i64 (i : Int) ∧ v17 = .int .i64 ((mg VS.new (LL.take i)).1.length : Int) ∧ Aside0 (Sep w (fun _ => False) (viewA q (mg VS.new (LL.take i)).2 ⋆ row recK 31 (.slice A LL.length c) LL ⋆ row recK 31 (.slice Ao o.length co) o ⋆ viewA p sv ⋆ emp) wr))
        case atStart => exact ⟨0, Nat.zero_le _, by omega, rfl, rfl, HS⟩
        case round =>
          clear HS HI
          obtain ⟨i, hi, hgi, rfl, rfl, HS⟩ := hrel
          by_cases hlt : i < LL.length
          · have c1b : decide ((i : Int) < (LL.length : Int)) = true := decide_eq_true (Int.ofNat_lt.2 hlt); have c1n : decide (i < LL.length) = true := decide_eq_true hlt; have c1q : (i < LL.length) = True := eq_true hlt; have p0_ := eq_true (Int.natCast_nonneg i)
            obtain ⟨y, hy⟩ : ∃ y, LL[i]? = some y := ⟨_, List.getElem?_eq_getElem hlt⟩
            obtain ⟨ga, rfl⟩ := row_addr (sep_l1 HS.out) (by omega)
            obtain ⟨k0, k1, k2, k3, k4⟩ := rec_cells (sep_l1 HS.out) i y hy
            have hsn : mg VS.new (LL.take (i + 1)) = mgF (mg VS.new (LL.take i)) y := by rw [List.take_add_one, hy, Option.toList_some, mg_snoc]
            have hmk := mg_ok VS.new LL i (by decide)
            have hat := mg_at VS.new LL i y hy
            obtain ⟨⟨o1, s1⟩, hm⟩ : ∃ x, mg VS.new (LL.take i) = x := ⟨_, rfl⟩
            rw [hm] at HS hsn hmk hat
            dsimp only at HS hmk hat
            unfold mgF at hsn
            dsimp only at hsn
            obtain ⟨⟨tk, te, s2⟩, ht⟩ : ∃ x, takeE s1 y = x := ⟨_, rfl⟩
            rw [ht] at hsn hat
            rw [HO.out] at hat
            dsimp only at hsn hat
            obtain ⟨mn, hmn⟩ : ∃ mn, o1.length = mn := ⟨_, rfl⟩
            have hgm : ((mg VS.new (LL.take i)).1.length : Int) = (mn : Int) := by rw [hm]; exact congrArg _ hmn
            rw [hgm]
            rw [hmn] at hmk hat
            have HT := Aside0.mk ht
            have HSN := Aside0.mk hsn
            have HMN := Aside0.mk hmn
            have HMK := Aside0.mk hmk
            have HI := Aside0.mk (And.intro hlt hgi)
            have HAT := Aside0.mk hat
            have HY := Aside0.mk hy
            clear hi hgi hlt hy hsn hm hmk ht hat hgm hmn
            go_upto_region 29 with (go_at_call 14; obtain ⟨ok_, hp_, hk_⟩ := sep_use1 HS.out; have hx_ := view_Take q s1 y _ ok_ HMK.out.1 (by have := HMK.out.2.1; have := HI.out; have := HL20.out; have h0 : VS.new.seen = 0 := rfl; omega) hp_; rw [HT.out] at hx_; dsimp only at hx_; (with_reducible refine Calls.mono hx_ ?_); rintro e w1 ⟨rfl, hq_⟩; have n_ := back1 hk_ hq_; clear hx_ hp_ hk_ hq_; have n0_ := Aside0.mk n_; clear HS n_; have HS := n0_; clear n0_)
            have hsn := HSN.out
            clear k0 k1 k2 k3 k4
            cases tk with
            | true =>
              rw [if_pos rfl] at hsn
              have hat := HAT.out rfl
              obtain ⟨hlo, -⟩ := List.getElem?_eq_some_iff.1 hat
              obtain ⟨go, rfl⟩ := row_addr (sep_l2 HS.out) (by omega)
              obtain ⟨k0, k1, k2, k3, k4⟩ := rec_cells (sep_l1 HS.out) i y HY.out
              obtain ⟨m0, m1, m2, m3, m4⟩ := rec_cells (sep_l2 HS.out) mn y hat
              have d1 : decide ((mn : Int) ≥ (o.length : Int)) = false := decide_eq_false (by omega)
              have d2 : decide ((o.length : Int) ≤ (mn : Int)) = false := decide_eq_false (by omega)
              have d3 : ((o.length : Int) ≤ (mn : Int)) = False := eq_false (by omega)
              have d4 : decide ((mn : Int) < (o.length : Int)) = true := decide_eq_true (by omega)
              have d5 : ((mn : Int) < (o.length : Int)) = True := eq_true (by omega)
              have d6 := eq_true hlo
              have d7 := eq_true (Int.natCast_nonneg mn)
              have hmn20 : mn ≤ 20 := by have := HOL.out; omega
              have w1_ : wrap64 ((mn : Int) + 1) = (mn : Int) + 1 := by unfold wrap64; omega
              clear hat hlo hmn20
              go_upto_region 30 with (fail)
              go_region
              all_goals
                go_wp2
                have n_ := sep_drew HS.out
                have n0_ := Aside0.mk n_; clear HS n_; have HS := n0_; clear n0_
                go_roundg (LL.length - (i + 1))
                case measure => have := HI.out; omega
                case rel =>
                  refine ⟨i + 1, HI.out.1, Nat.le_refl _, congrArg (Value.int .i64) (by have := HI.out; have := HL20.out; unfold wrap64; omega), ?_, ⟨?_⟩⟩
                  · rw [hsn, List.length_append, List.length_singleton, HMN.out]; rfl
                  · rw [hsn]; exact HS.out
            | false =>
              rw [if_neg (by decide)] at hsn
              go_wp2
              go_roundg (LL.length - (i + 1))
              case measure => have := HI.out; omega
              case rel =>
                refine ⟨i + 1, HI.out.1, Nat.le_refl _, congrArg (Value.int .i64) (by have := HI.out; have := HL20.out; unfold wrap64; omega), ?_, ⟨?_⟩⟩
                · rw [hsn, HMN.out]
                · rw [hsn]; exact HS.out
          · obtain rfl : i = LL.length := by omega
            rw [List.take_length] at HS ⊢
            rw [HO.out]
            rw [HSV.out] at HS
            have c2b : decide ((LL.length : Int) < (LL.length : Int)) = false := decide_eq_false (by omega)
            go_wp2_with (first | (go_at_call 13; obtain ⟨ok_, hp_, hk_⟩ := sep_use1 (sep_l3 HS.out); have hx_ := view_Seen p sv _ ok_ hp_; (with_reducible refine Calls.mono hx_ ?_); rintro e w1 ⟨rfl, hq_⟩; have n_ := back1 hk_ hq_; clear hx_ hp_ hk_ hq_; have n0_ := Aside0.mk n_; clear HS n_; have HS := n0_; clear n0_) | (go_at_call 13; obtain ⟨ok_, hp_, hk_⟩ := sep_use1 (sep_l1 HS.out); have hx_ := view_Seen q sv _ ok_ hp_; (with_reducible refine Calls.mono hx_ ?_); rintro e w1 ⟨rfl, hq_⟩; have n_ := back1 hk_ hq_; clear hx_ hp_ hk_ hq_; have n0_ := Aside0.mk n_; clear HS n_; have HS := n0_; clear n0_))
            go_ret
            exact ⟨rfl, sep_below_of HS.out⟩
end Go.Proofs.Ythpmlnnjfmcglaa.VW
