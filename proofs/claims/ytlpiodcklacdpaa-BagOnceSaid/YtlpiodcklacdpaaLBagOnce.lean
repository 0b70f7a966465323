/- BagOnce, walked. Conditions: those that the theorem names. -/
import Derived.Test.YtlpiodcklacdpaaPO
import Derived.Deep.RegionHeld3
import Derived.Deep.RegionWith
namespace Go.Proofs.Ytlpiodcklacdpaa.BG
set_option linter.unusedVariables false
set_option linter.unusedSimpArgs false
open Go Go.RowKit Go.Proofs.YtlpiodcklacdpaaS Go.Proofs.YtlpiodcklacdpaaS.Asn Go.Proofs.Ytlpiodcklacdpaa.PA Go.Proofs.YtlpiodcklacdpaaW.PrintWords Go.Proofs.YtlpiodcklacdpaaW.PrintLast Go.Proofs.YtlpiodcklacdpaaW.PrintMore
/-- string([]byte{..}). -/
theorem conv_lit (n : Nat) (W : World) : (Go.convert 22 9 (.slice (some ⟨W.heap.size, 0, none⟩) 1 1)).run Try.prog (W.alloc (.cells #[.int .u8 (n : Int)] 5)) = .ok (.string (bs n)) (W.alloc (.cells #[.int .u8 (n : Int)] 5)) := by
  have h := sep_lit (enc := Value.int .u8) (h1 := fun _ => rfl) (sep_start W) 5 [(n : Int)] (show 1 ≤ 9223372036854775807 by decide)
  exact Kd.C_string (src := 22) (dst := 9) (c := 1) Try.underlying22 Try.underlying5 Try.underlying9 (sep_row' h).2.2
theorem wp_make {P : Program} {ops : Array Oper} {rest : List Oper} {o : Oper} {a : Act} {Q : Exit → Act → World → Prop} {α : Type} {w0 W : World} {ok0 : Nat → Prop} {F : Asn} (d : Kd α) (e : Nat) (hgd : o.guard = none) {N : Tmp} (hd : o.dst = some N) (t : TypeId) (x y : Operand) (ho : o.op = .makeSlice t x y) (n : Nat) (hx : a.eval x = .int .i64 (n : Int)) (hy : a.eval y = .int .i64 (n : Int))
    (ht : P.underlying t = some (.slice e)) (z : Value) (bytes : Nat) (hinfo : (P.info? e).map (fun i => (i.zero, i.size, i.bytes)) = some (some z, d.sz, bytes)) (hz : z.cells.size = d.sz) (hs0 : 0 < d.sz) (hb0 : 0 < bytes)
    (z0 : α) (hzero : d.M W W.heap.size (fun _ => False) z0 z.cells.toList) (hl : n * bytes ≤ 281474976710656) (HS : Sep w0 ok0 F W)
    (h : ∀ v1 w1, Sep w0 ok0 (row d e v1 (List.replicate n z0) ⋆ F) w1 → (∃ b, v1.ownBlock = some b) → wpList P ops Q rest (a.put o.dst v1) w1) : wpList P ops Q (o :: rest) a W :=
  Kd.R_make d (w0 := W) W.heap.size e hgd hd t x y ho (n : Int) hx hy ht z bytes hinfo hz hs0 hb0 z0 (ok := fun k => W.heap.size ≤ k) (okp := fun _ => False) hzero (fun _ h => h.elim) (Nat.le_refl _) (Int.natCast_nonneg n) (by rw [Int.toNat_natCast]; exact hl) (Below.refl _ _) (Nat.le_refl _) (fun v1 w1 hr hb _ ho => h v1 w1 (by rw [Int.toNat_natCast] at hr; exact sep_made HS hr hb) (ho.imp fun _ h => h.1))
theorem info4 : (Try.prog.info? 4).map (fun i => (i.zero, i.size, i.bytes)) = some (some (.bool false), 1, 1) := by kernel_rfl
theorem sep_put {w0 W : World} {ok0 : Nat → Prop} {F : Asn} {g n c : Nat} {xs : List Bool} (HS : Sep w0 ok0 (row Kd.bool 4 (.slice (some ⟨g, 0, none⟩) n c) xs ⋆ F) W) (j : Nat) (x : Bool) :
    Sep w0 ok0 (row Kd.bool 4 (.slice (some ⟨g, 0, none⟩) n c) (xs.set j x) ⋆ F) (W.setCell ⟨g, j, none⟩ (.bool x)) := by
  have hn := (sep_row' HS).1
  subst hn
  obtain ⟨ok, hr, hh⟩ := sep_grown HS
  obtain ⟨h1, h2⟩ := Kd.R_put hr (j : Int) x
  rw [Int.toNat_natCast] at h1 h2
  exact hh _ _ _ (Kd.R_mono h1 (fun k hk => .inl hk)) ⟨h2.os, h2.tape, h2.output, h2.size, fun k hk => absurd hk (Nat.not_lt_zero _)⟩ h2
theorem sep_form {α : Type} {w0 W : World} {ok0 : Nat → Prop} {F : Asn} {d : Kd α} {e : Nat} {v : Value} {xs : List α} (HS : Sep w0 ok0 (row d e v xs ⋆ F) W) (ho : ∃ b, v.ownBlock = some b) : ∃ g c, v = .slice (some ⟨g, 0, none⟩) xs.length c := by
  obtain ⟨ok, hr, _⟩ := sep_grown HS
  obtain ⟨hok, inner, hown, hrr⟩ := hr
  rcases hown.2 with ⟨hv, _⟩ | ⟨g', cap', cur, hv, _⟩
  · rw [hv] at ho
    obtain ⟨b, hb⟩ := ho
    cases hb
  · exact ⟨g', cap', hv⟩
theorem bs_get (j : Nat) (hj : j < 256) (h : 0 < (bs j).size) : ((bs j)[0]'h).toNat = j := by
  show (UInt8.ofNat ((j : Int)).toNat).toNat = j
  rw [Int.toNat_natCast, UInt8.toNat_ofNat']
  omega
theorem sep_bool {w0 W : World} {ok0 : Nat → Prop} {F : Asn} {g n c : Nat} {xs : List Bool} {j : Nat} {b : Bool} (HS : Sep w0 ok0 (row Kd.bool 4 (.slice (some ⟨g, 0, none⟩) n c) xs ⋆ F) W) (hj : xs[j]? = some b) :
    W.cell? ⟨g, j, none⟩ = some (.bool b) ∧ W.frozen? ⟨g, j, none⟩ = false := by
  have hn := (sep_row' HS).1
  subst hn
  obtain ⟨hlt, -⟩ := List.getElem?_eq_some_iff.1 hj
  obtain ⟨ok, hr, hh⟩ := sep_grown HS
  obtain ⟨h1, h2⟩ := Kd.R_cell false hr (j : Int) (Int.natCast_nonneg j) (Int.ofNat_lt.2 hlt)
  rw [Int.toNat_natCast] at h1 h2
  refine ⟨?_, h2⟩
  rw [h1]
  unfold rdOf
  rw [Int.toNat_natCast, List.getD_eq_getElem?_getD, hj, Option.getD_some]
set_option maxHeartbeats 4000000 in
set_option maxRecDepth 100000 in
theorem once_walk (A1 A2 : Option Addr) (c1 c2 : Nat) (l l2 : List Int) (w : World) (hr1 : Kd.C (Kd.int .u8) w A1 l.length l) (hc1 : l.length ≤ c1) (hr2 : Kd.C (Kd.int .u8) w A2 l2.length l2) (hc2 : l2.length ≤ c2) (hb : ∀ x ∈ l, 0 ≤ x ∧ x < 256) (hb2 : ∀ x ∈ l2, 0 ≤ x ∧ x < 256) :
    Calls Try.prog 3 #[.slice A1 l.length c1, .slice A2 l2.length c2] w fun e w' => e = .returned (.bool true) ∧ Below w.heap.size w w' := by
  have HS := Aside0.mk (sep_start w)
  have HR1 := Aside0.mk hr1
  have HB1 := Aside0.mk hb
  have HLN := Aside0.mk hr1.2.1
  have HR2 := Aside0.mk hr2
  have HB2 := Aside0.mk hb2
  have HLN2 := Aside0.mk hr2.2.1
  obtain ⟨n, hn⟩ : ∃ n : Nat, min l.length 20 = n := ⟨_, rfl⟩
  have HN : Aside0 (n ≤ 20 ∧ n ≤ l.length) := ⟨by omega⟩
  have hm1 : (if (20 : Int) < (l.length : Int) then (20 : Int) else (l.length : Int)) = (n : Int) := by split <;> omega
  have hm2 : (if 20 < l.length then (20 : Int) else (l.length : Int)) = (n : Int) := by split <;> omega
  clear hr1 hc1 hr2 hc2 hb hb2 hn
  go_enter Try.func3, Try.ntmps3
  go_upto_region 7 with (first | (go_at_call 9; (with_reducible refine Calls.mono (examples_walk _) ?_); rintro e w1 ⟨rfl, hb_⟩; have n_ := sep_below HS.out hb_; clear hb_; have n0_ := Aside0.mk n_; clear HS n_; have HS := n0_; clear n0_) | (go_at_call 10; (with_reducible refine Calls.mono (bag_New 20 _ (by decide) (by decide)) ?_); rintro e w2 ⟨p, rfl, hm_⟩; have n_ := sep_made_of HS.out (sep_only hm_); clear hm_; have n0_ := Aside0.mk n_; clear HS n_; have HS := n0_; clear n0_))
  go_upto_region 9 with (fail)
  clear hm1 hm2
  go_loopg [9] n (fun gg v9 wr => ∃ i : Nat, i ≤ n ∧ n - i ≤ gg ∧ v9 = .int .i64 (i : Int) ∧ Aside0 (Sep w (fun _ => False) (bagA p (its 16 l i) 20 ⋆ emp) wr))
  case atStart => exact ⟨0, Nat.zero_le _, by omega, rfl, HS⟩
  case round =>
    clear HS
    obtain ⟨i, hi, hgi, rfl, HS⟩ := hrel
    by_cases hlt : i < n
    · have c1b : decide ((i : Int) < (n : Int)) = true := decide_eq_true (Int.ofNat_lt.2 hlt); have c1n : decide (i < n) = true := decide_eq_true hlt; have c1q : (i < n) = True := eq_true hlt; have p0_ := eq_true (Int.natCast_nonneg i)
      have hil : i < l.length := by have := HN.out; omega
      have g1b : decide ((i : Int) < (l.length : Int)) = true := decide_eq_true (by omega)
      have g1n : decide (i < l.length) = true := decide_eq_true hil
      have g1q := eq_true hil
      obtain ⟨y, hy⟩ : ∃ y : Nat, rd l (i : Int) = (y : Int) := by
        have := HB1.out (l.getD i 0) (by rw [List.getD_eq_getElem?_getD, List.getElem?_eq_getElem hil]; exact List.getElem_mem hil)
        exact ⟨(l.getD i 0).toNat, by unfold rd; rw [Int.toNat_natCast]; omega⟩
      have hq : tm 16 l i = y % 16 := by
        have : l.getD i 0 = (y : Int) := by rw [← hy]; unfold rd; rw [Int.toNat_natCast]
        unfold tm
        rw [this]
        rfl
      obtain ⟨q, hqq⟩ : ∃ q : Nat, y % 16 = q := ⟨_, rfl⟩
      have r2 : ((y : Int) % 16) = (q : Int) := by omega
      have r4 : Int.tmod (y : Int) 16 = (q : Int) := by rw [Int.tmod_eq_emod_of_nonneg (by omega)]; omega
      have r5 : IntKind.u64.wrap (q : Int) = (q : Int) := by rw [IntKind.wrap_u64]; omega
      rw [hqq] at hq
      obtain ⟨ad, hA, kw⟩ := Kd.at_int HR1.out (i : Int) (Int.natCast_nonneg i) (Int.ofNat_lt.2 hil)
      rw [Int.toNat_natCast, hy] at kw
      have ka := ((sep_below_of HS.out).cell (World.block_lt_of_cell? w _ kw)).trans kw
      subst hA
      have HI := Aside0.mk (And.intro hlt hgi)
      have HQ := Aside0.mk hq
      have w8 : IntKind.u8.wrap (i : Int) = (i : Int) := by have := HN.out; rw [IntKind.wrap_u8]; omega
      have HQ4 : Aside0 (q < 16) := ⟨by omega⟩
      clear hlt hil hi hgi hq hqq hy
      go_upto_region 11 with (fail)
      have n_ := sep_drew (sep_skip HS.out (.cells #[.int .u8 (i : Int)] 5))
      have ka0 : wr.drew.cell? (ad.add i) = some (.int .u8 (y : Int)) := ka
      have ka1 : (wr.alloc (.cells #[.int .u8 (i : Int)] 5)).drew.cell? (ad.add i) = some (.int .u8 (y : Int)) := ((below_alloc (Below.refl _ _) (.cells #[.int .u8 (i : Int)] 5)).cell (World.block_lt_of_cell? _ _ ka)).trans ka
      have hcv : (Go.convert 22 9 (.slice (some ⟨wr.heap.size, 0, none⟩) 1 1)).run Try.prog ((wr.alloc (.cells #[.int .u8 (i : Int)] 5)).drew) = .ok (.string (bs i)) ((wr.alloc (.cells #[.int .u8 (i : Int)] 5)).drew) := conv_lit i wr.drew
      clear ka
      have n0_ := Aside0.mk n_; clear HS n_; have HS := n0_; clear n0_
      have E1 := Aside0.mk (put_its (m := 16) (l := l) (n := i) (r := 20) (by have := HI.out; have := HN.out; omega))
      rw [HQ.out] at E1
      go_region_with (first | (go_at_call 11; obtain ⟨ok_, hp_, hk_⟩ := sep_use1 HS.out; have hx_ := bag_PutE p (its 16 l i) 20 (im (bs i) q) _ ok_ (by decide) hp_; rw [E1.out.1, E1.out.2, im_val] at hx_; (with_reducible refine Calls.mono hx_ ?_); rintro e w1 ⟨rfl, hq_⟩; have n_ := back1 hk_ hq_; clear hx_ hp_ hk_ hq_ ka0 ka1 hcv; have n0_ := Aside0.mk n_; clear HS n_; have HS := n0_; clear n0_))
      all_goals clear E1
      all_goals go_wp2
      all_goals first
        | (go_roundg (n - (i + 1))
           case measure => have := HI.out; omega
           case rel => exact ⟨i + 1, HI.out.1, Nat.le_refl _, congrArg (Value.int .i64) (by have := HI.out; have := HN.out; unfold wrap64; omega), HS⟩)
    · obtain rfl : i = n := by omega
      have c2b : decide ((i : Int) < (i : Int)) = false := decide_eq_false (by omega)
      clear hi hgi hlt
      go_upto_region 16 with ((with_reducible refine gate_ (.makeSlice 36 (.tmp 56) (.tmp 56)) rfl ?_); refine wp_make Kd.bool 4 rfl rfl 36 (.tmp 56) (.tmp 56) rfl i rfl rfl Try.underlying36 (.bool false) 1 info4 rfl (by decide) (by decide) false rfl (by have := HN.out; omega) HS.out ?_; intro v5 w5 n_ ho_; obtain ⟨g, c, rfl⟩ := sep_form n_ ho_; rw [List.length_replicate] at n_ ⊢; rw [tk_start] at n_; replace n_ := sep_l1 n_; clear ho_; have n0_ := Aside0.mk n_; clear HS n_; have HS := n0_; clear n0_)
      go_upto_region 17 with (fail)
      clear c2b
      go_loopg [12, 13] 16 (fun gg v12 v13 wr => ∃ (N M : Nat) (J : List Nat), N ≤ 16 ∧ 16 - N ≤ gg ∧ v12 = .int .i64 (M : Int) ∧ v13 = .int .u64 (N : Int) ∧ Aside0 (M + J.length = i ∧ J.Nodup ∧ (∀ j ∈ J, j < i) ∧ (∀ j ∈ J, N ≤ tm 16 l j)) ∧ Aside0 (Sep w (fun _ => False) (bagA p (gi l J) 20 ⋆ row Kd.bool 4 (.slice (some ⟨g, 0, none⟩) i c) (tk i J) ⋆ emp) wr))
      case atStart => exact ⟨0, 0, List.range i, by omega, by omega, rfl, rfl, ⟨by simp, List.nodup_range, fun j hj => List.mem_range.1 hj, fun _ _ => Nat.zero_le _⟩, HS⟩
      case round =>
        clear HS
        obtain ⟨N, M, J, hN, hNg, rfl, rfl, HJ, HS⟩ := hrel
        by_cases hlt : N < 16
        · have c2b : decide ((N : Int) < 16) = true := decide_eq_true (by omega)
          have c2n : decide (N < 16) = true := decide_eq_true hlt
          have c2q := eq_true hlt
          have HI := Aside0.mk (And.intro hlt hNg)
          clear hN hNg hlt
          go_upto_region 20 with (fail)
          go_loopg [12, 14] J.length (fun gg v12 v14 wr => ∃ (M k : Nat) (J : List Nat), J.length ≤ gg ∧ v12 = .int .i64 (M : Int) ∧ v14 = .int .i64 (k : Int) ∧ Aside0 (M + J.length = i ∧ J.Nodup ∧ (∀ j ∈ J, j < i) ∧ (∀ j ∈ J, N ≤ tm 16 l j)) ∧ Aside0 (k + J.length ≤ i) ∧ Aside0 (Sep w (fun _ => False) (bagA p (gi l J) 20 ⋆ row Kd.bool 4 (.slice (some ⟨g, 0, none⟩) i c) (tk i J) ⋆ emp) wr))
          case atStart => exact ⟨M, 0, J, Nat.le_refl _, rfl, rfl, HJ, ⟨by have := HJ.out.1; omega⟩, HS⟩
          case round =>
            clear HS HJ
            obtain ⟨M, k, J, hJg, rfl, rfl, HJ, HK, HS⟩ := hrel
            by_cases h0 : rdy (gi l J) N = 0
            · have HR0 := Aside0.mk h0
              clear h0
              go_wp2_with (go_at_call 12; obtain ⟨ok_, hp_, hk_⟩ := sep_use1 HS.out; have hx_ := bag_Ready p (gi l J) 20 N _ ok_ hp_; rw [HR0.out] at hx_; (with_reducible refine Calls.mono hx_ ?_); rintro e w1 ⟨rfl, hq_⟩; have n_ := back1 hk_ hq_; clear hx_ hp_ hk_ hq_; have n0_ := Aside0.mk n_; clear HS n_; have HS := n0_; clear n0_)
              go_roundg (16 - (N + 1))
              case measure => have := HI.out; omega
              case rel => exact ⟨N + 1, M, J, HI.out.1, Nat.le_refl _, rfl, congrArg (Value.int .u64) (by have := HI.out; (try rw [IntKind.wrap_u64]); omega), ⟨HJ.out.1, HJ.out.2.1, HJ.out.2.2.1, fun j hj => by have := rdy_gi HR0.out j hj; omega⟩, HS⟩
            · obtain ⟨r, hr⟩ : ∃ r, rdy (gi l J) N = r := ⟨_, rfl⟩
              have hr0 : 0 < r := by omega
              have s1 : decide (0 < r) = true := decide_eq_true hr0
              have s2 : decide ((0 : Int) < (r : Int)) = true := decide_eq_true (by omega)
              have s3 := eq_true hr0
              have HRR := Aside0.mk hr
              have HR0 := Aside0.mk hr0
              have HJG := Aside0.mk hJg
              clear h0 hr hr0 hJg
              go_upto_region 23 with (go_at_call 12; obtain ⟨ok_, hp_, hk_⟩ := sep_use1 HS.out; have hx_ := bag_Ready p (gi l J) 20 N _ ok_ hp_; rw [HRR.out] at hx_; (with_reducible refine Calls.mono hx_ ?_); rintro e w1 ⟨rfl, hq_⟩; have n_ := back1 hk_ hq_; clear hx_ hp_ hk_ hq_; have n0_ := Aside0.mk n_; clear HS n_; have HS := n0_; clear n0_)
              clear s1 s2 s3
              by_cases hp : 0 < l2.length
              · have s1 : decide (0 < l2.length) = true := decide_eq_true hp
                have s2 : decide ((0 : Int) < (l2.length : Int)) = true := decide_eq_true (by omega)
                have s3 := eq_true hp
                have s4 : (l2.length = 0) = False := eq_false (by omega)
                have s5 : ((l2.length : Int) = 0) = False := eq_false (by omega)
                have s6 : (l2 = []) = False := eq_false (fun h => by rw [h] at hp; exact absurd hp (by decide))
                obtain ⟨z, hz⟩ : ∃ z : Nat, (k + M) % l2.length = z := ⟨_, rfl⟩
                have hzl : z < l2.length := by rw [← hz]; exact Nat.mod_lt _ hp
                have e1 : wrap64 ((k : Int) + (M : Int)) = ((k + M : Nat) : Int) := by have := HJ.out.1; have := HK.out; have := HN.out; unfold wrap64; omega
                have e1' : IntKind.i64.wrap ((k : Int) + (M : Int)) = ((k + M : Nat) : Int) := by have := HJ.out.1; have := HK.out; have := HN.out; rw [IntKind.wrap_i64]; omega
                have e2 : Int.tmod ((k + M : Nat) : Int) (l2.length : Int) = (z : Int) := by rw [Int.tmod_eq_emod_of_nonneg (by omega), ← hz]; rfl
                have e3 : (((k + M : Nat) : Int) % (l2.length : Int)) = (z : Int) := by rw [← hz]; rfl
                have e4 : (((k : Int) + (M : Int)) % (l2.length : Int)) = (z : Int) := by rw [← hz]; rfl
                have e5 : Int.tmod ((k : Int) + (M : Int)) (l2.length : Int) = (z : Int) := e2
                obtain ⟨y, hy⟩ : ∃ y : Nat, rd l2 (z : Int) = (y : Int) := by
                  have := HB2.out (l2.getD z 0) (by rw [List.getD_eq_getElem?_getD, List.getElem?_eq_getElem hzl]; exact List.getElem_mem hzl)
                  exact ⟨(l2.getD z 0).toNat, by unfold rd; rw [Int.toNat_natCast]; omega⟩
                have hy256 : y < 256 := by
                  have := HB2.out (l2.getD z 0) (by rw [List.getD_eq_getElem?_getD, List.getElem?_eq_getElem hzl]; exact List.getElem_mem hzl)
                  have h2 : l2.getD z 0 = (y : Int) := by rw [← hy]; unfold rd; rw [Int.toNat_natCast]
                  omega
                obtain ⟨ad, hA, kw⟩ := Kd.at_int HR2.out (z : Int) (Int.natCast_nonneg z) (Int.ofNat_lt.2 hzl)
                rw [Int.toNat_natCast, hy] at kw
                have ka := ((sep_below_of HS.out).cell (World.block_lt_of_cell? w _ kw)).trans kw
                subst hA
                have w8 : IntKind.i64.wrap (y : Int) = (y : Int) := by rw [IntKind.wrap_i64]; omega
                have w8' : wrap64 (y : Int) = (y : Int) := by unfold wrap64; omega
                have c1b : decide ((z : Int) < (l2.length : Int)) = true := decide_eq_true (Int.ofNat_lt.2 hzl); have c1n : decide (z < l2.length) = true := decide_eq_true hzl; have c1q : (z < l2.length) = True := eq_true hzl; have p0_ := eq_true (Int.natCast_nonneg z)
                have HY := Aside0.mk hy256
                clear hz hzl hy hp kw hy256
                go_upto_region 25 with (fail)
                clear s1 s2 s3 s4 s5 s6 e1 e1' e2 e3 e4 e5 ka w8 w8' c1b c1n c1q p0_
                obtain ⟨i2, j, hj, hjt, E_⟩ := take_gi (l := l) (J := J) (t := (N : Int)) (p := ((y : Nat) : Int)) (Int.natCast_nonneg _) (by rw [HRR.out]; exact HR0.out)
                obtain ⟨q, hq⟩ : ∃ q, tm 16 l j = q := ⟨_, rfl⟩
                rw [hq] at hjt E_
                have E := Aside0.mk E_
                have hji : j < i := HJ.out.2.2.1 j (List.mem_of_getElem? hj)
                have HJJ := Aside0.mk (And.intro hj hji)
                have v1_ : decide ((N : Int) < (q : Int)) = false := decide_eq_false (by omega)
                have v2_ : decide (N < q) = false := decide_eq_false (by omega)
                have v3_ : (N < q) = False := eq_false (by omega)
                have v4_ : decide ((i : Int) ≤ (j : Int)) = false := decide_eq_false (by omega)
                have v5_ : decide (i ≤ j) = false := decide_eq_false (by omega)
                have v6_ : (i ≤ j) = False := eq_false (by omega)
                have v7_ := bs_size j
                have hix : ∀ W : World, (Instr.index 9 (.string (bs j)) (.int .i64 0)).run Try.prog W = .ok (.int .u8 (j : Int)) W := by
                  intro W
                  rw [run_index_string W 9 (bs j) .i64 0 Try.underlying9, dif_pos ⟨Int.le_refl _, by rw [v7_]; decide⟩]
                  exact congrArg (fun x : Nat => Result.ok (Value.int .u8 (x : Int)) W) (bs_get j (by have := HN.out; omega) _)
                have w9 : IntKind.i64.wrap (j : Int) = (j : Int) := by have := HN.out; rw [IntKind.wrap_i64]; omega
                have c1b : decide ((j : Int) < (i : Int)) = true := decide_eq_true (Int.ofNat_lt.2 hji); have c1n : decide (j < i) = true := decide_eq_true hji; have c1q : (j < i) = True := eq_true hji; have p0_ := eq_true (Int.natCast_nonneg j)
                clear hj hjt E_ hji hq
                go_upto_region 26 with (go_at_call 13; obtain ⟨ok_, hp_, hk_⟩ := sep_use1 HS.out; have hx_ := bag_Take p (gi l J) 20 N ((y : Nat) : Int) _ ok_ (by have := HY.out; omega) hp_; rw [E.out] at hx_; dsimp only at hx_; rw [im_val] at hx_; (with_reducible refine Calls.mono hx_ ?_); rintro e w1 ⟨rfl, hq_⟩; have n_ := back1 hk_ hq_; clear hx_ hp_ hk_ hq_; have n0_ := Aside0.mk n_; clear HS n_; have HS := n0_; clear n0_)
                have n_ := sep_l1 (sep_alloc HS.out #[.int .u32 1, .int .u16 1, .int .u32 2, .int .u16 2, .string (bs j), .int .u64 (q : Int)] 35)
                have n0_ := Aside0.mk n_; clear HS n_; have HS := n0_; clear n0_
                generalize w1.alloc (.cells #[.int .u32 1, .int .u16 1, .int .u32 2, .int .u16 2, .string (bs j), .int .u64 (q : Int)] 35) = wz at HS ⊢
                generalize w1.heap.size = g16 at HS ⊢
                obtain ⟨k1, k2, k3, k4, k5, k6⟩ := facts6 (sep_l1 HS.out)
                obtain ⟨ke, kf⟩ := sep_bool (sep_l2 HS.out) (tk_get HJJ.out.1 HJJ.out.2)
                have HJE := Aside0.mk (And.intro (tk_set (n := i) HJ.out.2.1 HJJ.out.1) (List.length_eraseIdx_of_lt (List.getElem?_eq_some_iff.1 HJJ.out.1).1))
                have HJL : Aside0 (0 < J.length) := ⟨Nat.lt_of_le_of_lt (Nat.zero_le _) (List.getElem?_eq_some_iff.1 HJJ.out.1).1⟩
                have HEM := Aside0.mk (fun m => erase_mem (m := m) HJ.out.2.1 HJJ.out.1)
                go_wp2
                go_roundg (J.length - 1)
                case measure => have := HJG.out; have := HJL.out; omega
                case rel =>
                  have n_ := sep_put (sep_l2 HS.out) j true
                  rw [HJE.out.1] at n_
                  exact ⟨M + 1, k + 1, J.eraseIdx i2, by rw [HJE.out.2]; exact Nat.le_refl _, congrArg (Value.int .i64) (by have := HJ.out.1; have := HN.out; (try unfold wrap64); omega), congrArg (Value.int .i64) (by have := HK.out; have := HN.out; (try unfold wrap64); omega), ⟨by rw [HJE.out.2]; have := HJ.out.1; have := HJL.out; omega, erase_nodup _ HJ.out.2.1, fun m hm => HJ.out.2.2.1 m ((HEM.out m).1 hm).1, fun m hm => HJ.out.2.2.2 m ((HEM.out m).1 hm).1⟩, ⟨by rw [HJE.out.2]; have := HK.out; have := HJL.out; omega⟩, ⟨sep_l1 (sep_drop (sep_l2 n_))⟩⟩
              · have s1 : decide (0 < l2.length) = false := decide_eq_false hp
                have s2 : decide ((0 : Int) < (l2.length : Int)) = false := decide_eq_false (by omega)
                have s3 := eq_false hp
                clear hp
                go_upto_region 25 with (fail)
                clear s1 s2 s3
                have HY : Aside0 (0 < 256) := ⟨by decide⟩
                obtain ⟨i2, j, hj, hjt, E_⟩ := take_gi (l := l) (J := J) (t := (N : Int)) (p := ((0 : Nat) : Int)) (Int.natCast_nonneg _) (by rw [HRR.out]; exact HR0.out)
                obtain ⟨q, hq⟩ : ∃ q, tm 16 l j = q := ⟨_, rfl⟩
                rw [hq] at hjt E_
                have E := Aside0.mk E_
                have hji : j < i := HJ.out.2.2.1 j (List.mem_of_getElem? hj)
                have HJJ := Aside0.mk (And.intro hj hji)
                have v1_ : decide ((N : Int) < (q : Int)) = false := decide_eq_false (by omega)
                have v2_ : decide (N < q) = false := decide_eq_false (by omega)
                have v3_ : (N < q) = False := eq_false (by omega)
                have v4_ : decide ((i : Int) ≤ (j : Int)) = false := decide_eq_false (by omega)
                have v5_ : decide (i ≤ j) = false := decide_eq_false (by omega)
                have v6_ : (i ≤ j) = False := eq_false (by omega)
                have v7_ := bs_size j
                have hix : ∀ W : World, (Instr.index 9 (.string (bs j)) (.int .i64 0)).run Try.prog W = .ok (.int .u8 (j : Int)) W := by
                  intro W
                  rw [run_index_string W 9 (bs j) .i64 0 Try.underlying9, dif_pos ⟨Int.le_refl _, by rw [v7_]; decide⟩]
                  exact congrArg (fun x : Nat => Result.ok (Value.int .u8 (x : Int)) W) (bs_get j (by have := HN.out; omega) _)
                have w9 : IntKind.i64.wrap (j : Int) = (j : Int) := by have := HN.out; rw [IntKind.wrap_i64]; omega
                have c1b : decide ((j : Int) < (i : Int)) = true := decide_eq_true (Int.ofNat_lt.2 hji); have c1n : decide (j < i) = true := decide_eq_true hji; have c1q : (j < i) = True := eq_true hji; have p0_ := eq_true (Int.natCast_nonneg j)
                clear hj hjt E_ hji hq
                go_upto_region 26 with (go_at_call 13; obtain ⟨ok_, hp_, hk_⟩ := sep_use1 HS.out; have hx_ := bag_Take p (gi l J) 20 N ((0 : Nat) : Int) _ ok_ (by have := HY.out; omega) hp_; rw [E.out] at hx_; dsimp only at hx_; rw [im_val] at hx_; (with_reducible refine Calls.mono hx_ ?_); rintro e w1 ⟨rfl, hq_⟩; have n_ := back1 hk_ hq_; clear hx_ hp_ hk_ hq_; have n0_ := Aside0.mk n_; clear HS n_; have HS := n0_; clear n0_)
                have n_ := sep_l1 (sep_alloc HS.out #[.int .u32 1, .int .u16 1, .int .u32 2, .int .u16 2, .string (bs j), .int .u64 (q : Int)] 35)
                have n0_ := Aside0.mk n_; clear HS n_; have HS := n0_; clear n0_
                generalize w1.alloc (.cells #[.int .u32 1, .int .u16 1, .int .u32 2, .int .u16 2, .string (bs j), .int .u64 (q : Int)] 35) = wz at HS ⊢
                generalize w1.heap.size = g16 at HS ⊢
                obtain ⟨k1, k2, k3, k4, k5, k6⟩ := facts6 (sep_l1 HS.out)
                obtain ⟨ke, kf⟩ := sep_bool (sep_l2 HS.out) (tk_get HJJ.out.1 HJJ.out.2)
                have HJE := Aside0.mk (And.intro (tk_set (n := i) HJ.out.2.1 HJJ.out.1) (List.length_eraseIdx_of_lt (List.getElem?_eq_some_iff.1 HJJ.out.1).1))
                have HJL : Aside0 (0 < J.length) := ⟨Nat.lt_of_le_of_lt (Nat.zero_le _) (List.getElem?_eq_some_iff.1 HJJ.out.1).1⟩
                have HEM := Aside0.mk (fun m => erase_mem (m := m) HJ.out.2.1 HJJ.out.1)
                go_wp2
                go_roundg (J.length - 1)
                case measure => have := HJG.out; have := HJL.out; omega
                case rel =>
                  have n_ := sep_put (sep_l2 HS.out) j true
                  rw [HJE.out.1] at n_
                  exact ⟨M + 1, k + 1, J.eraseIdx i2, by rw [HJE.out.2]; exact Nat.le_refl _, congrArg (Value.int .i64) (by have := HJ.out.1; have := HN.out; (try unfold wrap64); omega), congrArg (Value.int .i64) (by have := HK.out; have := HN.out; (try unfold wrap64); omega), ⟨by rw [HJE.out.2]; have := HJ.out.1; have := HJL.out; omega, erase_nodup _ HJ.out.2.1, fun m hm => HJ.out.2.2.1 m ((HEM.out m).1 hm).1, fun m hm => HJ.out.2.2.2 m ((HEM.out m).1 hm).1⟩, ⟨by rw [HJE.out.2]; have := HK.out; have := HJL.out; omega⟩, ⟨sep_l1 (sep_drop (sep_l2 n_))⟩⟩
        · obtain rfl : N = 16 := by omega
          have c2b : decide ((16 : Int) < 16) = false := by decide
          have hJ0 : J = [] := by
            cases J with
            | nil => rfl
            | cons j r => have := HJ.out.2.2.2 j List.mem_cons_self; have := tm_lt l j; omega
          subst hJ0
          have hM : M = i := by have := HJ.out.1; simpa using this
          subst hM
          clear hN hNg hlt
          go_wp2_with (go_at_call 14; obtain ⟨ok_, hp_, hk_⟩ := sep_use1 HS.out; have hx_ := bag_Len p (gi l []) 20 _ ok_ hp_; rw [show (gi l []).length = 0 from rfl] at hx_; (with_reducible refine Calls.mono hx_ ?_); rintro e w1 ⟨rfl, hq_⟩; have n_ := back1 hk_ hq_; clear hx_ hp_ hk_ hq_; have n0_ := Aside0.mk n_; clear HS n_; have HS := n0_; clear n0_)
          go_ret
          exact ⟨rfl, sep_below_of HS.out⟩
end Go.Proofs.Ytlpiodcklacdpaa.BG
