/- BagRoom, walked. Conditions: those that the theorem names. -/
import Derived.Test.YtlpiodcklacdpaaLX
namespace Go.Proofs.Ytlpiodcklacdpaa.BG
set_option linter.unusedVariables false
set_option linter.unusedSimpArgs false
open Go Go.RowKit Go.Proofs.YtlpiodcklacdpaaS Go.Proofs.YtlpiodcklacdpaaS.Asn Go.Proofs.Ytlpiodcklacdpaa.PA Go.Proofs.YtlpiodcklacdpaaW.PrintWords Go.Proofs.YtlpiodcklacdpaaW.PrintLast Go.Proofs.YtlpiodcklacdpaaW.PrintMore
theorem rp_ok {k i : Nat} (h : i < k) : putE (k : Int) (List.replicate i (im bm 0)) (im bm 0) = 0 ∧ putL (k : Int) (List.replicate i (im bm 0)) (im bm 0) = List.replicate (i + 1) (im bm 0) := by
  obtain ⟨h1, h2⟩ := put_ok (room := (k : Int)) (l := List.replicate i (im bm 0)) (b := bm) (t := 0) (by decide) (by decide) (by rw [List.length_replicate]; omega)
  exact ⟨h1, by rw [h2, List.replicate_succ']⟩
theorem rp_full {k : Nat} : putE (k : Int) (List.replicate k (im bm 0)) (im bm 0) = 4 ∧ putL (k : Int) (List.replicate k (im bm 0)) (im bm 0) = List.replicate k (im bm 0) := by
  have h1 : putE (k : Int) (List.replicate k (im bm 0)) (im bm 0) = 4 := by
    unfold putE im
    rw [if_neg (show ¬ (noneB 1 1 = true ∨ noneB 2 2 = true) by decide), if_neg (show ¬ (bm.size = 0 ∨ 1024 < bm.size) by decide), if_pos (by rw [List.length_replicate]; omega)]
  exact ⟨h1, by unfold putL; rw [if_neg (by rw [h1]; decide)]⟩
def imz : It := ⟨1, 1, 1, 0, bm, 0⟩
theorem rp_none (k : Int) (l : List It) : putE k l imz = 1 ∧ putL k l imz = l := by
  have h1 : putE k l imz = 1 := by
    unfold putE imz
    rw [if_pos (show (noneB 1 1 = true ∨ noneB 1 0 = true) by decide)]
  exact ⟨h1, by unfold putL; rw [if_neg (by rw [h1]; decide)]⟩
theorem rp_drop {k n : Nat} (h : n ≤ k) (hk : 1 ≤ k) : ((awayE (List.replicate n (im bm 0)) 18446744073709551615 0).2.2.length : Int) < k := by
  unfold awayE
  by_cases h0 : (findE (List.replicate n (im bm 0)) 18446744073709551615 0).2 = 0
  · rw [if_pos h0]
    obtain ⟨j, hj, hlt⟩ := findE_lt h0
    rw [hj]
    show ((List.eraseIdx _ (Int.toNat (j : Int))).length : Int) < k
    rw [Int.toNat_natCast, List.length_eraseIdx_of_lt hlt]
    rw [List.length_replicate] at hlt ⊢
    omega
  · rw [if_neg h0]
    show ((List.replicate n (im bm 0)).length : Int) < k
    rw [List.length_replicate]
    have : n = 0 := by
      refine Nat.eq_zero_of_not_pos fun hp => h0 ?_
      have hr : 0 < rdy (List.replicate n (im bm 0)) 18446744073709551615 := by
        obtain ⟨m, rfl⟩ : ∃ m, n = m + 1 := ⟨n - 1, by omega⟩
        rw [List.replicate_succ, rdy_cons, if_pos (by decide)]
        omega
      rw [find_one (by decide) hr]
    omega
theorem put_bad {room : Int} {l : List It} {b : ByteArray} {t : Int} (hb : b.size = 0 ∨ 1024 < b.size) : putE room l (im b t) = 3 := by
  unfold putE im
  rw [if_neg (show ¬ (noneB 1 1 = true ∨ noneB 2 2 = true) by decide), if_pos hb]
theorem wp_make {P : Program} {ops : Array Oper} {rest : List Oper} {o : Oper} {a : Act} {Q : Exit → Act → World → Prop} {α : Type} {w0 W : World} {ok0 : Nat → Prop} {F : Asn} (d : Kd α) (e : Nat) (hgd : o.guard = none) {N : Tmp} (hd : o.dst = some N) (t : TypeId) (x y : Operand) (ho : o.op = .makeSlice t x y) (n : Nat) (hx : a.eval x = .int .i64 (n : Int)) (hy : a.eval y = .int .i64 (n : Int))
    (ht : P.underlying t = some (.slice e)) (z : Value) (bytes : Nat) (hinfo : (P.info? e).map (fun i => (i.zero, i.size, i.bytes)) = some (some z, d.sz, bytes)) (hz : z.cells.size = d.sz) (hs0 : 0 < d.sz) (hb0 : 0 < bytes)
    (z0 : α) (hzero : d.M W W.heap.size (fun _ => False) z0 z.cells.toList) (hl : n * bytes ≤ 281474976710656) (HS : Sep w0 ok0 F W)
    (h : ∀ v1 w1, Sep w0 ok0 (row d e v1 (List.replicate n z0) ⋆ F) w1 → wpList P ops Q rest (a.put o.dst v1) w1) : wpList P ops Q (o :: rest) a W :=
  Kd.R_make d (w0 := W) W.heap.size e hgd hd t x y ho (n : Int) hx hy ht z bytes hinfo hz hs0 hb0 z0 (ok := fun k => W.heap.size ≤ k) (okp := fun _ => False) hzero (fun _ h => h.elim) (Nat.le_refl _) (Int.natCast_nonneg n) (by rw [Int.toNat_natCast]; exact hl) (Below.refl _ _) (Nat.le_refl _) (fun v1 w1 hr hb _ _ => h v1 w1 (by rw [Int.toNat_natCast] at hr; exact sep_made HS hr hb))
theorem sep_set_4 {w0 w : World} {ok0 : Nat → Prop} {F : Asn} {g : Nat} {t : TypeId} {a b c d e f : Value} (h : Sep w0 ok0 (pt g #[a, b, c, d, e, f] t ⋆ F) w) (e' : Value) : Sep w0 ok0 (pt g #[a, b, c, d, e', f] t ⋆ F) (w.setCell ⟨g, 4, none⟩ e') := sep_set h 4 e'
theorem sep_set_23 {w0 w : World} {ok0 : Nat → Prop} {F : Asn} {g : Nat} {t : TypeId} {a b c d e f : Value} (h : Sep w0 ok0 (pt g #[a, b, c, d, e, f] t ⋆ F) w) (c' d' : Value) : Sep w0 ok0 (pt g #[a, b, c', d', e, f] t ⋆ F) ((w.setCell ⟨g, 2, none⟩ c').setCell ⟨g, 3, none⟩ d') := sep_set (sep_set h 2 c') 3 d'
theorem im_val (b : ByteArray) (t : Int) : (im b t).val = .agg #[.int .u32 1, .int .u16 1, .int .u32 2, .int .u16 2, .string b, .int .u64 t] := rfl
theorem imz_val : imz.val = .agg #[.int .u32 1, .int .u16 1, .int .u32 1, .int .u16 0, .string ⟨#[109]⟩, .int .u64 0] := rfl
theorem info5 : (Try.prog.info? 5).map (fun i => (i.zero, i.size, i.bytes)) = some (some (.int .u8 0), 1, 1) := by kernel_rfl
set_option maxHeartbeats 4000000 in
theorem room_walk (a0 a1 a2 : Nat) (w : World) (h0 : a0 < 256) (h1 : a1 < 256) (h2 : a2 < 65536) :
    Calls Try.prog 8 #[.int .u8 (a0 : Int), .int .u8 (a1 : Int), .int .u16 (a2 : Int)] w fun e w' => e = .returned (.bool true) ∧ Below w.heap.size w w' := by
  have HS := Aside0.mk (sep_start w)
  obtain ⟨r, hr⟩ : ∃ r : Nat, a0 % 20 = r := ⟨_, rfl⟩
  obtain ⟨m, hm⟩ : ∃ m : Nat, a1 % 30 = m := ⟨_, rfl⟩
  obtain ⟨s, hs⟩ : ∃ s : Nat, a2 % 1200 = s := ⟨_, rfl⟩
  have HA : Aside0 (r < 20 ∧ m < 30 ∧ s < 1200) := ⟨by omega⟩
  have r1 : ((a0 : Int) % 20) = (r : Int) := by omega
  have r2 : ((a1 : Int) % 30) = (m : Int) := by omega
  have r3 : ((a2 : Int) % 1200) = (s : Int) := by omega
  clear h0 h1 h2 hr hm hs
  go_enter Try.func8, Try.ntmps8
  go_upto_region 5 with (first | (go_at_call 9; (with_reducible refine Calls.mono (examples_walk _) ?_); rintro e w1 ⟨rfl, hb_⟩; have n_ := sep_below HS.out hb_; clear hb_; have n0_ := Aside0.mk n_; clear HS n_; have HS := n0_; clear n0_) | (go_at_call 10; (with_reducible refine Calls.mono (bag_New 1 _ (by have := HA.out; omega) (by have := HA.out; omega)) ?_); rintro e w2 ⟨p, rfl, hm_⟩; have n_ := sep_made_of HS.out (sep_only hm_); clear hm_; have n0_ := Aside0.mk n_; clear HS n_; have HS := n0_; clear n0_))
  obtain ⟨k, hk⟩ : ∃ k : Nat, r + 1 = k := ⟨_, rfl⟩
  rw [show (1 + (r : Int)) = (k : Int) by omega]
  have HK : Aside0 (1 ≤ k ∧ k ≤ 20) := ⟨by have := HA.out; omega⟩
  clear hk
  go_upto_region 8 with (go_at_call 10; (with_reducible refine Calls.mono (bag_New (k : Int) _ (by have := HK.out; omega) (by have := HK.out; omega)) ?_); rintro e w2 ⟨p, rfl, hm_⟩; have n_ := sep_made_of HS.out (sep_only hm_); clear hm_; have n0_ := Aside0.mk n_; clear HS n_; have HS := n0_; clear n0_)
  go_upto_region 9 with (fail)
  have n_ := sep_l1 (sep_alloc HS.out #[.int .u32 1, .int .u16 1, .int .u32 2, .int .u16 2, .string ⟨#[109]⟩, .int .u64 0] 35)
  have n0_ := Aside0.mk n_; clear HS n_; have HS := n0_; clear n0_
  generalize w2.alloc (.cells #[.int .u32 1, .int .u16 1, .int .u32 2, .int .u16 2, .string ⟨#[109]⟩, .int .u64 0] 35) = wa at HS ⊢
  generalize w2.heap.size = g11 at HS ⊢
  go_upto_region 10 with (fail)
  go_loopg [12] m (fun gg v12 wr => ∃ i : Nat, i ≤ m ∧ m - i ≤ gg ∧ v12 = .int .i64 (i : Int) ∧ Aside0 (Sep w (fun _ => False) (bagA p (List.replicate (min i k) (im bm 0)) k ⋆ pt g11 #[.int .u32 1, .int .u16 1, .int .u32 2, .int .u16 2, .string ⟨#[109]⟩, .int .u64 0] 35 ⋆ emp) wr))
  case atStart => exact ⟨0, Nat.zero_le _, by omega, rfl, ⟨by rw [Nat.zero_min]; exact HS.out⟩⟩
  case round =>
    clear HS
    obtain ⟨i, hi, hgi, rfl, HS⟩ := hrel
    obtain ⟨k1, k2, k3, k4, k5, k6⟩ := facts6 (sep_l1 HS.out)
    by_cases hlt : i < m
    · have c1b : decide ((i : Int) < (m : Int)) = true := decide_eq_true (Int.ofNat_lt.2 hlt); have c1n : decide (i < m) = true := decide_eq_true hlt; have c1q : (i < m) = True := eq_true hlt; have p0_ := eq_true (Int.natCast_nonneg i)
      have HI := Aside0.mk (And.intro hlt hgi)
      clear hi hgi hlt
      by_cases hik : i < k
      · rw [Nat.min_eq_left (by omega)] at HS
        have E1 := Aside0.mk (rp_ok hik)
        have t1 : decide ((i : Int) < (k : Int)) = true := decide_eq_true (by omega)
        have t2 : decide (i < k) = true := decide_eq_true hik
        have t3 := eq_true hik
        have HIK := Aside0.mk hik
        clear hik
        go_wp2_with (go_at_call 11; obtain ⟨ok_, hp_, hk_⟩ := sep_use1 HS.out; have hx_ := bag_PutE p (List.replicate i (im bm 0)) k (im bm 0) _ ok_ (by have := HK.out; omega) hp_; rw [E1.out.1, E1.out.2, bm_val] at hx_; (with_reducible refine Calls.mono hx_ ?_); rintro e w1 ⟨rfl, hq_⟩; have n_ := back1 hk_ hq_; clear hx_ hp_ hk_ hq_; have n0_ := Aside0.mk n_; clear HS n_; have HS := n0_; clear n0_; clear k1 k2 k3 k4 k5 k6; obtain ⟨k1, k2, k3, k4, k5, k6⟩ := facts6 (sep_l1 HS.out))
        go_roundg (m - (i + 1))
        case measure => have := HI.out; omega
        case rel => exact ⟨i + 1, HI.out.1, Nat.le_refl _, congrArg (Value.int .i64) (by have := HI.out; have := HA.out; unfold wrap64; omega), ⟨by rw [Nat.min_eq_left (by have := HIK.out; omega)]; exact HS.out⟩⟩
      · rw [Nat.min_eq_right (by omega)] at HS
        have t1 : decide ((i : Int) < (k : Int)) = false := decide_eq_false (by omega)
        have t2 : decide (i < k) = false := decide_eq_false hik
        have t3 := eq_false hik
        have HIK := Aside0.mk hik
        clear hik
        go_wp2_with (go_at_call 11; obtain ⟨ok_, hp_, hk_⟩ := sep_use1 HS.out; have hx_ := bag_PutE p (List.replicate k (im bm 0)) k (im bm 0) _ ok_ (by have := HK.out; omega) hp_; rw [rp_full.1, rp_full.2, bm_val] at hx_; (with_reducible refine Calls.mono hx_ ?_); rintro e w1 ⟨rfl, hq_⟩; have n_ := back1 hk_ hq_; clear hx_ hp_ hk_ hq_; have n0_ := Aside0.mk n_; clear HS n_; have HS := n0_; clear n0_; clear k1 k2 k3 k4 k5 k6; obtain ⟨k1, k2, k3, k4, k5, k6⟩ := facts6 (sep_l1 HS.out))
        go_roundg (m - (i + 1))
        case measure => have := HI.out; omega
        case rel => exact ⟨i + 1, HI.out.1, Nat.le_refl _, congrArg (Value.int .i64) (by have := HI.out; have := HA.out; unfold wrap64; omega), ⟨by rw [Nat.min_eq_right (by have := HIK.out; omega)]; exact HS.out⟩⟩
    · obtain rfl : i = m := by omega
      have c2b : decide ((i : Int) < (i : Int)) = false := decide_eq_false (by omega)
      clear hi hgi hlt
      obtain ⟨n, hn⟩ : ∃ n, min i k = n := ⟨_, rfl⟩
      rw [hn] at HS
      go_upto_region 16 with (go_at_call 14; obtain ⟨ok_, hp_, hk_⟩ := sep_use1 HS.out; have hx_ := bag_Len p (List.replicate n (im bm 0)) k _ ok_ hp_; rw [List.length_replicate] at hx_; (with_reducible refine Calls.mono hx_ ?_); rintro e w1 ⟨rfl, hq_⟩; have n_ := back1 hk_ hq_; clear hx_ hp_ hk_ hq_; have n0_ := Aside0.mk n_; clear HS n_; have HS := n0_; clear n0_; clear k1 k2 k3 k4 k5 k6; obtain ⟨k1, k2, k3, k4, k5, k6⟩ := facts6 (sep_l1 HS.out))
      go_upto_region 17 with (fail)
      have n_ := sep_l1 (sep_alloc HS.out #[.int .u32 1, .int .u16 1, .int .u32 2, .int .u16 2, .string ⟨#[109]⟩, .int .u64 0] 35)
      have n0_ := Aside0.mk n_; clear HS n_; have HS := n0_; clear n0_
      generalize w1.alloc (.cells #[.int .u32 1, .int .u16 1, .int .u32 2, .int .u16 2, .string ⟨#[109]⟩, .int .u64 0] 35) = wb at HS ⊢
      generalize w1.heap.size = g15 at HS ⊢
      clear k1 k2 k3 k4 k5 k6
      obtain ⟨k1, k2, k3, k4, k5, k6⟩ := facts6 (sep_l1 HS.out)
      have kf4 := sep_frozen (sep_l1 HS.out) 4
      go_upto_region 18 with ((with_reducible refine gate_ (.makeSlice 22 (.tmp 70) (.tmp 70)) rfl ?_); refine wp_make (Kd.int .u8) 5 rfl rfl 22 (.tmp 70) (.tmp 70) rfl s rfl rfl Try.underlying22 (.int .u8 0) 1 info5 rfl (by decide) (by decide) 0 rfl (by have := HA.out; omega) HS.out ?_; intro v5 w5 n_; obtain ⟨A5, c5, rfl, -, hC5⟩ := sep_row n_; rw [List.length_replicate] at hC5 ⊢; have hcv := Kd.C_string (src := 22) (dst := 9) (c := c5) Try.underlying22 Try.underlying5 Try.underlying9 hC5; clear hC5 k1 k2 k3 k4 k5 k6 kf4; replace n_ := sep_drop n_; have n0_ := Aside0.mk n_; clear HS n_; have HS := n0_; clear n0_; obtain ⟨k1, k2, k3, k4, k5, k6⟩ := facts6 (sep_l1 HS.out); have kf4 := sep_frozen (sep_l1 HS.out) 4; generalize hB : strOfNums (List.replicate s 0) = B at hcv)
      have n_ := sep_l1 (sep_set_4 (sep_l1 HS.out) (.string B))
      have n0_ := Aside0.mk n_; clear HS n_; have HS := n0_; clear n0_
      generalize w5.setCell ⟨g15, 4, none⟩ (.string B) = w6 at HS ⊢
      clear k1 k2 k3 k4 k5 k6 kf4 hcv
      obtain ⟨k1, k2, k3, k4, k5, k6⟩ := facts6 (sep_l2 HS.out)
      go_upto_region 19 with (fail)
      have n_ := sep_l2 (sep_l2 (sep_drop (sep_l3 (sep_alloc HS.out #[.int .u32 1, .int .u16 1, .int .u32 2, .int .u16 2, .string ⟨#[109]⟩, .int .u64 0] 35))))
      have n0_ := Aside0.mk n_; clear HS n_; have HS := n0_; clear n0_
      generalize w6.alloc (.cells #[.int .u32 1, .int .u16 1, .int .u32 2, .int .u16 2, .string ⟨#[109]⟩, .int .u64 0] 35) = w7 at HS ⊢
      generalize w6.heap.size = g16 at HS ⊢
      clear k1 k2 k3 k4 k5 k6
      obtain ⟨m1, m2, m3, m4, m5, m6⟩ := facts6 (sep_l2 HS.out)
      have kf2 := sep_frozen (sep_l2 HS.out) 2
      have kf3 := sep_frozen (sep_l2 HS.out) 3
      go_upto_region 20 with (fail)
      have n_ := sep_l2 (sep_l2 (sep_set_23 (sep_l2 HS.out) (.int .u32 1) (.int .u16 0)))
      have n0_ := Aside0.mk n_; clear HS n_; have HS := n0_; clear n0_
      generalize (w7.setCell ⟨g16, 2, none⟩ (.int .u32 1)).setCell ⟨g16, 3, none⟩ (.int .u16 0) = w8 at HS ⊢
      clear m1 m2 m3 m4 m5 m6 kf2 kf3
      obtain ⟨m1, m2, m3, m4, m5, m6⟩ := facts6 (sep_l2 HS.out)
      go_upto_region 21 with (go_at_call 11; obtain ⟨ok_, hp_, hk_⟩ := sep_use1 HS.out; have hx_ := bag_PutE p (List.replicate n (im bm 0)) k imz _ ok_ (by have := HK.out; omega) hp_; rw [(rp_none _ _).1, (rp_none _ _).2, imz_val] at hx_; (with_reducible refine Calls.mono hx_ ?_); rintro e w1 ⟨rfl, hq_⟩; have n_ := back1 hk_ hq_; clear hx_ hp_ hk_ hq_; have n0_ := Aside0.mk n_; clear HS n_; have HS := n0_; clear n0_; skip)
      clear m1 m2 m3 m4 m5 m6
      obtain ⟨xx, fe, L2, hw⟩ : ∃ xx fe L2, awayE (List.replicate n (im bm 0)) 18446744073709551615 0 = (xx, fe, L2) := ⟨_, _, _, rfl⟩
      have hL2 : (L2.length : Int) < k := by have := rp_drop (k := k) (n := n) (by omega) HK.out.1; rw [hw] at this; exact this
      have HW := Aside0.mk hw
      have HL2 := Aside0.mk hL2
      have HN := Aside0.mk hn
      clear hw hL2 hn
      go_upto_region 22 with (go_at_call 20; obtain ⟨ok_, hp_, hk_⟩ := sep_use1 HS.out; have hx_ := bag_Drop p (List.replicate n (im bm 0)) k 0 _ ok_ (by decide) hp_; rw [HW.out] at hx_; dsimp only at hx_; (with_reducible refine Calls.mono hx_ ?_); rintro e w1 ⟨rfl, hq_⟩; have n_ := back1 hk_ hq_; clear hx_ hp_ hk_ hq_; have n0_ := Aside0.mk n_; clear HS n_; have HS := n0_; clear n0_; skip)
      obtain ⟨k1, k2, k3, k4, k5, k6⟩ := facts6 (sep_l1 HS.out)
      have hBs : B.size = s := by rw [← hB, strOfNums_size, List.length_replicate]
      clear hB
      by_cases hbad : s = 0 ∨ 1024 < s
      · have E1 := Aside0.mk (put_bad (room := k) (l := L2) (b := B) (t := 0) (by rw [hBs]; exact hbad))
        go_upto_region 24 with (go_at_call 11; obtain ⟨ok_, hp_, hk_⟩ := sep_use1 HS.out; have hx_ := bag_PutE p L2 k (im B 0) _ ok_ (by have := HK.out; omega) hp_; rw [E1.out, im_val] at hx_; (with_reducible refine Calls.mono hx_ ?_); rintro e w1 ⟨rfl, hq_⟩; have n_ := back1 hk_ hq_; clear hx_ hp_ hk_ hq_; have n0_ := Aside0.mk n_; clear HS n_; have HS := n0_; clear n0_; clear k1 k2 k3 k4 k5 k6; obtain ⟨k1, k2, k3, k4, k5, k6⟩ := facts6 (sep_l1 HS.out))
        rcases hbad with h0 | h1
        · have s1 := eq_true h0
          have s2 : ((s : Int) == 0) = true := by simp [h0]
          have s3 : decide ((s : Int) = 0) = true := decide_eq_true (by omega)
          clear h0
          by_cases hki : k < i
          · obtain rfl : n = k := by have := HN.out; omega
            have t1 := eq_true hki
            have t2 : ((n : Int) < (i : Int)) = True := eq_true (by omega)
            go_wp2
            go_ret
            exact ⟨rfl, sep_below_of HS.out⟩
          · obtain rfl : n = i := by have := HN.out; omega
            have t1 := eq_false hki
            have t2 : ((k : Int) < (n : Int)) = False := eq_false (by omega)
            go_wp2
            go_ret
            exact ⟨rfl, sep_below_of HS.out⟩
        · have s1 : (s = 0) = False := eq_false (by omega)
          have s2 : ((s : Int) == 0) = false := by simp; omega
          have s3 : decide ((s : Int) = 0) = false := decide_eq_false (by omega)
          have s4 : decide ((1024 : Int) < (s : Int)) = true := decide_eq_true (by omega)
          have s5 : decide (1024 < s) = true := decide_eq_true h1
          have s6 := eq_true h1
          clear h1
          by_cases hki : k < i
          · obtain rfl : n = k := by have := HN.out; omega
            have t1 := eq_true hki
            have t2 : ((n : Int) < (i : Int)) = True := eq_true (by omega)
            go_wp2
            go_ret
            exact ⟨rfl, sep_below_of HS.out⟩
          · obtain rfl : n = i := by have := HN.out; omega
            have t1 := eq_false hki
            have t2 : ((k : Int) < (n : Int)) = False := eq_false (by omega)
            go_wp2
            go_ret
            exact ⟨rfl, sep_below_of HS.out⟩
      · have E1 := Aside0.mk (put_ok (room := k) (l := L2) (b := B) (t := 0) (by omega) (by omega) HL2.out)
        go_upto_region 24 with (go_at_call 11; obtain ⟨ok_, hp_, hk_⟩ := sep_use1 HS.out; have hx_ := bag_PutE p L2 k (im B 0) _ ok_ (by have := HK.out; omega) hp_; rw [E1.out.1, im_val] at hx_; (with_reducible refine Calls.mono hx_ ?_); rintro e w1 ⟨rfl, hq_⟩; have n_ := back1 hk_ hq_; clear hx_ hp_ hk_ hq_; have n0_ := Aside0.mk n_; clear HS n_; have HS := n0_; clear n0_; clear k1 k2 k3 k4 k5 k6; obtain ⟨k1, k2, k3, k4, k5, k6⟩ := facts6 (sep_l1 HS.out))
        have s1 : (s = 0) = False := eq_false (by omega)
        have s2 : ((s : Int) == 0) = false := by simp; omega
        have s3 : decide ((s : Int) = 0) = false := decide_eq_false (by omega)
        have s4 : decide ((1024 : Int) < (s : Int)) = false := decide_eq_false (by omega)
        have s5 : decide (1024 < s) = false := decide_eq_false (by omega)
        have s6 : (1024 < s) = False := eq_false (by omega)
        clear hbad
        by_cases hki : k < i
        · obtain rfl : n = k := by have := HN.out; omega
          have t1 := eq_true hki
          have t2 : ((n : Int) < (i : Int)) = True := eq_true (by omega)
          go_wp2
          go_ret
          exact ⟨rfl, sep_below_of HS.out⟩
        · obtain rfl : n = i := by have := HN.out; omega
          have t1 := eq_false hki
          have t2 : ((k : Int) < (n : Int)) = False := eq_false (by omega)
          go_wp2
          go_ret
          exact ⟨rfl, sep_below_of HS.out⟩
end Go.Proofs.Ytlpiodcklacdpaa.BG
