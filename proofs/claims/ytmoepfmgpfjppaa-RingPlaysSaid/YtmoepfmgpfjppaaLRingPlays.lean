/- RingPlays, walked. Conditions: those that the theorem names. -/
import Derived.Test.YtmoepfmgpfjppaaXD
import Derived.Deep.RegionHeld3
namespace Go.Proofs.Ytmoepfmgpfjppaa.LX
set_option linter.unusedVariables false
set_option linter.unusedSimpArgs false
open Go Go.RowKit Go.Proofs.YtmoepfmgpfjppaaS Go.Proofs.YtmoepfmgpfjppaaS.Asn Go.Proofs.Ytmoepfmgpfjppaa.PA Go.Proofs.Ytmoepfmgpfjppaa.MA Go.Proofs.Ytmoepfmgpfjppaa.RG Go.Proofs.Ytmoepfmgpfjppaa.XD Go.Proofs.YtmoepfmgpfjppaaW.PrintWords Go.Proofs.YtmoepfmgpfjppaaW.PrintLast Go.Proofs.YtmoepfmgpfjppaaW.PrintMore
theorem same_call {a : List Int} {A B : Option Addr} {c d : Nat} {w : World} (h : Kd.C (Kd.int .i64) w A a.length a) (hc : a.length ≤ c) (h' : Kd.C (Kd.int .i64) w B a.length a) (hd : a.length ≤ d) (hl : a.length ≤ 1000000) :
    Calls Try.prog 11 #[.slice A a.length c, .slice B a.length d] w fun e w' => e = .returned (.bool true) ∧ Drawn0 w w' :=
  scuttlebuttlaw13_same.calls (a.length + 2) A c a B d a true w h hc h' hd (same_self _ a (by omega) (by omega))
theorem facts3 {w0 w : World} {ok0 : Nat → Prop} {F : Asn} {g : Nat} {t : TypeId} {a b c : Value} (h : Sep w0 ok0 (pt g #[a, b, c] t ⋆ F) w) :
    w.cell? ⟨g, 0, none⟩ = some a ∧ w.cell? ⟨g, 1, none⟩ = some b ∧ w.cell? ⟨g, 2, none⟩ = some c :=
  ⟨sep_cell h 0, sep_cell h 1, sep_cell h 2⟩
theorem add_f (a : Addr) (i j : Nat) (h : j ≠ 0) : (⟨(a.add i).block, (a.add i).off + j, none⟩ : Addr) = a.add (i + j) := by
  rw [← Go.Deep.add_add]
  generalize a.add i = b
  unfold Addr.add
  rw [if_neg h]
theorem facts2 {w0 w : World} {ok0 : Nat → Prop} {F : Asn} {g : Nat} {t : TypeId} {a b : Value} (h : Sep w0 ok0 (pt g #[a, b] t ⋆ F) w) :
    w.cell? ⟨g, 0, none⟩ = some a ∧ w.cell? ⟨g, 1, none⟩ = some b :=
  ⟨sep_cell h 0, sep_cell h 1⟩
theorem som_len {s : Int} {l : List Int} {k : Int} {m : List Int} {s' : Int} (h : som s l k = (m, s')) (hl : l.length ≤ 12) : m.length ≤ 12 := by
  have h1 : m = (mix s l).1.take (cutAt k l.length) := by
    unfold som at h
    exact (congrArg Prod.fst h).symm
  rw [h1, List.length_take, mix_length]
  omega
set_option maxHeartbeats 4000000 in
set_option maxRecDepth 100000 in
theorem plays_walk (a0 : Int) (A1 : Option Addr) (c1 : Nat) (l1 : List Dd) (w : World) (hr1 : deedK.C w A1 l1.length l1) (hc1 : l1.length ≤ c1) :
    Calls Try.prog 3 #[.int .u64 a0, .slice A1 l1.length c1] w fun e w' => e = .returned (.bool true) ∧ Below w.heap.size w w' := by
  have HR1 := Aside0.mk hr1
  have HC1 := Aside0.mk hc1
  have hlen : l1.length ≤ 9223372036854775807 := hr1.2.1
  clear hr1 hc1
  have HS := Aside0.mk (sep_start w)
  go_enter Try.func3, Try.ntmps3
  go_upto_region 9 with (first | (go_at_call 8; refine Calls.mono (examples_walk _) ?_; rintro e w1 ⟨rfl, hb_⟩; have n_ := sep_below HS.out hb_; clear hb_; have n0_ := Aside0.mk n_; clear HS n_; have HS := n0_; clear n0_) | (go_at_call 9; refine Calls.mono (ring_New a0 _) ?_; rintro e w2 ⟨p, rfl, hm_⟩; have n_ := sep_made_of HS.out (sep_only hm_); clear hm_; have n0_ := Aside0.mk n_; clear HS n_; have HS := n0_; clear n0_) | (go_at_call 10; refine Calls.mono (ref_New a0 _) ?_; rintro e w3 ⟨q, rfl, hm_⟩; have n_ := sep_made_of HS.out (sep_only hm_); replace n_ := sep_l1 n_; clear hm_; have n0_ := Aside0.mk n_; clear HS n_; have HS := n0_; clear n0_))
  go_loopg [8] 60 (fun gg v8 wr => ∃ (i : Nat) (s : Int) (left : List Int), i ≤ l1.length ∧ i ≤ 60 ∧ 60 - i ≤ gg ∧ v8 = .int .i64 (i : Int) ∧ Aside0 (left.length ≤ 12) ∧ Aside0 (Sep w (fun _ => False) (ringA p s left ⋆ refA q s left ⋆ emp) wr))
  case atStart => exact ⟨0, a0, [], Nat.zero_le _, by omega, by omega, rfl, ⟨Nat.zero_le _⟩, HS⟩
  case round =>
    clear HS
    obtain ⟨i, s, L1, hi1, hi60, hgg, rfl, HL, HS⟩ := hrel
    by_cases hb : i < l1.length ∧ i < 60
    · obtain ⟨hlt, h60⟩ := hb
      have c1b : decide ((i : Int) < (l1.length : Int)) = true := decide_eq_true (Int.ofNat_lt.2 hlt); have c1n : decide (i < l1.length) = true := decide_eq_true hlt; have c1q : (i < l1.length) = True := eq_true hlt; have p0_ := eq_true (Int.natCast_nonneg i)
      have c2b : decide ((i : Int) < 60) = true := decide_eq_true (by omega)
      obtain ⟨sm, dl, dk, hd⟩ : ∃ sm dl dk, l1[i] = (sm, dl, dk) := ⟨_, _, _, rfl⟩
      obtain ⟨ad, D1, d1, e_, hd1, hdr, ka, kb, kc⟩ := deed_at HR1.out i (sm, dl, dk) ((List.getElem?_eq_getElem hlt).trans (congrArg some hd))
      cases e_
      have HDC := Aside0.mk hd1
      have HDR := Aside0.mk hdr
      have HI2 := Aside0.mk (And.intro hlt (And.intro h60 hgg))
      have hwi := i_step i (by omega)
      have KA := Aside0.mk (And.intro ka (And.intro kb kc))
      have kaw := ((sep_below_of HS.out).cell (World.block_lt_of_cell? w _ ka)).trans ka
      have kbw := (congrArg wr.cell? (add_f ad (i * 3) 1 (by decide))).trans (((sep_below_of HS.out).cell (World.block_lt_of_cell? w _ kb)).trans kb)
      have kcw := (congrArg wr.cell? (add_f ad (i * 3) 2 (by decide))).trans (((sep_below_of HS.out).cell (World.block_lt_of_cell? w _ kc)).trans kc)
      clear hd hd1 hdr ka kb kc hi1 hi60 hgg
      go_upto_region 13 with (fail)
      have n_ := sep_alloc HS.out #[.bool sm, .slice D1 dl.length d1, .int .i64 dk] 31
      have n0_ := Aside0.mk n_; clear HS n_; have HS := n0_; clear n0_
      generalize wr.alloc (.cells #[.bool sm, .slice D1 dl.length d1, .int .i64 dk] 31) = wa at HS ⊢
      generalize wr.heap.size = g9 at HS ⊢
      obtain ⟨k1, k2, k3⟩ := facts3 HS.out
      clear kaw kbw kcw
      have HX := Aside0.mk (lst_length dl)
      cases sm with
      | true =>
        obtain ⟨m, S2, hm⟩ : ∃ m S2, som s (lst dl) (Int.tmod dk 15) = (m, S2) := ⟨_, _, rfl⟩
        have HM := Aside0.mk hm
        have HML : Aside0 (m.length ≤ 12) := ⟨som_len HM.out (lst_length dl)⟩
        clear hm
        obtain ⟨L2, rfl⟩ : ∃ L2, L2 = L1 := ⟨_, rfl⟩
        go_upto_region 14 with (fail)
        replace HS := Aside0.mk (sep_drew HS.out)
        (first | go_region_held3 (fun w' => w'.cell? ⟨g9, 0, none⟩ = some (.bool true) ∧ w'.cell? ⟨g9, 1, none⟩ = some (.slice D1 dl.length d1) ∧ w'.cell? ⟨g9, 2, none⟩ = some (.int .i64 dk)) (exact ⟨k1, k2, k3⟩) (first | (have _ := HCa; (go_at_call 13; have hx_ := list_call (a := true) (n := dk) (Kd.C_below HDR.out (sep_below_of HS.out)) HDC.out; (with_reducible refine Calls.mono hx_ ?_); rintro e w5 ⟨v5_, rfl, hq_⟩; have n_ := sep_made_of HS.out (sep_only hq_); clear hx_ hq_; obtain ⟨v, cv, rfl, hcv, -⟩ := sep_row n_; have HCv := Aside0.mk hcv; clear hcv; replace n_ := sep_l4 (row_rdo n_); have n0_ := Aside0.mk n_; clear HS n_; have HS := n0_; clear n0_; clear k1 k2 k3; obtain ⟨k1, k2, k3⟩ := facts3 (sep_l4 HS.out))) | (go_at_call 13; have hx_ := list_call (a := true) (n := dk) (Kd.C_below HDR.out (sep_below_of HS.out)) HDC.out; (with_reducible refine Calls.mono hx_ ?_); rintro e w5 ⟨v5_, rfl, hq_⟩; have n_ := sep_made_of HS.out (sep_only hq_); clear hx_ hq_; obtain ⟨v, cv, rfl, hcv, -⟩ := sep_row n_; have HCv := Aside0.mk hcv; clear hcv; replace n_ := sep_l2 (row_rdo n_); have n0_ := Aside0.mk n_; clear HS n_; have HS := n0_; clear n0_; clear k1 k2 k3; obtain ⟨k1, k2, k3⟩ := facts3 (sep_l2 HS.out)) | (go_at_call 12; obtain ⟨ok_, hp_, hk_⟩ := sep_use2 HS.out; have hx_ := ring_SomeE HM.out HCv.out (by have := HX.out; omega) hp_; (with_reducible refine Calls.mono hx_ ?_); rintro e w6 ⟨v6, rfl, hq_⟩; have n_ := sep_drop (sep_l2 (back3 hk_ hq_)); clear hx_ hp_ hk_ hq_ HCv; obtain ⟨a, ca, rfl, hca, -⟩ := sep_row n_; have HCa := Aside0.mk hca; clear hca; replace n_ := row_rdo n_; have n0_ := Aside0.mk n_; clear HS n_; have HS := n0_; clear n0_; clear k1 k2 k3; obtain ⟨k1, k2, k3⟩ := facts3 (sep_l2 HS.out)) | (go_at_call 14; obtain ⟨ok_, hp_, hk_⟩ := sep_use2 HS.out; have hx_ := ref_SomeE HM.out HCv.out (by have := HX.out; omega) hp_; (with_reducible refine Calls.mono hx_ ?_); rintro e w6 ⟨v6, rfl, hq_⟩; have n_ := sep_drop (sep_l2 (back3 hk_ hq_)); clear hx_ hp_ hk_ hq_ HCv; obtain ⟨b, cb, rfl, hcb, -⟩ := sep_row n_; have HCb := Aside0.mk hcb; clear hcb; replace n_ := row_rdo n_; have n0_ := Aside0.mk n_; clear HS n_; have HS := n0_; clear n0_; clear k1 k2 k3; obtain ⟨k1, k2, k3⟩ := facts3 (sep_l4 HS.out)) | (go_at_call 11; have hx_ := same_call (sep_rdo (sep_l2 HS.out)) HCa.out (sep_rdo HS.out) HCb.out (by have := HML.out; omega); (with_reducible refine Calls.mono hx_ ?_); rintro e w7 ⟨rfl, hd_⟩; have n_ := sep_drop (sep_l1 (sep_drop (sep_drawn HS.out hd_))); clear hx_ hd_; have n0_ := Aside0.mk n_; clear HS n_; have HS := n0_; clear n0_; clear k1 k2 k3; obtain ⟨k1, k2, k3⟩ := facts3 (sep_l2 HS.out))) | fail)
        go_upto_region 18 with (fail)
        clear k1 k2 k3
        obtain ⟨B, cB, hcB, n_⟩ := ref_open HS.out
        have HCB := Aside0.mk hcB
        clear hcB
        have n0_ := Aside0.mk n_; clear HS n_; have HS := n0_; clear n0_
        replace HS := Aside0.mk (sep_drew HS.out)
        obtain ⟨m1, m2⟩ := facts2 HS.out
        (first | go_region_held3 (fun w' => w'.cell? ⟨q, 0, none⟩ = some (.int .u64 S2) ∧ w'.cell? ⟨q, 1, none⟩ = some (.slice B L2.length cB)) (exact ⟨m1, m2⟩) (first | (go_at_call 17; obtain ⟨ok_, hp_, hk_⟩ := sep_use1 (sep_l2 HS.out); have hx_ := ring_Left p _ L2 _ ok_ (by have := HL.out; omega) hp_; (with_reducible refine Calls.mono hx_ ?_); rintro e w8 ⟨v8, rfl, hq_⟩; have n_ := back2 hk_ hq_; obtain ⟨c, cc, rfl, hcc, -⟩ := sep_row n_; have HCc := Aside0.mk hcc; clear hcc; replace n_ := row_rdo n_; clear hx_ hp_ hk_ hq_; have n0_ := Aside0.mk n_; clear HS n_; have HS := n0_; clear n0_; clear m1 m2; obtain ⟨m1, m2⟩ := facts2 (sep_l2 HS.out)) | (go_at_call 11; have hx_ := same_call (sep_rdo HS.out) HCc.out (sep_rdo (sep_l3 HS.out)) HCB.out (by have := HL.out; omega); (with_reducible refine Calls.mono hx_ ?_); rintro e w7 ⟨rfl, hd_⟩; have n_ := sep_drop (sep_drawn HS.out hd_); clear hx_ hd_; have n0_ := Aside0.mk n_; clear HS n_; have HS := n0_; clear n0_; clear m1 m2; obtain ⟨m1, m2⟩ := facts2 (sep_l1 HS.out))) | fail)
        go_upto_region 19 with (fail)
        replace HS := Aside0.mk (sep_drew HS.out)
        (first | go_region_held3 (fun w' => w'.cell? ⟨q, 0, none⟩ = some (.int .u64 S2) ∧ w'.cell? ⟨q, 1, none⟩ = some (.slice B L2.length cB)) (exact ⟨m1, m2⟩) (first | (go_at_call 18; obtain ⟨ok_, hp_, hk_⟩ := sep_use1 HS.out; have hx_ := ring_State p _ L2 _ ok_ hp_; (with_reducible refine Calls.mono hx_ ?_); rintro e w9 ⟨rfl, hq_⟩; have n_ := back1 hk_ hq_; clear hx_ hp_ hk_ hq_; have n0_ := Aside0.mk n_; clear HS n_; have HS := n0_; clear n0_; clear m1 m2; obtain ⟨m1, m2⟩ := facts2 (sep_l1 HS.out))) | fail)
        go_wp2
        go_roundg (60 - (i + 1))
        case measure => have := HI2.out; omega
        case rel => exact ⟨i + 1, S2, L2, HI2.out.1, HI2.out.2.1, Nat.le_refl _, congrArg (Value.int .i64) (by omega), HL, ⟨sep_l1 (ref_mk (sep_l2 (sep_l2 (sep_drop (sep_l3 HS.out)))) HCB.out)⟩⟩
      | false =>
        obtain ⟨id, b, S2, L2, hn⟩ : ∃ id b S2 L2, nx s L1 (lst dl) = (id, b, S2, L2) := ⟨_, _, _, _, rfl⟩
        have HN := Aside0.mk hn
        have HLL : Aside0 (L1.length ≤ 1000000) := ⟨Nat.le_trans HL.out (by omega)⟩
        replace HL : Aside0 (L2.length ≤ 12) := ⟨by have h1 := nx_len HN.out; have h2 := HL.out; have h3 := HX.out; omega⟩
        clear hn
        go_upto_region 16 with (first | (go_at_call 13; have hx_ := list_call (a := false) (n := dk) (Kd.C_below HDR.out (sep_below_of HS.out)) HDC.out; (with_reducible refine Calls.mono hx_ ?_); rintro e w5 ⟨v5_, rfl, hq_⟩; have n_ := sep_made_of HS.out (sep_only hq_); clear hx_ hq_; obtain ⟨v, cv, rfl, hcv, -⟩ := sep_row n_; have HCv := Aside0.mk hcv; clear hcv; replace n_ := sep_l2 (row_rdo n_); have n0_ := Aside0.mk n_; clear HS n_; have HS := n0_; clear n0_; clear k1 k2 k3; obtain ⟨k1, k2, k3⟩ := facts3 (sep_l2 HS.out)) | (go_at_call 15; obtain ⟨ok_, hp_, hk_⟩ := sep_use2 HS.out; have hx_ := ring_NextE HN.out HCv.out HLL.out (by have := HX.out; omega) hp_; (with_reducible refine Calls.mono hx_ ?_); rintro e w6 ⟨rfl, hq_⟩; have n_ := sep_drop (sep_l1 (back2 hk_ hq_)); clear hx_ hp_ hk_ hq_ HCv; have n0_ := Aside0.mk n_; clear HS n_; have HS := n0_; clear n0_; clear k1 k2 k3; obtain ⟨k1, k2, k3⟩ := facts3 (sep_l1 HS.out)))
        go_upto_region 17 with (first | (go_at_call 13; have hx_ := list_call (a := false) (n := dk) (Kd.C_below HDR.out (sep_below_of HS.out)) HDC.out; (with_reducible refine Calls.mono hx_ ?_); rintro e w5 ⟨v5_, rfl, hq_⟩; have n_ := sep_made_of HS.out (sep_only hq_); clear hx_ hq_; obtain ⟨v, cv, rfl, hcv, -⟩ := sep_row n_; have HCv := Aside0.mk hcv; clear hcv; replace n_ := sep_l3 (row_rdo n_); have n0_ := Aside0.mk n_; clear HS n_; have HS := n0_; clear n0_; clear k1 k2 k3; obtain ⟨k1, k2, k3⟩ := facts3 (sep_l3 HS.out)) | (go_at_call 16; obtain ⟨ok_, hp_, hk_⟩ := sep_use2 HS.out; have hx_ := ref_NextE HN.out HCv.out HLL.out (by have := HX.out; omega) hp_; (with_reducible refine Calls.mono hx_ ?_); rintro e w6 ⟨rfl, hq_⟩; have n_ := sep_drop (sep_l1 (back2 hk_ hq_)); clear hx_ hp_ hk_ hq_ HCv; have n0_ := Aside0.mk n_; clear HS n_; have HS := n0_; clear n0_; clear k1 k2 k3; obtain ⟨k1, k2, k3⟩ := facts3 (sep_l2 HS.out)))
        go_upto_region 18 with (fail)
        clear k1 k2 k3
        obtain ⟨B, cB, hcB, n_⟩ := ref_open HS.out
        have HCB := Aside0.mk hcB
        clear hcB
        have n0_ := Aside0.mk n_; clear HS n_; have HS := n0_; clear n0_
        replace HS := Aside0.mk (sep_drew HS.out)
        obtain ⟨m1, m2⟩ := facts2 HS.out
        (first | go_region_held3 (fun w' => w'.cell? ⟨q, 0, none⟩ = some (.int .u64 S2) ∧ w'.cell? ⟨q, 1, none⟩ = some (.slice B L2.length cB)) (exact ⟨m1, m2⟩) (first | (go_at_call 17; obtain ⟨ok_, hp_, hk_⟩ := sep_use1 (sep_l2 HS.out); have hx_ := ring_Left p _ L2 _ ok_ (by have := HL.out; omega) hp_; (with_reducible refine Calls.mono hx_ ?_); rintro e w8 ⟨v8, rfl, hq_⟩; have n_ := back2 hk_ hq_; obtain ⟨c, cc, rfl, hcc, -⟩ := sep_row n_; have HCc := Aside0.mk hcc; clear hcc; replace n_ := row_rdo n_; clear hx_ hp_ hk_ hq_; have n0_ := Aside0.mk n_; clear HS n_; have HS := n0_; clear n0_; clear m1 m2; obtain ⟨m1, m2⟩ := facts2 (sep_l2 HS.out)) | (go_at_call 11; have hx_ := same_call (sep_rdo HS.out) HCc.out (sep_rdo (sep_l3 HS.out)) HCB.out (by have := HL.out; omega); (with_reducible refine Calls.mono hx_ ?_); rintro e w7 ⟨rfl, hd_⟩; have n_ := sep_drop (sep_drawn HS.out hd_); clear hx_ hd_; have n0_ := Aside0.mk n_; clear HS n_; have HS := n0_; clear n0_; clear m1 m2; obtain ⟨m1, m2⟩ := facts2 (sep_l1 HS.out))) | fail)
        go_upto_region 19 with (fail)
        replace HS := Aside0.mk (sep_drew HS.out)
        (first | go_region_held3 (fun w' => w'.cell? ⟨q, 0, none⟩ = some (.int .u64 S2) ∧ w'.cell? ⟨q, 1, none⟩ = some (.slice B L2.length cB)) (exact ⟨m1, m2⟩) (first | (go_at_call 18; obtain ⟨ok_, hp_, hk_⟩ := sep_use1 HS.out; have hx_ := ring_State p _ L2 _ ok_ hp_; (with_reducible refine Calls.mono hx_ ?_); rintro e w9 ⟨rfl, hq_⟩; have n_ := back1 hk_ hq_; clear hx_ hp_ hk_ hq_; have n0_ := Aside0.mk n_; clear HS n_; have HS := n0_; clear n0_; clear m1 m2; obtain ⟨m1, m2⟩ := facts2 (sep_l1 HS.out))) | fail)
        go_wp2
        go_roundg (60 - (i + 1))
        case measure => have := HI2.out; omega
        case rel => exact ⟨i + 1, S2, L2, HI2.out.1, HI2.out.2.1, Nat.le_refl _, congrArg (Value.int .i64) (by omega), HL, ⟨sep_l1 (ref_mk (sep_l2 (sep_l2 (sep_drop (sep_l3 HS.out)))) HCB.out)⟩⟩
    · have hc : (decide ((i : Int) < (l1.length : Int)) = false ∧ decide (i < l1.length) = false ∧ ((i : Int) < (l1.length : Int)) = False ∧ (i < l1.length) = False) ∨ ((decide ((i : Int) < (l1.length : Int)) = true ∧ decide (i < l1.length) = true ∧ ((i : Int) < (l1.length : Int)) = True ∧ (i < l1.length) = True) ∧ (decide ((i : Int) < 60) = false ∧ ((i : Int) < 60) = False ∧ (i < 60) = False)) := by
        by_cases hlt : i < l1.length
        · exact Or.inr ⟨⟨decide_eq_true (by omega), decide_eq_true hlt, eq_true (by omega), eq_true hlt⟩, ⟨decide_eq_false (by omega), eq_false (by omega), eq_false (by omega)⟩⟩
        · exact Or.inl ⟨decide_eq_false (by omega), decide_eq_false hlt, eq_false (by omega), eq_false hlt⟩
      clear hb hi1 hi60 hgg
      rcases hc with ⟨c1b, c1n, c1p, c1q⟩ | ⟨⟨c1b, c1n, c1p, c1q⟩, c2b, c2p, c2q⟩
      all_goals go_wp2
      all_goals go_ret
      all_goals exact ⟨rfl, sep_below_of HS.out⟩
end Go.Proofs.Ytmoepfmgpfjppaa.LX
