/- NetWrong, walked. Conditions: those that the theorem names. -/
import Derived.Test.YtobfabfoenldfaaXP
namespace Go.Proofs.Ytobfabfoenldfaa.NW
set_option linter.unusedVariables false
set_option linter.unusedSimpArgs false
open Go Go.RowKit Go.Proofs.YtobfabfoenldfaaS Go.Proofs.YtobfabfoenldfaaS.Asn Go.Proofs.Ytobfabfoenldfaa.PA Go.Proofs.YtobfabfoenldfaaW.PrintWords Go.Proofs.YtobfabfoenldfaaW.PrintLast Go.Proofs.YtobfabfoenldfaaW.PrintMore


open Go.Proofs.Ytobfabfoenldfaa.BG
def hd : Hs := ⟨1, 7, 0⟩
def sBad : Sp := ⟨0, 0, 77, 0, 1⟩
def sOne : Sp := ⟨0, 0, 77, 1, 1⟩
def sIn : Sp := ⟨0, 0, 1, 1, 1⟩
theorem right_sp {S : List Sp} (h : ∀ x ∈ S, Right x) (T : List Sp) (hT : ∀ x ∈ T, Right x) : ∀ x ∈ S ++ T, Right x := fun x hx => (List.mem_append.1 hx).elim (h x) (hT x)
theorem right_bad : Right sBad := ⟨by decide, by decide, by decide, by decide, by decide⟩
theorem right_one : Right sOne := ⟨by decide, by decide, by decide, by decide, by decide⟩
theorem right_in : Right sIn := ⟨by decide, by decide, by decide, by decide, by decide⟩
theorem new_bad (A A2 : Option Addr) (c c2 : Nat) (hs : List Hs) (sp : List Sp) (n m : Nat) (w : World) (hn : hs.length = n) (hm : sp.length = m) (h1 : 1 ≤ n ∧ n ≤ 32) (h2 : m ≤ 16) (hR : ∀ s ∈ sp, Right s) (hbad : (hostsBad sp.length [] hs || specsBad hs [] sp) = true) (hC : hosK.C w A hs.length hs) (hC2 : spK.C w A2 sp.length sp) :
    Calls Try.prog 10 #[.slice A n c, .slice A2 m c2, .int .i64 9] w fun e w' => e = .returned (.tuple #[.pointer none, .int .i64 1]) ∧ Below w.heap.size w w' := by
  subst hn hm
  refine Calls.mono (net_New A A2 c c2 hs sp 9 w h1 h2 (by decide) hR hC hC2) ?_
  intro e w' h
  unfold NewR at h
  rwa [if_pos hbad] at h
theorem hos_cells {w0 w : World} {ok0 : Nat → Prop} {F : Asn} {g n c : Nat} {hs t : List Hs} (h : Sep w0 ok0 (row hosK 34 (.slice (some ⟨g, 0, none⟩) n c) hs ⋆ F) w) (ht : hs = ⟨1, 7, 0⟩ :: t) : (w.cell? ⟨g, 0, none⟩ = some (.int .u32 1) ∧ w.cell? ⟨g, 1, none⟩ = some (.int .u16 7) ∧ w.cell? ⟨g, 2, none⟩ = some (.int .i64 0)) ∧ ∀ j, w.frozen? ⟨g, j, none⟩ = false := by
  obtain ⟨ad, e, k0, k1, k2⟩ := hos_at (sep_row' h).2.2 0 ⟨1, 7, 0⟩ (by rw [ht]; rfl)
  cases e
  rw [add_at] at k0 k1 k2
  exact ⟨⟨k0, k1, k2⟩, fun j => hos_frozen h j⟩
theorem hos_set1 {w0 w : World} {ok0 : Nat → Prop} {F : Asn} {g n c : Nat} {x : Hs} {t : List Hs} (h : Sep w0 ok0 (row hosK 34 (.slice (some ⟨g, 0, none⟩) n c) (x :: t) ⋆ F) w) (j : Nat) (x' : Hs) (v : Value) (hj : j < 3) (hc : x'.cells = x.cells.set j v) : Sep w0 ok0 (row hosK 34 (.slice (some ⟨g, 0, none⟩) n c) (x' :: t) ⋆ F) (w.setCell ⟨g, j, none⟩ v) := by
  have := sep_hos_set h 0 j x x' v rfl hj hc
  rw [Nat.zero_mul, Nat.zero_add] at this
  exact this
set_option maxHeartbeats 4000000 in
set_option maxRecDepth 100000 in
theorem wrong_walk (A1 A2 A : Option Addr) (n1 c1 n2 c2 c : Nat) (own : Bool) (l : List Int) (how : Int) (w : World) (hC : (Kd.int .u8).C w A l.length l) (hb : ∀ x ∈ l, 0 ≤ x ∧ x < 256) (hh : 0 ≤ how ∧ how ≤ 255) :
    Calls Try.prog 4 #[.agg #[.slice A1 n1 c1, .slice A2 n2 c2, .bool own, .slice A l.length c], .int .u8 how] w fun e w' => e = .returned (.bool true) ∧ Below w.heap.size w w' := by
  have HS := Aside0.mk (sep_start w)
  have hb' : ∀ (j : Nat) (b : Int), l[j]? = some b → 0 ≤ b ∧ b ≤ 255 := fun j b hj => by have := hb b (List.mem_of_getElem? hj); omega
  have HC := Aside0.mk hC
  have HB := Aside0.mk hb'
  have hk5 : min l.length 5 ≤ 5 := Nat.min_le_right _ _
  obtain ⟨hp1, hp2⟩ := plan_ok l hb' (min l.length 5) hk5
  have hp3 := plan_right l hb' (min l.length 5)
  have hp4 := planH_len l (min l.length 5)
  have hp5 := (planS_len l (min l.length 5)).1
  obtain ⟨t, hp6⟩ := planH_head l (min l.length 5)
  obtain ⟨H, hH⟩ : ∃ H, planH l (min l.length 5) = H := ⟨_, rfl⟩
  obtain ⟨S, hS⟩ : ∃ S, planS l (min l.length 5) = S := ⟨_, rfl⟩
  rw [hH] at hp1 hp2 hp4 hp6
  rw [hS] at hp1 hp2 hp3 hp5
  have HHS := Aside0.mk (And.intro hH hS)
  have HP := Aside0.mk (And.intro hp1 (And.intro hp2 (And.intro hp3 (And.intro (show 1 ≤ H.length ∧ H.length ≤ 6 by omega) (show S.length ≤ 5 by omega)))))
  have HT := Aside0.mk hp6
  clear hC hb hb' hp1 hp2 hp3 hp4 hp5 hp6 hH hS hk5
  go_enter Try.func4, Try.ntmps4
  go_upto_region 1 with (fail)
  have n_ := sep_allocg HS.out #[.slice A1 n1 c1, .slice A2 n2 c2, .bool own, .slice A l.length c] 49 _ rfl; have n0_ := Aside0.mk n_; clear HS n_; have HS := n0_; clear n0_; generalize hw_ : World.alloc _ _ = wa at HS ⊢; clear hw_; generalize hp_ : Array.size (World.heap _) = g2 at HS ⊢; clear hp_
  go_upto_region 4 with (go_at_call 9; (with_reducible refine Calls.mono (examples_walk _) ?_); rintro e w1 ⟨rfl, hb_⟩; have n_ := sep_below HS.out hb_; clear hb_; have n0_ := Aside0.mk n_; clear HS n_; have HS := n0_; clear n0_; skip)
  have p2 := sep_cell HS.out 2
  have f2 := sep_frozen HS.out 2
  go_upto_region 5 with (fail)
  have n_ := sep_set HS.out 2 (.bool true)
  clear p2 f2
  have n0_ := Aside0.mk n_; clear HS n_; have HS := n0_; clear n0_
  generalize World.setCell _ _ _ = wb at HS ⊢
  have p0 := sep_cell HS.out 0
  have p1 := sep_cell HS.out 1
  have p2 := sep_cell HS.out 2
  have p3 := sep_cell HS.out 3
  go_upto_region 6 with (go_at_call 14; have hx_ := plan_walk A1 A2 A n1 c1 n2 c2 c l _ HB.out (Kd.C_below HC.out (sep_below_of HS.out)); rw [HHS.out.1, HHS.out.2] at hx_; (with_reducible refine Calls.mono hx_ ?_); rintro e w1 ⟨v1, v2, rfl, hm_⟩; have n_ := made2 HS.out hm_; clear hx_ hm_; have n0_ := Aside0.mk n_; clear HS n_; have HS := n0_; clear n0_)
  clear p0 p1 p2 p3
  obtain ⟨B1, d1, rfl, hd1, -⟩ := sep_row HS.out
  obtain ⟨B2, d2, rfl, hd2, -⟩ := sep_row (sep_l1 HS.out)
  clear hd1 hd2
  go_upto_region 7 with (go_at_call 10; have hx_ := net_New B1 B2 d1 d2 H S 9 _ (by have := HP.out.2.2.2.1; omega) (by have := HP.out.2.2.2.2; omega) (by decide) HP.out.2.2.1 (sep_row' HS.out).2.2 (sep_row' (sep_l1 HS.out)).2.2; (with_reducible refine Calls.mono hx_ ?_); rintro e w1 hN_; unfold NewR at hN_; rw [if_neg (by rw [HP.out.1, HP.out.2.1]; decide)] at hN_; obtain ⟨p, pb, qs, rfl, hq_, hm_⟩ := hN_; have n_ := sep_below HS.out (sep_below_of hm_); clear hx_ hq_ hm_; have n0_ := Aside0.mk n_; clear HS n_; have HS := n0_; clear n0_)
  go_upto_region 8 with ((with_reducible refine gate_builtin (b := .append) (xs := #[.const (.slice none 0 0), .tmp 30]) rfl ?_); at_builtin; refine wp_append_rows hosK rfl (.const (.slice none 0 0)) (.tmp 30) 35 34 v34 16 rfl Try.underlying35 info34 rfl (by decide) (by decide) (.slice none 0 0) [] H B1 H.length d1 (by rfl) (by rfl) (sep_row_nil HS.out) (sep_row' HS.out).2.2 (fun x cs hk => by rw [hosK_open hk]; exact hosK_M _ _ _ _) (by have := HP.out.2.2.2.1; simp only [List.length_nil]; omega) ?_; intro v3 w4 n_; rw [List.nil_append] at n_; have n0_ := Aside0.mk n_; clear HS n_; have HS := n0_; clear n0_)
  obtain ⟨B3, d3, rfl, hd3, -⟩ := sep_row HS.out
  go_upto_region 9 with ((with_reducible refine gate_builtin (b := .append) (xs := #[.const (.slice none 0 0), .tmp 32]) rfl ?_); at_builtin; refine wp_append_rows spK rfl (.const (.slice none 0 0)) (.tmp 32) 39 38 v38 40 rfl Try.underlying39 info38 rfl (by decide) (by decide) (.slice none 0 0) [] S B2 S.length d2 (by rfl) (by rfl) (sep_row_nil HS.out) (sep_row' (sep_l2 HS.out)).2.2 (fun x cs hk => by rw [spK_open hk]; exact spK_M _ _ _ _) (by have := HP.out.2.2.2.2; simp only [List.length_nil]; omega) ?_; intro v4 w4 n_; rw [List.nil_append] at n_; have n_ := sep_l1 n_; have n0_ := Aside0.mk n_; clear HS n_; have HS := n0_; clear n0_)
  obtain ⟨B4, d4, rfl, hd4, -⟩ := sep_row (sep_l1 HS.out)
  obtain ⟨g, hg3⟩ := row_addr HS.out (by have := HP.out.2.2.2.1; omega)
  subst hg3
  clear hd3 hd4
  go_upto_region 11 with (fail)
  have hj8 : how % 8 = 0 ∨ how % 8 = 1 ∨ how % 8 = 2 ∨ how % 8 = 3 ∨ how % 8 = 4 ∨ how % 8 = 5 ∨ how % 8 = 6 ∨ how % 8 = 7 := by omega
  generalize how % 8 = j at hj8 ⊢
  clear hh
  have HLH : Aside0 (t.length + 1 = H.length) := ⟨by rw [HT.out]; rfl⟩
  have l0 : (0 < H.length) = True := eq_true (by have := HP.out.2.2.2.1; omega)
  have l1 : decide (0 < H.length) = true := decide_eq_true (by have := HP.out.2.2.2.1; omega)
  have l2 : ((0 : Int) < (H.length : Int)) = True := eq_true (by have := HP.out.2.2.2.1; omega)
  rcases hj8 with rfl | rfl | rfl | rfl | rfl | rfl | rfl | rfl
  · skip
    obtain ⟨⟨z0, z1, z2⟩, fz⟩ := hos_cells HS.out HT.out
    have fz0 := fz 0
    have fz1 := fz 1
    have fz2 := fz 2
    clear fz
    go_upto_region 27 with (fail)
    clear z0 z1 z2 fz0 fz1 fz2
    have hs := HS.out
    rw [show row hosK 34 (.slice (some ⟨g, 0, none⟩) H.length d3) H = row hosK 34 (.slice (some ⟨g, 0, none⟩) H.length d3) (⟨1, 7, 0⟩ :: t) by rw [← HT.out]] at hs
    have n_ := hos_set1 (hos_set1 hs 0 ⟨0, 7, 0⟩ (.int .u32 0) (by decide) rfl) 1 ⟨0, 0, 0⟩ (.int .u16 0) (by decide) rfl
    clear hs
    have n0_ := Aside0.mk n_; clear HS n_; have HS := n0_; clear n0_
    generalize World.setCell _ _ _ = wc at HS ⊢
    go_upto_region 28 with (go_at_call 10; have hx_ := new_bad (some ⟨g, 0, none⟩) B4 d3 d4 (⟨0, 0, 0⟩ :: t) S H.length S.length _ HLH.out rfl (by have := HP.out; omega) (by have := HP.out; omega) HP.out.2.2.1 (wrong_head _ _ t _ _ (.inl rfl)) (sep_row' HS.out).2.2 (sep_row' (sep_l1 HS.out)).2.2; (with_reducible refine Calls.mono hx_ ?_); rintro e w1 ⟨rfl, hb_⟩; have n_ := sep_below HS.out hb_; clear hx_ hb_; have n0_ := Aside0.mk n_; clear HS n_; have HS := n0_; clear n0_)
    go_wp2
    go_ret
    exact ⟨rfl, sep_below_of HS.out⟩
  · skip
    obtain ⟨⟨z0, z1, z2⟩, fz⟩ := hos_cells HS.out HT.out
    have fz0 := fz 0
    have fz1 := fz 1
    have fz2 := fz 2
    clear fz
    go_upto_region 27 with ((with_reducible refine gate_builtin (b := .append) (xs := #[.tmp 44, .tmp 48]) rfl ?_); at_builtin; refine wp_append hosK rfl (.tmp 44) (.tmp 48) 35 34 v34 16 rfl Try.underlying35 info34 rfl (by decide) (by decide) _ H ⟨1, 7, 0⟩ (Hs.cells ⟨1, 7, 0⟩) (by rfl) (by rfl) (hosK_M _ _ _ _) HS.out (by have := HP.out.2.2.2.1; omega) ?_; intro v5 w4 n_; obtain ⟨M2, hM2⟩ : ∃ M2, H ++ [(⟨1, 7, 0⟩ : Hs)] = M2 := ⟨_, rfl⟩; rw [hM2] at n_; have HM2 := Aside0.mk hM2; clear hM2; obtain ⟨B5, d5, rfl, -, -⟩ := sep_row n_; have n0_ := Aside0.mk n_; clear HS n_; have HS := n0_; clear n0_)
    clear z0 z1 z2 fz0 fz1 fz2
    have HML : Aside0 (M2.length = H.length + 1) := ⟨by rw [← HM2.out, List.length_append]; rfl⟩
    go_upto_region 28 with (go_at_call 10; have hx_ := new_bad B5 B4 d5 d4 M2 S M2.length S.length _ rfl rfl (by have := HP.out; have := HML.out; omega) (by have := HP.out; omega) HP.out.2.2.1 (by rw [← HM2.out, HT.out]; exact wrong_twice _ _ t _ _) (sep_row' HS.out).2.2 (sep_row' (sep_l1 HS.out)).2.2; (with_reducible refine Calls.mono hx_ ?_); rintro e w1 ⟨rfl, hb_⟩; have n_ := sep_below HS.out hb_; clear hx_ hb_; have n0_ := Aside0.mk n_; clear HS n_; have HS := n0_; clear n0_)
    go_wp2
    go_ret
    exact ⟨rfl, sep_below_of HS.out⟩
  · skip
    obtain ⟨⟨z0, z1, z2⟩, fz⟩ := hos_cells HS.out HT.out
    have fz0 := fz 0
    have fz1 := fz 1
    have fz2 := fz 2
    clear fz
    have w1_ : wrap64 ((S.length : Int) + 1) = (S.length : Int) + 1 := by have := HP.out.2.2.2.2; unfold wrap64; omega
    have w2_ : IntKind.i64.wrap ((S.length : Int) + 1) = (S.length : Int) + 1 := by have := HP.out.2.2.2.2; rw [IntKind.wrap_i64]; omega
    go_upto_region 27 with (fail)
    clear z0 z1 z2 fz0 fz1 fz2 w1_ w2_
    have hs := HS.out
    rw [show row hosK 34 (.slice (some ⟨g, 0, none⟩) H.length d3) H = row hosK 34 (.slice (some ⟨g, 0, none⟩) H.length d3) (⟨1, 7, 0⟩ :: t) by rw [← HT.out]] at hs
    have n_ := hos_set1 hs 2 ⟨1, 7, (S.length : Int) + 1⟩ (.int .i64 ((S.length : Int) + 1)) (by decide) rfl
    clear hs
    have n0_ := Aside0.mk n_; clear HS n_; have HS := n0_; clear n0_
    generalize World.setCell _ _ _ = wc at HS ⊢
    go_upto_region 28 with (go_at_call 10; have hx_ := new_bad (some ⟨g, 0, none⟩) B4 d3 d4 (⟨1, 7, (S.length : Int) + 1⟩ :: t) S H.length S.length _ HLH.out rfl (by have := HP.out; omega) (by have := HP.out; omega) HP.out.2.2.1 (wrong_head _ _ t _ _ (.inr (.inr (Int.lt_succ _)))) (sep_row' HS.out).2.2 (sep_row' (sep_l1 HS.out)).2.2; (with_reducible refine Calls.mono hx_ ?_); rintro e w1 ⟨rfl, hb_⟩; have n_ := sep_below HS.out hb_; clear hx_ hb_; have n0_ := Aside0.mk n_; clear HS n_; have HS := n0_; clear n0_)
    go_wp2
    go_ret
    exact ⟨rfl, sep_below_of HS.out⟩
  · skip
    obtain ⟨⟨z0, z1, z2⟩, fz⟩ := hos_cells HS.out HT.out
    have fz0 := fz 0
    have fz1 := fz 1
    have fz2 := fz 2
    clear fz
    go_upto_region 27 with (fail)
    clear z0 z1 z2 fz0 fz1 fz2
    have hs := HS.out
    rw [show row hosK 34 (.slice (some ⟨g, 0, none⟩) H.length d3) H = row hosK 34 (.slice (some ⟨g, 0, none⟩) H.length d3) (⟨1, 7, 0⟩ :: t) by rw [← HT.out]] at hs
    have n_ := hos_set1 hs 2 ⟨1, 7, -1⟩ (.int .i64 (-1)) (by decide) rfl
    clear hs
    have n0_ := Aside0.mk n_; clear HS n_; have HS := n0_; clear n0_
    generalize World.setCell _ _ _ = wc at HS ⊢
    go_upto_region 28 with (go_at_call 10; have hx_ := new_bad (some ⟨g, 0, none⟩) B4 d3 d4 (⟨1, 7, -1⟩ :: t) S H.length S.length _ HLH.out rfl (by have := HP.out; omega) (by have := HP.out; omega) HP.out.2.2.1 (wrong_head _ _ t _ _ (.inr (.inl (by decide)))) (sep_row' HS.out).2.2 (sep_row' (sep_l1 HS.out)).2.2; (with_reducible refine Calls.mono hx_ ?_); rintro e w1 ⟨rfl, hb_⟩; have n_ := sep_below HS.out hb_; clear hx_ hb_; have n0_ := Aside0.mk n_; clear HS n_; have HS := n0_; clear n0_)
    go_wp2
    go_ret
    exact ⟨rfl, sep_below_of HS.out⟩
  · skip
    obtain ⟨⟨z0, z1, z2⟩, fz⟩ := hos_cells HS.out HT.out
    have fz0 := fz 0
    have fz1 := fz 1
    have fz2 := fz 2
    clear fz
    go_upto_region 27 with ((with_reducible refine gate_builtin (b := .append) (xs := #[.tmp 65, .tmp 72]) rfl ?_); at_builtin; refine wp_append spK rfl (.tmp 65) (.tmp 72) 39 38 v38 40 rfl Try.underlying39 info38 rfl (by decide) (by decide) _ S sIn (Sp.cells sIn) (by rfl) (by rfl) (spK_M _ _ _ _) (sep_l1 HS.out) (by have := HP.out.2.2.2.2; omega) ?_; intro v5 w4 n_; obtain ⟨M2, hM2⟩ : ∃ M2, S ++ [sIn] = M2 := ⟨_, rfl⟩; rw [hM2] at n_; have HM2 := Aside0.mk hM2; clear hM2; obtain ⟨B5, d5, rfl, -, -⟩ := sep_row n_; have n_ := sep_l1 n_; have n0_ := Aside0.mk n_; clear HS n_; have HS := n0_; clear n0_)
    clear z0 z1 z2 fz0 fz1 fz2
    have HML : Aside0 (M2.length = S.length + 1) := ⟨by rw [← HM2.out, List.length_append]; rfl⟩
    go_upto_region 28 with (go_at_call 10; have hx_ := new_bad (some ⟨g, 0, none⟩) B5 d3 d5 H M2 H.length M2.length _ rfl rfl (by have := HP.out; omega) (by have := HP.out; have := HML.out; omega) (by rw [← HM2.out]; exact right_sp HP.out.2.2.1 [sIn] (fun x hx => by obtain rfl := List.mem_singleton.1 hx; exact right_in)) (by rw [← HM2.out]; exact wrong_spec _ _ _ [] _ (.inr (by rw [HT.out]; rfl))) (sep_row' HS.out).2.2 (sep_row' (sep_l1 HS.out)).2.2; (with_reducible refine Calls.mono hx_ ?_); rintro e w1 ⟨rfl, hb_⟩; have n_ := sep_below HS.out hb_; clear hx_ hb_; have n0_ := Aside0.mk n_; clear HS n_; have HS := n0_; clear n0_)
    go_wp2
    go_ret
    exact ⟨rfl, sep_below_of HS.out⟩
  · go_upto_region 27 with ((with_reducible refine gate_builtin (b := .append) (xs := #[.tmp 76, .tmp 78]) rfl ?_); at_builtin; refine wp_append spK rfl (.tmp 76) (.tmp 78) 39 38 v38 40 rfl Try.underlying39 info38 rfl (by decide) (by decide) _ S sBad (Sp.cells sBad) (by rfl) (by rfl) (spK_M _ _ _ _) (sep_l1 HS.out) (by have := HP.out.2.2.2.2; omega) ?_; intro v5 w4 n_; obtain ⟨M2, hM2⟩ : ∃ M2, S ++ [sBad] = M2 := ⟨_, rfl⟩; rw [hM2] at n_; have HM2 := Aside0.mk hM2; clear hM2; obtain ⟨B5, d5, rfl, -, -⟩ := sep_row n_; have n_ := sep_l1 n_; have n0_ := Aside0.mk n_; clear HS n_; have HS := n0_; clear n0_)
    have HML : Aside0 (M2.length = S.length + 1) := ⟨by rw [← HM2.out, List.length_append]; rfl⟩
    go_upto_region 28 with (go_at_call 10; have hx_ := new_bad (some ⟨g, 0, none⟩) B5 d3 d5 H M2 H.length M2.length _ rfl rfl (by have := HP.out; omega) (by have := HP.out; have := HML.out; omega) (by rw [← HM2.out]; exact right_sp HP.out.2.2.1 [sBad] (fun x hx => by obtain rfl := List.mem_singleton.1 hx; exact right_bad)) (by rw [← HM2.out]; exact wrong_spec _ _ _ [] _ (.inl rfl)) (sep_row' HS.out).2.2 (sep_row' (sep_l1 HS.out)).2.2; (with_reducible refine Calls.mono hx_ ?_); rintro e w1 ⟨rfl, hb_⟩; have n_ := sep_below HS.out hb_; clear hx_ hb_; have n0_ := Aside0.mk n_; clear HS n_; have HS := n0_; clear n0_)
    go_wp2
    go_ret
    exact ⟨rfl, sep_below_of HS.out⟩
  · go_upto_region 27 with ((with_reducible refine gate_builtin (b := .append) (xs := #[.tmp 82, .tmp 85]) rfl ?_); at_builtin; have h2_ := sep_allocg HS.out #[.int .i64 0, .int .i64 0, .int .u32 77, .int .u64 1, .int .i64 1, .int .i64 0, .int .i64 0, .int .u32 77, .int .u64 1, .int .i64 1] 38 _ rfl; refine wp_append_rows spK rfl (.tmp 82) (.tmp 85) 39 38 v38 40 rfl Try.underlying39 info38 rfl (by decide) (by decide) _ S [sOne, sOne] _ 2 2 (by rfl) (by rfl) (sep_l2 h2_) (lit_sp [sOne, sOne] h2_ (by decide) (fun j x hx => by rcases j with _ | _ | j <;> first | (cases hx; exact ⟨rfl, rfl, rfl, rfl, rfl⟩) | simp at hx)) (fun x cs hk => by rw [spK_open hk]; exact spK_M _ _ _ _) (by have := HP.out.2.2.2.2; omega) ?_; clear h2_; intro v5 w4 n_; obtain ⟨M2, hM2⟩ : ∃ M2, S ++ [sOne, sOne] = M2 := ⟨_, rfl⟩; rw [hM2] at n_; have HM2 := Aside0.mk hM2; clear hM2; obtain ⟨B5, d5, rfl, -, -⟩ := sep_row n_; have n_ := sep_l1 (sep_drop (sep_l1 n_)); have n0_ := Aside0.mk n_; clear HS n_; have HS := n0_; clear n0_)
    have HML : Aside0 (M2.length = S.length + 2) := ⟨by rw [← HM2.out, List.length_append]; rfl⟩
    go_upto_region 28 with (go_at_call 10; have hx_ := new_bad (some ⟨g, 0, none⟩) B5 d3 d5 H M2 H.length M2.length _ rfl rfl (by have := HP.out; omega) (by have := HP.out; have := HML.out; omega) (by rw [← HM2.out]; exact right_sp HP.out.2.2.1 [sOne, sOne] (fun x hx => by rcases List.mem_cons.1 hx with rfl | hx; exact right_one; obtain rfl := List.mem_singleton.1 hx; exact right_one)) (by rw [← HM2.out]; exact wrong_owned _ _ _ _) (sep_row' HS.out).2.2 (sep_row' (sep_l1 HS.out)).2.2; (with_reducible refine Calls.mono hx_ ?_); rintro e w1 ⟨rfl, hb_⟩; have n_ := sep_below HS.out hb_; clear hx_ hb_; have n0_ := Aside0.mk n_; clear HS n_; have HS := n0_; clear n0_)
    go_wp2
    go_ret
    exact ⟨rfl, sep_below_of HS.out⟩
  · go_upto_region 28 with (go_at_call 10; (with_reducible refine Calls.mono (net_New_room (some ⟨g, 0, none⟩) B4 d3 d4 H.length S.length _ (by have := HP.out; omega) (by have := HP.out; omega)) ?_); rintro e w1 ⟨rfl, hb_⟩; have n_ := sep_below HS.out hb_; clear hb_; have n0_ := Aside0.mk n_; clear HS n_; have HS := n0_; clear n0_)
    go_wp2
    go_ret
    exact ⟨rfl, sep_below_of HS.out⟩
end Go.Proofs.Ytobfabfoenldfaa.NW
