/- Written by xprint.py, a program of this session: Go functions that the laws reach, each as a plain Lean function, and the proof that the Go code comes to what it says. No condition but those that each theorem names. -/
import Derived.Test.YtbkileohjcijpaaPAx0
import Derived.Test.YtbkileohjcijpaaPAx1
import Derived.Test.YtbkileohjcijpaaPAx2
import Derived.WalkSpells
import Derived.WalkLawsBesides
import Derived.Test.YtbkileohjcijpaaXAux
namespace Go.Proofs.Ytbkileohjcijpaa.PA
open Go.RowKit Go.Proofs.YtbkileohjcijpaaW.PrintWords Go.Proofs.YtbkileohjcijpaaW.PrintLast Go.Proofs.YtbkileohjcijpaaW.PrintMore
attribute [local go_sem] max2_int min2_int max_two min_two max_three min_three max_four min_four   -- for this text's walks alone
set_option linter.unusedVariables false
set_option linter.unusedSimpArgs false

/-! ### scuttlebuttlaw01_DrawSome: function 6 -/
mutual
def scuttlebuttlaw01_DrawSome.l0 : Nat → Int → Int → Int → List Int → Int → Option (Bool)
  | 0, _, _, _, _, _ => none
  | k + 1, x0, x1, x2, x8, x9 => if x9 < (wrap64 (Int.tmod x1 21)) then (if x8.length < 17592186044416 then (scuttlebuttlaw01_DrawSome.l0 k x0 x1 x2 (x8 ++ [wrap64 (100 + x9)]) (wrap64 (x9 + 1))) else (none)) else ((draw_New.f x0).bind fun t254 => ((draw_Stream_Some.f k t254 x8 (wrap64 (x2))).bind fun bt255 => ((draw_New.f x0).bind fun t260 => ((draw_Stream_Mix.f k t260 x8).bind fun bt261 => (if 21 ≤ 281474976710656 then (scuttlebuttlaw01_DrawSome.l1 k x2 x8 bt255.1 bt261.1 (List.replicate 21 false) 0 bt255.2 bt261.2) else (none))))))
def scuttlebuttlaw01_DrawSome.l1 : Nat → Int → List Int → List Int → List Int → List Bool → Int → Int → Int → Option (Bool)
  | 0, _, _, _, _, _, _, _, _ => none
  | k + 1, x2, x8, x10, x12, x14, x15, x260000, x266000 => if x15 < (x10.length : Int) then (if 0 ≤ x15 then (if (wrap64 ((rd x10 x15) - 100)) < 0 then (none) else (if (wrap64 ((rd x10 x15) - 100)) ≥ (x8.length : Int) then (none) else (if 0 ≤ (wrap64 ((rd x10 x15) - 100)) then (if (wrap64 ((rd x10 x15) - 100)) < (x14.length : Int) then (if rdOf false x14 (wrap64 ((rd x10 x15) - 100)) = true then (none) else (scuttlebuttlaw01_DrawSome.l1 k x2 x8 x10 x12 (x14.set ((wrap64 ((rd x10 x15) - 100)) : Int).toNat true) (wrap64 (x15 + 1)) x260000 x266000)) else (none)) else (none)))) else (none)) else (scuttlebuttlaw01_DrawSome.l2 k x2 x8 x10 x12 0 x260000 x266000)
def scuttlebuttlaw01_DrawSome.l2 : Nat → Int → List Int → List Int → List Int → Int → Int → Int → Option (Bool)
  | 0, _, _, _, _, _, _, _ => none
  | k + 1, x2, x8, x10, x12, x17, x260000, x266000 => if x17 < (x8.length : Int) then (if 0 ≤ x17 then (if (rd x8 x17) = (wrap64 (100 + x17)) then (scuttlebuttlaw01_DrawSome.l2 k x2 x8 x10 x12 (wrap64 (x17 + 1)) x260000 x266000) else (none)) else (none)) else (if (x10.length : Int) = (mx (mn (wrap64 (x2)) (x8.length : Int)) 0) then (if x260000 = x266000 then (some ((x12.length : Int) == (x8.length : Int))) else (none)) else (none))
end
def scuttlebuttlaw01_DrawSome.f (k : Nat) (a0 : Int) (a1 : Int) (a2 : Int) : Option (Bool) := (scuttlebuttlaw01_examples.f k).bind fun t250 => (if t250 = true then (scuttlebuttlaw01_DrawSome.l0 k a0 a1 a2 ([] : List Int) 0) else (none))
theorem scuttlebuttlaw01_DrawSome.mono_l : ∀ k, (∀ y0 y1 y2 y3 y4, LeO (scuttlebuttlaw01_DrawSome.l0 k y0 y1 y2 y3 y4) (scuttlebuttlaw01_DrawSome.l0 (k + 1) y0 y1 y2 y3 y4)) ∧ (∀ y0 y1 y2 y3 y4 y5 y6 y7, LeO (scuttlebuttlaw01_DrawSome.l1 k y0 y1 y2 y3 y4 y5 y6 y7) (scuttlebuttlaw01_DrawSome.l1 (k + 1) y0 y1 y2 y3 y4 y5 y6 y7)) ∧ (∀ y0 y1 y2 y3 y4 y5 y6, LeO (scuttlebuttlaw01_DrawSome.l2 k y0 y1 y2 y3 y4 y5 y6) (scuttlebuttlaw01_DrawSome.l2 (k + 1) y0 y1 y2 y3 y4 y5 y6))
  | 0 => ⟨fun _ _ _ _ _ r h => by simp [scuttlebuttlaw01_DrawSome.l0] at h, fun _ _ _ _ _ _ _ _ r h => by simp [scuttlebuttlaw01_DrawSome.l1] at h, fun _ _ _ _ _ _ _ r h => by simp [scuttlebuttlaw01_DrawSome.l2] at h⟩
  | k + 1 => by
    obtain ⟨ih0, ih1, ih2⟩ := scuttlebuttlaw01_DrawSome.mono_l k
    refine ⟨?_, ?_, ?_⟩
    · intro y0 y1 y2 y3 y4
      unfold scuttlebuttlaw01_DrawSome.l0
      repeat' first
      | (with_reducible exact ih0 _ _ _ _ _)
      | (with_reducible exact ih1 _ _ _ _ _ _ _ _)
      | (with_reducible exact ih2 _ _ _ _ _ _ _)
      | (with_reducible exact draw_Stream_Mix.mono _ _ _)
      | (with_reducible exact draw_Stream_Some.mono _ _ _ _)
      | (with_reducible exact scuttlebuttlaw01_examples.mono _)
      | (with_reducible exact LeO.refl _)
      | (with_reducible exact LeO.none _)
      | (with_reducible refine LeO.ite ?_ ?_)
      | (with_reducible refine LeO.bind ?_ (fun _ => ?_))
      | exact ih0 _ _ _ _ _
      | exact ih1 _ _ _ _ _ _ _ _
      | exact ih2 _ _ _ _ _ _ _
      | exact draw_Stream_Mix.mono _ _ _
      | exact draw_Stream_Some.mono _ _ _ _
      | exact scuttlebuttlaw01_examples.mono _
      | exact LeO.none _
      | refine LeO.ite ?_ ?_
      | refine LeO.bind ?_ (fun _ => ?_)
    · intro y0 y1 y2 y3 y4 y5 y6 y7
      unfold scuttlebuttlaw01_DrawSome.l1
      repeat' first
      | (with_reducible exact ih0 _ _ _ _ _)
      | (with_reducible exact ih1 _ _ _ _ _ _ _ _)
      | (with_reducible exact ih2 _ _ _ _ _ _ _)
      | (with_reducible exact draw_Stream_Mix.mono _ _ _)
      | (with_reducible exact draw_Stream_Some.mono _ _ _ _)
      | (with_reducible exact scuttlebuttlaw01_examples.mono _)
      | (with_reducible exact LeO.refl _)
      | (with_reducible exact LeO.none _)
      | (with_reducible refine LeO.ite ?_ ?_)
      | (with_reducible refine LeO.bind ?_ (fun _ => ?_))
      | exact ih0 _ _ _ _ _
      | exact ih1 _ _ _ _ _ _ _ _
      | exact ih2 _ _ _ _ _ _ _
      | exact draw_Stream_Mix.mono _ _ _
      | exact draw_Stream_Some.mono _ _ _ _
      | exact scuttlebuttlaw01_examples.mono _
      | exact LeO.none _
      | refine LeO.ite ?_ ?_
      | refine LeO.bind ?_ (fun _ => ?_)
    · intro y0 y1 y2 y3 y4 y5 y6
      unfold scuttlebuttlaw01_DrawSome.l2
      repeat' first
      | (with_reducible exact ih0 _ _ _ _ _)
      | (with_reducible exact ih1 _ _ _ _ _ _ _ _)
      | (with_reducible exact ih2 _ _ _ _ _ _ _)
      | (with_reducible exact draw_Stream_Mix.mono _ _ _)
      | (with_reducible exact draw_Stream_Some.mono _ _ _ _)
      | (with_reducible exact scuttlebuttlaw01_examples.mono _)
      | (with_reducible exact LeO.refl _)
      | (with_reducible exact LeO.none _)
      | (with_reducible refine LeO.ite ?_ ?_)
      | (with_reducible refine LeO.bind ?_ (fun _ => ?_))
      | exact ih0 _ _ _ _ _
      | exact ih1 _ _ _ _ _ _ _ _
      | exact ih2 _ _ _ _ _ _ _
      | exact draw_Stream_Mix.mono _ _ _
      | exact draw_Stream_Some.mono _ _ _ _
      | exact scuttlebuttlaw01_examples.mono _
      | exact LeO.none _
      | refine LeO.ite ?_ ?_
      | refine LeO.bind ?_ (fun _ => ?_)
theorem scuttlebuttlaw01_DrawSome.mono : ∀ a0 a1 a2 k, LeO (scuttlebuttlaw01_DrawSome.f k a0 a1 a2) (scuttlebuttlaw01_DrawSome.f (k + 1) a0 a1 a2) := by
  intro a0 a1 a2 k
  obtain ⟨ih0, ih1, ih2⟩ := scuttlebuttlaw01_DrawSome.mono_l k
  unfold scuttlebuttlaw01_DrawSome.f
  repeat' first
      | (with_reducible exact ih0 _ _ _ _ _)
      | (with_reducible exact ih1 _ _ _ _ _ _ _ _)
      | (with_reducible exact ih2 _ _ _ _ _ _ _)
      | (with_reducible exact draw_Stream_Mix.mono _ _ _)
      | (with_reducible exact draw_Stream_Some.mono _ _ _ _)
      | (with_reducible exact scuttlebuttlaw01_examples.mono _)
      | (with_reducible exact LeO.refl _)
      | (with_reducible exact LeO.none _)
      | (with_reducible refine LeO.ite ?_ ?_)
      | (with_reducible refine LeO.bind ?_ (fun _ => ?_))
      | exact ih0 _ _ _ _ _
      | exact ih1 _ _ _ _ _ _ _ _
      | exact ih2 _ _ _ _ _ _ _
      | exact draw_Stream_Mix.mono _ _ _
      | exact draw_Stream_Some.mono _ _ _ _
      | exact scuttlebuttlaw01_examples.mono _
      | exact LeO.none _
      | refine LeO.ite ?_ ?_
      | refine LeO.bind ?_ (fun _ => ?_)
set_option maxHeartbeats 8000000 in
set_option maxRecDepth 100000 in
theorem scuttlebuttlaw01_DrawSome.calls (k : Nat) (a0 : Int) (a1 : Int) (a2 : Int) (r : Bool) (w : World) (h : scuttlebuttlaw01_DrawSome.f k a0 a1 a2 = some r) :
    Calls Try.prog 6 #[.int .u64 a0, .int .u8 a1, .int .i8 a2] w fun e w' => e = .returned (.bool r) ∧ Below w.heap.size w w' := by
  have hu26 := Try.underlying26
  have HB := Aside0.mk (Below.refl w.heap.size w)
  have H : ((scuttlebuttlaw01_examples.f k).bind fun t250 => (if t250 = true then (scuttlebuttlaw01_DrawSome.l0 k a0 a1 a2 ([] : List Int) 0) else (none))) = some r := h
  clear h
  replace H := Option.bind_eq_some_iff.mp H
  obtain ⟨t250, A40, H⟩ := H
  replace H : (if t250 = true then (scuttlebuttlaw01_DrawSome.l0 k a0 a1 a2 ([] : List Int) 0) else (none)) = some r := H
  have A4 := Aside0.mk A40
  clear A40
  by_cases c5 : t250 = true
  · (first | subst c5 | clear c5)
    have H1 : (scuttlebuttlaw01_DrawSome.l0 k a0 a1 a2 ([] : List Int) 0) = some r := by first | (rw [if_pos rfl] at H; exact H) | (rw [if_pos trivial] at H; exact H)
    clear H
    have H := H1
    clear H1
    have H' := Aside0.mk H
    clear H
    go_enter Try.func6, Try.ntmps6
    go_wp2_with (first | ((with_reducible refine gate_callee (f := 8) rfl ?_); refine goesL_ (some 18) rfl rfl Try.func8 (by kernel_rfl) rfl #[] rfl (by (try simp only [List.map_toArray, List.map_cons, List.map_nil]); first | done | rfl | (simp only [List.length_drop, List.length_take]; rfl)) ?_; (with_reducible refine (scuttlebuttlaw01_examples.calls k  true _ A4.out).mono ?_); rintro e w6 ⟨rfl, hb⟩; refine ⟨_, rfl, ?_⟩; have n0_ := Aside0.mk (below_step (by repeat (first | (with_reducible first | exact HB.out | apply below_alloc | apply pw_below_drewN | apply below_drew1) | exact HB.out)) hb); clear HB; have HB := n0_; clear n0_; (try clear hb); (try clear hb2); (try clear hk); (try clear hi)))
    go_loopg [8, 9] k (fun kq v8 v9 w' => ∃ (x8_1 : List Int) (x9_1 : Int), v9 = .int .i64 x9_1 ∧ Aside0 (scuttlebuttlaw01_DrawSome.l0 kq a0 a1 a2 x8_1 x9_1 = some r) ∧ Aside0 (kq ≤ k) ∧ Aside0 (Kd.R (Kd.int .i64) 3 w' w.heap.size (fun _ => True) v8 x8_1) ∧ Aside0 (Below w.heap.size w w'))
    case atStart => exact ⟨(([] : List Int)), (0), (by first | rfl | (simp; done) | (simp [*]; done)), H', ⟨Nat.le_refl _⟩, ⟨by first | exact Kd.R_nil _ _ _ _ _ | exact Kd.N_nil _ _ _ _ _ | exact Kd.V_nil _ _ _ _ _ | exact Kd.Q_nil _ _ _ _ _ | exact Kd.S_nil _ _ _ _ _⟩, ⟨by repeat (first | (with_reducible first | exact HB.out | apply below_alloc | apply pw_below_drewN | apply below_drew1) | exact HB.out)⟩⟩
    case round =>
      clear H'
      try clear p2
      try clear c5
      try clear c6
      obtain ⟨x8_1, x9_1, rfl, HA, HK1, HO_8, HB⟩ := hrel
      cases gk with
      | zero => exact absurd HA.out (by simp [scuttlebuttlaw01_DrawSome.l0])
      | succ k1 =>
        have H := HA.out
        clear HA
        simp only [scuttlebuttlaw01_DrawSome.l0] at H
        by_cases c7 : x9_1 < (wrap64 (Int.tmod a1 21))
        · rw [if_pos c7] at H
          have c7b0 : decide (x9_1 < (wrap64 (Int.tmod a1 21))) = true := decide_eq_true c7
          clear c7
          by_cases c8 : x8_1.length < 17592186044416
          · rw [if_pos c8] at H
            have LMc8 := Aside0.mk c8
            clear c8
            obtain ⟨y251, hy251⟩ : ∃ y_ : List Int, y_ = (x8_1 ++ [wrap64 (100 + x9_1)]) := ⟨_, rfl⟩
            replace H : (scuttlebuttlaw01_DrawSome.l0 k1 a0 a1 a2 y251 (wrap64 (x9_1 + 1))) = some r := by first | (rw [hy251]; with_reducible exact H) | (have H2_ := (Option.bind_some _ _).symm.trans H; rw [hy251]; with_reducible exact H2_) | (have H2_ := (Option.bind_some _ _).symm.trans H; with_reducible exact H2_) | with_reducible exact H | (rw [hy251]; exact H) | exact H
            have Ny251 := Aside0.mk hy251
            clear hy251
            have H' := Aside0.mk H
            clear H
            go_wp2_with (first | ((with_reducible refine gate_builtin (b := .append) (xs := #[.tmp 28, .tmp 31]) rfl ?_); (try (refine gate_guard (by rfl) ?_; dsimp only)); at_builtin; refine Kd.R_append (Kd.int .i64) (w0 := w) w.heap.size rfl (.tmp 28) (.tmp 31) 23 3 (.int .i64 0) 8 rfl Try.underlying23 info3 rfl (by decide) (by omega) u8 x8_1 (wrap64 (100 + x9_1)) [.int .i64 (wrap64 (100 + x9_1))] (fun _ => True) (fun _ => False) rfl rfl ?aP (fun _ hk => hk.elim) ?aF ?aO ?aB ?aS ?aL ?_; (case aP => exact rfl); (case aB => exact (by repeat (first | (with_reducible first | exact HB.out | apply below_alloc | apply pw_below_drewN | apply below_drew1) | exact HB.out))); (case aF => exact (fun _ _ => trivial)); (case aO => exact (by (with_reducible repeat (first | apply Kd.R_alloc | apply Kd.R_drewN | apply Kd.R_drew)); exact HO_8.out)); (case aS => exact (below_size (by repeat (first | (with_reducible first | exact HB.out | apply below_alloc | apply pw_below_drewN | apply below_drew1) | exact HB.out)))); (case aL => have := LMc8.out; omega); intro v252 w9 ho hb hg hat; rw [← Ny251.out] at ho; have n0_ := Aside0.mk (hb); have n1_ := Aside0.mk (ho); clear HB; clear HO_8; have HB := n0_; have HO253 := n1_; clear n0_ n1_; clear ho hb hg hat))
            go_roundg k1
            case measure => have := HK1.out; omega
            case rel => exact ⟨(y251), (wrap64 (x9_1 + 1)), (by first | rfl | (simp; done) | (simp [*]; done)), H', ⟨by have := HK1.out; omega⟩, ⟨by (with_reducible repeat (first | apply Kd.R_alloc | apply Kd.R_drewN | apply Kd.R_drew)); exact HO253.out⟩, ⟨by repeat (first | (with_reducible first | exact HB.out | apply below_alloc | apply pw_below_drewN | apply below_drew1) | exact HB.out)⟩⟩
          · (first | rw [if_neg c8] at H | exact absurd rfl c8)
            exact absurd H (by simp)
        · (first | rw [if_neg c7] at H | exact absurd rfl c7)
          have c7b0 : decide (x9_1 < (wrap64 (Int.tmod a1 21))) = false := decide_eq_false c7
          clear c7
          replace H := Option.bind_eq_some_iff.mp H
          obtain ⟨t254, A100, H⟩ := H
          replace H : ((draw_Stream_Some.f k1 t254 x8_1 (wrap64 (a2))).bind fun bt255 => ((draw_New.f a0).bind fun t260 => ((draw_Stream_Mix.f k1 t260 x8_1).bind fun bt261 => (if 21 ≤ 281474976710656 then (scuttlebuttlaw01_DrawSome.l1 k1 a2 x8_1 bt255.1 bt261.1 (List.replicate 21 false) 0 bt255.2 bt261.2) else (none))))) = some r := H
          have A10 := Aside0.mk A100
          clear A100
          replace H := Option.bind_eq_some_iff.mp H
          obtain ⟨⟨t255, t258⟩, A110, H⟩ := H
          replace H : ((draw_New.f a0).bind fun t260 => ((draw_Stream_Mix.f k1 t260 x8_1).bind fun bt261 => (if 21 ≤ 281474976710656 then (scuttlebuttlaw01_DrawSome.l1 k1 a2 x8_1 t255 bt261.1 (List.replicate 21 false) 0 t258 bt261.2) else (none)))) = some r := H
          have A11 := Aside0.mk A110
          clear A110
          replace H := Option.bind_eq_some_iff.mp H
          obtain ⟨t260, A120, H⟩ := H
          replace H : ((draw_Stream_Mix.f k1 t260 x8_1).bind fun bt261 => (if 21 ≤ 281474976710656 then (scuttlebuttlaw01_DrawSome.l1 k1 a2 x8_1 t255 bt261.1 (List.replicate 21 false) 0 t258 bt261.2) else (none))) = some r := H
          have A12 := Aside0.mk A120
          clear A120
          replace H := Option.bind_eq_some_iff.mp H
          obtain ⟨⟨t261, t264⟩, A130, H⟩ := H
          replace H : (if 21 ≤ 281474976710656 then (scuttlebuttlaw01_DrawSome.l1 k1 a2 x8_1 t255 t261 (List.replicate 21 false) 0 t258 t264) else (none)) = some r := H
          have A13 := Aside0.mk A130
          clear A130
          by_cases c14 : 21 ≤ 281474976710656
          · rw [if_pos c14] at H
            have c14b0 := eq_true c14
            have c14b1 : decide (21 ≤ 281474976710656) = true := decide_eq_true c14
            clear c14
            obtain ⟨y266, hy266⟩ : ∃ y_ : List Bool, y_ = (List.replicate 21 false) := ⟨_, rfl⟩
            replace H : (scuttlebuttlaw01_DrawSome.l1 k1 a2 x8_1 t255 t261 y266 0 t258 t264) = some r := by first | (rw [hy266]; with_reducible exact H) | (have H2_ := (Option.bind_some _ _).symm.trans H; rw [hy266]; with_reducible exact H2_) | (have H2_ := (Option.bind_some _ _).symm.trans H; with_reducible exact H2_) | with_reducible exact H | (rw [hy266]; exact H) | exact H
            have Ny266 := Aside0.mk hy266
            clear hy266
            have H' := Aside0.mk H
            clear H
            go_wp2_with (first | ((with_reducible refine gate_callee (f := 9) rfl ?_); refine goesL_ (some 35) rfl rfl Try.func9 (by kernel_rfl) rfl #[.int .u64 a0] rfl (by (try simp only [List.map_toArray, List.map_cons, List.map_nil]); first | done | rfl | (simp only [List.length_drop, List.length_take]; rfl)) ?_; (with_reducible refine (draw_New.calls a0 t254 _ A10.out).mono ?_); rintro e w15 ⟨rfl, hb⟩; refine ⟨_, rfl, ?_⟩; have n0_ := Aside0.mk (Kd.R_below (by (with_reducible repeat (first | apply Kd.R_alloc | apply Kd.R_drewN | apply Kd.R_drew)); exact HO_8.out) hb); have n1_ := Aside0.mk (below_step (by repeat (first | (with_reducible first | exact HB.out | apply below_alloc | apply pw_below_drewN | apply below_drew1) | exact HB.out)) hb); clear HO_8; clear HB; have HO_8 := n0_; have HB := n1_; clear n0_ n1_; (try clear hb); (try clear hb2); (try clear hk); (try clear hi); obtain ⟨Ao16, co16, eo16⟩ := Kd.R_slice HO_8.out; subst eo16) | ((with_reducible refine gate_callee (f := 16) rfl ?_); refine goesL_ (some 39) rfl rfl Try.func16 (by kernel_rfl) rfl #[.agg #[.int .u64 t254], .slice Ao16 x8_1.length co16, .int .i64 (wrap64 (a2))] rfl (by (try simp only [List.map_toArray, List.map_cons, List.map_nil]); first | done | rfl | (simp only [List.length_drop, List.length_take]; rfl)) ?_; (with_reducible refine (draw_Stream_Some.calls k1 t254 _ _ x8_1 (wrap64 (a2)) t255 t258 _ ?side1 ?side2 A11.out).mono ?_); (case side1 => repeat (first | exact (Kd.R_reads' HO_8.out).2.2 | (with_reducible refine Kd.C_alloc ?_ _) | (with_reducible refine Kd.C_drewN ?_ _) | (with_reducible refine Kd.C_drew ?_))); (case side2 => exact (Kd.R_reads' HO_8.out).2.1); rintro e w17 ⟨v256, rfl, ho0, hb⟩; refine ⟨_, rfl, ?_⟩; have n0_ := Aside0.mk (Kd.R_elder' (by (with_reducible repeat (first | apply Kd.R_alloc | apply Kd.R_drewN | apply Kd.R_drew)); exact HO_8.out) (Kd.R_base ho0) hb); have n1_ := Aside0.mk (Kd.R_lower (Kd.R_new' ho0 (Kd.R_lt (by (with_reducible repeat (first | apply Kd.R_alloc | apply Kd.R_drewN | apply Kd.R_drew)); exact HO_8.out))) (below_size (by repeat (first | (with_reducible first | exact HB.out | apply below_alloc | apply pw_below_drewN | apply below_drew1) | exact HB.out)))); have n2_ := Aside0.mk (below_step (by repeat (first | (with_reducible first | exact HB.out | apply below_alloc | apply pw_below_drewN | apply below_drew1) | exact HB.out)) hb); clear HO_8; clear HB; have HO_8 := n0_; have HO257 := n1_; have HB := n2_; clear n0_ n1_ n2_; (try clear hb); (try clear hb2); (try clear hk); (try clear hi); (try clear ho0)) | ((with_reducible refine gate_dst (N := 11) rfl ?_); (try (refine gate_guard (by rfl) ?_; dsimp only)); refine box_event ?hg (N := 11) ?hd (cs := #[.int .u64 0]) (t := 26) ?hr ?_; (case hd => rfl); (case hg => rfl); (case hr => first | (go_simp; done) | (go_simp; rfl)); intro gb259 hg w18 hbox hb; have n0_ := Aside0.mk (Kd.R_below (by (with_reducible repeat (first | apply Kd.R_alloc | apply Kd.R_drewN | apply Kd.R_drew)); exact HO_8.out) hb); have n1_ := Aside0.mk (Kd.R_below (by (with_reducible repeat (first | apply Kd.R_alloc | apply Kd.R_drewN | apply Kd.R_drew)); exact HO257.out) hb); have n2_ := Aside0.mk (below_step (by repeat (first | (with_reducible first | exact HB.out | apply below_alloc | apply pw_below_drewN | apply below_drew1) | exact HB.out)) hb); have n3_ := Aside0.mk (hbox); have n4_ := Aside0.mk ((by rw [hg]; exact (below_size (by repeat (first | (with_reducible first | exact HB.out | apply below_alloc | apply pw_below_drewN | apply below_drew1) | exact HB.out))) : w.heap.size ≤ gb259)); have n5_ := Aside0.mk ((by rw [hg]; exact (below_size (by repeat (first | (with_reducible first | exact HB.out | apply below_alloc | apply pw_below_drewN | apply below_drew1) | exact HB.out))) : w.heap.size ≤ gb259)); clear HO_8; clear HO257; clear HB; have HO_8 := n0_; have HO257 := n1_; have HB := n2_; have BK259 := n3_; have GW259 := n4_; have GE259 := n5_; clear n0_ n1_ n2_ n3_ n4_ n5_; clear hb hbox hg; have hcz19_0 : w18.cell? ⟨gb259, 0, none⟩ = some (.int .u64 0) := (blk_cell BK259.out 0).trans rfl; have hfz19_0 := blk_frozen BK259.out 0) | ((with_reducible refine gate_callee (f := 9) rfl ?_); refine goesL_ (some 44) rfl rfl Try.func9 (by kernel_rfl) rfl #[.int .u64 a0] rfl (by (try simp only [List.map_toArray, List.map_cons, List.map_nil]); first | done | rfl | (simp only [List.length_drop, List.length_take]; rfl)) ?_; (with_reducible refine (draw_New.calls a0 t260 _ A12.out).mono ?_); rintro e w20 ⟨rfl, hb⟩; refine ⟨_, rfl, ?_⟩; have n0_ := Aside0.mk (Kd.R_below (by (with_reducible repeat (first | apply Kd.R_alloc | apply Kd.R_drewN | apply Kd.R_drew)); exact (Kd.R_mono (Kd.R_far (p := ⟨gb259, 0, none⟩) (Kd.R_types HO_8.out BK259.out (by decide)) (fun _ hk => hk.2) (.int .u64 t258)) (fun _ h_ => h_.1))) hb); have n1_ := Aside0.mk (Kd.R_below (by (with_reducible repeat (first | apply Kd.R_alloc | apply Kd.R_drewN | apply Kd.R_drew)); exact (Kd.R_mono (Kd.R_far (p := ⟨gb259, 0, none⟩) (Kd.R_types HO257.out BK259.out (by decide)) (fun _ hk => hk.2) (.int .u64 t258)) (fun _ h_ => h_.1))) hb); have n2_ := Aside0.mk (blk_below (g := gb259) (o := .cells #[.int .u64 t258] 26 (0, 0)) (by (with_reducible repeat (first | refine blk_drewN ?_ _ | refine blk_drew ?_ | refine blk_alloc ?_ _)); refine blk_put (cs := #[.int .u64 0]) ?_ 0 _ rfl; (with_reducible repeat (first | refine blk_drewN ?_ _ | refine blk_drew ?_ | refine blk_alloc ?_ _)); exact BK259.out) hb); have n3_ := Aside0.mk (below_step (by repeat (first | (with_reducible first | exact HB.out | apply below_alloc | apply pw_below_drewN | apply below_drew1 | refine below_set ?_ GE259.out) | exact HB.out)) hb); clear HO_8; clear HO257; clear BK259; clear HB; have HO_8 := n0_; have HO257 := n1_; have BK259 := n2_; have HB := n3_; clear n0_ n1_ n2_ n3_; (try clear hb); (try clear hb2); (try clear hk); (try clear hi)) | ((with_reducible refine gate_callee (f := 14) rfl ?_); refine goesL_ (some 46) rfl rfl Try.func14 (by kernel_rfl) rfl #[.agg #[.int .u64 t260], .slice Ao16 x8_1.length co16] rfl (by (try simp only [List.map_toArray, List.map_cons, List.map_nil]); first | done | rfl | (simp only [List.length_drop, List.length_take]; rfl)) ?_; (with_reducible refine (draw_Stream_Mix.calls k1 t260 _ _ x8_1 t261 t264 _ ?side1 ?side2 A13.out).mono ?_); (case side1 => repeat (first | exact (Kd.R_reads' HO_8.out).2.2 | (with_reducible refine Kd.C_alloc ?_ _) | (with_reducible refine Kd.C_drewN ?_ _) | (with_reducible refine Kd.C_drew ?_))); (case side2 => exact (Kd.R_reads' HO_8.out).2.1); rintro e w21 ⟨v262, rfl, ho0, hb⟩; refine ⟨_, rfl, ?_⟩; have n0_ := Aside0.mk (Kd.R_elder' (by (with_reducible repeat (first | apply Kd.R_alloc | apply Kd.R_drewN | apply Kd.R_drew)); exact HO_8.out) (Kd.R_base ho0) hb); have n1_ := Aside0.mk (Kd.R_elder' (by (with_reducible repeat (first | apply Kd.R_alloc | apply Kd.R_drewN | apply Kd.R_drew)); exact HO257.out) (Kd.R_base ho0) hb); have n2_ := Aside0.mk (Kd.R_lower (Kd.R_new' (Kd.R_new' ho0 (Kd.R_lt (by (with_reducible repeat (first | apply Kd.R_alloc | apply Kd.R_drewN | apply Kd.R_drew)); exact HO_8.out))) (Kd.R_lt (by (with_reducible repeat (first | apply Kd.R_alloc | apply Kd.R_drewN | apply Kd.R_drew)); exact HO257.out))) (below_size (by repeat (first | (with_reducible first | exact HB.out | apply below_alloc | apply pw_below_drewN | apply below_drew1 | refine below_set ?_ GE259.out) | exact HB.out)))); have n3_ := Aside0.mk (blk_below (g := gb259) (o := .cells #[.int .u64 t258] 26 (0, 0)) (by (with_reducible repeat (first | refine blk_drewN ?_ _ | refine blk_drew ?_ | refine blk_alloc ?_ _)); exact BK259.out) hb); have n4_ := Aside0.mk (below_step (by repeat (first | (with_reducible first | exact HB.out | apply below_alloc | apply pw_below_drewN | apply below_drew1 | refine below_set ?_ GE259.out) | exact HB.out)) hb); clear HO_8; clear HO257; clear BK259; clear HB; have HO_8 := n0_; have HO257 := n1_; have HO263 := n2_; have BK259 := n3_; have HB := n4_; clear n0_ n1_ n2_ n3_ n4_; (try clear hb); (try clear hb2); (try clear hk); (try clear hi); (try clear ho0)) | ((with_reducible refine gate_dst (N := 13) rfl ?_); (try (refine gate_guard (by rfl) ?_; dsimp only)); refine box_event ?hg (N := 13) ?hd (cs := #[.int .u64 0]) (t := 26) ?hr ?_; (case hd => rfl); (case hg => rfl); (case hr => first | (go_simp; done) | (go_simp; rfl)); intro gb265 hg w22 hbox hb; have n0_ := Aside0.mk (Kd.R_below (by (with_reducible repeat (first | apply Kd.R_alloc | apply Kd.R_drewN | apply Kd.R_drew)); exact HO_8.out) hb); have n1_ := Aside0.mk (Kd.R_below (by (with_reducible repeat (first | apply Kd.R_alloc | apply Kd.R_drewN | apply Kd.R_drew)); exact HO257.out) hb); have n2_ := Aside0.mk (Kd.R_below (by (with_reducible repeat (first | apply Kd.R_alloc | apply Kd.R_drewN | apply Kd.R_drew)); exact HO263.out) hb); have n3_ := Aside0.mk (blk_below (g := gb259) (o := .cells #[.int .u64 t258] 26 (0, 0)) (by (with_reducible repeat (first | refine blk_drewN ?_ _ | refine blk_drew ?_ | refine blk_alloc ?_ _)); exact BK259.out) hb); have n4_ := Aside0.mk (below_step (by repeat (first | (with_reducible first | exact HB.out | apply below_alloc | apply pw_below_drewN | apply below_drew1 | refine below_set ?_ GE259.out) | exact HB.out)) hb); have n5_ := Aside0.mk (hbox); have n6_ := Aside0.mk ((by rw [hg]; exact (below_size (by repeat (first | (with_reducible first | exact HB.out | apply below_alloc | apply pw_below_drewN | apply below_drew1 | refine below_set ?_ GE259.out) | exact HB.out))) : w.heap.size ≤ gb265)); have n7_ := Aside0.mk ((by rw [hg]; exact (below_size (by repeat (first | (with_reducible first | exact HB.out | apply below_alloc | apply pw_below_drewN | apply below_drew1 | refine below_set ?_ GE259.out) | exact HB.out))) : w.heap.size ≤ gb265)); have n8_ := Aside0.mk ((by rw [hg]; exact Nat.ne_of_lt (blk_lt (g := gb259) (o := .cells #[.int .u64 t258] 26 (0, 0)) (by (with_reducible repeat (first | refine blk_drewN ?_ _ | refine blk_drew ?_ | refine blk_alloc ?_ _)); exact BK259.out)) : gb259 ≠ gb265)); have n9_ := Aside0.mk ((by rw [hg]; exact Nat.ne_of_gt (blk_lt (g := gb259) (o := .cells #[.int .u64 t258] 26 (0, 0)) (by (with_reducible repeat (first | refine blk_drewN ?_ _ | refine blk_drew ?_ | refine blk_alloc ?_ _)); exact BK259.out)) : gb265 ≠ gb259)); clear HO_8; clear HO257; clear HO263; clear BK259; clear HB; have HO_8 := n0_; have HO257 := n1_; have HO263 := n2_; have BK259 := n3_; have HB := n4_; have BK265 := n5_; have GW265 := n6_; have GE265 := n7_; have NB259_265 := n8_; have NB265_259 := n9_; clear n0_ n1_ n2_ n3_ n4_ n5_ n6_ n7_ n8_ n9_; clear hb hbox hg; have hnb23 := NB265_259.out; have hnc23 := NB259_265.out; have hcz24_0 : w22.cell? ⟨gb265, 0, none⟩ = some (.int .u64 0) := (blk_cell BK265.out 0).trans rfl; have hfz24_0 := blk_frozen BK265.out 0) | ((with_reducible refine gate_dst (N := 49) rfl ?_); (try (refine gate_guard (by rfl) ?_; dsimp only)); refine Kd.R_make Kd.bool _ 4 rfl (N := 49) rfl 51 _ _ rfl 21 rfl rfl Try.underlying51 (.bool false) 1 info4 rfl (by decide) (by omega) false (ok := fun _ => True) (okp := fun _ => True) rfl (fun _ hk => hk) trivial (by omega) (by omega) (Below.refl _ _) (Nat.le_refl _) ?_; intro v267 w25 ho26 hb hg_ hnew_; clear hg_ hnew_; (first | rw [← Ny266.out] at ho26 | (simp only [Int.reduceToNat] at ho26; rw [← Ny266.out] at ho26)); have n0_ := Aside0.mk (Kd.R_below (by (with_reducible repeat (first | apply Kd.R_alloc | apply Kd.R_drewN | apply Kd.R_drew)); exact (Kd.R_mono (Kd.R_far (p := ⟨gb265, 0, none⟩) (Kd.R_types HO_8.out BK265.out (by decide)) (fun _ hk => hk.2) (.int .u64 t264)) (fun _ h_ => h_.1))) hb); have n1_ := Aside0.mk (Kd.R_below (by (with_reducible repeat (first | apply Kd.R_alloc | apply Kd.R_drewN | apply Kd.R_drew)); exact (Kd.R_mono (Kd.R_far (p := ⟨gb265, 0, none⟩) (Kd.R_types HO257.out BK265.out (by decide)) (fun _ hk => hk.2) (.int .u64 t264)) (fun _ h_ => h_.1))) hb); have n2_ := Aside0.mk (Kd.R_below (by (with_reducible repeat (first | apply Kd.R_alloc | apply Kd.R_drewN | apply Kd.R_drew)); exact (Kd.R_mono (Kd.R_far (p := ⟨gb265, 0, none⟩) (Kd.R_types HO263.out BK265.out (by decide)) (fun _ hk => hk.2) (.int .u64 t264)) (fun _ h_ => h_.1))) hb); have n3_ := Aside0.mk (Kd.R_lower ho26 (below_size (by repeat (first | (with_reducible first | exact HB.out | apply below_alloc | apply pw_below_drewN | apply below_drew1 | refine below_set ?_ GE259.out | refine below_set ?_ GE265.out) | exact HB.out)))); have n4_ := Aside0.mk (blk_below (g := gb259) (o := .cells #[.int .u64 t258] 26 (0, 0)) (by (with_reducible repeat (first | refine blk_drewN ?_ _ | refine blk_drew ?_ | refine blk_alloc ?_ _)); refine blk_far ?_ NB259_265.out _; (with_reducible repeat (first | refine blk_drewN ?_ _ | refine blk_drew ?_ | refine blk_alloc ?_ _)); exact BK259.out) hb); have n5_ := Aside0.mk (blk_below (g := gb265) (o := .cells #[.int .u64 t264] 26 (0, 0)) (by (with_reducible repeat (first | refine blk_drewN ?_ _ | refine blk_drew ?_ | refine blk_alloc ?_ _)); refine blk_put (cs := #[.int .u64 0]) ?_ 0 _ rfl; (with_reducible repeat (first | refine blk_drewN ?_ _ | refine blk_drew ?_ | refine blk_alloc ?_ _)); exact BK265.out) hb); have n6_ := Aside0.mk (below_step (by repeat (first | (with_reducible first | exact HB.out | apply below_alloc | apply pw_below_drewN | apply below_drew1 | refine below_set ?_ GE259.out | refine below_set ?_ GE265.out) | exact HB.out)) hb); clear HO_8; clear HO257; clear HO263; clear BK259; clear BK265; clear HB; have HO_8 := n0_; have HO257 := n1_; have HO263 := n2_; have HO268 := n3_; have BK259 := n4_; have BK265 := n5_; have HB := n6_; clear n0_ n1_ n2_ n3_ n4_ n5_ n6_; clear hb ho26))
            go_loopg [15] k1 (fun kq v15 w' => ∃ (x14_2 : List Bool) (x15_2 : Int), v15 = .int .i64 x15_2 ∧ Aside0 (scuttlebuttlaw01_DrawSome.l1 kq a2 x8_1 t255 t261 x14_2 x15_2 t258 t264 = some r) ∧ Aside0 (kq ≤ k1) ∧ Aside0 (Kd.R (Kd.int .i64) 3 w' w.heap.size (fun k_ => some k_ ≠ (v256 : Value).ownBlock ∧ some k_ ≠ (v262 : Value).ownBlock) (.slice Ao16 x8_1.length co16) x8_1) ∧ Aside0 (Kd.R (Kd.int .i64) 3 w' w.heap.size (fun k_ => some k_ ≠ ((.slice Ao16 x8_1.length co16) : Value).ownBlock ∧ some k_ ≠ (v262 : Value).ownBlock) v256 t255) ∧ Aside0 (Kd.R (Kd.int .i64) 3 w' w.heap.size (fun k_ => some k_ ≠ ((.slice Ao16 x8_1.length co16) : Value).ownBlock ∧ some k_ ≠ (v256 : Value).ownBlock) v262 t261) ∧ Aside0 (Kd.R Kd.bool 4 w' w.heap.size (fun _ => True) v267 x14_2) ∧ Aside0 (w'.heap[gb259]? = some (.cells #[.int .u64 t258] 26 (0, 0))) ∧ Aside0 (w'.heap[gb265]? = some (.cells #[.int .u64 t264] 26 (0, 0))) ∧ Aside0 (Below w.heap.size w w'))
            case atStart => exact ⟨(y266), (0), (by first | rfl | (simp; done) | (simp [*]; done)), H', ⟨Nat.le_refl _⟩, ⟨by (with_reducible repeat (first | apply Kd.R_alloc | apply Kd.R_drewN | apply Kd.R_drew)); exact Kd.R_mono HO_8.out (fun _ hk => ⟨hk.1.2, hk.2⟩)⟩, ⟨by (with_reducible repeat (first | apply Kd.R_alloc | apply Kd.R_drewN | apply Kd.R_drew)); exact Kd.R_mono HO257.out (fun _ hk => ⟨hk.1.2, hk.2⟩)⟩, ⟨by (with_reducible repeat (first | apply Kd.R_alloc | apply Kd.R_drewN | apply Kd.R_drew)); exact Kd.R_mono HO263.out (fun _ hk => ⟨hk.1.2, hk.2⟩)⟩, ⟨by (with_reducible repeat (first | apply Kd.R_alloc | apply Kd.R_drewN | apply Kd.R_drew)); exact HO268.out⟩, ⟨by (with_reducible repeat (first | refine blk_drewN ?_ _ | refine blk_drew ?_ | refine blk_alloc ?_ _)); exact BK259.out⟩, ⟨by (with_reducible repeat (first | refine blk_drewN ?_ _ | refine blk_drew ?_ | refine blk_alloc ?_ _)); exact BK265.out⟩, ⟨by repeat (first | (with_reducible first | exact HB.out | apply below_alloc | apply pw_below_drewN | apply below_drew1 | refine below_set ?_ GE259.out | refine below_set ?_ GE265.out) | exact HB.out)⟩⟩
            case round =>
              clear H'
              try clear c1
              try clear c2
              try clear p2
              try clear c5
              try clear c6
              try clear p6
              try clear c7
              try clear c7b0
              try clear c8
              try clear c9
              try clear c14
              try clear c14b0
              try clear c14b1
              try clear c16
              try clear c23
              try clear hcz19_0
              try clear hcz24_0
              try clear hfz19_0
              try clear hfz24_0
              try clear p2
              obtain ⟨x14_2, x15_2, rfl, HA, HK2, HO_8, HO_10, HO_12, HO_14, BK259, BK265, HB⟩ := hrel
              cases gk with
              | zero => exact absurd HA.out (by simp [scuttlebuttlaw01_DrawSome.l1])
              | succ k2 =>
                have H := HA.out
                clear HA
                simp only [scuttlebuttlaw01_DrawSome.l1] at H
                by_cases c27 : x15_2 < (t255.length : Int)
                · rw [if_pos c27] at H
                  have c27b0 : decide (x15_2 < (t255.length : Int)) = true := decide_eq_true c27
                  clear c27
                  by_cases c28 : 0 ≤ x15_2
                  · rw [if_pos c28] at H
                    have c28b0 : decide (0 ≤ x15_2) = true := decide_eq_true c28
                    clear c28
                    by_cases c29 : (wrap64 ((rd t255 x15_2) - 100)) < 0
                    · rw [if_pos c29] at H
                      exact absurd H (by simp)
                    · (first | rw [if_neg c29] at H | exact absurd rfl c29)
                      have c29b0 : decide ((wrap64 ((rd t255 x15_2) - 100)) < 0) = false := decide_eq_false c29
                      clear c29
                      by_cases c30 : (wrap64 ((rd t255 x15_2) - 100)) ≥ (x8_1.length : Int)
                      · rw [if_pos c30] at H
                        exact absurd H (by simp)
                      · (first | rw [if_neg c30] at H | exact absurd rfl c30)
                        have c30b0 : decide ((x8_1.length : Int) ≤ (wrap64 ((rd t255 x15_2) - 100))) = false := decide_eq_false c30
                        clear c30
                        obtain ⟨ji31, hji31⟩ : ∃ j_ : Int, (wrap64 ((rd t255 x15_2) - 100)) = j_ := ⟨_, rfl⟩
                        replace H : (if 0 ≤ (ji31) then (if (ji31) < (x14_2.length : Int) then (if rdOf false x14_2 (ji31) = true then (none) else (scuttlebuttlaw01_DrawSome.l1 k2 a2 x8_1 t255 t261 (x14_2.set ((ji31) : Int).toNat true) (wrap64 (x15_2 + 1)) t258 t264)) else (none)) else (none)) = some r := by first | (rw [hji31] at H; exact H) | (simp only [hji31] at H ⊢; exact H)
                        (try rw [hji31] at c29b0)
                        (try rw [hji31] at c30b0)
                        have hji31w : (IntKind.i64.wrap ((rd t255 x15_2) - 100)) = ji31 := (i64_w _).trans hji31
                        by_cases c32 : 0 ≤ (ji31)
                        · rw [if_pos c32] at H
                          have c32b0 : decide (0 ≤ (ji31)) = true := decide_eq_true c32
                          clear c32
                          by_cases c33 : (ji31) < (x14_2.length : Int)
                          · rw [if_pos c33] at H
                            have c33b0 : decide ((ji31) < (x14_2.length : Int)) = true := decide_eq_true c33
                            clear c33
                            obtain ⟨bq34, hbq34⟩ : ∃ b_ : Bool, b_ = (rdOf false x14_2 (ji31)) := ⟨_, rfl⟩
                            replace H : (if bq34 = true then (none) else (scuttlebuttlaw01_DrawSome.l1 k2 a2 x8_1 t255 t261 (x14_2.set ((ji31) : Int).toNat true) (wrap64 (x15_2 + 1)) t258 t264)) = some r := by rw [← hbq34] at H; exact H
                            have Nbq34 := Aside0.mk hbq34
                            clear hbq34
                            by_cases c35 : bq34 = true
                            · (first | subst c35 | clear c35)
                              have H1 : (none) = some r := by first | (rw [if_pos rfl] at H; exact H) | (rw [if_pos trivial] at H; exact H)
                              clear H
                              have H := H1
                              clear H1
                              exact absurd H (by simp)
                            · replace c35 := Bool.eq_false_iff.mpr c35
                              (first | subst c35 | clear c35)
                              have H1 : (scuttlebuttlaw01_DrawSome.l1 k2 a2 x8_1 t255 t261 (x14_2.set ((ji31) : Int).toNat true) (wrap64 (x15_2 + 1)) t258 t264) = some r := by rw [if_neg (show ¬ (false = true) by decide)] at H; exact H
                              clear H
                              have H := H1
                              clear H1
                              obtain ⟨y271, hy271⟩ : ∃ y_ : List Bool, y_ = (x14_2.set ((ji31) : Int).toNat true) := ⟨_, rfl⟩
                              replace H : (scuttlebuttlaw01_DrawSome.l1 k2 a2 x8_1 t255 t261 y271 (wrap64 (x15_2 + 1)) t258 t264) = some r := by first | (rw [hy271]; with_reducible exact H) | (have H2_ := (Option.bind_some _ _).symm.trans H; rw [hy271]; with_reducible exact H2_) | (have H2_ := (Option.bind_some _ _).symm.trans H; with_reducible exact H2_) | with_reducible exact H | (rw [hy271]; exact H) | exact H
                              have Ny271 := Aside0.mk hy271
                              clear hy271
                              have H' := Aside0.mk H
                              clear H
                              obtain ⟨Ao37, co37, eo37⟩ := Kd.R_slice HO_10.out
                              subst eo37
                              have p269 : 0 ≤ (x15_2 : Int) := of_decide_eq_true (by first | (with_reducible assumption) | assumption)
                              have q269 : x15_2 < (t255.length : Int) := of_decide_eq_true (by first | (with_reducible assumption) | assumption)
                              obtain ⟨ad269, e269, hx269_0⟩ := Kd.at_int (Kd.R_reads' HO_10.out).2.2 x15_2 p269 q269
                              cases e269
                              replace p269 := eq_true p269
                              replace q269 := eq_true q269
                              obtain ⟨Ao38, co38, eo38⟩ := Kd.R_slice HO_14.out
                              subst eo38
                              have p270 : 0 ≤ ((ji31) : Int) := of_decide_eq_true (by first | (with_reducible assumption) | assumption)
                              have q270 : (ji31) < (x14_2.length : Int) := of_decide_eq_true (by first | (with_reducible assumption) | assumption)
                              obtain ⟨ad270, e270, hx270_0⟩ := Kd.at_bool (Kd.R_reads' HO_14.out).2.2 (ji31) p270 q270
                              (try rw [← Nbq34.out] at hx270_0)
                              cases e270
                              replace p270 := eq_true p270
                              replace q270 := eq_true q270
                              have p36 : 0 ≤ ((ji31) : Int) := of_decide_eq_true (by first | (with_reducible assumption) | assumption)
                              have q36 : ((ji31) : Int) < ((x14_2.length : Int) : Int) := of_decide_eq_true (by first | (with_reducible assumption) | assumption)
                              obtain ⟨go36, co36, eo36, gb36, gl36, cl36, HG36⟩ := Kd.R_form HO_14.out (by omega)
                              (first | cases eo36 | (injection eo36 with ea_ en_ ec_; (first | subst ea_ | (injection ea_ with ea_; subst ea_)); subst ec_; clear en_))
                              have GB36 := Aside0.mk gb36
                              have GG36 := Aside0.mk HG36
                              clear gb36 gl36 HG36
                              (first | simp only [add_plain] at hx270_0 | skip)
                              obtain ⟨hx36_0, hf36_0⟩ := Kd.R_celln false HO_14.out ((ji31) : Int) p36 q36
                              replace p36 := eq_true p36
                              replace q36 := eq_true q36
                              have HP39 := Kd.R_putg HO_14.out ((ji31) : Int) true
                              go_wp2_with (first | ((with_reducible refine gate_store (t := 4) (p := 77) rfl ?_); refine store_event (t := 4) (p := 77) (v := ?vo_w40) (w1 := (wr.setCell ⟨go36, ((ji31) : Int).toNat, none⟩ (.bool true))) ?hg ?ho ?hn ?hr ?_; (case ho => rfl); (case hg => rfl); (case hn => rfl); (case hr => first | (go_simp; done) | (go_simp; rfl)); intro w40 hw; have hg : wr.grownBy w40 (some go36) := (by rw [hw]; exact HP39.2); have hp_ : Kd.R Kd.bool 4 w40 w.heap.size (fun _ => True) (.slice (some ⟨go36, 0, none⟩) x14_2.length co38) y271 := (by rw [hw, Ny271.out]; exact HP39.1); clear HP39; have n0_ := Aside0.mk (Kd.R_over' (v := (.slice (some ⟨go36, 0, none⟩) x14_2.length co38)) (by (with_reducible repeat (first | apply Kd.R_alloc | apply Kd.R_drewN | apply Kd.R_drew)); exact HO_8.out) (Kd.R_typed HO_14.out) (by decide) hg); have n1_ := Aside0.mk (Kd.R_over' (v := (.slice (some ⟨go36, 0, none⟩) x14_2.length co38)) (by (with_reducible repeat (first | apply Kd.R_alloc | apply Kd.R_drewN | apply Kd.R_drew)); exact HO_10.out) (Kd.R_typed HO_14.out) (by decide) hg); have n2_ := Aside0.mk (Kd.R_over' (v := (.slice (some ⟨go36, 0, none⟩) x14_2.length co38)) (by (with_reducible repeat (first | apply Kd.R_alloc | apply Kd.R_drewN | apply Kd.R_drew)); exact HO_12.out) (Kd.R_typed HO_14.out) (by decide) hg); have n3_ := Aside0.mk (hp_); have n4_ := Aside0.mk (blk_grown (g := gb259) (o := .cells #[.int .u64 t258] 26 (0, 0)) (by (with_reducible repeat (first | refine blk_drewN ?_ _ | refine blk_drew ?_ | refine blk_alloc ?_ _)); exact BK259.out) hg (Kd.R_ne HO_14.out BK259.out (by decide))); have n5_ := Aside0.mk (blk_grown (g := gb265) (o := .cells #[.int .u64 t264] 26 (0, 0)) (by (with_reducible repeat (first | refine blk_drewN ?_ _ | refine blk_drew ?_ | refine blk_alloc ?_ _)); exact BK265.out) hg (Kd.R_ne HO_14.out BK265.out (by decide))); have n6_ := Aside0.mk ((by rw [hw]; exact below_set (HB.out) GB36.out : Below w.heap.size w w40)); clear HO_8; clear HO_10; clear HO_12; clear HO_14; clear BK259; clear BK265; clear HB; have HO_8 := n0_; have HO_10 := n1_; have HO_12 := n2_; have HO_14 := n3_; have BK259 := n4_; have BK265 := n5_; have HB := n6_; clear n0_ n1_ n2_ n3_ n4_ n5_ n6_; clear hg hw hp_))
                              go_roundg k2
                              case measure => have := HK1.out; have := HK2.out; omega
                              case rel => exact ⟨(y271), (wrap64 (x15_2 + 1)), (by first | rfl | (simp; done) | (simp [*]; done)), H', ⟨by have := HK1.out; have := HK2.out; omega⟩, ⟨by (with_reducible repeat (first | apply Kd.R_alloc | apply Kd.R_drewN | apply Kd.R_drew)); exact HO_8.out⟩, ⟨by (with_reducible repeat (first | apply Kd.R_alloc | apply Kd.R_drewN | apply Kd.R_drew)); exact HO_10.out⟩, ⟨by (with_reducible repeat (first | apply Kd.R_alloc | apply Kd.R_drewN | apply Kd.R_drew)); exact HO_12.out⟩, ⟨by (with_reducible repeat (first | apply Kd.R_alloc | apply Kd.R_drewN | apply Kd.R_drew)); exact HO_14.out⟩, ⟨by (with_reducible repeat (first | refine blk_drewN ?_ _ | refine blk_drew ?_ | refine blk_alloc ?_ _)); exact BK259.out⟩, ⟨by (with_reducible repeat (first | refine blk_drewN ?_ _ | refine blk_drew ?_ | refine blk_alloc ?_ _)); exact BK265.out⟩, ⟨by repeat (first | (with_reducible first | exact HB.out | apply below_alloc | apply pw_below_drewN | apply below_drew1 | refine below_set ?_ GE259.out | refine below_set ?_ GE265.out) | exact HB.out)⟩⟩
                          · (first | rw [if_neg c33] at H | exact absurd rfl c33)
                            exact absurd H (by simp)
                        · (first | rw [if_neg c32] at H | exact absurd rfl c32)
                          exact absurd H (by simp)
                  · (first | rw [if_neg c28] at H | exact absurd rfl c28)
                    exact absurd H (by simp)
                · (first | rw [if_neg c27] at H | exact absurd rfl c27)
                  have c27b0 : decide (x15_2 < (t255.length : Int)) = false := decide_eq_false c27
                  clear c27
                  have H' := Aside0.mk H
                  clear H
                  obtain ⟨Ao41, co41, eo41⟩ := Kd.R_slice HO_10.out
                  subst eo41
                  go_wp2
                  go_loopg [17] k2 (fun kq v17 w' => ∃ (x17_3 : Int), v17 = .int .i64 x17_3 ∧ Aside0 (scuttlebuttlaw01_DrawSome.l2 kq a2 x8_1 t255 t261 x17_3 t258 t264 = some r) ∧ Aside0 (kq ≤ k2) ∧ Aside0 (Kd.R (Kd.int .i64) 3 w' w.heap.size (fun k_ => some k_ ≠ ((.slice Ao41 t255.length co41) : Value).ownBlock ∧ some k_ ≠ (v262 : Value).ownBlock) (.slice Ao16 x8_1.length co16) x8_1) ∧ Aside0 (Kd.R (Kd.int .i64) 3 w' w.heap.size (fun k_ => some k_ ≠ ((.slice Ao16 x8_1.length co16) : Value).ownBlock ∧ some k_ ≠ (v262 : Value).ownBlock) (.slice Ao41 t255.length co41) t255) ∧ Aside0 (Kd.R (Kd.int .i64) 3 w' w.heap.size (fun k_ => some k_ ≠ ((.slice Ao16 x8_1.length co16) : Value).ownBlock ∧ some k_ ≠ ((.slice Ao41 t255.length co41) : Value).ownBlock) v262 t261) ∧ Aside0 (w'.heap[gb259]? = some (.cells #[.int .u64 t258] 26 (0, 0))) ∧ Aside0 (w'.heap[gb265]? = some (.cells #[.int .u64 t264] 26 (0, 0))) ∧ Aside0 (Below w.heap.size w w'))
                  case atStart => exact ⟨(0), (by first | rfl | (simp; done) | (simp [*]; done)), H', ⟨Nat.le_refl _⟩, ⟨by (with_reducible repeat (first | apply Kd.R_alloc | apply Kd.R_drewN | apply Kd.R_drew)); exact HO_8.out⟩, ⟨by (with_reducible repeat (first | apply Kd.R_alloc | apply Kd.R_drewN | apply Kd.R_drew)); exact HO_10.out⟩, ⟨by (with_reducible repeat (first | apply Kd.R_alloc | apply Kd.R_drewN | apply Kd.R_drew)); exact HO_12.out⟩, ⟨by (with_reducible repeat (first | refine blk_drewN ?_ _ | refine blk_drew ?_ | refine blk_alloc ?_ _)); exact BK259.out⟩, ⟨by (with_reducible repeat (first | refine blk_drewN ?_ _ | refine blk_drew ?_ | refine blk_alloc ?_ _)); exact BK265.out⟩, ⟨by repeat (first | (with_reducible first | exact HB.out | apply below_alloc | apply pw_below_drewN | apply below_drew1 | refine below_set ?_ GE259.out | refine below_set ?_ GE265.out) | exact HB.out)⟩⟩
                  case round =>
                    clear H'
                    try clear c1
                    try clear c2
                    try clear p2
                    try clear q2
                    try clear hx2
                    try clear c3
                    try clear p3
                    try clear q3
                    try clear hx3
                    try clear hf3
                    try clear c5
                    try clear c6
                    try clear p6
                    try clear c7
                    try clear c7b0
                    try clear c8
                    try clear c9
                    try clear c14
                    try clear c14b0
                    try clear c14b1
                    try clear c16
                    try clear c23
                    try clear p26
                    try clear q26
                    try clear hx26
                    try clear c27
                    try clear c27b0
                    try clear p27
                    try clear q27
                    try clear hx27
                    try clear c28
                    try clear c28b0
                    try clear c29
                    try clear c29b0
                    try clear c30
                    try clear c30b0
                    try clear c32
                    try clear c32b0
                    try clear c33
                    try clear c33b0
                    try clear q34
                    try clear c35
                    try clear p36
                    try clear q36
                    try clear hx36
                    try clear hf36
                    try clear hcz19_0
                    try clear hcz24_0
                    try clear hfz19_0
                    try clear hfz24_0
                    try clear hx269_0
                    try clear hx270_0
                    try clear hx36_0
                    try clear p2
                    try clear p269
                    try clear p270
                    try clear p36
                    try clear p6
                    try clear q269
                    try clear q270
                    try clear q36
                    obtain ⟨x17_3, rfl, HA, HK3, HO_8, HO_10, HO_12, BK259, BK265, HB⟩ := hrel
                    cases gk with
                    | zero => exact absurd HA.out (by simp [scuttlebuttlaw01_DrawSome.l2])
                    | succ k3 =>
                      have H := HA.out
                      clear HA
                      simp only [scuttlebuttlaw01_DrawSome.l2] at H
                      by_cases c42 : x17_3 < (x8_1.length : Int)
                      · rw [if_pos c42] at H
                        have c42b0 : decide (x17_3 < (x8_1.length : Int)) = true := decide_eq_true c42
                        clear c42
                        by_cases c43 : 0 ≤ x17_3
                        · rw [if_pos c43] at H
                          have c43b0 : decide (0 ≤ x17_3) = true := decide_eq_true c43
                          clear c43
                          by_cases c44 : (rd x8_1 x17_3) = (wrap64 (100 + x17_3))
                          · rw [if_pos c44] at H
                            have c44b0 : ((rd x8_1 x17_3) == (wrap64 (100 + x17_3))) = true := beq_iff_eq.mpr c44
                            have c44b1 : ((rd x8_1 x17_3) != (wrap64 (100 + x17_3))) = false := bne_eq_false_iff_eq.mpr c44
                            clear c44
                            have H' := Aside0.mk H
                            clear H
                            have p272 : 0 ≤ (x17_3 : Int) := of_decide_eq_true (by first | (with_reducible assumption) | assumption)
                            have q272 : x17_3 < (x8_1.length : Int) := of_decide_eq_true (by first | (with_reducible assumption) | assumption)
                            obtain ⟨ad272, e272, hx272_0⟩ := Kd.at_int (Kd.R_reads' HO_8.out).2.2 x17_3 p272 q272
                            cases e272
                            replace p272 := eq_true p272
                            replace q272 := eq_true q272
                            go_wp2
                            go_roundg k3
                            case measure => have := HK1.out; have := HK2.out; have := HK3.out; omega
                            case rel => exact ⟨(wrap64 (x17_3 + 1)), (by first | rfl | (simp; done) | (simp [*]; done)), H', ⟨by have := HK1.out; have := HK2.out; have := HK3.out; omega⟩, ⟨by (with_reducible repeat (first | apply Kd.R_alloc | apply Kd.R_drewN | apply Kd.R_drew)); exact HO_8.out⟩, ⟨by (with_reducible repeat (first | apply Kd.R_alloc | apply Kd.R_drewN | apply Kd.R_drew)); exact HO_10.out⟩, ⟨by (with_reducible repeat (first | apply Kd.R_alloc | apply Kd.R_drewN | apply Kd.R_drew)); exact HO_12.out⟩, ⟨by (with_reducible repeat (first | refine blk_drewN ?_ _ | refine blk_drew ?_ | refine blk_alloc ?_ _)); exact BK259.out⟩, ⟨by (with_reducible repeat (first | refine blk_drewN ?_ _ | refine blk_drew ?_ | refine blk_alloc ?_ _)); exact BK265.out⟩, ⟨by repeat (first | (with_reducible first | exact HB.out | apply below_alloc | apply pw_below_drewN | apply below_drew1 | refine below_set ?_ GE259.out | refine below_set ?_ GE265.out) | exact HB.out)⟩⟩
                          · (first | rw [if_neg c44] at H | exact absurd rfl c44)
                            exact absurd H (by simp)
                        · (first | rw [if_neg c43] at H | exact absurd rfl c43)
                          exact absurd H (by simp)
                      · (first | rw [if_neg c42] at H | exact absurd rfl c42)
                        have c42b0 : decide (x17_3 < (x8_1.length : Int)) = false := decide_eq_false c42
                        clear c42
                        obtain ⟨ji45, hji45⟩ : ∃ j_ : Int, (mn (wrap64 (a2)) (x8_1.length : Int)) = j_ := ⟨_, rfl⟩
                        replace H : (if (t255.length : Int) = (mx (ji45) 0) then (if t258 = t264 then (some ((t261.length : Int) == (x8_1.length : Int))) else (none)) else (none)) = some r := by first | (rw [hji45] at H; exact H) | (simp only [hji45] at H ⊢; exact H)
                        have hji45_ : (if (x8_1.length : Int) < (wrap64 (a2)) then (x8_1.length : Int) else (wrap64 (a2))) = ji45 := hji45
                        obtain ⟨ji46, hji46⟩ : ∃ j_ : Int, (mx (ji45) 0) = j_ := ⟨_, rfl⟩
                        replace H : (if (t255.length : Int) = (ji46) then (if t258 = t264 then (some ((t261.length : Int) == (x8_1.length : Int))) else (none)) else (none)) = some r := by first | (rw [hji46] at H; exact H) | (simp only [hji46] at H ⊢; exact H)
                        have hji46_ : (if (ji45) < 0 then 0 else (ji45)) = ji46 := hji46
                        by_cases c47 : (t255.length : Int) = (ji46)
                        · rw [if_pos c47] at H
                          have c47b0 : ((t255.length : Int) == (ji46)) = true := beq_iff_eq.mpr c47
                          have c47b1 : ((t255.length : Int) != (ji46)) = false := bne_eq_false_iff_eq.mpr c47
                          clear c47
                          by_cases c48 : t258 = t264
                          · rw [if_pos c48] at H
                            have c48b0 : (t258 == t264) = true := beq_iff_eq.mpr c48
                            have c48b1 : (t258 != t264) = false := bne_eq_false_iff_eq.mpr c48
                            clear c48
                            obtain rfl := Option.some.inj H
                            have hnb49 := NB259_265.out
                            have hnc49 := NB265_259.out
                            have hcz50_0 : wr.cell? ⟨gb259, 0, none⟩ = some (.int .u64 t258) := (blk_cell BK259.out 0).trans rfl
                            have hfz50_0 := blk_frozen BK259.out 0
                            have hcz51_0 : wr.cell? ⟨gb265, 0, none⟩ = some (.int .u64 t264) := (blk_cell BK265.out 0).trans rfl
                            have hfz51_0 := blk_frozen BK265.out 0
                            obtain ⟨Ao52, co52, eo52⟩ := Kd.R_slice HO_12.out
                            subst eo52
                            go_wp2
                            go_ret
                            exact ⟨by first | rfl | (simp [errW_none, errW_some] <;> rfl) | (simp only [← hji45, ← hji46]; first | rfl | (simp [errW_none, errW_some] <;> rfl)) | (simp [*, errW_none, errW_some] <;> rfl), by repeat (first | (with_reducible first | exact HB.out | apply below_alloc | apply pw_below_drewN | apply below_drew1 | refine below_set ?_ GE259.out | refine below_set ?_ GE265.out) | exact HB.out)⟩
                          · (first | rw [if_neg c48] at H | exact absurd rfl c48)
                            exact absurd H (by simp)
                        · (first | rw [if_neg c47] at H | exact absurd rfl c47)
                          exact absurd H (by simp)
          · (first | rw [if_neg c14] at H | exact absurd rfl c14)
            exact absurd H (by simp)
  · replace c5 := Bool.eq_false_iff.mpr c5
    (first | subst c5 | clear c5)
    have H1 : (none) = some r := by rw [if_neg (show ¬ (false = true) by decide)] at H; exact H
    clear H
    have H := H1
    clear H1
    exact absurd H (by simp)

/-- THE ONE PURE STATEMENT of scuttlebuttlaw01_DrawSome: yours. -/
def scuttlebuttlaw01_DrawSome.Pure : Prop := ∀ (a0 : Int) (a1 : Int) (a2 : Int), (Lit.int .u64 a0).wf = true → (Lit.int .u8 a1).wf = true → (Lit.int .i8 a2).wf = true → ∃ k, scuttlebuttlaw01_DrawSome.f k a0 a1 a2 = some true
theorem scuttlebuttlaw01_DrawSome.walk (P : scuttlebuttlaw01_DrawSome.Pure) (a0 : Int) (a1 : Int) (a2 : Int) (w : World) (w0 : (Lit.int .u64 a0).wf = true) (w1 : (Lit.int .u8 a1).wf = true) (w2 : (Lit.int .i8 a2).wf = true) :
    Calls Try.prog 6 #[.int .u64 a0, .int .u8 a1, .int .i8 a2] w fun e w' => e = .returned (.bool true) ∧ Below w.heap.size w w' := by
  obtain ⟨k, h⟩ := P a0 a1 a2 w0 w1 w2
  refine (scuttlebuttlaw01_DrawSome.calls k a0 a1 a2 true w h).mono ?_
  rintro e w' ⟨rfl, hd⟩
  exact ⟨rfl, hd⟩

/-! ### scuttlebuttlaw01_DrawSteps: function 7 -/
def scuttlebuttlaw01_DrawSteps.l0 : Nat → Int → Int → Int → Int → Int → Int → Option (Bool)
  | 0, _, _, _, _, _, _ => none
  | k + 1, x0, x1, x2, x10, x276000, x278000 => if x10 < (wrap64 (Int.tmod x2 51)) then ((draw_Stream_Next.f x276000).bind fun bt278 => ((draw_Stream_Next.f x278000).bind fun bt281 => (if (IntKind.u64.wrap (bt278.2 - x276000)) = (IntKind.u64.wrap (bt281.2 - x278000)) then (if ((x0 == x1) != (bt278.2 == bt281.2)) = true then (none) else (if ((x0 == x1) != (bt278.1 == bt281.1)) = true then (none) else (scuttlebuttlaw01_DrawSteps.l0 k x0 x1 x2 (wrap64 (x10 + 1)) bt278.2 bt281.2))) else (none)))) else (some true)
def scuttlebuttlaw01_DrawSteps.f (k : Nat) (a0 : Int) (a1 : Int) (a2 : Int) : Option (Bool) := (scuttlebuttlaw01_examples.f k).bind fun t273 => (if t273 = true then ((draw_New.f a0).bind fun t274 => ((draw_New.f a1).bind fun t276 => (scuttlebuttlaw01_DrawSteps.l0 k a0 a1 a2 0 t274 t276))) else (none))
theorem scuttlebuttlaw01_DrawSteps.mono_l : ∀ k, (∀ y0 y1 y2 y3 y4 y5, LeO (scuttlebuttlaw01_DrawSteps.l0 k y0 y1 y2 y3 y4 y5) (scuttlebuttlaw01_DrawSteps.l0 (k + 1) y0 y1 y2 y3 y4 y5))
  | 0 => fun _ _ _ _ _ _ r h => by simp [scuttlebuttlaw01_DrawSteps.l0] at h
  | k + 1 => by
    have ih0 := scuttlebuttlaw01_DrawSteps.mono_l k
    · intro y0 y1 y2 y3 y4 y5
      unfold scuttlebuttlaw01_DrawSteps.l0
      repeat' first
      | (with_reducible exact ih0 _ _ _ _ _ _)
      | (with_reducible exact scuttlebuttlaw01_examples.mono _)
      | (with_reducible exact LeO.refl _)
      | (with_reducible exact LeO.none _)
      | (with_reducible refine LeO.ite ?_ ?_)
      | (with_reducible refine LeO.bind ?_ (fun _ => ?_))
      | exact ih0 _ _ _ _ _ _
      | exact scuttlebuttlaw01_examples.mono _
      | exact LeO.none _
      | refine LeO.ite ?_ ?_
      | refine LeO.bind ?_ (fun _ => ?_)
theorem scuttlebuttlaw01_DrawSteps.mono : ∀ a0 a1 a2 k, LeO (scuttlebuttlaw01_DrawSteps.f k a0 a1 a2) (scuttlebuttlaw01_DrawSteps.f (k + 1) a0 a1 a2) := by
  intro a0 a1 a2 k
  have ih0 := scuttlebuttlaw01_DrawSteps.mono_l k
  unfold scuttlebuttlaw01_DrawSteps.f
  repeat' first
      | (with_reducible exact ih0 _ _ _ _ _ _)
      | (with_reducible exact scuttlebuttlaw01_examples.mono _)
      | (with_reducible exact LeO.refl _)
      | (with_reducible exact LeO.none _)
      | (with_reducible refine LeO.ite ?_ ?_)
      | (with_reducible refine LeO.bind ?_ (fun _ => ?_))
      | exact ih0 _ _ _ _ _ _
      | exact scuttlebuttlaw01_examples.mono _
      | exact LeO.none _
      | refine LeO.ite ?_ ?_
      | refine LeO.bind ?_ (fun _ => ?_)
set_option maxHeartbeats 8000000 in
set_option maxRecDepth 100000 in
theorem scuttlebuttlaw01_DrawSteps.calls (k : Nat) (a0 : Int) (a1 : Int) (a2 : Int) (r : Bool) (w : World) (h : scuttlebuttlaw01_DrawSteps.f k a0 a1 a2 = some r) :
    Calls Try.prog 7 #[.int .u64 a0, .int .u64 a1, .int .u8 a2] w fun e w' => e = .returned (.bool r) ∧ Below w.heap.size w w' := by
  have hu26 := Try.underlying26
  have HB := Aside0.mk (Below.refl w.heap.size w)
  have H : ((scuttlebuttlaw01_examples.f k).bind fun t273 => (if t273 = true then ((draw_New.f a0).bind fun t274 => ((draw_New.f a1).bind fun t276 => (scuttlebuttlaw01_DrawSteps.l0 k a0 a1 a2 0 t274 t276))) else (none))) = some r := h
  clear h
  replace H := Option.bind_eq_some_iff.mp H
  obtain ⟨t273, A40, H⟩ := H
  replace H : (if t273 = true then ((draw_New.f a0).bind fun t274 => ((draw_New.f a1).bind fun t276 => (scuttlebuttlaw01_DrawSteps.l0 k a0 a1 a2 0 t274 t276))) else (none)) = some r := H
  have A4 := Aside0.mk A40
  clear A40
  by_cases c5 : t273 = true
  · (first | subst c5 | clear c5)
    have H1 : ((draw_New.f a0).bind fun t274 => ((draw_New.f a1).bind fun t276 => (scuttlebuttlaw01_DrawSteps.l0 k a0 a1 a2 0 t274 t276))) = some r := by first | (rw [if_pos rfl] at H; exact H) | (rw [if_pos trivial] at H; exact H)
    clear H
    have H := H1
    clear H1
    replace H := Option.bind_eq_some_iff.mp H
    obtain ⟨t274, A60, H⟩ := H
    replace H : ((draw_New.f a1).bind fun t276 => (scuttlebuttlaw01_DrawSteps.l0 k a0 a1 a2 0 t274 t276)) = some r := H
    have A6 := Aside0.mk A60
    clear A60
    replace H := Option.bind_eq_some_iff.mp H
    obtain ⟨t276, A70, H⟩ := H
    replace H : (scuttlebuttlaw01_DrawSteps.l0 k a0 a1 a2 0 t274 t276) = some r := H
    have A7 := Aside0.mk A70
    clear A70
    have H' := Aside0.mk H
    clear H
    go_enter Try.func7, Try.ntmps7
    go_wp2_with (first | ((with_reducible refine gate_callee (f := 8) rfl ?_); refine goesL_ (some 15) rfl rfl Try.func8 (by kernel_rfl) rfl #[] rfl (by (try simp only [List.map_toArray, List.map_cons, List.map_nil]); first | done | rfl | (simp only [List.length_drop, List.length_take]; rfl)) ?_; (with_reducible refine (scuttlebuttlaw01_examples.calls k  true _ A4.out).mono ?_); rintro e w8 ⟨rfl, hb⟩; refine ⟨_, rfl, ?_⟩; have n0_ := Aside0.mk (below_step (by repeat (first | (with_reducible first | exact HB.out | apply below_alloc | apply pw_below_drewN | apply below_drew1) | exact HB.out)) hb); clear HB; have HB := n0_; clear n0_; (try clear hb); (try clear hb2); (try clear hk); (try clear hi)) | ((with_reducible refine gate_callee (f := 9) rfl ?_); refine goesL_ (some 19) rfl rfl Try.func9 (by kernel_rfl) rfl #[.int .u64 a0] rfl (by (try simp only [List.map_toArray, List.map_cons, List.map_nil]); first | done | rfl | (simp only [List.length_drop, List.length_take]; rfl)) ?_; (with_reducible refine (draw_New.calls a0 t274 _ A6.out).mono ?_); rintro e w9 ⟨rfl, hb⟩; refine ⟨_, rfl, ?_⟩; have n0_ := Aside0.mk (below_step (by repeat (first | (with_reducible first | exact HB.out | apply below_alloc | apply pw_below_drewN | apply below_drew1) | exact HB.out)) hb); clear HB; have HB := n0_; clear n0_; (try clear hb); (try clear hb2); (try clear hk); (try clear hi)) | ((with_reducible refine gate_dst (N := 8) rfl ?_); refine box_event ?hg (N := 8) ?hd (cs := #[.int .u64 0]) (t := 26) ?hr ?_; (case hd => rfl); (case hg => rfl); (case hr => first | (go_simp; done) | (go_simp; rfl)); intro gb275 hg w10 hbox hb; have n0_ := Aside0.mk (below_step (by repeat (first | (with_reducible first | exact HB.out | apply below_alloc | apply pw_below_drewN | apply below_drew1) | exact HB.out)) hb); have n1_ := Aside0.mk (hbox); have n2_ := Aside0.mk ((by rw [hg]; exact (below_size (by repeat (first | (with_reducible first | exact HB.out | apply below_alloc | apply pw_below_drewN | apply below_drew1) | exact HB.out))) : w.heap.size ≤ gb275)); have n3_ := Aside0.mk ((by rw [hg]; exact (below_size (by repeat (first | (with_reducible first | exact HB.out | apply below_alloc | apply pw_below_drewN | apply below_drew1) | exact HB.out))) : w.heap.size ≤ gb275)); clear HB; have HB := n0_; have BK275 := n1_; have GW275 := n2_; have GE275 := n3_; clear n0_ n1_ n2_ n3_; clear hb hbox hg; have hcz11_0 : w10.cell? ⟨gb275, 0, none⟩ = some (.int .u64 0) := (blk_cell BK275.out 0).trans rfl; have hfz11_0 := blk_frozen BK275.out 0) | ((with_reducible refine gate_callee (f := 9) rfl ?_); refine goesL_ (some 21) rfl rfl Try.func9 (by kernel_rfl) rfl #[.int .u64 a1] rfl (by (try simp only [List.map_toArray, List.map_cons, List.map_nil]); first | done | rfl | (simp only [List.length_drop, List.length_take]; rfl)) ?_; (with_reducible refine (draw_New.calls a1 t276 _ A7.out).mono ?_); rintro e w12 ⟨rfl, hb⟩; refine ⟨_, rfl, ?_⟩; have n0_ := Aside0.mk (blk_below (g := gb275) (o := .cells #[.int .u64 t274] 26 (0, 0)) (by (with_reducible repeat (first | refine blk_drewN ?_ _ | refine blk_drew ?_ | refine blk_alloc ?_ _)); refine blk_put (cs := #[.int .u64 0]) ?_ 0 _ rfl; (with_reducible repeat (first | refine blk_drewN ?_ _ | refine blk_drew ?_ | refine blk_alloc ?_ _)); exact BK275.out) hb); have n1_ := Aside0.mk (below_step (by repeat (first | (with_reducible first | exact HB.out | apply below_alloc | apply pw_below_drewN | apply below_drew1 | refine below_set ?_ GE275.out) | exact HB.out)) hb); clear BK275; clear HB; have BK275 := n0_; have HB := n1_; clear n0_ n1_; (try clear hb); (try clear hb2); (try clear hk); (try clear hi)) | ((with_reducible refine gate_dst (N := 9) rfl ?_); refine box_event ?hg (N := 9) ?hd (cs := #[.int .u64 0]) (t := 26) ?hr ?_; (case hd => rfl); (case hg => rfl); (case hr => first | (go_simp; done) | (go_simp; rfl)); intro gb277 hg w13 hbox hb; have n0_ := Aside0.mk (blk_below (g := gb275) (o := .cells #[.int .u64 t274] 26 (0, 0)) (by (with_reducible repeat (first | refine blk_drewN ?_ _ | refine blk_drew ?_ | refine blk_alloc ?_ _)); exact BK275.out) hb); have n1_ := Aside0.mk (below_step (by repeat (first | (with_reducible first | exact HB.out | apply below_alloc | apply pw_below_drewN | apply below_drew1 | refine below_set ?_ GE275.out) | exact HB.out)) hb); have n2_ := Aside0.mk (hbox); have n3_ := Aside0.mk ((by rw [hg]; exact (below_size (by repeat (first | (with_reducible first | exact HB.out | apply below_alloc | apply pw_below_drewN | apply below_drew1 | refine below_set ?_ GE275.out) | exact HB.out))) : w.heap.size ≤ gb277)); have n4_ := Aside0.mk ((by rw [hg]; exact (below_size (by repeat (first | (with_reducible first | exact HB.out | apply below_alloc | apply pw_below_drewN | apply below_drew1 | refine below_set ?_ GE275.out) | exact HB.out))) : w.heap.size ≤ gb277)); have n5_ := Aside0.mk ((by rw [hg]; exact Nat.ne_of_lt (blk_lt (g := gb275) (o := .cells #[.int .u64 t274] 26 (0, 0)) (by (with_reducible repeat (first | refine blk_drewN ?_ _ | refine blk_drew ?_ | refine blk_alloc ?_ _)); exact BK275.out)) : gb275 ≠ gb277)); have n6_ := Aside0.mk ((by rw [hg]; exact Nat.ne_of_gt (blk_lt (g := gb275) (o := .cells #[.int .u64 t274] 26 (0, 0)) (by (with_reducible repeat (first | refine blk_drewN ?_ _ | refine blk_drew ?_ | refine blk_alloc ?_ _)); exact BK275.out)) : gb277 ≠ gb275)); clear BK275; clear HB; have BK275 := n0_; have HB := n1_; have BK277 := n2_; have GW277 := n3_; have GE277 := n4_; have NB275_277 := n5_; have NB277_275 := n6_; clear n0_ n1_ n2_ n3_ n4_ n5_ n6_; clear hb hbox hg; have hnb14 := NB277_275.out; have hnc14 := NB275_277.out; have hcz15_0 : w13.cell? ⟨gb277, 0, none⟩ = some (.int .u64 0) := (blk_cell BK277.out 0).trans rfl; have hfz15_0 := blk_frozen BK277.out 0))
    go_loopg [10] k (fun kq v10 w' => ∃ (x10_1 : Int) (x276000_1 : Int) (x278000_1 : Int), v10 = .int .i64 x10_1 ∧ Aside0 (scuttlebuttlaw01_DrawSteps.l0 kq a0 a1 a2 x10_1 x276000_1 x278000_1 = some r) ∧ Aside0 (kq ≤ k) ∧ Aside0 (w'.heap[gb275]? = some (.cells #[.int .u64 x276000_1] 26 (0, 0))) ∧ Aside0 (w'.heap[gb277]? = some (.cells #[.int .u64 x278000_1] 26 (0, 0))) ∧ Aside0 (Below w.heap.size w w'))
    case atStart => exact ⟨(0), (t274), (t276), (by first | rfl | (simp; done) | (simp [*]; done)), H', ⟨Nat.le_refl _⟩, ⟨by (with_reducible repeat (first | refine blk_drewN ?_ _ | refine blk_drew ?_ | refine blk_alloc ?_ _)); refine blk_far ?_ NB275_277.out _; (with_reducible repeat (first | refine blk_drewN ?_ _ | refine blk_drew ?_ | refine blk_alloc ?_ _)); exact BK275.out⟩, ⟨by (with_reducible repeat (first | refine blk_drewN ?_ _ | refine blk_drew ?_ | refine blk_alloc ?_ _)); refine blk_put (cs := #[.int .u64 0]) ?_ 0 _ rfl; (with_reducible repeat (first | refine blk_drewN ?_ _ | refine blk_drew ?_ | refine blk_alloc ?_ _)); exact BK277.out⟩, ⟨by repeat (first | (with_reducible first | exact HB.out | apply below_alloc | apply pw_below_drewN | apply below_drew1 | refine below_set ?_ GE275.out | refine below_set ?_ GE277.out) | exact HB.out)⟩⟩
    case round =>
      clear H'
      try clear c1
      try clear p2
      try clear c5
      try clear c7
      try clear c8
      try clear c9
      try clear c14
      try clear hcz11_0
      try clear hcz15_0
      try clear hfz11_0
      try clear hfz15_0
      obtain ⟨x10_1, x276000_1, x278000_1, rfl, HA, HK1, BK275, BK277, HB⟩ := hrel
      cases gk with
      | zero => exact absurd HA.out (by simp [scuttlebuttlaw01_DrawSteps.l0])
      | succ k1 =>
        have H := HA.out
        clear HA
        simp only [scuttlebuttlaw01_DrawSteps.l0] at H
        by_cases c16 : x10_1 < (wrap64 (Int.tmod a2 51))
        · rw [if_pos c16] at H
          have c16b0 : decide (x10_1 < (wrap64 (Int.tmod a2 51))) = true := decide_eq_true c16
          clear c16
          replace H := Option.bind_eq_some_iff.mp H
          obtain ⟨⟨t278, t279⟩, A170, H⟩ := H
          replace H : ((draw_Stream_Next.f x278000_1).bind fun bt281 => (if (IntKind.u64.wrap (t279 - x276000_1)) = (IntKind.u64.wrap (bt281.2 - x278000_1)) then (if ((a0 == a1) != (t279 == bt281.2)) = true then (none) else (if ((a0 == a1) != (t278 == bt281.1)) = true then (none) else (scuttlebuttlaw01_DrawSteps.l0 k1 a0 a1 a2 (wrap64 (x10_1 + 1)) t279 bt281.2))) else (none))) = some r := H
          have A17 := Aside0.mk A170
          clear A170
          replace H := Option.bind_eq_some_iff.mp H
          obtain ⟨⟨t281, t282⟩, A180, H⟩ := H
          replace H : (if (IntKind.u64.wrap (t279 - x276000_1)) = (IntKind.u64.wrap (t282 - x278000_1)) then (if ((a0 == a1) != (t279 == t282)) = true then (none) else (if ((a0 == a1) != (t278 == t281)) = true then (none) else (scuttlebuttlaw01_DrawSteps.l0 k1 a0 a1 a2 (wrap64 (x10_1 + 1)) t279 t282))) else (none)) = some r := H
          have A18 := Aside0.mk A180
          clear A180
          by_cases c19 : (IntKind.u64.wrap (t279 - x276000_1)) = (IntKind.u64.wrap (t282 - x278000_1))
          · rw [if_pos c19] at H
            have c19b0 : ((IntKind.u64.wrap (t279 - x276000_1)) == (IntKind.u64.wrap (t282 - x278000_1))) = true := beq_iff_eq.mpr c19
            have c19b1 : ((IntKind.u64.wrap (t279 - x276000_1)) != (IntKind.u64.wrap (t282 - x278000_1))) = false := bne_eq_false_iff_eq.mpr c19
            clear c19
            by_cases c20 : ((a0 == a1) != (t279 == t282)) = true
            · rw [if_pos c20] at H
              exact absurd H (by simp)
            · (first | rw [if_neg c20] at H | exact absurd rfl c20)
              have c20b0 : ((a0 == a1) != (t279 == t282)) = false := by simpa using c20
              (try (have c20b1 : decide ((a0 == a1) = (t279 == t282)) = true := by simpa using c20))
              (try (have c20b2 : ((a0 == a1) == (t279 == t282)) = true := by simpa using c20))
              clear c20
              by_cases c21 : ((a0 == a1) != (t278 == t281)) = true
              · rw [if_pos c21] at H
                exact absurd H (by simp)
              · (first | rw [if_neg c21] at H | exact absurd rfl c21)
                have c21b0 : ((a0 == a1) != (t278 == t281)) = false := by simpa using c21
                (try (have c21b1 : decide ((a0 == a1) = (t278 == t281)) = true := by simpa using c21))
                (try (have c21b2 : ((a0 == a1) == (t278 == t281)) = true := by simpa using c21))
                clear c21
                have H' := Aside0.mk H
                clear H
                have hnb22 := NB275_277.out
                have hnc22 := NB277_275.out
                have hcz23_0 : wr.cell? ⟨gb275, 0, none⟩ = some (.int .u64 x276000_1) := (blk_cell BK275.out 0).trans rfl
                have hfz23_0 := blk_frozen BK275.out 0
                go_wp2_with (first | ((with_reducible refine gate_callee (f := 10) rfl ?_); refine goesL_ (some 31) rfl rfl Try.func10 (by kernel_rfl) rfl #[.agg #[.int .u64 x276000_1]] rfl (by (try simp only [List.map_toArray, List.map_cons, List.map_nil]); first | done | rfl | (simp only [List.length_drop, List.length_take]; rfl)) ?_; (with_reducible refine (draw_Stream_Next.calls x276000_1 t278 t279 _ A17.out).mono ?_); rintro e w24 ⟨rfl, hb⟩; refine ⟨_, rfl, ?_⟩; have n0_ := Aside0.mk (blk_below (g := gb275) (o := .cells #[.int .u64 x276000_1] 26 (0, 0)) (by (with_reducible repeat (first | refine blk_drewN ?_ _ | refine blk_drew ?_ | refine blk_alloc ?_ _)); exact BK275.out) hb); have n1_ := Aside0.mk (blk_below (g := gb277) (o := .cells #[.int .u64 x278000_1] 26 (0, 0)) (by (with_reducible repeat (first | refine blk_drewN ?_ _ | refine blk_drew ?_ | refine blk_alloc ?_ _)); exact BK277.out) hb); have n2_ := Aside0.mk (below_step (by repeat (first | (with_reducible first | exact HB.out | apply below_alloc | apply pw_below_drewN | apply below_drew1 | refine below_set ?_ GE275.out | refine below_set ?_ GE277.out) | exact HB.out)) hb); clear BK275; clear BK277; clear HB; have BK275 := n0_; have BK277 := n1_; have HB := n2_; clear n0_ n1_ n2_; (try clear hb); (try clear hb2); (try clear hk); (try clear hi)) | ((with_reducible refine gate_dst (N := 12) rfl ?_); refine box_event ?hg (N := 12) ?hd (cs := #[.int .u64 0]) (t := 26) ?hr ?_; (case hd => rfl); (case hg => rfl); (case hr => first | (go_simp; done) | (go_simp; rfl)); intro gb280 hg w25 hbox hb; have n0_ := Aside0.mk (blk_below (g := gb275) (o := .cells #[.int .u64 x276000_1] 26 (0, 0)) (by (with_reducible repeat (first | refine blk_drewN ?_ _ | refine blk_drew ?_ | refine blk_alloc ?_ _)); exact BK275.out) hb); have n1_ := Aside0.mk (blk_below (g := gb277) (o := .cells #[.int .u64 x278000_1] 26 (0, 0)) (by (with_reducible repeat (first | refine blk_drewN ?_ _ | refine blk_drew ?_ | refine blk_alloc ?_ _)); exact BK277.out) hb); have n2_ := Aside0.mk (below_step (by repeat (first | (with_reducible first | exact HB.out | apply below_alloc | apply pw_below_drewN | apply below_drew1 | refine below_set ?_ GE275.out | refine below_set ?_ GE277.out) | exact HB.out)) hb); have n3_ := Aside0.mk (hbox); have n4_ := Aside0.mk ((by rw [hg]; exact (below_size (by repeat (first | (with_reducible first | exact HB.out | apply below_alloc | apply pw_below_drewN | apply below_drew1 | refine below_set ?_ GE275.out | refine below_set ?_ GE277.out) | exact HB.out))) : w.heap.size ≤ gb280)); have n5_ := Aside0.mk ((by rw [hg]; exact (below_size (by repeat (first | (with_reducible first | exact HB.out | apply below_alloc | apply pw_below_drewN | apply below_drew1 | refine below_set ?_ GE275.out | refine below_set ?_ GE277.out) | exact HB.out))) : w.heap.size ≤ gb280)); have n6_ := Aside0.mk ((by rw [hg]; exact Nat.ne_of_lt (blk_lt (g := gb275) (o := .cells #[.int .u64 x276000_1] 26 (0, 0)) (by (with_reducible repeat (first | refine blk_drewN ?_ _ | refine blk_drew ?_ | refine blk_alloc ?_ _)); exact BK275.out)) : gb275 ≠ gb280)); have n7_ := Aside0.mk ((by rw [hg]; exact Nat.ne_of_gt (blk_lt (g := gb275) (o := .cells #[.int .u64 x276000_1] 26 (0, 0)) (by (with_reducible repeat (first | refine blk_drewN ?_ _ | refine blk_drew ?_ | refine blk_alloc ?_ _)); exact BK275.out)) : gb280 ≠ gb275)); have n8_ := Aside0.mk ((by rw [hg]; exact Nat.ne_of_lt (blk_lt (g := gb277) (o := .cells #[.int .u64 x278000_1] 26 (0, 0)) (by (with_reducible repeat (first | refine blk_drewN ?_ _ | refine blk_drew ?_ | refine blk_alloc ?_ _)); exact BK277.out)) : gb277 ≠ gb280)); have n9_ := Aside0.mk ((by rw [hg]; exact Nat.ne_of_gt (blk_lt (g := gb277) (o := .cells #[.int .u64 x278000_1] 26 (0, 0)) (by (with_reducible repeat (first | refine blk_drewN ?_ _ | refine blk_drew ?_ | refine blk_alloc ?_ _)); exact BK277.out)) : gb280 ≠ gb277)); clear BK275; clear BK277; clear HB; have BK275 := n0_; have BK277 := n1_; have HB := n2_; have BK280 := n3_; have GW280 := n4_; have GE280 := n5_; have NB275_280 := n6_; have NB280_275 := n7_; have NB277_280 := n8_; have NB280_277 := n9_; clear n0_ n1_ n2_ n3_ n4_ n5_ n6_ n7_ n8_ n9_; clear hb hbox hg; have hnb26 := NB280_275.out; have hnc26 := NB275_280.out; have hnb27 := NB280_277.out; have hnc27 := NB277_280.out; have hcz28_0 : w25.cell? ⟨gb280, 0, none⟩ = some (.int .u64 0) := (blk_cell BK280.out 0).trans rfl; have hfz28_0 := blk_frozen BK280.out 0; have hcz29_0 : w25.cell? ⟨gb277, 0, none⟩ = some (.int .u64 x278000_1) := (blk_cell BK277.out 0).trans rfl; have hfz29_0 := blk_frozen BK277.out 0) | ((with_reducible refine gate_callee (f := 10) rfl ?_); refine goesL_ (some 36) rfl rfl Try.func10 (by kernel_rfl) rfl #[.agg #[.int .u64 x278000_1]] rfl (by (try simp only [List.map_toArray, List.map_cons, List.map_nil]); first | done | rfl | (simp only [List.length_drop, List.length_take]; rfl)) ?_; (with_reducible refine (draw_Stream_Next.calls x278000_1 t281 t282 _ A18.out).mono ?_); rintro e w30 ⟨rfl, hb⟩; refine ⟨_, rfl, ?_⟩; have n0_ := Aside0.mk (blk_below (g := gb275) (o := .cells #[.int .u64 x276000_1] 26 (0, 0)) (by (with_reducible repeat (first | refine blk_drewN ?_ _ | refine blk_drew ?_ | refine blk_alloc ?_ _)); refine blk_far ?_ NB275_280.out _; (with_reducible repeat (first | refine blk_drewN ?_ _ | refine blk_drew ?_ | refine blk_alloc ?_ _)); exact BK275.out) hb); have n1_ := Aside0.mk (blk_below (g := gb277) (o := .cells #[.int .u64 x278000_1] 26 (0, 0)) (by (with_reducible repeat (first | refine blk_drewN ?_ _ | refine blk_drew ?_ | refine blk_alloc ?_ _)); refine blk_far ?_ NB277_280.out _; (with_reducible repeat (first | refine blk_drewN ?_ _ | refine blk_drew ?_ | refine blk_alloc ?_ _)); exact BK277.out) hb); have n2_ := Aside0.mk (blk_below (g := gb280) (o := .cells #[.int .u64 t279] 26 (0, 0)) (by (with_reducible repeat (first | refine blk_drewN ?_ _ | refine blk_drew ?_ | refine blk_alloc ?_ _)); refine blk_put (cs := #[.int .u64 0]) ?_ 0 _ rfl; (with_reducible repeat (first | refine blk_drewN ?_ _ | refine blk_drew ?_ | refine blk_alloc ?_ _)); exact BK280.out) hb); have n3_ := Aside0.mk (below_step (by repeat (first | (with_reducible first | exact HB.out | apply below_alloc | apply pw_below_drewN | apply below_drew1 | refine below_set ?_ GE275.out | refine below_set ?_ GE277.out | refine below_set ?_ GE280.out) | exact HB.out)) hb); clear BK275; clear BK277; clear BK280; clear HB; have BK275 := n0_; have BK277 := n1_; have BK280 := n2_; have HB := n3_; clear n0_ n1_ n2_ n3_; (try clear hb); (try clear hb2); (try clear hk); (try clear hi)) | ((with_reducible refine gate_dst (N := 14) rfl ?_); refine box_event ?hg (N := 14) ?hd (cs := #[.int .u64 0]) (t := 26) ?hr ?_; (case hd => rfl); (case hg => rfl); (case hr => first | (go_simp; done) | (go_simp; rfl)); intro gb283 hg w31 hbox hb; have n0_ := Aside0.mk (blk_below (g := gb275) (o := .cells #[.int .u64 x276000_1] 26 (0, 0)) (by (with_reducible repeat (first | refine blk_drewN ?_ _ | refine blk_drew ?_ | refine blk_alloc ?_ _)); exact BK275.out) hb); have n1_ := Aside0.mk (blk_below (g := gb277) (o := .cells #[.int .u64 x278000_1] 26 (0, 0)) (by (with_reducible repeat (first | refine blk_drewN ?_ _ | refine blk_drew ?_ | refine blk_alloc ?_ _)); exact BK277.out) hb); have n2_ := Aside0.mk (blk_below (g := gb280) (o := .cells #[.int .u64 t279] 26 (0, 0)) (by (with_reducible repeat (first | refine blk_drewN ?_ _ | refine blk_drew ?_ | refine blk_alloc ?_ _)); exact BK280.out) hb); have n3_ := Aside0.mk (below_step (by repeat (first | (with_reducible first | exact HB.out | apply below_alloc | apply pw_below_drewN | apply below_drew1 | refine below_set ?_ GE275.out | refine below_set ?_ GE277.out | refine below_set ?_ GE280.out) | exact HB.out)) hb); have n4_ := Aside0.mk (hbox); have n5_ := Aside0.mk ((by rw [hg]; exact (below_size (by repeat (first | (with_reducible first | exact HB.out | apply below_alloc | apply pw_below_drewN | apply below_drew1 | refine below_set ?_ GE275.out | refine below_set ?_ GE277.out | refine below_set ?_ GE280.out) | exact HB.out))) : w.heap.size ≤ gb283)); have n6_ := Aside0.mk ((by rw [hg]; exact (below_size (by repeat (first | (with_reducible first | exact HB.out | apply below_alloc | apply pw_below_drewN | apply below_drew1 | refine below_set ?_ GE275.out | refine below_set ?_ GE277.out | refine below_set ?_ GE280.out) | exact HB.out))) : w.heap.size ≤ gb283)); have n7_ := Aside0.mk ((by rw [hg]; exact Nat.ne_of_lt (blk_lt (g := gb275) (o := .cells #[.int .u64 x276000_1] 26 (0, 0)) (by (with_reducible repeat (first | refine blk_drewN ?_ _ | refine blk_drew ?_ | refine blk_alloc ?_ _)); exact BK275.out)) : gb275 ≠ gb283)); have n8_ := Aside0.mk ((by rw [hg]; exact Nat.ne_of_gt (blk_lt (g := gb275) (o := .cells #[.int .u64 x276000_1] 26 (0, 0)) (by (with_reducible repeat (first | refine blk_drewN ?_ _ | refine blk_drew ?_ | refine blk_alloc ?_ _)); exact BK275.out)) : gb283 ≠ gb275)); have n9_ := Aside0.mk ((by rw [hg]; exact Nat.ne_of_lt (blk_lt (g := gb277) (o := .cells #[.int .u64 x278000_1] 26 (0, 0)) (by (with_reducible repeat (first | refine blk_drewN ?_ _ | refine blk_drew ?_ | refine blk_alloc ?_ _)); exact BK277.out)) : gb277 ≠ gb283)); have n10_ := Aside0.mk ((by rw [hg]; exact Nat.ne_of_gt (blk_lt (g := gb277) (o := .cells #[.int .u64 x278000_1] 26 (0, 0)) (by (with_reducible repeat (first | refine blk_drewN ?_ _ | refine blk_drew ?_ | refine blk_alloc ?_ _)); exact BK277.out)) : gb283 ≠ gb277)); have n11_ := Aside0.mk ((by rw [hg]; exact Nat.ne_of_lt (blk_lt (g := gb280) (o := .cells #[.int .u64 t279] 26 (0, 0)) (by (with_reducible repeat (first | refine blk_drewN ?_ _ | refine blk_drew ?_ | refine blk_alloc ?_ _)); exact BK280.out)) : gb280 ≠ gb283)); have n12_ := Aside0.mk ((by rw [hg]; exact Nat.ne_of_gt (blk_lt (g := gb280) (o := .cells #[.int .u64 t279] 26 (0, 0)) (by (with_reducible repeat (first | refine blk_drewN ?_ _ | refine blk_drew ?_ | refine blk_alloc ?_ _)); exact BK280.out)) : gb283 ≠ gb280)); clear BK275; clear BK277; clear BK280; clear HB; have BK275 := n0_; have BK277 := n1_; have BK280 := n2_; have HB := n3_; have BK283 := n4_; have GW283 := n5_; have GE283 := n6_; have NB275_283 := n7_; have NB283_275 := n8_; have NB277_283 := n9_; have NB283_277 := n10_; have NB280_283 := n11_; have NB283_280 := n12_; clear n0_ n1_ n2_ n3_ n4_ n5_ n6_ n7_ n8_ n9_ n10_ n11_ n12_; clear hb hbox hg; have hnb32 := NB283_275.out; have hnc32 := NB275_283.out; have hnb33 := NB283_277.out; have hnc33 := NB277_283.out; have hnb34 := NB283_280.out; have hnc34 := NB280_283.out; have hcz35_0 : w31.cell? ⟨gb283, 0, none⟩ = some (.int .u64 0) := (blk_cell BK283.out 0).trans rfl; have hfz35_0 := blk_frozen BK283.out 0; have hcz36_0 : w31.cell? ⟨gb280, 0, none⟩ = some (.int .u64 t279) := (blk_cell BK280.out 0).trans rfl; have hfz36_0 := blk_frozen BK280.out 0; have hcz37_0 : w31.cell? ⟨gb275, 0, none⟩ = some (.int .u64 x276000_1) := (blk_cell BK275.out 0).trans rfl; have hfz37_0 := blk_frozen BK275.out 0; have hcz38_0 : w31.cell? ⟨gb277, 0, none⟩ = some (.int .u64 x278000_1) := (blk_cell BK277.out 0).trans rfl; have hfz38_0 := blk_frozen BK277.out 0))
                go_roundg k1
                case measure => have := HK1.out; omega
                case rel => exact ⟨(wrap64 (x10_1 + 1)), (t279), (t282), (by first | rfl | (simp; done) | (simp [*]; done)), H', ⟨by have := HK1.out; omega⟩, ⟨by (with_reducible repeat (first | refine blk_drewN ?_ _ | refine blk_drew ?_ | refine blk_alloc ?_ _)); refine blk_far ?_ NB275_277.out _; (with_reducible repeat (first | refine blk_drewN ?_ _ | refine blk_drew ?_ | refine blk_alloc ?_ _)); refine blk_put (cs := #[.int .u64 x276000_1]) ?_ 0 _ rfl; (with_reducible repeat (first | refine blk_drewN ?_ _ | refine blk_drew ?_ | refine blk_alloc ?_ _)); refine blk_far ?_ NB275_283.out _; (with_reducible repeat (first | refine blk_drewN ?_ _ | refine blk_drew ?_ | refine blk_alloc ?_ _)); exact BK275.out⟩, ⟨by (with_reducible repeat (first | refine blk_drewN ?_ _ | refine blk_drew ?_ | refine blk_alloc ?_ _)); refine blk_put (cs := #[.int .u64 x278000_1]) ?_ 0 _ rfl; (with_reducible repeat (first | refine blk_drewN ?_ _ | refine blk_drew ?_ | refine blk_alloc ?_ _)); refine blk_far ?_ NB277_275.out _; (with_reducible repeat (first | refine blk_drewN ?_ _ | refine blk_drew ?_ | refine blk_alloc ?_ _)); refine blk_far ?_ NB277_283.out _; (with_reducible repeat (first | refine blk_drewN ?_ _ | refine blk_drew ?_ | refine blk_alloc ?_ _)); exact BK277.out⟩, ⟨by repeat (first | (with_reducible first | exact HB.out | apply below_alloc | apply pw_below_drewN | apply below_drew1 | refine below_set ?_ GE275.out | refine below_set ?_ GE277.out | refine below_set ?_ GE280.out | refine below_set ?_ GE283.out) | exact HB.out)⟩⟩
          · (first | rw [if_neg c19] at H | exact absurd rfl c19)
            exact absurd H (by simp)
        · (first | rw [if_neg c16] at H | exact absurd rfl c16)
          have c16b0 : decide (x10_1 < (wrap64 (Int.tmod a2 51))) = false := decide_eq_false c16
          clear c16
          obtain rfl := Option.some.inj H
          go_wp2
          go_ret
          exact ⟨by first | rfl | (simp [errW_none, errW_some] <;> rfl) | (simp [*, errW_none, errW_some] <;> rfl), by repeat (first | (with_reducible first | exact HB.out | apply below_alloc | apply pw_below_drewN | apply below_drew1 | refine below_set ?_ GE275.out | refine below_set ?_ GE277.out) | exact HB.out)⟩
  · replace c5 := Bool.eq_false_iff.mpr c5
    (first | subst c5 | clear c5)
    have H1 : (none) = some r := by rw [if_neg (show ¬ (false = true) by decide)] at H; exact H
    clear H
    have H := H1
    clear H1
    exact absurd H (by simp)

/-- THE ONE PURE STATEMENT of scuttlebuttlaw01_DrawSteps: yours. -/
def scuttlebuttlaw01_DrawSteps.Pure : Prop := ∀ (a0 : Int) (a1 : Int) (a2 : Int), (Lit.int .u64 a0).wf = true → (Lit.int .u64 a1).wf = true → (Lit.int .u8 a2).wf = true → ∃ k, scuttlebuttlaw01_DrawSteps.f k a0 a1 a2 = some true
theorem scuttlebuttlaw01_DrawSteps.walk (P : scuttlebuttlaw01_DrawSteps.Pure) (a0 : Int) (a1 : Int) (a2 : Int) (w : World) (w0 : (Lit.int .u64 a0).wf = true) (w1 : (Lit.int .u64 a1).wf = true) (w2 : (Lit.int .u8 a2).wf = true) :
    Calls Try.prog 7 #[.int .u64 a0, .int .u64 a1, .int .u8 a2] w fun e w' => e = .returned (.bool true) ∧ Below w.heap.size w w' := by
  obtain ⟨k, h⟩ := P a0 a1 a2 w0 w1 w2
  refine (scuttlebuttlaw01_DrawSteps.calls k a0 a1 a2 true w h).mono ?_
  rintro e w' ⟨rfl, hd⟩
  exact ⟨rfl, hd⟩

end Go.Proofs.Ytbkileohjcijpaa.PA
