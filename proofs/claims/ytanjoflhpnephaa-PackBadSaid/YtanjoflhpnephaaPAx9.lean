/- Written by xprint.py, a program of this session: Go functions that the laws reach, each as a plain Lean function, and the proof that the Go code comes to what it says. No condition but those that each theorem names. -/
import Derived.Test.YtanjoflhpnephaaPAx0
import Derived.Test.YtanjoflhpnephaaPAx3
import Derived.Test.YtanjoflhpnephaaPAx4
import Derived.Test.YtanjoflhpnephaaPAx5
import Derived.Test.YtanjoflhpnephaaPAx6
import Derived.Test.YtanjoflhpnephaaPAx7
import Derived.Test.YtanjoflhpnephaaPAx8
import Derived.WalkSpells
import Derived.WalkLawsBesides
import Derived.Test.YtanjoflhpnephaaXAux
namespace Go.Proofs.Ytanjoflhpnephaa.PA
open Go.RowKit Go.Proofs.YtanjoflhpnephaaW.PrintWords Go.Proofs.YtanjoflhpnephaaW.PrintLast Go.Proofs.YtanjoflhpnephaaW.PrintMore
attribute [local go_sem] max2_int min2_int max_two min_two max_three min_three max_four min_four   -- for this text's walks alone
set_option linter.unusedVariables false
set_option linter.unusedSimpArgs false

/-! ### scuttlebuttlaw02_PackTexts: function 5 -/
def scuttlebuttlaw02_PackTexts.j0 : Nat → ByteArray → ByteArray → Bool → Bool → Option (Bool)
  | 0, _, _, _, _ => none
  | k + 1, x8, x9, x10, x54 => if x54 = true then (none) else (if x10 = true then ((pack_Read.f x9).bind fun bt153 => ((pack_Reader_Text.f k bt153.1 bt153.2).bind fun bt155 => (if (x8.size : Int) ≤ 255 then (if (x9.size : Int) = (wrap64 ((x8.size : Int) + 1)) then (if bt155.1.toList = x8.toList then ((pack_Reader_Done.f bt155.2.1 bt155.2.2).bind fun t159 => (some t159)) else (none)) else (none)) else (none)))) else (if (x8.size : Int) > 255 then (some (x9.toList == ([] : List UInt8))) else (none)))
def scuttlebuttlaw02_PackTexts.f (k : Nat) (a0 : Int) (a1 : Int) (a2 : Int) : Option (Bool) := (scuttlebuttlaw02_examples.f k).bind fun t145 => (if t145 = true then (if 0 ≤ (wrap64 (Int.tmod a0 600)) then (if (wrap64 (Int.tmod a0 600) : Int).toNat ≤ 281474976710656 then ((some (List.replicate (wrap64 (Int.tmod a0 600) : Int).toNat 0 : List Int)).bind fun y146 => ((pack_Text.f (strOfNums y146)).bind fun bt149 => ((pack_Number.f a1 (wrap64 (1 + (wrap64 (Int.tmod a2 8))))).bind fun t151 => ((pack_Number.f a1 8).bind fun t152 => (if (t152.size : Int) = 8 then (if (t151.size : Int) = (wrap64 (1 + (wrap64 (Int.tmod a2 8)))) then (if 0 ≤ (wrap64 (8 - (wrap64 (1 + (wrap64 (Int.tmod a2 8)))))) then (if (wrap64 (8 - (wrap64 (1 + (wrap64 (Int.tmod a2 8)))))) ≤ (t152.size : Int) then (scuttlebuttlaw02_PackTexts.j0 k (strOfNums y146) bt149.1 bt149.2 ((t152.extract ((wrap64 (8 - (wrap64 (1 + (wrap64 (Int.tmod a2 8)))))) : Int).toNat t152.size).toList != t151.toList)) else (none)) else (none)) else (scuttlebuttlaw02_PackTexts.j0 k (strOfNums y146) bt149.1 bt149.2 true)) else (scuttlebuttlaw02_PackTexts.j0 k (strOfNums y146) bt149.1 bt149.2 true)))))) else (none)) else (none)) else (none))
theorem scuttlebuttlaw02_PackTexts.mono_l : ∀ k, (∀ y0 y1 y2 y3, LeO (scuttlebuttlaw02_PackTexts.j0 k y0 y1 y2 y3) (scuttlebuttlaw02_PackTexts.j0 (k + 1) y0 y1 y2 y3))
  | 0 => fun _ _ _ _ r h => by simp [scuttlebuttlaw02_PackTexts.j0] at h
  | k + 1 => by
    have ih0 := scuttlebuttlaw02_PackTexts.mono_l k
    · intro y0 y1 y2 y3
      unfold scuttlebuttlaw02_PackTexts.j0
      repeat' first
      | (with_reducible exact ih0 _ _ _ _)
      | (with_reducible exact pack_Reader_Text.mono _ _ _)
      | (with_reducible exact scuttlebuttlaw02_examples.mono _)
      | (with_reducible exact LeO.refl _)
      | (with_reducible exact LeO.none _)
      | (with_reducible refine LeO.ite ?_ ?_)
      | (with_reducible refine LeO.bind ?_ (fun _ => ?_))
      | exact ih0 _ _ _ _
      | exact pack_Reader_Text.mono _ _ _
      | exact scuttlebuttlaw02_examples.mono _
      | exact LeO.none _
      | refine LeO.ite ?_ ?_
      | refine LeO.bind ?_ (fun _ => ?_)
theorem scuttlebuttlaw02_PackTexts.mono : ∀ a0 a1 a2 k, LeO (scuttlebuttlaw02_PackTexts.f k a0 a1 a2) (scuttlebuttlaw02_PackTexts.f (k + 1) a0 a1 a2) := by
  intro a0 a1 a2 k
  have ih0 := scuttlebuttlaw02_PackTexts.mono_l k
  unfold scuttlebuttlaw02_PackTexts.f
  repeat' first
      | (with_reducible exact ih0 _ _ _ _)
      | (with_reducible exact pack_Reader_Text.mono _ _ _)
      | (with_reducible exact scuttlebuttlaw02_examples.mono _)
      | (with_reducible exact LeO.refl _)
      | (with_reducible exact LeO.none _)
      | (with_reducible refine LeO.ite ?_ ?_)
      | (with_reducible refine LeO.bind ?_ (fun _ => ?_))
      | exact ih0 _ _ _ _
      | exact pack_Reader_Text.mono _ _ _
      | exact scuttlebuttlaw02_examples.mono _
      | exact LeO.none _
      | refine LeO.ite ?_ ?_
      | refine LeO.bind ?_ (fun _ => ?_)
set_option maxHeartbeats 8000000 in
set_option maxRecDepth 100000 in
theorem scuttlebuttlaw02_PackTexts.calls (k : Nat) (a0 : Int) (a1 : Int) (a2 : Int) (r : Bool) (w : World) (h : scuttlebuttlaw02_PackTexts.f k a0 a1 a2 = some r) :
    Calls Try.prog 5 #[.int .u16 a0, .int .u64 a1, .int .u8 a2] w fun e w' => e = .returned (.bool r) ∧ Below w.heap.size w w' := by
  have hu23 := Try.underlying23
  have HB := Aside0.mk (Below.refl w.heap.size w)
  have H : ((scuttlebuttlaw02_examples.f k).bind fun t145 => (if t145 = true then (if 0 ≤ (wrap64 (Int.tmod a0 600)) then (if (wrap64 (Int.tmod a0 600) : Int).toNat ≤ 281474976710656 then ((some (List.replicate (wrap64 (Int.tmod a0 600) : Int).toNat 0 : List Int)).bind fun y146 => ((pack_Text.f (strOfNums y146)).bind fun bt149 => ((pack_Number.f a1 (wrap64 (1 + (wrap64 (Int.tmod a2 8))))).bind fun t151 => ((pack_Number.f a1 8).bind fun t152 => (if (t152.size : Int) = 8 then (if (t151.size : Int) = (wrap64 (1 + (wrap64 (Int.tmod a2 8)))) then (if 0 ≤ (wrap64 (8 - (wrap64 (1 + (wrap64 (Int.tmod a2 8)))))) then (if (wrap64 (8 - (wrap64 (1 + (wrap64 (Int.tmod a2 8)))))) ≤ (t152.size : Int) then (scuttlebuttlaw02_PackTexts.j0 k (strOfNums y146) bt149.1 bt149.2 ((t152.extract ((wrap64 (8 - (wrap64 (1 + (wrap64 (Int.tmod a2 8)))))) : Int).toNat t152.size).toList != t151.toList)) else (none)) else (none)) else (scuttlebuttlaw02_PackTexts.j0 k (strOfNums y146) bt149.1 bt149.2 true)) else (scuttlebuttlaw02_PackTexts.j0 k (strOfNums y146) bt149.1 bt149.2 true)))))) else (none)) else (none)) else (none))) = some r := h
  clear h
  replace H := Option.bind_eq_some_iff.mp H
  obtain ⟨t145, A40, H⟩ := H
  replace H : (if t145 = true then (if 0 ≤ (wrap64 (Int.tmod a0 600)) then (if (wrap64 (Int.tmod a0 600) : Int).toNat ≤ 281474976710656 then ((some (List.replicate (wrap64 (Int.tmod a0 600) : Int).toNat 0 : List Int)).bind fun y146 => ((pack_Text.f (strOfNums y146)).bind fun bt149 => ((pack_Number.f a1 (wrap64 (1 + (wrap64 (Int.tmod a2 8))))).bind fun t151 => ((pack_Number.f a1 8).bind fun t152 => (if (t152.size : Int) = 8 then (if (t151.size : Int) = (wrap64 (1 + (wrap64 (Int.tmod a2 8)))) then (if 0 ≤ (wrap64 (8 - (wrap64 (1 + (wrap64 (Int.tmod a2 8)))))) then (if (wrap64 (8 - (wrap64 (1 + (wrap64 (Int.tmod a2 8)))))) ≤ (t152.size : Int) then (scuttlebuttlaw02_PackTexts.j0 k (strOfNums y146) bt149.1 bt149.2 ((t152.extract ((wrap64 (8 - (wrap64 (1 + (wrap64 (Int.tmod a2 8)))))) : Int).toNat t152.size).toList != t151.toList)) else (none)) else (none)) else (scuttlebuttlaw02_PackTexts.j0 k (strOfNums y146) bt149.1 bt149.2 true)) else (scuttlebuttlaw02_PackTexts.j0 k (strOfNums y146) bt149.1 bt149.2 true)))))) else (none)) else (none)) else (none)) = some r := H
  have A4 := Aside0.mk A40
  clear A40
  by_cases c5 : t145 = true
  · (first | subst c5 | clear c5)
    have H1 : (if 0 ≤ (wrap64 (Int.tmod a0 600)) then (if (wrap64 (Int.tmod a0 600) : Int).toNat ≤ 281474976710656 then ((some (List.replicate (wrap64 (Int.tmod a0 600) : Int).toNat 0 : List Int)).bind fun y146 => ((pack_Text.f (strOfNums y146)).bind fun bt149 => ((pack_Number.f a1 (wrap64 (1 + (wrap64 (Int.tmod a2 8))))).bind fun t151 => ((pack_Number.f a1 8).bind fun t152 => (if (t152.size : Int) = 8 then (if (t151.size : Int) = (wrap64 (1 + (wrap64 (Int.tmod a2 8)))) then (if 0 ≤ (wrap64 (8 - (wrap64 (1 + (wrap64 (Int.tmod a2 8)))))) then (if (wrap64 (8 - (wrap64 (1 + (wrap64 (Int.tmod a2 8)))))) ≤ (t152.size : Int) then (scuttlebuttlaw02_PackTexts.j0 k (strOfNums y146) bt149.1 bt149.2 ((t152.extract ((wrap64 (8 - (wrap64 (1 + (wrap64 (Int.tmod a2 8)))))) : Int).toNat t152.size).toList != t151.toList)) else (none)) else (none)) else (scuttlebuttlaw02_PackTexts.j0 k (strOfNums y146) bt149.1 bt149.2 true)) else (scuttlebuttlaw02_PackTexts.j0 k (strOfNums y146) bt149.1 bt149.2 true)))))) else (none)) else (none)) = some r := by first | (rw [if_pos rfl] at H; exact H) | (rw [if_pos trivial] at H; exact H)
    clear H
    have H := H1
    clear H1
    obtain ⟨ji6, hji6⟩ : ∃ j_ : Int, (wrap64 (Int.tmod a0 600)) = j_ := ⟨_, rfl⟩
    replace H : (if 0 ≤ (ji6) then (if (ji6 : Int).toNat ≤ 281474976710656 then ((some (List.replicate (ji6 : Int).toNat 0 : List Int)).bind fun y146 => ((pack_Text.f (strOfNums y146)).bind fun bt149 => ((pack_Number.f a1 (wrap64 (1 + (wrap64 (Int.tmod a2 8))))).bind fun t151 => ((pack_Number.f a1 8).bind fun t152 => (if (t152.size : Int) = 8 then (if (t151.size : Int) = (wrap64 (1 + (wrap64 (Int.tmod a2 8)))) then (if 0 ≤ (wrap64 (8 - (wrap64 (1 + (wrap64 (Int.tmod a2 8)))))) then (if (wrap64 (8 - (wrap64 (1 + (wrap64 (Int.tmod a2 8)))))) ≤ (t152.size : Int) then (scuttlebuttlaw02_PackTexts.j0 k (strOfNums y146) bt149.1 bt149.2 ((t152.extract ((wrap64 (8 - (wrap64 (1 + (wrap64 (Int.tmod a2 8)))))) : Int).toNat t152.size).toList != t151.toList)) else (none)) else (none)) else (scuttlebuttlaw02_PackTexts.j0 k (strOfNums y146) bt149.1 bt149.2 true)) else (scuttlebuttlaw02_PackTexts.j0 k (strOfNums y146) bt149.1 bt149.2 true)))))) else (none)) else (none)) = some r := by first | (rw [hji6] at H; exact H) | (simp only [hji6] at H ⊢; exact H)
    (try rw [hji6] at A4)
    have hji6w : (IntKind.i64.wrap (Int.tmod a0 600)) = ji6 := (i64_w _).trans hji6
    by_cases c7 : 0 ≤ (ji6)
    · rw [if_pos c7] at H
      have c7b0 := eq_true c7
      have c7b1 : decide (0 ≤ (ji6)) = true := decide_eq_true c7
      clear c7
      by_cases c8 : (ji6 : Int).toNat ≤ 281474976710656
      · rw [if_pos c8] at H
        have c8b0 := eq_true c8
        have c8b1 : decide ((ji6 : Int).toNat ≤ 281474976710656) = true := decide_eq_true c8
        clear c8
        obtain ⟨y146, hy146⟩ : ∃ y_ : List Int, y_ = (List.replicate (ji6 : Int).toNat 0) := ⟨_, rfl⟩
        replace H : ((pack_Text.f (strOfNums y146)).bind fun bt149 => ((pack_Number.f a1 (wrap64 (1 + (wrap64 (Int.tmod a2 8))))).bind fun t151 => ((pack_Number.f a1 8).bind fun t152 => (if (t152.size : Int) = 8 then (if (t151.size : Int) = (wrap64 (1 + (wrap64 (Int.tmod a2 8)))) then (if 0 ≤ (wrap64 (8 - (wrap64 (1 + (wrap64 (Int.tmod a2 8)))))) then (if (wrap64 (8 - (wrap64 (1 + (wrap64 (Int.tmod a2 8)))))) ≤ (t152.size : Int) then (scuttlebuttlaw02_PackTexts.j0 k (strOfNums y146) bt149.1 bt149.2 ((t152.extract ((wrap64 (8 - (wrap64 (1 + (wrap64 (Int.tmod a2 8)))))) : Int).toNat t152.size).toList != t151.toList)) else (none)) else (none)) else (scuttlebuttlaw02_PackTexts.j0 k (strOfNums y146) bt149.1 bt149.2 true)) else (scuttlebuttlaw02_PackTexts.j0 k (strOfNums y146) bt149.1 bt149.2 true))))) = some r := by first | (rw [hy146]; with_reducible exact H) | (have H2_ := (Option.bind_some _ _).symm.trans H; rw [hy146]; with_reducible exact H2_) | (have H2_ := (Option.bind_some _ _).symm.trans H; with_reducible exact H2_) | with_reducible exact H | (rw [hy146]; exact H) | exact H
        have Ny146 := Aside0.mk hy146
        clear hy146
        replace H := Option.bind_eq_some_iff.mp H
        obtain ⟨⟨t149, t150⟩, A90, H⟩ := H
        replace H : ((pack_Number.f a1 (wrap64 (1 + (wrap64 (Int.tmod a2 8))))).bind fun t151 => ((pack_Number.f a1 8).bind fun t152 => (if (t152.size : Int) = 8 then (if (t151.size : Int) = (wrap64 (1 + (wrap64 (Int.tmod a2 8)))) then (if 0 ≤ (wrap64 (8 - (wrap64 (1 + (wrap64 (Int.tmod a2 8)))))) then (if (wrap64 (8 - (wrap64 (1 + (wrap64 (Int.tmod a2 8)))))) ≤ (t152.size : Int) then (scuttlebuttlaw02_PackTexts.j0 k (strOfNums y146) t149 t150 ((t152.extract ((wrap64 (8 - (wrap64 (1 + (wrap64 (Int.tmod a2 8)))))) : Int).toNat t152.size).toList != t151.toList)) else (none)) else (none)) else (scuttlebuttlaw02_PackTexts.j0 k (strOfNums y146) t149 t150 true)) else (scuttlebuttlaw02_PackTexts.j0 k (strOfNums y146) t149 t150 true)))) = some r := H
        have A9 := Aside0.mk A90
        clear A90
        replace H := Option.bind_eq_some_iff.mp H
        obtain ⟨t151, A100, H⟩ := H
        replace H : ((pack_Number.f a1 8).bind fun t152 => (if (t152.size : Int) = 8 then (if (t151.size : Int) = (wrap64 (1 + (wrap64 (Int.tmod a2 8)))) then (if 0 ≤ (wrap64 (8 - (wrap64 (1 + (wrap64 (Int.tmod a2 8)))))) then (if (wrap64 (8 - (wrap64 (1 + (wrap64 (Int.tmod a2 8)))))) ≤ (t152.size : Int) then (scuttlebuttlaw02_PackTexts.j0 k (strOfNums y146) t149 t150 ((t152.extract ((wrap64 (8 - (wrap64 (1 + (wrap64 (Int.tmod a2 8)))))) : Int).toNat t152.size).toList != t151.toList)) else (none)) else (none)) else (scuttlebuttlaw02_PackTexts.j0 k (strOfNums y146) t149 t150 true)) else (scuttlebuttlaw02_PackTexts.j0 k (strOfNums y146) t149 t150 true))) = some r := H
        have A10 := Aside0.mk A100
        clear A100
        replace H := Option.bind_eq_some_iff.mp H
        obtain ⟨t152, A110, H⟩ := H
        replace H : (if (t152.size : Int) = 8 then (if (t151.size : Int) = (wrap64 (1 + (wrap64 (Int.tmod a2 8)))) then (if 0 ≤ (wrap64 (8 - (wrap64 (1 + (wrap64 (Int.tmod a2 8)))))) then (if (wrap64 (8 - (wrap64 (1 + (wrap64 (Int.tmod a2 8)))))) ≤ (t152.size : Int) then (scuttlebuttlaw02_PackTexts.j0 k (strOfNums y146) t149 t150 ((t152.extract ((wrap64 (8 - (wrap64 (1 + (wrap64 (Int.tmod a2 8)))))) : Int).toNat t152.size).toList != t151.toList)) else (none)) else (none)) else (scuttlebuttlaw02_PackTexts.j0 k (strOfNums y146) t149 t150 true)) else (scuttlebuttlaw02_PackTexts.j0 k (strOfNums y146) t149 t150 true)) = some r := H
        have A11 := Aside0.mk A110
        clear A110
        have HC12 := Aside0.mk H
        clear H
        go_enter Try.func5, Try.ntmps5
        go_upto_region 9 with (first | ((with_reducible refine gate_callee (f := 8) rfl ?_); refine goesL_ (some 16) rfl rfl Try.func8 (by kernel_rfl) rfl #[] rfl (by (try simp only [List.map_toArray, List.map_cons, List.map_nil]); first | done | rfl | (simp only [List.length_drop, List.length_take]; rfl)) ?_; (with_reducible refine (scuttlebuttlaw02_examples.calls k  true _ A4.out).mono ?_); rintro e w13 ⟨rfl, hb⟩; refine ⟨_, rfl, ?_⟩; have n0_ := Aside0.mk (below_step (by repeat (first | (with_reducible first | exact HB.out | apply below_alloc | apply pw_below_drewN | apply below_drew1) | exact HB.out)) hb); clear HB; have HB := n0_; clear n0_; (try clear hb); (try clear hb2); (try clear hk); (try clear hi)) | ((with_reducible refine gate_dst (N := 22) rfl ?_); (try (refine gate_guard (by rfl) ?_; dsimp only)); refine Kd.R_make (Kd.int .u8) _ 5 rfl (N := 22) rfl 40 _ _ rfl ji6 rfl rfl Try.underlying40 (.int .u8 0) 1 info5 rfl (by decide) (by omega) 0 (ok := fun _ => True) (okp := fun _ => True) rfl (fun _ hk => hk) trivial (of_decide_eq_true (by first | (with_reducible assumption) | assumption)) (Nat.le_trans (Nat.mul_le_mul_right _ (of_decide_eq_true (by first | (with_reducible assumption) | assumption) : ji6.toNat ≤ 281474976710656)) (by omega)) (Below.refl _ _) (Nat.le_refl _) ?_; intro v147 w14 ho15 hb hg_ hnew_; clear hg_ hnew_; (first | rw [← Ny146.out] at ho15 | (simp only [Int.reduceToNat] at ho15; rw [← Ny146.out] at ho15)); have n0_ := Aside0.mk (Kd.R_lower ho15 (below_size (by repeat (first | (with_reducible first | exact HB.out | apply below_alloc | apply pw_below_drewN | apply below_drew1) | exact HB.out)))); have n1_ := Aside0.mk (below_step (by repeat (first | (with_reducible first | exact HB.out | apply below_alloc | apply pw_below_drewN | apply below_drew1) | exact HB.out)) hb); clear HB; have HO148 := n0_; have HB := n1_; clear n0_ n1_; clear hb ho15; have hcv16 := own_string (P := Try.prog) Try.underlying40 Try.underlying5 Try.underlying9 (Kd.own_of_R HO148.out)) | ((with_reducible refine gate_callee (f := 16) rfl ?_); refine goesL_ (some 26) rfl rfl Try.func16 (by kernel_rfl) rfl #[.string (strOfNums y146)] rfl (by (try simp only [List.map_toArray, List.map_cons, List.map_nil]); first | done | rfl | (simp only [List.length_drop, List.length_take]; rfl)) ?_; (with_reducible refine (pack_Text.calls (strOfNums y146) t149 t150 _ A9.out).mono ?_); rintro e w17 ⟨rfl, hb⟩; refine ⟨_, rfl, ?_⟩; have n0_ := Aside0.mk (Kd.R_below (by (with_reducible repeat (first | apply Kd.R_alloc | apply Kd.R_drewN | apply Kd.R_drew)); exact HO148.out) hb); have n1_ := Aside0.mk (below_step (by repeat (first | (with_reducible first | exact HB.out | apply below_alloc | apply pw_below_drewN | apply below_drew1) | exact HB.out)) hb); clear HO148; clear HB; have HO148 := n0_; have HB := n1_; clear n0_ n1_; (try clear hb); (try clear hb2); (try clear hk); (try clear hi)) | ((with_reducible refine gate_callee (f := 18) rfl ?_); refine goesL_ (some 35) rfl rfl Try.func18 (by kernel_rfl) rfl #[.int .u64 a1, .int .i64 (wrap64 (1 + (wrap64 (Int.tmod a2 8))))] rfl (by (try simp only [List.map_toArray, List.map_cons, List.map_nil]); first | done | rfl | (simp only [List.length_drop, List.length_take]; rfl)) ?_; (with_reducible refine (pack_Number.calls a1 (wrap64 (1 + (wrap64 (Int.tmod a2 8)))) t151 _ A10.out).mono ?_); rintro e w18 ⟨rfl, hb⟩; refine ⟨_, rfl, ?_⟩; have n0_ := Aside0.mk (Kd.R_below (by (with_reducible repeat (first | apply Kd.R_alloc | apply Kd.R_drewN | apply Kd.R_drew)); exact HO148.out) hb); have n1_ := Aside0.mk (below_step (by repeat (first | (with_reducible first | exact HB.out | apply below_alloc | apply pw_below_drewN | apply below_drew1) | exact HB.out)) hb); clear HO148; clear HB; have HO148 := n0_; have HB := n1_; clear n0_ n1_; (try clear hb); (try clear hb2); (try clear hk); (try clear hi)) | ((with_reducible refine gate_callee (f := 18) rfl ?_); refine goesL_ (some 37) rfl rfl Try.func18 (by kernel_rfl) rfl #[.int .u64 a1, .int .i64 8] rfl (by (try simp only [List.map_toArray, List.map_cons, List.map_nil]); first | done | rfl | (simp only [List.length_drop, List.length_take]; rfl)) ?_; (with_reducible refine (pack_Number.calls a1 8 t152 _ A11.out).mono ?_); rintro e w19 ⟨rfl, hb⟩; refine ⟨_, rfl, ?_⟩; have n0_ := Aside0.mk (Kd.R_below (by (with_reducible repeat (first | apply Kd.R_alloc | apply Kd.R_drewN | apply Kd.R_drew)); exact HO148.out) hb); have n1_ := Aside0.mk (below_step (by repeat (first | (with_reducible first | exact HB.out | apply below_alloc | apply pw_below_drewN | apply below_drew1) | exact HB.out)) hb); clear HO148; clear HB; have HO148 := n0_; have HB := n1_; clear n0_ n1_; (try clear hb); (try clear hb2); (try clear hk); (try clear hi)))
        (try simp only [Act.put, List.setIfInBounds_toArray, List.set_cons_zero, List.set_cons_succ])
        go_cut [54] (fun v54 wc => ∃ (kq : Nat) (x54_11 : Bool), v54 = .bool x54_11 ∧ Aside0 (scuttlebuttlaw02_PackTexts.j0 kq (strOfNums y146) t149 t150 x54_11 = some r) ∧ Aside0 (kq ≤ k) ∧ Aside0 (Below w.heap.size w wc))
        case first =>
          have H := HC12.out
          clear HC12
          by_cases c20 : (t152.size : Int) = 8
          · rw [if_pos c20] at H
            have c20b0 : ((t152.size : Int) == 8) = true := beq_iff_eq.mpr c20
            have c20b1 : ((t152.size : Int) != 8) = false := bne_eq_false_iff_eq.mpr c20
            clear c20
            (first | rw [c20b0] | (simp only [i64_w, i32_w]; rw [c20b0]) | skip)
            by_cases c21 : (t151.size : Int) = (wrap64 (1 + (wrap64 (Int.tmod a2 8))))
            · rw [if_pos c21] at H
              have c21b0 : ((t151.size : Int) == (wrap64 (1 + (wrap64 (Int.tmod a2 8))))) = true := beq_iff_eq.mpr c21
              have c21b1 : ((t151.size : Int) != (wrap64 (1 + (wrap64 (Int.tmod a2 8))))) = false := bne_eq_false_iff_eq.mpr c21
              clear c21
              obtain ⟨ji22, hji22⟩ : ∃ j_ : Int, (wrap64 (8 - (wrap64 (1 + (wrap64 (Int.tmod a2 8)))))) = j_ := ⟨_, rfl⟩
              replace H : (if 0 ≤ (ji22) then (if (ji22) ≤ (t152.size : Int) then (scuttlebuttlaw02_PackTexts.j0 k (strOfNums y146) t149 t150 ((t152.extract ((ji22) : Int).toNat t152.size).toList != t151.toList)) else (none)) else (none)) = some r := by first | (rw [hji22] at H; exact H) | (simp only [hji22] at H ⊢; exact H)
              have hji22w : (IntKind.i64.wrap (8 - (wrap64 (1 + (wrap64 (Int.tmod a2 8)))))) = ji22 := (i64_w _).trans hji22
              by_cases c23 : 0 ≤ (ji22)
              · rw [if_pos c23] at H
                have c23b0 := eq_true c23
                have c23b1 : decide (0 ≤ (ji22)) = true := decide_eq_true c23
                clear c23
                by_cases c24 : (ji22) ≤ (t152.size : Int)
                · rw [if_pos c24] at H
                  have c24b0 := eq_true c24
                  have c24b1 : decide ((ji22) ≤ (t152.size : Int)) = true := decide_eq_true c24
                  clear c24
                  have H' := Aside0.mk H
                  clear H
                  go_wp2
                  go_meet
                  case rel => exact ⟨_, (((t152.extract ((ji22) : Int).toNat t152.size).toList != t151.toList)), (by first | rfl | (simp; done) | (simp only [← hji22] <;> (first | rfl | simp)) | (simp [*]; done)), H', ⟨by first | omega | exact Nat.le_refl _⟩, ⟨by repeat (first | (with_reducible first | exact HB.out | apply below_alloc | apply pw_below_drewN | apply below_drew1) | exact HB.out)⟩⟩
                · (first | rw [if_neg c24] at H | exact absurd rfl c24)
                  exact absurd H (by simp)
              · (first | rw [if_neg c23] at H | exact absurd rfl c23)
                exact absurd H (by simp)
            · (first | rw [if_neg c21] at H | exact absurd rfl c21)
              have c21b0 : ((t151.size : Int) == (wrap64 (1 + (wrap64 (Int.tmod a2 8))))) = false := beq_eq_false_iff_ne.mpr c21
              have c21b1 : ((t151.size : Int) != (wrap64 (1 + (wrap64 (Int.tmod a2 8))))) = true := bne_iff_ne.mpr c21
              have H' := Aside0.mk H
              clear H
              go_wp2
              go_meet
              case rel => exact ⟨_, (true), (by first | rfl | (simp; done) | (simp [*]; done)), H', ⟨by first | omega | exact Nat.le_refl _⟩, ⟨by repeat (first | (with_reducible first | exact HB.out | apply below_alloc | apply pw_below_drewN | apply below_drew1) | exact HB.out)⟩⟩
          · (first | rw [if_neg c20] at H | exact absurd rfl c20)
            have c20b0 : ((t152.size : Int) == 8) = false := beq_eq_false_iff_ne.mpr c20
            have c20b1 : ((t152.size : Int) != 8) = true := bne_iff_ne.mpr c20
            (first | rw [c20b0] | (simp only [i64_w, i32_w]; rw [c20b0]) | skip)
            have H' := Aside0.mk H
            clear H
            go_wp2
            go_meet
            case rel => exact ⟨_, (true), (by first | rfl | (simp; done) | (simp [*]; done)), H', ⟨by first | omega | exact Nat.le_refl _⟩, ⟨by repeat (first | (with_reducible first | exact HB.out | apply below_alloc | apply pw_below_drewN | apply below_drew1) | exact HB.out)⟩⟩
        case rest =>
          clear HC12
          try clear c1
          try clear hcv1
          try clear c2
          try clear p2
          try clear c5
          try clear p6
          try clear c7
          try clear c7b0
          try clear c7b1
          try clear c8
          try clear c8b0
          try clear c8b1
          try clear c16
          try clear hcv16
          try clear c18
          try clear c20
          try clear c20b0
          try clear c20b1
          try clear c21
          try clear c21b0
          try clear c21b1
          try clear c23
          try clear c23b0
          try clear c23b1
          try clear c24
          try clear c24b0
          try clear c24b1
          obtain ⟨kq, x54_11, rfl, HA, HJ11, HB⟩ := hcut
          cases kq with
          | zero => exact absurd HA.out (by simp [scuttlebuttlaw02_PackTexts.j0])
          | succ kj11 =>
            have H := HA.out
            clear HA
            simp only [scuttlebuttlaw02_PackTexts.j0] at H
            by_cases c25 : x54_11 = true
            · (first | subst c25 | clear c25)
              have H1 : (none) = some r := by first | (rw [if_pos rfl] at H; exact H) | (rw [if_pos trivial] at H; exact H)
              clear H
              have H := H1
              clear H1
              exact absurd H (by simp)
            · replace c25 := Bool.eq_false_iff.mpr c25
              (first | subst c25 | clear c25)
              have H1 : (if t150 = true then ((pack_Read.f t149).bind fun bt153 => ((pack_Reader_Text.f kj11 bt153.1 bt153.2).bind fun bt155 => (if ((strOfNums y146).size : Int) ≤ 255 then (if (t149.size : Int) = (wrap64 (((strOfNums y146).size : Int) + 1)) then (if bt155.1.toList = (strOfNums y146).toList then ((pack_Reader_Done.f bt155.2.1 bt155.2.2).bind fun t159 => (some t159)) else (none)) else (none)) else (none)))) else (if ((strOfNums y146).size : Int) > 255 then (some (t149.toList == ([] : List UInt8))) else (none))) = some r := by rw [if_neg (show ¬ (false = true) by decide)] at H; exact H
              clear H
              have H := H1
              clear H1
              by_cases c26 : t150 = true
              · (first | subst c26 | clear c26)
                have H1 : ((pack_Read.f t149).bind fun bt153 => ((pack_Reader_Text.f kj11 bt153.1 bt153.2).bind fun bt155 => (if ((strOfNums y146).size : Int) ≤ 255 then (if (t149.size : Int) = (wrap64 (((strOfNums y146).size : Int) + 1)) then (if bt155.1.toList = (strOfNums y146).toList then ((pack_Reader_Done.f bt155.2.1 bt155.2.2).bind fun t159 => (some t159)) else (none)) else (none)) else (none)))) = some r := by first | (rw [if_pos rfl] at H; exact H) | (rw [if_pos trivial] at H; exact H)
                clear H
                have H := H1
                clear H1
                replace H := Option.bind_eq_some_iff.mp H
                obtain ⟨⟨t153, t154⟩, A270, H⟩ := H
                replace H : ((pack_Reader_Text.f kj11 t153 t154).bind fun bt155 => (if ((strOfNums y146).size : Int) ≤ 255 then (if (t149.size : Int) = (wrap64 (((strOfNums y146).size : Int) + 1)) then (if bt155.1.toList = (strOfNums y146).toList then ((pack_Reader_Done.f bt155.2.1 bt155.2.2).bind fun t159 => (some t159)) else (none)) else (none)) else (none))) = some r := H
                have A27 := Aside0.mk A270
                clear A270
                replace H := Option.bind_eq_some_iff.mp H
                obtain ⟨⟨t155, t156, t157⟩, A280, H⟩ := H
                replace H : (if ((strOfNums y146).size : Int) ≤ 255 then (if (t149.size : Int) = (wrap64 (((strOfNums y146).size : Int) + 1)) then (if t155.toList = (strOfNums y146).toList then ((pack_Reader_Done.f t156 t157).bind fun t159 => (some t159)) else (none)) else (none)) else (none)) = some r := H
                have A28 := Aside0.mk A280
                clear A280
                by_cases c29 : ((strOfNums y146).size : Int) ≤ 255
                · rw [if_pos c29] at H
                  have c29b0 : decide (((strOfNums y146).size : Int) ≤ 255) = true := decide_eq_true c29
                  have c29b1 : decide ((strOfNums y146).size ≤ 255) = true := decide_eq_true (by omega)
                  clear c29
                  by_cases c30 : (t149.size : Int) = (wrap64 (((strOfNums y146).size : Int) + 1))
                  · rw [if_pos c30] at H
                    have c30b0 : ((t149.size : Int) == (wrap64 (((strOfNums y146).size : Int) + 1))) = true := beq_iff_eq.mpr c30
                    have c30b1 : ((t149.size : Int) != (wrap64 (((strOfNums y146).size : Int) + 1))) = false := bne_eq_false_iff_eq.mpr c30
                    clear c30
                    by_cases c31 : t155.toList = (strOfNums y146).toList
                    · rw [if_pos c31] at H
                      have c31b0 : (t155.toList == (strOfNums y146).toList) = true := beq_iff_eq.mpr c31
                      have c31b1 : (t155.toList != (strOfNums y146).toList) = false := bne_eq_false_iff_eq.mpr c31
                      clear c31
                      replace H := Option.bind_eq_some_iff.mp H
                      obtain ⟨t159, A320, H⟩ := H
                      replace H : (some t159) = some r := H
                      have A32 := Aside0.mk A320
                      clear A320
                      obtain rfl := Option.some.inj H
                      go_wp2_with (first | ((with_reducible refine gate_callee (f := 19) rfl ?_); refine goesL_ (some 69) rfl rfl Try.func19 (by kernel_rfl) rfl #[.string t149] rfl (by (try simp only [List.map_toArray, List.map_cons, List.map_nil]); first | done | rfl | (simp only [List.length_drop, List.length_take]; rfl)) ?_; (with_reducible refine (pack_Read.calls t149 t153 t154 _ A27.out).mono ?_); rintro e w33 ⟨rfl, hb⟩; refine ⟨_, rfl, ?_⟩; have n0_ := Aside0.mk (below_step (by repeat (first | (with_reducible first | exact HB.out | apply below_alloc | apply pw_below_drewN | apply below_drew1) | exact HB.out)) hb); clear HB; have HB := n0_; clear n0_; (try clear hb); (try clear hb2); (try clear hk); (try clear hi)) | ((with_reducible refine gate_callee (f := 9) rfl ?_); refine goesL_ (some 70) rfl rfl Try.func9 (by kernel_rfl) rfl #[.agg #[.string t153, .bool t154]] rfl (by (try simp only [List.map_toArray, List.map_cons, List.map_nil]); first | done | rfl | (simp only [List.length_drop, List.length_take]; rfl)) ?_; (with_reducible refine (pack_Reader_Text.calls kj11 t153 t154 t155 t156 t157 _ A28.out).mono ?_); rintro e w34 ⟨rfl, hb⟩; refine ⟨_, rfl, ?_⟩; have n0_ := Aside0.mk (below_step (by repeat (first | (with_reducible first | exact HB.out | apply below_alloc | apply pw_below_drewN | apply below_drew1) | exact HB.out)) hb); clear HB; have HB := n0_; clear n0_; (try clear hb); (try clear hb2); (try clear hk); (try clear hi)) | ((with_reducible refine gate_dst (N := 15) rfl ?_); (try (refine gate_guard (by rfl) ?_; dsimp only)); refine box_event ?hg (N := 15) ?hd (cs := #[.string (⟨#[]⟩ : ByteArray), .bool false]) (t := 23) ?hr ?_; (case hd => rfl); (case hg => rfl); (case hr => first | (go_simp; done) | (go_simp; rfl)); intro gb158 hg w35 hbox hb; have n0_ := Aside0.mk (below_step (by repeat (first | (with_reducible first | exact HB.out | apply below_alloc | apply pw_below_drewN | apply below_drew1) | exact HB.out)) hb); have n1_ := Aside0.mk (hbox); have n2_ := Aside0.mk ((by rw [hg]; exact (below_size (by repeat (first | (with_reducible first | exact HB.out | apply below_alloc | apply pw_below_drewN | apply below_drew1) | exact HB.out))) : w.heap.size ≤ gb158)); have n3_ := Aside0.mk ((by rw [hg]; exact (below_size (by repeat (first | (with_reducible first | exact HB.out | apply below_alloc | apply pw_below_drewN | apply below_drew1) | exact HB.out))) : w.heap.size ≤ gb158)); clear HB; have HB := n0_; have BK158 := n1_; have GW158 := n2_; have GE158 := n3_; clear n0_ n1_ n2_ n3_; clear hb hbox hg; have hcz36_0 : w35.cell? ⟨gb158, 0, none⟩ = some (.string (⟨#[]⟩ : ByteArray)) := (blk_cell BK158.out 0).trans rfl; have hcz36_1 : w35.cell? ⟨gb158, 1, none⟩ = some (.bool false) := (blk_cell BK158.out 1).trans rfl; have hfz36_0 := blk_frozen BK158.out 0; have hfz36_1 := blk_frozen BK158.out 1) | (go_at_call 14; (with_reducible refine (pack_Reader_Done.calls t156 t157 t159 _ A32.out).mono ?_); rintro e w37 ⟨rfl, hb⟩; have n0_ := Aside0.mk (blk_below (g := gb158) (o := .cells #[.string t156, .bool t157] 23 (0, 0)) (by (with_reducible repeat (first | refine blk_drewN ?_ _ | refine blk_drew ?_ | refine blk_alloc ?_ _)); refine blk_put (cs := #[.string t156, .bool false]) ?_ 1 _ rfl; (with_reducible repeat (first | refine blk_drewN ?_ _ | refine blk_drew ?_ | refine blk_alloc ?_ _)); refine blk_put (cs := #[.string (⟨#[]⟩ : ByteArray), .bool false]) ?_ 0 _ rfl; (with_reducible repeat (first | refine blk_drewN ?_ _ | refine blk_drew ?_ | refine blk_alloc ?_ _)); exact BK158.out) hb); have n1_ := Aside0.mk (below_step (by repeat (first | (with_reducible first | exact HB.out | apply below_alloc | apply pw_below_drewN | apply below_drew1 | refine below_set ?_ GE158.out) | exact HB.out)) hb); clear BK158; clear HB; have BK158 := n0_; have HB := n1_; clear n0_ n1_; (try clear hb); (try clear hb2); (try clear hk); (try clear hi)))
                      go_ret
                      exact ⟨by first | rfl | (simp [errW_none, errW_some] <;> rfl) | (simp only [← hji6]; first | rfl | (simp [errW_none, errW_some] <;> rfl)) | (simp [*, errW_none, errW_some] <;> rfl), by repeat (first | (with_reducible first | exact HB.out | apply below_alloc | apply pw_below_drewN | apply below_drew1 | refine below_set ?_ GE158.out) | exact HB.out)⟩
                    · (first | rw [if_neg c31] at H | exact absurd rfl c31)
                      exact absurd H (by simp)
                  · (first | rw [if_neg c30] at H | exact absurd rfl c30)
                    exact absurd H (by simp)
                · (first | rw [if_neg c29] at H | exact absurd rfl c29)
                  exact absurd H (by simp)
              · replace c26 := Bool.eq_false_iff.mpr c26
                (first | subst c26 | clear c26)
                have H1 : (if ((strOfNums y146).size : Int) > 255 then (some (t149.toList == ([] : List UInt8))) else (none)) = some r := by rw [if_neg (show ¬ (false = true) by decide)] at H; exact H
                clear H
                have H := H1
                clear H1
                by_cases c38 : ((strOfNums y146).size : Int) > 255
                · rw [if_pos c38] at H
                  have c38b0 : decide (255 < ((strOfNums y146).size : Int)) = true := decide_eq_true c38
                  have c38b1 : decide (255 < (strOfNums y146).size) = true := decide_eq_true (by omega)
                  clear c38
                  obtain rfl := Option.some.inj H
                  go_wp2
                  go_ret
                  exact ⟨by first | rfl | (simp [errW_none, errW_some] <;> rfl) | (simp only [← hji6]; first | rfl | (simp [errW_none, errW_some] <;> rfl)) | (simp [*, errW_none, errW_some] <;> rfl), by repeat (first | (with_reducible first | exact HB.out | apply below_alloc | apply pw_below_drewN | apply below_drew1) | exact HB.out)⟩
                · (first | rw [if_neg c38] at H | exact absurd rfl c38)
                  exact absurd H (by simp)
      · (first | rw [if_neg c8] at H | exact absurd rfl c8)
        exact absurd H (by simp)
    · (first | rw [if_neg c7] at H | exact absurd rfl c7)
      exact absurd H (by simp)
  · replace c5 := Bool.eq_false_iff.mpr c5
    (first | subst c5 | clear c5)
    have H1 : (none) = some r := by rw [if_neg (show ¬ (false = true) by decide)] at H; exact H
    clear H
    have H := H1
    clear H1
    exact absurd H (by simp)

/-- THE ONE PURE STATEMENT of scuttlebuttlaw02_PackTexts: yours. -/
def scuttlebuttlaw02_PackTexts.Pure : Prop := ∀ (a0 : Int) (a1 : Int) (a2 : Int), (Lit.int .u16 a0).wf = true → (Lit.int .u64 a1).wf = true → (Lit.int .u8 a2).wf = true → ∃ k, scuttlebuttlaw02_PackTexts.f k a0 a1 a2 = some true
theorem scuttlebuttlaw02_PackTexts.walk (P : scuttlebuttlaw02_PackTexts.Pure) (a0 : Int) (a1 : Int) (a2 : Int) (w : World) (w0 : (Lit.int .u16 a0).wf = true) (w1 : (Lit.int .u64 a1).wf = true) (w2 : (Lit.int .u8 a2).wf = true) :
    Calls Try.prog 5 #[.int .u16 a0, .int .u64 a1, .int .u8 a2] w fun e w' => e = .returned (.bool true) ∧ Below w.heap.size w w' := by
  obtain ⟨k, h⟩ := P a0 a1 a2 w0 w1 w2
  refine (scuttlebuttlaw02_PackTexts.calls k a0 a1 a2 true w h).mono ?_
  rintro e w' ⟨rfl, hd⟩
  exact ⟨rfl, hd⟩

end Go.Proofs.Ytanjoflhpnephaa.PA
