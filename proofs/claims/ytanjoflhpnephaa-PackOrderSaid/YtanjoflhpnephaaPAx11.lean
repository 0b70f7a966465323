/- Written by xprint.py, a program of this session: Go functions that the laws reach, each as a plain Lean function, and the proof that the Go code comes to what it says. No condition but those that each theorem names. -/
import Derived.Test.YtanjoflhpnephaaPAx0
import Derived.Test.YtanjoflhpnephaaPAx6
import Derived.Test.YtanjoflhpnephaaPAx8
import Derived.WalkSpells
import Derived.WalkLawsBesides
import Derived.Test.YtanjoflhpnephaaXAux
namespace Go.Proofs.Ytanjoflhpnephaa.PA
open Go.RowKit Go.Proofs.YtanjoflhpnephaaW.PrintWords Go.Proofs.YtanjoflhpnephaaW.PrintLast Go.Proofs.YtanjoflhpnephaaW.PrintMore
attribute [local go_sem] max2_int min2_int max_two min_two max_three min_three max_four min_four   -- for this text's walks alone
set_option linter.unusedVariables false
set_option linter.unusedSimpArgs false

/-! ### scuttlebuttlaw02_PackOrder: function 7 -/
def scuttlebuttlaw02_PackOrder.f (k : Nat) (a0 : Int) (a1 : Int) (a2 : Int) : Option (Bool) := (scuttlebuttlaw02_examples.f k).bind fun t180 => (if t180 = true then (if (wrap64 (1 + (wrap64 (Int.tmod a2 8)))) < 8 then (if 0 ≤ (wrap64 (8 * (wrap64 (1 + (wrap64 (Int.tmod a2 8)))))) then (if (shl .u64 1 (wrap64 (8 * (wrap64 (1 + (wrap64 (Int.tmod a2 8))))))) = 0 then (none) else ((pack_Number.f (Int.tmod a0 (shl .u64 1 (wrap64 (8 * (wrap64 (1 + (wrap64 (Int.tmod a2 8)))))))) (wrap64 (1 + (wrap64 (Int.tmod a2 8))))).bind fun t181 => ((pack_Number.f (Int.tmod a1 (shl .u64 1 (wrap64 (8 * (wrap64 (1 + (wrap64 (Int.tmod a2 8)))))))) (wrap64 (1 + (wrap64 (Int.tmod a2 8))))).bind fun t182 => (if ((decide ((Int.tmod a0 (shl .u64 1 (wrap64 (8 * (wrap64 (1 + (wrap64 (Int.tmod a2 8)))))))) < (Int.tmod a1 (shl .u64 1 (wrap64 (8 * (wrap64 (1 + (wrap64 (Int.tmod a2 8)))))))))) == (Op.bytesLess t181.toList t182.toList)) = true then (if (((Int.tmod a0 (shl .u64 1 (wrap64 (8 * (wrap64 (1 + (wrap64 (Int.tmod a2 8)))))))) == (Int.tmod a1 (shl .u64 1 (wrap64 (8 * (wrap64 (1 + (wrap64 (Int.tmod a2 8))))))))) == (t181.toList == t182.toList)) = true then (some ((t181.size : Int) == (wrap64 (1 + (wrap64 (Int.tmod a2 8)))))) else (none)) else (none))))) else (none)) else ((pack_Number.f a0 (wrap64 (1 + (wrap64 (Int.tmod a2 8))))).bind fun t183 => ((pack_Number.f a1 (wrap64 (1 + (wrap64 (Int.tmod a2 8))))).bind fun t184 => (if ((decide (a0 < a1)) == (Op.bytesLess t183.toList t184.toList)) = true then (if ((a0 == a1) == (t183.toList == t184.toList)) = true then (some ((t183.size : Int) == (wrap64 (1 + (wrap64 (Int.tmod a2 8)))))) else (none)) else (none))))) else (none))
theorem scuttlebuttlaw02_PackOrder.mono : ∀ a0 a1 a2 k, LeO (scuttlebuttlaw02_PackOrder.f k a0 a1 a2) (scuttlebuttlaw02_PackOrder.f (k + 1) a0 a1 a2) := by
  intro a0 a1 a2 k
  unfold scuttlebuttlaw02_PackOrder.f
  repeat' first
      | (with_reducible exact scuttlebuttlaw02_examples.mono _)
      | (with_reducible exact LeO.refl _)
      | (with_reducible exact LeO.none _)
      | (with_reducible refine LeO.ite ?_ ?_)
      | (with_reducible refine LeO.bind ?_ (fun _ => ?_))
      | exact scuttlebuttlaw02_examples.mono _
      | exact LeO.none _
      | refine LeO.ite ?_ ?_
      | refine LeO.bind ?_ (fun _ => ?_)
set_option maxHeartbeats 8000000 in
set_option maxRecDepth 100000 in
theorem scuttlebuttlaw02_PackOrder.calls (k : Nat) (a0 : Int) (a1 : Int) (a2 : Int) (r : Bool) (w : World) (h : scuttlebuttlaw02_PackOrder.f k a0 a1 a2 = some r) :
    Calls Try.prog 7 #[.int .u64 a0, .int .u64 a1, .int .u8 a2] w fun e w' => e = .returned (.bool r) ∧ Below w.heap.size w w' := by
  have HB := Aside0.mk (Below.refl w.heap.size w)
  have H : ((scuttlebuttlaw02_examples.f k).bind fun t180 => (if t180 = true then (if (wrap64 (1 + (wrap64 (Int.tmod a2 8)))) < 8 then (if 0 ≤ (wrap64 (8 * (wrap64 (1 + (wrap64 (Int.tmod a2 8)))))) then (if (shl .u64 1 (wrap64 (8 * (wrap64 (1 + (wrap64 (Int.tmod a2 8))))))) = 0 then (none) else ((pack_Number.f (Int.tmod a0 (shl .u64 1 (wrap64 (8 * (wrap64 (1 + (wrap64 (Int.tmod a2 8)))))))) (wrap64 (1 + (wrap64 (Int.tmod a2 8))))).bind fun t181 => ((pack_Number.f (Int.tmod a1 (shl .u64 1 (wrap64 (8 * (wrap64 (1 + (wrap64 (Int.tmod a2 8)))))))) (wrap64 (1 + (wrap64 (Int.tmod a2 8))))).bind fun t182 => (if ((decide ((Int.tmod a0 (shl .u64 1 (wrap64 (8 * (wrap64 (1 + (wrap64 (Int.tmod a2 8)))))))) < (Int.tmod a1 (shl .u64 1 (wrap64 (8 * (wrap64 (1 + (wrap64 (Int.tmod a2 8)))))))))) == (Op.bytesLess t181.toList t182.toList)) = true then (if (((Int.tmod a0 (shl .u64 1 (wrap64 (8 * (wrap64 (1 + (wrap64 (Int.tmod a2 8)))))))) == (Int.tmod a1 (shl .u64 1 (wrap64 (8 * (wrap64 (1 + (wrap64 (Int.tmod a2 8))))))))) == (t181.toList == t182.toList)) = true then (some ((t181.size : Int) == (wrap64 (1 + (wrap64 (Int.tmod a2 8)))))) else (none)) else (none))))) else (none)) else ((pack_Number.f a0 (wrap64 (1 + (wrap64 (Int.tmod a2 8))))).bind fun t183 => ((pack_Number.f a1 (wrap64 (1 + (wrap64 (Int.tmod a2 8))))).bind fun t184 => (if ((decide (a0 < a1)) == (Op.bytesLess t183.toList t184.toList)) = true then (if ((a0 == a1) == (t183.toList == t184.toList)) = true then (some ((t183.size : Int) == (wrap64 (1 + (wrap64 (Int.tmod a2 8)))))) else (none)) else (none))))) else (none))) = some r := h
  clear h
  replace H := Option.bind_eq_some_iff.mp H
  obtain ⟨t180, A40, H⟩ := H
  replace H : (if t180 = true then (if (wrap64 (1 + (wrap64 (Int.tmod a2 8)))) < 8 then (if 0 ≤ (wrap64 (8 * (wrap64 (1 + (wrap64 (Int.tmod a2 8)))))) then (if (shl .u64 1 (wrap64 (8 * (wrap64 (1 + (wrap64 (Int.tmod a2 8))))))) = 0 then (none) else ((pack_Number.f (Int.tmod a0 (shl .u64 1 (wrap64 (8 * (wrap64 (1 + (wrap64 (Int.tmod a2 8)))))))) (wrap64 (1 + (wrap64 (Int.tmod a2 8))))).bind fun t181 => ((pack_Number.f (Int.tmod a1 (shl .u64 1 (wrap64 (8 * (wrap64 (1 + (wrap64 (Int.tmod a2 8)))))))) (wrap64 (1 + (wrap64 (Int.tmod a2 8))))).bind fun t182 => (if ((decide ((Int.tmod a0 (shl .u64 1 (wrap64 (8 * (wrap64 (1 + (wrap64 (Int.tmod a2 8)))))))) < (Int.tmod a1 (shl .u64 1 (wrap64 (8 * (wrap64 (1 + (wrap64 (Int.tmod a2 8)))))))))) == (Op.bytesLess t181.toList t182.toList)) = true then (if (((Int.tmod a0 (shl .u64 1 (wrap64 (8 * (wrap64 (1 + (wrap64 (Int.tmod a2 8)))))))) == (Int.tmod a1 (shl .u64 1 (wrap64 (8 * (wrap64 (1 + (wrap64 (Int.tmod a2 8))))))))) == (t181.toList == t182.toList)) = true then (some ((t181.size : Int) == (wrap64 (1 + (wrap64 (Int.tmod a2 8)))))) else (none)) else (none))))) else (none)) else ((pack_Number.f a0 (wrap64 (1 + (wrap64 (Int.tmod a2 8))))).bind fun t183 => ((pack_Number.f a1 (wrap64 (1 + (wrap64 (Int.tmod a2 8))))).bind fun t184 => (if ((decide (a0 < a1)) == (Op.bytesLess t183.toList t184.toList)) = true then (if ((a0 == a1) == (t183.toList == t184.toList)) = true then (some ((t183.size : Int) == (wrap64 (1 + (wrap64 (Int.tmod a2 8)))))) else (none)) else (none))))) else (none)) = some r := H
  have A4 := Aside0.mk A40
  clear A40
  by_cases c5 : t180 = true
  · (first | subst c5 | clear c5)
    have H1 : (if (wrap64 (1 + (wrap64 (Int.tmod a2 8)))) < 8 then (if 0 ≤ (wrap64 (8 * (wrap64 (1 + (wrap64 (Int.tmod a2 8)))))) then (if (shl .u64 1 (wrap64 (8 * (wrap64 (1 + (wrap64 (Int.tmod a2 8))))))) = 0 then (none) else ((pack_Number.f (Int.tmod a0 (shl .u64 1 (wrap64 (8 * (wrap64 (1 + (wrap64 (Int.tmod a2 8)))))))) (wrap64 (1 + (wrap64 (Int.tmod a2 8))))).bind fun t181 => ((pack_Number.f (Int.tmod a1 (shl .u64 1 (wrap64 (8 * (wrap64 (1 + (wrap64 (Int.tmod a2 8)))))))) (wrap64 (1 + (wrap64 (Int.tmod a2 8))))).bind fun t182 => (if ((decide ((Int.tmod a0 (shl .u64 1 (wrap64 (8 * (wrap64 (1 + (wrap64 (Int.tmod a2 8)))))))) < (Int.tmod a1 (shl .u64 1 (wrap64 (8 * (wrap64 (1 + (wrap64 (Int.tmod a2 8)))))))))) == (Op.bytesLess t181.toList t182.toList)) = true then (if (((Int.tmod a0 (shl .u64 1 (wrap64 (8 * (wrap64 (1 + (wrap64 (Int.tmod a2 8)))))))) == (Int.tmod a1 (shl .u64 1 (wrap64 (8 * (wrap64 (1 + (wrap64 (Int.tmod a2 8))))))))) == (t181.toList == t182.toList)) = true then (some ((t181.size : Int) == (wrap64 (1 + (wrap64 (Int.tmod a2 8)))))) else (none)) else (none))))) else (none)) else ((pack_Number.f a0 (wrap64 (1 + (wrap64 (Int.tmod a2 8))))).bind fun t183 => ((pack_Number.f a1 (wrap64 (1 + (wrap64 (Int.tmod a2 8))))).bind fun t184 => (if ((decide (a0 < a1)) == (Op.bytesLess t183.toList t184.toList)) = true then (if ((a0 == a1) == (t183.toList == t184.toList)) = true then (some ((t183.size : Int) == (wrap64 (1 + (wrap64 (Int.tmod a2 8)))))) else (none)) else (none))))) = some r := by first | (rw [if_pos rfl] at H; exact H) | (rw [if_pos trivial] at H; exact H)
    clear H
    have H := H1
    clear H1
    by_cases c6 : (wrap64 (1 + (wrap64 (Int.tmod a2 8)))) < 8
    · rw [if_pos c6] at H
      have c6b0 : decide ((wrap64 (1 + (wrap64 (Int.tmod a2 8)))) < 8) = true := decide_eq_true c6
      clear c6
      obtain ⟨ji7, hji7⟩ : ∃ j_ : Int, (wrap64 (8 * (wrap64 (1 + (wrap64 (Int.tmod a2 8)))))) = j_ := ⟨_, rfl⟩
      replace H : (if 0 ≤ (ji7) then (if (shl .u64 1 (ji7)) = 0 then (none) else ((pack_Number.f (Int.tmod a0 (shl .u64 1 (ji7))) (wrap64 (1 + (wrap64 (Int.tmod a2 8))))).bind fun t181 => ((pack_Number.f (Int.tmod a1 (shl .u64 1 (ji7))) (wrap64 (1 + (wrap64 (Int.tmod a2 8))))).bind fun t182 => (if ((decide ((Int.tmod a0 (shl .u64 1 (ji7))) < (Int.tmod a1 (shl .u64 1 (ji7))))) == (Op.bytesLess t181.toList t182.toList)) = true then (if (((Int.tmod a0 (shl .u64 1 (ji7))) == (Int.tmod a1 (shl .u64 1 (ji7)))) == (t181.toList == t182.toList)) = true then (some ((t181.size : Int) == (wrap64 (1 + (wrap64 (Int.tmod a2 8)))))) else (none)) else (none))))) else (none)) = some r := by first | (rw [hji7] at H; exact H) | (simp only [hji7] at H ⊢; exact H)
      (try rw [hji7] at A4)
      have hji7w : (IntKind.i64.wrap (8 * (wrap64 (1 + (wrap64 (Int.tmod a2 8)))))) = ji7 := (i64_w _).trans hji7
      by_cases c8 : 0 ≤ (ji7)
      · rw [if_pos c8] at H
        have c8b0 := eq_true c8
        have c8b1 : decide (0 ≤ (ji7)) = true := decide_eq_true c8
        clear c8
        obtain ⟨ji9, hji9⟩ : ∃ j_ : Int, (shl .u64 1 (ji7)) = j_ := ⟨_, rfl⟩
        replace H : (if (ji9) = 0 then (none) else ((pack_Number.f (Int.tmod a0 (ji9)) (wrap64 (1 + (wrap64 (Int.tmod a2 8))))).bind fun t181 => ((pack_Number.f (Int.tmod a1 (ji9)) (wrap64 (1 + (wrap64 (Int.tmod a2 8))))).bind fun t182 => (if ((decide ((Int.tmod a0 (ji9)) < (Int.tmod a1 (ji9)))) == (Op.bytesLess t181.toList t182.toList)) = true then (if (((Int.tmod a0 (ji9)) == (Int.tmod a1 (ji9))) == (t181.toList == t182.toList)) = true then (some ((t181.size : Int) == (wrap64 (1 + (wrap64 (Int.tmod a2 8)))))) else (none)) else (none))))) = some r := by first | (rw [hji9] at H; exact H) | (simp only [hji9] at H ⊢; exact H)
        (try rw [hji9] at A4)
        have hji9_ : (IntKind.u64.wrap (1 * 2 ^ min (ji7).toNat 64)) = ji9 := hji9
        have hji9z : (ji7) ≤ 64 → (IntKind.u64.wrap (1 * 2 ^ (ji7).toNat)) = ji9 := shl_small hji9
        have hji9u : (IntKind.u64.wrap (2 ^ min (ji7).toNat 64)) = ji9 := by have h_ := hji9_; rw [Int.one_mul] at h_; exact h_
        have hji9v : (ji7) ≤ 64 → (IntKind.u64.wrap (2 ^ (ji7).toNat)) = ji9 := fun hle_ => by have h_ := hji9z hle_; rw [Int.one_mul] at h_; exact h_
        by_cases c10 : (ji9) = 0
        · rw [if_pos c10] at H
          exact absurd H (by simp)
        · (first | rw [if_neg c10] at H | exact absurd rfl c10)
          have c10b0 : ((ji9) == 0) = false := beq_eq_false_iff_ne.mpr c10
          have c10b1 : ((ji9) != 0) = true := bne_iff_ne.mpr c10
          have c11b0 := eq_true (of_decide_eq_true (by first | (with_reducible assumption) | assumption) : 0 ≤ (ji7))
          have c12b0 := True.intro
          replace H := Option.bind_eq_some_iff.mp H
          obtain ⟨t181, A130, H⟩ := H
          replace H : ((pack_Number.f (Int.tmod a1 (ji9)) (wrap64 (1 + (wrap64 (Int.tmod a2 8))))).bind fun t182 => (if ((decide ((Int.tmod a0 (ji9)) < (Int.tmod a1 (ji9)))) == (Op.bytesLess t181.toList t182.toList)) = true then (if (((Int.tmod a0 (ji9)) == (Int.tmod a1 (ji9))) == (t181.toList == t182.toList)) = true then (some ((t181.size : Int) == (wrap64 (1 + (wrap64 (Int.tmod a2 8)))))) else (none)) else (none))) = some r := H
          have A13 := Aside0.mk A130
          clear A130
          replace H := Option.bind_eq_some_iff.mp H
          obtain ⟨t182, A140, H⟩ := H
          replace H : (if ((decide ((Int.tmod a0 (ji9)) < (Int.tmod a1 (ji9)))) == (Op.bytesLess t181.toList t182.toList)) = true then (if (((Int.tmod a0 (ji9)) == (Int.tmod a1 (ji9))) == (t181.toList == t182.toList)) = true then (some ((t181.size : Int) == (wrap64 (1 + (wrap64 (Int.tmod a2 8)))))) else (none)) else (none)) = some r := H
          have A14 := Aside0.mk A140
          clear A140
          by_cases c15 : ((decide ((Int.tmod a0 (ji9)) < (Int.tmod a1 (ji9)))) == (Op.bytesLess t181.toList t182.toList)) = true
          · rw [if_pos c15] at H
            have c15b0 : ((decide ((Int.tmod a0 (ji9)) < (Int.tmod a1 (ji9)))) == (Op.bytesLess t181.toList t182.toList)) = true := c15
            (try (have c15b1 : decide ((decide ((Int.tmod a0 (ji9)) < (Int.tmod a1 (ji9)))) = (Op.bytesLess t181.toList t182.toList)) = true := by simpa using c15))
            (try (have c15b2 : ((decide ((Int.tmod a0 (ji9)) < (Int.tmod a1 (ji9)))) == (Op.bytesLess t181.toList t182.toList)) = true := by simpa using c15))
            clear c15
            by_cases c16 : (((Int.tmod a0 (ji9)) == (Int.tmod a1 (ji9))) == (t181.toList == t182.toList)) = true
            · rw [if_pos c16] at H
              have c16b0 : (((Int.tmod a0 (ji9)) == (Int.tmod a1 (ji9))) == (t181.toList == t182.toList)) = true := c16
              (try (have c16b1 : decide (((Int.tmod a0 (ji9)) == (Int.tmod a1 (ji9))) = (t181.toList == t182.toList)) = true := by simpa using c16))
              (try (have c16b2 : (((Int.tmod a0 (ji9)) == (Int.tmod a1 (ji9))) == (t181.toList == t182.toList)) = true := by simpa using c16))
              clear c16
              obtain rfl := Option.some.inj H
              go_enter Try.func7, Try.ntmps7
              go_wp2_with (first | ((with_reducible refine gate_callee (f := 8) rfl ?_); refine goesL_ (some 11) rfl rfl Try.func8 (by kernel_rfl) rfl #[] rfl (by (try simp only [List.map_toArray, List.map_cons, List.map_nil]); first | done | rfl | (simp only [List.length_drop, List.length_take]; rfl)) ?_; (with_reducible refine (scuttlebuttlaw02_examples.calls k  true _ A4.out).mono ?_); rintro e w17 ⟨rfl, hb⟩; refine ⟨_, rfl, ?_⟩; have n0_ := Aside0.mk (below_step (by repeat (first | (with_reducible first | exact HB.out | apply below_alloc | apply pw_below_drewN | apply below_drew1) | exact HB.out)) hb); clear HB; have HB := n0_; clear n0_; (try clear hb); (try clear hb2); (try clear hk); (try clear hi)) | ((with_reducible refine gate_callee (f := 18) rfl ?_); refine goesL_ (some 32) rfl rfl Try.func18 (by kernel_rfl) rfl #[.int .u64 (Int.tmod a0 (ji9)), .int .i64 (wrap64 (1 + (wrap64 (Int.tmod a2 8))))] rfl (by (try simp only [List.map_toArray, List.map_cons, List.map_nil]); first | done | (simp only [hji9]; rfl) | rfl | (simp only [List.length_drop, List.length_take]; rfl)) ?_; (with_reducible refine (pack_Number.calls (Int.tmod a0 (ji9)) (wrap64 (1 + (wrap64 (Int.tmod a2 8)))) t181 _ A13.out).mono ?_); rintro e w18 ⟨rfl, hb⟩; refine ⟨_, rfl, ?_⟩; have n0_ := Aside0.mk (below_step (by repeat (first | (with_reducible first | exact HB.out | apply below_alloc | apply pw_below_drewN | apply below_drew1) | exact HB.out)) hb); clear HB; have HB := n0_; clear n0_; (try clear hb); (try clear hb2); (try clear hk); (try clear hi)) | ((with_reducible refine gate_callee (f := 18) rfl ?_); refine goesL_ (some 35) rfl rfl Try.func18 (by kernel_rfl) rfl #[.int .u64 (Int.tmod a1 (ji9)), .int .i64 (wrap64 (1 + (wrap64 (Int.tmod a2 8))))] rfl (by (try simp only [List.map_toArray, List.map_cons, List.map_nil]); first | done | (simp only [hji9]; rfl) | rfl | (simp only [List.length_drop, List.length_take]; rfl)) ?_; (with_reducible refine (pack_Number.calls (Int.tmod a1 (ji9)) (wrap64 (1 + (wrap64 (Int.tmod a2 8)))) t182 _ A14.out).mono ?_); rintro e w19 ⟨rfl, hb⟩; refine ⟨_, rfl, ?_⟩; have n0_ := Aside0.mk (below_step (by repeat (first | (with_reducible first | exact HB.out | apply below_alloc | apply pw_below_drewN | apply below_drew1) | exact HB.out)) hb); clear HB; have HB := n0_; clear n0_; (try clear hb); (try clear hb2); (try clear hk); (try clear hi)))
              go_ret
              exact ⟨by first | rfl | (simp [errW_none, errW_some] <;> rfl) | (simp only [← hji7, ← hji9]; first | rfl | (simp [errW_none, errW_some] <;> rfl)) | (simp [*, errW_none, errW_some] <;> rfl), by repeat (first | (with_reducible first | exact HB.out | apply below_alloc | apply pw_below_drewN | apply below_drew1) | exact HB.out)⟩
            · (first | rw [if_neg c16] at H | exact absurd rfl c16)
              exact absurd H (by simp)
          · (first | rw [if_neg c15] at H | exact absurd rfl c15)
            exact absurd H (by simp)
      · (first | rw [if_neg c8] at H | exact absurd rfl c8)
        exact absurd H (by simp)
    · (first | rw [if_neg c6] at H | exact absurd rfl c6)
      have c6b0 : decide ((wrap64 (1 + (wrap64 (Int.tmod a2 8)))) < 8) = false := decide_eq_false c6
      clear c6
      replace H := Option.bind_eq_some_iff.mp H
      obtain ⟨t183, A200, H⟩ := H
      replace H : ((pack_Number.f a1 (wrap64 (1 + (wrap64 (Int.tmod a2 8))))).bind fun t184 => (if ((decide (a0 < a1)) == (Op.bytesLess t183.toList t184.toList)) = true then (if ((a0 == a1) == (t183.toList == t184.toList)) = true then (some ((t183.size : Int) == (wrap64 (1 + (wrap64 (Int.tmod a2 8)))))) else (none)) else (none))) = some r := H
      have A20 := Aside0.mk A200
      clear A200
      replace H := Option.bind_eq_some_iff.mp H
      obtain ⟨t184, A210, H⟩ := H
      replace H : (if ((decide (a0 < a1)) == (Op.bytesLess t183.toList t184.toList)) = true then (if ((a0 == a1) == (t183.toList == t184.toList)) = true then (some ((t183.size : Int) == (wrap64 (1 + (wrap64 (Int.tmod a2 8)))))) else (none)) else (none)) = some r := H
      have A21 := Aside0.mk A210
      clear A210
      by_cases c22 : ((decide (a0 < a1)) == (Op.bytesLess t183.toList t184.toList)) = true
      · rw [if_pos c22] at H
        have c22b0 : ((decide (a0 < a1)) == (Op.bytesLess t183.toList t184.toList)) = true := c22
        (try (have c22b1 : decide ((decide (a0 < a1)) = (Op.bytesLess t183.toList t184.toList)) = true := by simpa using c22))
        (try (have c22b2 : ((decide (a0 < a1)) == (Op.bytesLess t183.toList t184.toList)) = true := by simpa using c22))
        clear c22
        by_cases c23 : ((a0 == a1) == (t183.toList == t184.toList)) = true
        · rw [if_pos c23] at H
          have c23b0 : ((a0 == a1) == (t183.toList == t184.toList)) = true := c23
          (try (have c23b1 : decide ((a0 == a1) = (t183.toList == t184.toList)) = true := by simpa using c23))
          (try (have c23b2 : ((a0 == a1) == (t183.toList == t184.toList)) = true := by simpa using c23))
          clear c23
          obtain rfl := Option.some.inj H
          go_enter Try.func7, Try.ntmps7
          go_wp2_with (first | ((with_reducible refine gate_callee (f := 8) rfl ?_); refine goesL_ (some 11) rfl rfl Try.func8 (by kernel_rfl) rfl #[] rfl (by (try simp only [List.map_toArray, List.map_cons, List.map_nil]); first | done | rfl | (simp only [List.length_drop, List.length_take]; rfl)) ?_; (with_reducible refine (scuttlebuttlaw02_examples.calls k  true _ A4.out).mono ?_); rintro e w24 ⟨rfl, hb⟩; refine ⟨_, rfl, ?_⟩; have n0_ := Aside0.mk (below_step (by repeat (first | (with_reducible first | exact HB.out | apply below_alloc | apply pw_below_drewN | apply below_drew1) | exact HB.out)) hb); clear HB; have HB := n0_; clear n0_; (try clear hb); (try clear hb2); (try clear hk); (try clear hi)) | ((with_reducible refine gate_callee (f := 18) rfl ?_); refine goesL_ (some 32) rfl rfl Try.func18 (by kernel_rfl) rfl #[.int .u64 a0, .int .i64 (wrap64 (1 + (wrap64 (Int.tmod a2 8))))] rfl (by (try simp only [List.map_toArray, List.map_cons, List.map_nil]); first | done | rfl | (simp only [List.length_drop, List.length_take]; rfl)) ?_; (with_reducible refine (pack_Number.calls a0 (wrap64 (1 + (wrap64 (Int.tmod a2 8)))) t183 _ A20.out).mono ?_); rintro e w25 ⟨rfl, hb⟩; refine ⟨_, rfl, ?_⟩; have n0_ := Aside0.mk (below_step (by repeat (first | (with_reducible first | exact HB.out | apply below_alloc | apply pw_below_drewN | apply below_drew1) | exact HB.out)) hb); clear HB; have HB := n0_; clear n0_; (try clear hb); (try clear hb2); (try clear hk); (try clear hi)) | ((with_reducible refine gate_callee (f := 18) rfl ?_); refine goesL_ (some 35) rfl rfl Try.func18 (by kernel_rfl) rfl #[.int .u64 a1, .int .i64 (wrap64 (1 + (wrap64 (Int.tmod a2 8))))] rfl (by (try simp only [List.map_toArray, List.map_cons, List.map_nil]); first | done | rfl | (simp only [List.length_drop, List.length_take]; rfl)) ?_; (with_reducible refine (pack_Number.calls a1 (wrap64 (1 + (wrap64 (Int.tmod a2 8)))) t184 _ A21.out).mono ?_); rintro e w26 ⟨rfl, hb⟩; refine ⟨_, rfl, ?_⟩; have n0_ := Aside0.mk (below_step (by repeat (first | (with_reducible first | exact HB.out | apply below_alloc | apply pw_below_drewN | apply below_drew1) | exact HB.out)) hb); clear HB; have HB := n0_; clear n0_; (try clear hb); (try clear hb2); (try clear hk); (try clear hi)))
          go_ret
          exact ⟨by first | rfl | (simp [errW_none, errW_some] <;> rfl) | (simp [*, errW_none, errW_some] <;> rfl), by repeat (first | (with_reducible first | exact HB.out | apply below_alloc | apply pw_below_drewN | apply below_drew1) | exact HB.out)⟩
        · (first | rw [if_neg c23] at H | exact absurd rfl c23)
          exact absurd H (by simp)
      · (first | rw [if_neg c22] at H | exact absurd rfl c22)
        exact absurd H (by simp)
  · replace c5 := Bool.eq_false_iff.mpr c5
    (first | subst c5 | clear c5)
    have H1 : (none) = some r := by rw [if_neg (show ¬ (false = true) by decide)] at H; exact H
    clear H
    have H := H1
    clear H1
    exact absurd H (by simp)

/-- THE ONE PURE STATEMENT of scuttlebuttlaw02_PackOrder: yours. -/
def scuttlebuttlaw02_PackOrder.Pure : Prop := ∀ (a0 : Int) (a1 : Int) (a2 : Int), (Lit.int .u64 a0).wf = true → (Lit.int .u64 a1).wf = true → (Lit.int .u8 a2).wf = true → ∃ k, scuttlebuttlaw02_PackOrder.f k a0 a1 a2 = some true
theorem scuttlebuttlaw02_PackOrder.walk (P : scuttlebuttlaw02_PackOrder.Pure) (a0 : Int) (a1 : Int) (a2 : Int) (w : World) (w0 : (Lit.int .u64 a0).wf = true) (w1 : (Lit.int .u64 a1).wf = true) (w2 : (Lit.int .u8 a2).wf = true) :
    Calls Try.prog 7 #[.int .u64 a0, .int .u64 a1, .int .u8 a2] w fun e w' => e = .returned (.bool true) ∧ Below w.heap.size w w' := by
  obtain ⟨k, h⟩ := P a0 a1 a2 w0 w1 w2
  refine (scuttlebuttlaw02_PackOrder.calls k a0 a1 a2 true w h).mono ?_
  rintro e w' ⟨rfl, hd⟩
  exact ⟨rfl, hd⟩

end Go.Proofs.Ytanjoflhpnephaa.PA
