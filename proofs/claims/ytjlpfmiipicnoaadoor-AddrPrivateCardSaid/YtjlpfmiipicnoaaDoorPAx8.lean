/- Written by xprint.py, a program of this session: Go functions that the laws reach, each as a plain Lean function, and the proof that the Go code comes to what it says. No condition but those that each theorem names. -/
import Derived.Test.YtjlpfmiipicnoaaDoorPAx0
import Derived.Test.YtjlpfmiipicnoaaDoorPAx2
import Derived.Test.YtjlpfmiipicnoaaDoorPAx3
import Derived.Test.YtjlpfmiipicnoaaDoorPAx4
import Derived.Test.YtjlpfmiipicnoaaDoorPAx6
import Derived.Test.YtjlpfmiipicnoaaDoorPAx7
import Derived.WalkSpells
import Derived.WalkLawsBesides
import Derived.Laws.IdiomStrings
import Derived.Laws.BytesArg
import Derived.Test.YtjlpfmiipicnoaaDoorXAux
namespace Go.Proofs.YtjlpfmiipicnoaaDoor.PA
open Go.RowKit Go.Proofs.YtjlpfmiipicnoaaDoorW.PrintWords Go.Proofs.YtjlpfmiipicnoaaDoorW.PrintLast Go.Proofs.YtjlpfmiipicnoaaDoorW.PrintMore
attribute [local go_sem] max2_int min2_int max_two min_two max_three min_three max_four min_four   -- for this text's walks alone
set_option linter.unusedVariables false
set_option linter.unusedSimpArgs false

/-! ### scuttlebuttlaw03_examples: function 9 -/
def scuttlebuttlaw03_examples.f (k : Nat)  : Option (Bool) := (addr_Read.f k (⟨#[49, 48, 46, 48, 46, 48, 46, 49, 58, 56, 48]⟩ : ByteArray)).bind fun bt155 => ((addr_Read.f k (⟨#[49, 48, 46, 48, 46, 48, 46, 48, 49, 58, 56, 48]⟩ : ByteArray)).bind fun bt159 => ((addr_Get.f k (⟨#[115, 104, 111, 114, 116]⟩ : ByteArray)).bind fun bt163 => (if bt155.1 = 167772161 then (if bt155.2.1 = 80 then (if bt155.2.2 = true then (if bt159.2.2 = true then (none) else (if bt163.2.2 = true then (none) else ((addr_Addr_Private.f bt155.1 bt155.2.1).bind fun t167 => (if t167 = true then ((addr_Addr_None.f bt155.1 bt155.2.1).bind fun t168 => (if t168 = true then (none) else ((addr_Addr_Text.f k bt155.1 bt155.2.1).bind fun t169 => (if t169.toList = ([49, 48, 46, 48, 46, 48, 46, 49, 58, 56, 48] : List UInt8) then ((addr_Addr_Put.f bt155.1 bt155.2.1).bind fun t170 => (if t170.toList = ([10, 0, 0, 1, 0, 80] : List UInt8) then ((addr_Order.f k bt155.1 bt155.2.1 0 0).bind fun t171 => (if t171 = 1 then ((addr_Addr_None.f 1 0).bind fun t172 => (some t172)) else (none))) else (none))) else (none))))) else (none))))) else (none)) else (none)) else (none))))
theorem scuttlebuttlaw03_examples.mono : ∀ k, LeO (scuttlebuttlaw03_examples.f k ) (scuttlebuttlaw03_examples.f (k + 1) ) := by
  intro  k
  unfold scuttlebuttlaw03_examples.f
  repeat' first
      | (with_reducible exact addr_Addr_Text.mono _ _ _)
      | (with_reducible exact addr_Get.mono _ _)
      | (with_reducible exact addr_Order.mono _ _ _ _ _)
      | (with_reducible exact addr_Read.mono _ _)
      | (with_reducible exact LeO.refl _)
      | (with_reducible exact LeO.none _)
      | (with_reducible refine LeO.ite ?_ ?_)
      | (with_reducible refine LeO.bind ?_ (fun _ => ?_))
      | exact addr_Addr_Text.mono _ _ _
      | exact addr_Get.mono _ _
      | exact addr_Order.mono _ _ _ _ _
      | exact addr_Read.mono _ _
      | exact LeO.none _
      | refine LeO.ite ?_ ?_
      | refine LeO.bind ?_ (fun _ => ?_)
set_option maxHeartbeats 8000000 in
set_option maxRecDepth 100000 in
theorem scuttlebuttlaw03_examples.calls (k : Nat)  (r : Bool) (w : World) (h : scuttlebuttlaw03_examples.f k  = some r) :
    Calls Tryd.prog 9 #[] w fun e w' => e = .returned (.bool r) ∧ Below w.heap.size w w' := by
  have hu25 := Tryd.underlying25
  have HB := Aside0.mk (Below.refl w.heap.size w)
  have H : ((addr_Read.f k (⟨#[49, 48, 46, 48, 46, 48, 46, 49, 58, 56, 48]⟩ : ByteArray)).bind fun bt155 => ((addr_Read.f k (⟨#[49, 48, 46, 48, 46, 48, 46, 48, 49, 58, 56, 48]⟩ : ByteArray)).bind fun bt159 => ((addr_Get.f k (⟨#[115, 104, 111, 114, 116]⟩ : ByteArray)).bind fun bt163 => (if bt155.1 = 167772161 then (if bt155.2.1 = 80 then (if bt155.2.2 = true then (if bt159.2.2 = true then (none) else (if bt163.2.2 = true then (none) else ((addr_Addr_Private.f bt155.1 bt155.2.1).bind fun t167 => (if t167 = true then ((addr_Addr_None.f bt155.1 bt155.2.1).bind fun t168 => (if t168 = true then (none) else ((addr_Addr_Text.f k bt155.1 bt155.2.1).bind fun t169 => (if t169.toList = ([49, 48, 46, 48, 46, 48, 46, 49, 58, 56, 48] : List UInt8) then ((addr_Addr_Put.f bt155.1 bt155.2.1).bind fun t170 => (if t170.toList = ([10, 0, 0, 1, 0, 80] : List UInt8) then ((addr_Order.f k bt155.1 bt155.2.1 0 0).bind fun t171 => (if t171 = 1 then ((addr_Addr_None.f 1 0).bind fun t172 => (some t172)) else (none))) else (none))) else (none))))) else (none))))) else (none)) else (none)) else (none))))) = some r := h
  clear h
  replace H := Option.bind_eq_some_iff.mp H
  obtain ⟨⟨t155, t156, t157⟩, A10, H⟩ := H
  replace H : ((addr_Read.f k (⟨#[49, 48, 46, 48, 46, 48, 46, 48, 49, 58, 56, 48]⟩ : ByteArray)).bind fun bt159 => ((addr_Get.f k (⟨#[115, 104, 111, 114, 116]⟩ : ByteArray)).bind fun bt163 => (if t155 = 167772161 then (if t156 = 80 then (if t157 = true then (if bt159.2.2 = true then (none) else (if bt163.2.2 = true then (none) else ((addr_Addr_Private.f t155 t156).bind fun t167 => (if t167 = true then ((addr_Addr_None.f t155 t156).bind fun t168 => (if t168 = true then (none) else ((addr_Addr_Text.f k t155 t156).bind fun t169 => (if t169.toList = ([49, 48, 46, 48, 46, 48, 46, 49, 58, 56, 48] : List UInt8) then ((addr_Addr_Put.f t155 t156).bind fun t170 => (if t170.toList = ([10, 0, 0, 1, 0, 80] : List UInt8) then ((addr_Order.f k t155 t156 0 0).bind fun t171 => (if t171 = 1 then ((addr_Addr_None.f 1 0).bind fun t172 => (some t172)) else (none))) else (none))) else (none))))) else (none))))) else (none)) else (none)) else (none)))) = some r := H
  have A1 := Aside0.mk A10
  clear A10
  replace H := Option.bind_eq_some_iff.mp H
  obtain ⟨⟨t159, t160, t161⟩, A20, H⟩ := H
  replace H : ((addr_Get.f k (⟨#[115, 104, 111, 114, 116]⟩ : ByteArray)).bind fun bt163 => (if t155 = 167772161 then (if t156 = 80 then (if t157 = true then (if t161 = true then (none) else (if bt163.2.2 = true then (none) else ((addr_Addr_Private.f t155 t156).bind fun t167 => (if t167 = true then ((addr_Addr_None.f t155 t156).bind fun t168 => (if t168 = true then (none) else ((addr_Addr_Text.f k t155 t156).bind fun t169 => (if t169.toList = ([49, 48, 46, 48, 46, 48, 46, 49, 58, 56, 48] : List UInt8) then ((addr_Addr_Put.f t155 t156).bind fun t170 => (if t170.toList = ([10, 0, 0, 1, 0, 80] : List UInt8) then ((addr_Order.f k t155 t156 0 0).bind fun t171 => (if t171 = 1 then ((addr_Addr_None.f 1 0).bind fun t172 => (some t172)) else (none))) else (none))) else (none))))) else (none))))) else (none)) else (none)) else (none))) = some r := H
  have A2 := Aside0.mk A20
  clear A20
  replace H := Option.bind_eq_some_iff.mp H
  obtain ⟨⟨t163, t164, t165⟩, A30, H⟩ := H
  replace H : (if t155 = 167772161 then (if t156 = 80 then (if t157 = true then (if t161 = true then (none) else (if t165 = true then (none) else ((addr_Addr_Private.f t155 t156).bind fun t167 => (if t167 = true then ((addr_Addr_None.f t155 t156).bind fun t168 => (if t168 = true then (none) else ((addr_Addr_Text.f k t155 t156).bind fun t169 => (if t169.toList = ([49, 48, 46, 48, 46, 48, 46, 49, 58, 56, 48] : List UInt8) then ((addr_Addr_Put.f t155 t156).bind fun t170 => (if t170.toList = ([10, 0, 0, 1, 0, 80] : List UInt8) then ((addr_Order.f k t155 t156 0 0).bind fun t171 => (if t171 = 1 then ((addr_Addr_None.f 1 0).bind fun t172 => (some t172)) else (none))) else (none))) else (none))))) else (none))))) else (none)) else (none)) else (none)) = some r := H
  have A3 := Aside0.mk A30
  clear A30
  by_cases c4 : t155 = 167772161
  · rw [if_pos c4] at H
    have c4b0 : (t155 == 167772161) = true := beq_iff_eq.mpr c4
    have c4b1 : (t155 != 167772161) = false := bne_eq_false_iff_eq.mpr c4
    clear c4
    by_cases c5 : t156 = 80
    · rw [if_pos c5] at H
      have c5b0 : (t156 == 80) = true := beq_iff_eq.mpr c5
      have c5b1 : (t156 != 80) = false := bne_eq_false_iff_eq.mpr c5
      clear c5
      by_cases c6 : t157 = true
      · (first | subst c6 | clear c6)
        have H1 : (if t161 = true then (none) else (if t165 = true then (none) else ((addr_Addr_Private.f t155 t156).bind fun t167 => (if t167 = true then ((addr_Addr_None.f t155 t156).bind fun t168 => (if t168 = true then (none) else ((addr_Addr_Text.f k t155 t156).bind fun t169 => (if t169.toList = ([49, 48, 46, 48, 46, 48, 46, 49, 58, 56, 48] : List UInt8) then ((addr_Addr_Put.f t155 t156).bind fun t170 => (if t170.toList = ([10, 0, 0, 1, 0, 80] : List UInt8) then ((addr_Order.f k t155 t156 0 0).bind fun t171 => (if t171 = 1 then ((addr_Addr_None.f 1 0).bind fun t172 => (some t172)) else (none))) else (none))) else (none))))) else (none))))) = some r := by first | (rw [if_pos rfl] at H; exact H) | (rw [if_pos trivial] at H; exact H)
        clear H
        have H := H1
        clear H1
        by_cases c7 : t161 = true
        · (first | subst c7 | clear c7)
          have H1 : (none) = some r := by first | (rw [if_pos rfl] at H; exact H) | (rw [if_pos trivial] at H; exact H)
          clear H
          have H := H1
          clear H1
          exact absurd H (by simp)
        · replace c7 := Bool.eq_false_iff.mpr c7
          (first | subst c7 | clear c7)
          have H1 : (if t165 = true then (none) else ((addr_Addr_Private.f t155 t156).bind fun t167 => (if t167 = true then ((addr_Addr_None.f t155 t156).bind fun t168 => (if t168 = true then (none) else ((addr_Addr_Text.f k t155 t156).bind fun t169 => (if t169.toList = ([49, 48, 46, 48, 46, 48, 46, 49, 58, 56, 48] : List UInt8) then ((addr_Addr_Put.f t155 t156).bind fun t170 => (if t170.toList = ([10, 0, 0, 1, 0, 80] : List UInt8) then ((addr_Order.f k t155 t156 0 0).bind fun t171 => (if t171 = 1 then ((addr_Addr_None.f 1 0).bind fun t172 => (some t172)) else (none))) else (none))) else (none))))) else (none)))) = some r := by rw [if_neg (show ¬ (false = true) by decide)] at H; exact H
          clear H
          have H := H1
          clear H1
          by_cases c8 : t165 = true
          · (first | subst c8 | clear c8)
            have H1 : (none) = some r := by first | (rw [if_pos rfl] at H; exact H) | (rw [if_pos trivial] at H; exact H)
            clear H
            have H := H1
            clear H1
            exact absurd H (by simp)
          · replace c8 := Bool.eq_false_iff.mpr c8
            (first | subst c8 | clear c8)
            have H1 : ((addr_Addr_Private.f t155 t156).bind fun t167 => (if t167 = true then ((addr_Addr_None.f t155 t156).bind fun t168 => (if t168 = true then (none) else ((addr_Addr_Text.f k t155 t156).bind fun t169 => (if t169.toList = ([49, 48, 46, 48, 46, 48, 46, 49, 58, 56, 48] : List UInt8) then ((addr_Addr_Put.f t155 t156).bind fun t170 => (if t170.toList = ([10, 0, 0, 1, 0, 80] : List UInt8) then ((addr_Order.f k t155 t156 0 0).bind fun t171 => (if t171 = 1 then ((addr_Addr_None.f 1 0).bind fun t172 => (some t172)) else (none))) else (none))) else (none))))) else (none))) = some r := by rw [if_neg (show ¬ (false = true) by decide)] at H; exact H
            clear H
            have H := H1
            clear H1
            replace H := Option.bind_eq_some_iff.mp H
            obtain ⟨t167, A90, H⟩ := H
            replace H : (if t167 = true then ((addr_Addr_None.f t155 t156).bind fun t168 => (if t168 = true then (none) else ((addr_Addr_Text.f k t155 t156).bind fun t169 => (if t169.toList = ([49, 48, 46, 48, 46, 48, 46, 49, 58, 56, 48] : List UInt8) then ((addr_Addr_Put.f t155 t156).bind fun t170 => (if t170.toList = ([10, 0, 0, 1, 0, 80] : List UInt8) then ((addr_Order.f k t155 t156 0 0).bind fun t171 => (if t171 = 1 then ((addr_Addr_None.f 1 0).bind fun t172 => (some t172)) else (none))) else (none))) else (none))))) else (none)) = some r := H
            have A9 := Aside0.mk A90
            clear A90
            by_cases c10 : t167 = true
            · (first | subst c10 | clear c10)
              have H1 : ((addr_Addr_None.f t155 t156).bind fun t168 => (if t168 = true then (none) else ((addr_Addr_Text.f k t155 t156).bind fun t169 => (if t169.toList = ([49, 48, 46, 48, 46, 48, 46, 49, 58, 56, 48] : List UInt8) then ((addr_Addr_Put.f t155 t156).bind fun t170 => (if t170.toList = ([10, 0, 0, 1, 0, 80] : List UInt8) then ((addr_Order.f k t155 t156 0 0).bind fun t171 => (if t171 = 1 then ((addr_Addr_None.f 1 0).bind fun t172 => (some t172)) else (none))) else (none))) else (none))))) = some r := by first | (rw [if_pos rfl] at H; exact H) | (rw [if_pos trivial] at H; exact H)
              clear H
              have H := H1
              clear H1
              replace H := Option.bind_eq_some_iff.mp H
              obtain ⟨t168, A110, H⟩ := H
              replace H : (if t168 = true then (none) else ((addr_Addr_Text.f k t155 t156).bind fun t169 => (if t169.toList = ([49, 48, 46, 48, 46, 48, 46, 49, 58, 56, 48] : List UInt8) then ((addr_Addr_Put.f t155 t156).bind fun t170 => (if t170.toList = ([10, 0, 0, 1, 0, 80] : List UInt8) then ((addr_Order.f k t155 t156 0 0).bind fun t171 => (if t171 = 1 then ((addr_Addr_None.f 1 0).bind fun t172 => (some t172)) else (none))) else (none))) else (none)))) = some r := H
              have A11 := Aside0.mk A110
              clear A110
              by_cases c12 : t168 = true
              · (first | subst c12 | clear c12)
                have H1 : (none) = some r := by first | (rw [if_pos rfl] at H; exact H) | (rw [if_pos trivial] at H; exact H)
                clear H
                have H := H1
                clear H1
                exact absurd H (by simp)
              · replace c12 := Bool.eq_false_iff.mpr c12
                (first | subst c12 | clear c12)
                have H1 : ((addr_Addr_Text.f k t155 t156).bind fun t169 => (if t169.toList = ([49, 48, 46, 48, 46, 48, 46, 49, 58, 56, 48] : List UInt8) then ((addr_Addr_Put.f t155 t156).bind fun t170 => (if t170.toList = ([10, 0, 0, 1, 0, 80] : List UInt8) then ((addr_Order.f k t155 t156 0 0).bind fun t171 => (if t171 = 1 then ((addr_Addr_None.f 1 0).bind fun t172 => (some t172)) else (none))) else (none))) else (none))) = some r := by rw [if_neg (show ¬ (false = true) by decide)] at H; exact H
                clear H
                have H := H1
                clear H1
                replace H := Option.bind_eq_some_iff.mp H
                obtain ⟨t169, A130, H⟩ := H
                replace H : (if t169.toList = ([49, 48, 46, 48, 46, 48, 46, 49, 58, 56, 48] : List UInt8) then ((addr_Addr_Put.f t155 t156).bind fun t170 => (if t170.toList = ([10, 0, 0, 1, 0, 80] : List UInt8) then ((addr_Order.f k t155 t156 0 0).bind fun t171 => (if t171 = 1 then ((addr_Addr_None.f 1 0).bind fun t172 => (some t172)) else (none))) else (none))) else (none)) = some r := H
                have A13 := Aside0.mk A130
                clear A130
                by_cases c14 : t169.toList = ([49, 48, 46, 48, 46, 48, 46, 49, 58, 56, 48] : List UInt8)
                · rw [if_pos c14] at H
                  have c14b0 : (t169.toList == ([49, 48, 46, 48, 46, 48, 46, 49, 58, 56, 48] : List UInt8)) = true := beq_iff_eq.mpr c14
                  have c14b1 : (t169.toList != ([49, 48, 46, 48, 46, 48, 46, 49, 58, 56, 48] : List UInt8)) = false := bne_eq_false_iff_eq.mpr c14
                  clear c14
                  replace H := Option.bind_eq_some_iff.mp H
                  obtain ⟨t170, A150, H⟩ := H
                  replace H : (if t170.toList = ([10, 0, 0, 1, 0, 80] : List UInt8) then ((addr_Order.f k t155 t156 0 0).bind fun t171 => (if t171 = 1 then ((addr_Addr_None.f 1 0).bind fun t172 => (some t172)) else (none))) else (none)) = some r := H
                  have A15 := Aside0.mk A150
                  clear A150
                  by_cases c16 : t170.toList = ([10, 0, 0, 1, 0, 80] : List UInt8)
                  · rw [if_pos c16] at H
                    have c16b0 : (t170.toList == ([10, 0, 0, 1, 0, 80] : List UInt8)) = true := beq_iff_eq.mpr c16
                    have c16b1 : (t170.toList != ([10, 0, 0, 1, 0, 80] : List UInt8)) = false := bne_eq_false_iff_eq.mpr c16
                    clear c16
                    replace H := Option.bind_eq_some_iff.mp H
                    obtain ⟨t171, A170, H⟩ := H
                    replace H : (if t171 = 1 then ((addr_Addr_None.f 1 0).bind fun t172 => (some t172)) else (none)) = some r := H
                    have A17 := Aside0.mk A170
                    clear A170
                    by_cases c18 : t171 = 1
                    · rw [if_pos c18] at H
                      have c18b0 : (t171 == 1) = true := beq_iff_eq.mpr c18
                      have c18b1 : (t171 != 1) = false := bne_eq_false_iff_eq.mpr c18
                      clear c18
                      replace H := Option.bind_eq_some_iff.mp H
                      obtain ⟨t172, A190, H⟩ := H
                      replace H : (some t172) = some r := H
                      have A19 := Aside0.mk A190
                      clear A190
                      obtain rfl := Option.some.inj H
                      go_enter Tryd.func9, Tryd.ntmps9
                      go_wp2_with (first | ((with_reducible refine gate_callee (f := 22) rfl ?_); refine goesL_ (some 8) rfl rfl Tryd.func22 (by kernel_rfl) rfl #[.string (⟨#[49, 48, 46, 48, 46, 48, 46, 49, 58, 56, 48]⟩ : ByteArray)] rfl (by (try simp only [List.map_toArray, List.map_cons, List.map_nil]); first | done | rfl | (simp only [List.length_drop, List.length_take]; rfl)) ?_; (with_reducible refine (addr_Read.calls k (⟨#[49, 48, 46, 48, 46, 48, 46, 49, 58, 56, 48]⟩ : ByteArray) t155 t156 true _ A1.out).mono ?_); rintro e w20 ⟨rfl, hb⟩; refine ⟨_, rfl, ?_⟩; have n0_ := Aside0.mk (below_step (by repeat (first | (with_reducible first | exact HB.out | apply below_alloc | apply pw_below_drewN | apply below_drew1) | exact HB.out)) hb); clear HB; have HB := n0_; clear n0_; (try clear hb); (try clear hb2); (try clear hk); (try clear hi)) | ((with_reducible refine gate_dst (N := 1) rfl ?_); refine box_event ?hg (N := 1) ?hd (cs := #[.int .u32 0, .int .u16 0]) (t := 25) ?hr ?_; (case hd => rfl); (case hg => rfl); (case hr => first | (go_simp; done) | (go_simp; rfl)); intro gb158 hg w21 hbox hb; have n0_ := Aside0.mk (below_step (by repeat (first | (with_reducible first | exact HB.out | apply below_alloc | apply pw_below_drewN | apply below_drew1) | exact HB.out)) hb); have n1_ := Aside0.mk (hbox); have n2_ := Aside0.mk ((by rw [hg]; exact (below_size (by repeat (first | (with_reducible first | exact HB.out | apply below_alloc | apply pw_below_drewN | apply below_drew1) | exact HB.out))) : w.heap.size ≤ gb158)); have n3_ := Aside0.mk ((by rw [hg]; exact (below_size (by repeat (first | (with_reducible first | exact HB.out | apply below_alloc | apply pw_below_drewN | apply below_drew1) | exact HB.out))) : w.heap.size ≤ gb158)); clear HB; have HB := n0_; have BK158 := n1_; have GW158 := n2_; have GE158 := n3_; clear n0_ n1_ n2_ n3_; clear hb hbox hg; have hcz22_0 : w21.cell? ⟨gb158, 0, none⟩ = some (.int .u32 0) := (blk_cell BK158.out 0).trans rfl; have hcz22_1 : w21.cell? ⟨gb158, 1, none⟩ = some (.int .u16 0) := (blk_cell BK158.out 1).trans rfl; have hfz22_0 := blk_frozen BK158.out 0; have hfz22_1 := blk_frozen BK158.out 1) | ((with_reducible refine gate_callee (f := 22) rfl ?_); refine goesL_ (some 12) rfl rfl Tryd.func22 (by kernel_rfl) rfl #[.string (⟨#[49, 48, 46, 48, 46, 48, 46, 48, 49, 58, 56, 48]⟩ : ByteArray)] rfl (by (try simp only [List.map_toArray, List.map_cons, List.map_nil]); first | done | rfl | (simp only [List.length_drop, List.length_take]; rfl)) ?_; (with_reducible refine (addr_Read.calls k (⟨#[49, 48, 46, 48, 46, 48, 46, 48, 49, 58, 56, 48]⟩ : ByteArray) t159 t160 false _ A2.out).mono ?_); rintro e w23 ⟨rfl, hb⟩; refine ⟨_, rfl, ?_⟩; have n0_ := Aside0.mk (blk_below (g := gb158) (o := .cells #[.int .u32 t155, .int .u16 t156] 25 (0, 0)) (by (with_reducible repeat (first | refine blk_drewN ?_ _ | refine blk_drew ?_ | refine blk_alloc ?_ _)); refine blk_put (cs := #[.int .u32 t155, .int .u16 0]) ?_ 1 _ rfl; (with_reducible repeat (first | refine blk_drewN ?_ _ | refine blk_drew ?_ | refine blk_alloc ?_ _)); refine blk_put (cs := #[.int .u32 0, .int .u16 0]) ?_ 0 _ rfl; (with_reducible repeat (first | refine blk_drewN ?_ _ | refine blk_drew ?_ | refine blk_alloc ?_ _)); exact BK158.out) hb); have n1_ := Aside0.mk (below_step (by repeat (first | (with_reducible first | exact HB.out | apply below_alloc | apply pw_below_drewN | apply below_drew1 | refine below_set ?_ GE158.out) | exact HB.out)) hb); clear BK158; clear HB; have BK158 := n0_; have HB := n1_; clear n0_ n1_; (try clear hb); (try clear hb2); (try clear hk); (try clear hi)) | ((with_reducible refine gate_dst (N := 3) rfl ?_); refine box_event ?hg (N := 3) ?hd (cs := #[.int .u32 0, .int .u16 0]) (t := 25) ?hr ?_; (case hd => rfl); (case hg => rfl); (case hr => first | (go_simp; done) | (go_simp; rfl)); intro gb162 hg w24 hbox hb; have n0_ := Aside0.mk (blk_below (g := gb158) (o := .cells #[.int .u32 t155, .int .u16 t156] 25 (0, 0)) (by (with_reducible repeat (first | refine blk_drewN ?_ _ | refine blk_drew ?_ | refine blk_alloc ?_ _)); exact BK158.out) hb); have n1_ := Aside0.mk (below_step (by repeat (first | (with_reducible first | exact HB.out | apply below_alloc | apply pw_below_drewN | apply below_drew1 | refine below_set ?_ GE158.out) | exact HB.out)) hb); have n2_ := Aside0.mk (hbox); have n3_ := Aside0.mk ((by rw [hg]; exact (below_size (by repeat (first | (with_reducible first | exact HB.out | apply below_alloc | apply pw_below_drewN | apply below_drew1 | refine below_set ?_ GE158.out) | exact HB.out))) : w.heap.size ≤ gb162)); have n4_ := Aside0.mk ((by rw [hg]; exact (below_size (by repeat (first | (with_reducible first | exact HB.out | apply below_alloc | apply pw_below_drewN | apply below_drew1 | refine below_set ?_ GE158.out) | exact HB.out))) : w.heap.size ≤ gb162)); have n5_ := Aside0.mk ((by rw [hg]; exact Nat.ne_of_lt (blk_lt (g := gb158) (o := .cells #[.int .u32 t155, .int .u16 t156] 25 (0, 0)) (by (with_reducible repeat (first | refine blk_drewN ?_ _ | refine blk_drew ?_ | refine blk_alloc ?_ _)); exact BK158.out)) : gb158 ≠ gb162)); have n6_ := Aside0.mk ((by rw [hg]; exact Nat.ne_of_gt (blk_lt (g := gb158) (o := .cells #[.int .u32 t155, .int .u16 t156] 25 (0, 0)) (by (with_reducible repeat (first | refine blk_drewN ?_ _ | refine blk_drew ?_ | refine blk_alloc ?_ _)); exact BK158.out)) : gb162 ≠ gb158)); clear BK158; clear HB; have BK158 := n0_; have HB := n1_; have BK162 := n2_; have GW162 := n3_; have GE162 := n4_; have NB158_162 := n5_; have NB162_158 := n6_; clear n0_ n1_ n2_ n3_ n4_ n5_ n6_; clear hb hbox hg; have hnb25 := NB162_158.out; have hnc25 := NB158_162.out; have hcz26_0 : w24.cell? ⟨gb162, 0, none⟩ = some (.int .u32 0) := (blk_cell BK162.out 0).trans rfl; have hcz26_1 : w24.cell? ⟨gb162, 1, none⟩ = some (.int .u16 0) := (blk_cell BK162.out 1).trans rfl; have hfz26_0 := blk_frozen BK162.out 0; have hfz26_1 := blk_frozen BK162.out 1) | ((with_reducible refine gate_callee (f := 24) rfl ?_); refine goesL_ (some 16) rfl rfl Tryd.func24 (by kernel_rfl) rfl #[.string (⟨#[115, 104, 111, 114, 116]⟩ : ByteArray)] rfl (by (try simp only [List.map_toArray, List.map_cons, List.map_nil]); first | done | rfl | (simp only [List.length_drop, List.length_take]; rfl)) ?_; (with_reducible refine (addr_Get.calls k (⟨#[115, 104, 111, 114, 116]⟩ : ByteArray) t163 t164 false _ A3.out).mono ?_); rintro e w27 ⟨rfl, hb⟩; refine ⟨_, rfl, ?_⟩; have n0_ := Aside0.mk (blk_below (g := gb158) (o := .cells #[.int .u32 t155, .int .u16 t156] 25 (0, 0)) (by (with_reducible repeat (first | refine blk_drewN ?_ _ | refine blk_drew ?_ | refine blk_alloc ?_ _)); refine blk_far ?_ NB158_162.out _; (with_reducible repeat (first | refine blk_drewN ?_ _ | refine blk_drew ?_ | refine blk_alloc ?_ _)); refine blk_far ?_ NB158_162.out _; (with_reducible repeat (first | refine blk_drewN ?_ _ | refine blk_drew ?_ | refine blk_alloc ?_ _)); exact BK158.out) hb); have n1_ := Aside0.mk (blk_below (g := gb162) (o := .cells #[.int .u32 t159, .int .u16 t160] 25 (0, 0)) (by (with_reducible repeat (first | refine blk_drewN ?_ _ | refine blk_drew ?_ | refine blk_alloc ?_ _)); refine blk_put (cs := #[.int .u32 t159, .int .u16 0]) ?_ 1 _ rfl; (with_reducible repeat (first | refine blk_drewN ?_ _ | refine blk_drew ?_ | refine blk_alloc ?_ _)); refine blk_put (cs := #[.int .u32 0, .int .u16 0]) ?_ 0 _ rfl; (with_reducible repeat (first | refine blk_drewN ?_ _ | refine blk_drew ?_ | refine blk_alloc ?_ _)); exact BK162.out) hb); have n2_ := Aside0.mk (below_step (by repeat (first | (with_reducible first | exact HB.out | apply below_alloc | apply pw_below_drewN | apply below_drew1 | refine below_set ?_ GE158.out | refine below_set ?_ GE162.out) | exact HB.out)) hb); clear BK158; clear BK162; clear HB; have BK158 := n0_; have BK162 := n1_; have HB := n2_; clear n0_ n1_ n2_; (try clear hb); (try clear hb2); (try clear hk); (try clear hi)) | ((with_reducible refine gate_dst (N := 5) rfl ?_); refine box_event ?hg (N := 5) ?hd (cs := #[.int .u32 0, .int .u16 0]) (t := 25) ?hr ?_; (case hd => rfl); (case hg => rfl); (case hr => first | (go_simp; done) | (go_simp; rfl)); intro gb166 hg w28 hbox hb; have n0_ := Aside0.mk (blk_below (g := gb158) (o := .cells #[.int .u32 t155, .int .u16 t156] 25 (0, 0)) (by (with_reducible repeat (first | refine blk_drewN ?_ _ | refine blk_drew ?_ | refine blk_alloc ?_ _)); exact BK158.out) hb); have n1_ := Aside0.mk (blk_below (g := gb162) (o := .cells #[.int .u32 t159, .int .u16 t160] 25 (0, 0)) (by (with_reducible repeat (first | refine blk_drewN ?_ _ | refine blk_drew ?_ | refine blk_alloc ?_ _)); exact BK162.out) hb); have n2_ := Aside0.mk (below_step (by repeat (first | (with_reducible first | exact HB.out | apply below_alloc | apply pw_below_drewN | apply below_drew1 | refine below_set ?_ GE158.out | refine below_set ?_ GE162.out) | exact HB.out)) hb); have n3_ := Aside0.mk (hbox); have n4_ := Aside0.mk ((by rw [hg]; exact (below_size (by repeat (first | (with_reducible first | exact HB.out | apply below_alloc | apply pw_below_drewN | apply below_drew1 | refine below_set ?_ GE158.out | refine below_set ?_ GE162.out) | exact HB.out))) : w.heap.size ≤ gb166)); have n5_ := Aside0.mk ((by rw [hg]; exact (below_size (by repeat (first | (with_reducible first | exact HB.out | apply below_alloc | apply pw_below_drewN | apply below_drew1 | refine below_set ?_ GE158.out | refine below_set ?_ GE162.out) | exact HB.out))) : w.heap.size ≤ gb166)); have n6_ := Aside0.mk ((by rw [hg]; exact Nat.ne_of_lt (blk_lt (g := gb158) (o := .cells #[.int .u32 t155, .int .u16 t156] 25 (0, 0)) (by (with_reducible repeat (first | refine blk_drewN ?_ _ | refine blk_drew ?_ | refine blk_alloc ?_ _)); exact BK158.out)) : gb158 ≠ gb166)); have n7_ := Aside0.mk ((by rw [hg]; exact Nat.ne_of_gt (blk_lt (g := gb158) (o := .cells #[.int .u32 t155, .int .u16 t156] 25 (0, 0)) (by (with_reducible repeat (first | refine blk_drewN ?_ _ | refine blk_drew ?_ | refine blk_alloc ?_ _)); exact BK158.out)) : gb166 ≠ gb158)); have n8_ := Aside0.mk ((by rw [hg]; exact Nat.ne_of_lt (blk_lt (g := gb162) (o := .cells #[.int .u32 t159, .int .u16 t160] 25 (0, 0)) (by (with_reducible repeat (first | refine blk_drewN ?_ _ | refine blk_drew ?_ | refine blk_alloc ?_ _)); exact BK162.out)) : gb162 ≠ gb166)); have n9_ := Aside0.mk ((by rw [hg]; exact Nat.ne_of_gt (blk_lt (g := gb162) (o := .cells #[.int .u32 t159, .int .u16 t160] 25 (0, 0)) (by (with_reducible repeat (first | refine blk_drewN ?_ _ | refine blk_drew ?_ | refine blk_alloc ?_ _)); exact BK162.out)) : gb166 ≠ gb162)); clear BK158; clear BK162; clear HB; have BK158 := n0_; have BK162 := n1_; have HB := n2_; have BK166 := n3_; have GW166 := n4_; have GE166 := n5_; have NB158_166 := n6_; have NB166_158 := n7_; have NB162_166 := n8_; have NB166_162 := n9_; clear n0_ n1_ n2_ n3_ n4_ n5_ n6_ n7_ n8_ n9_; clear hb hbox hg; have hnb29 := NB166_158.out; have hnc29 := NB158_166.out; have hnb30 := NB166_162.out; have hnc30 := NB162_166.out; have hcz31_0 : w28.cell? ⟨gb166, 0, none⟩ = some (.int .u32 0) := (blk_cell BK166.out 0).trans rfl; have hcz31_1 : w28.cell? ⟨gb166, 1, none⟩ = some (.int .u16 0) := (blk_cell BK166.out 1).trans rfl; have hfz31_0 := blk_frozen BK166.out 0; have hfz31_1 := blk_frozen BK166.out 1; have hcz32_0 : w28.cell? ⟨gb158, 0, none⟩ = some (.int .u32 t155) := (blk_cell BK158.out 0).trans rfl; have hcz32_1 : w28.cell? ⟨gb158, 1, none⟩ = some (.int .u16 t156) := (blk_cell BK158.out 1).trans rfl; have hfz32_0 := blk_frozen BK158.out 0; have hfz32_1 := blk_frozen BK158.out 1) | (go_at_call 17; (with_reducible refine (addr_Addr_Private.calls t155 t156 true _ A9.out).mono ?_); rintro e w33 ⟨rfl, hb⟩; have n0_ := Aside0.mk (blk_below (g := gb158) (o := .cells #[.int .u32 t155, .int .u16 t156] 25 (0, 0)) (by (with_reducible repeat (first | refine blk_drewN ?_ _ | refine blk_drew ?_ | refine blk_alloc ?_ _)); refine blk_far ?_ NB158_166.out _; (with_reducible repeat (first | refine blk_drewN ?_ _ | refine blk_drew ?_ | refine blk_alloc ?_ _)); refine blk_far ?_ NB158_166.out _; (with_reducible repeat (first | refine blk_drewN ?_ _ | refine blk_drew ?_ | refine blk_alloc ?_ _)); exact BK158.out) hb); have n1_ := Aside0.mk (blk_below (g := gb162) (o := .cells #[.int .u32 t159, .int .u16 t160] 25 (0, 0)) (by (with_reducible repeat (first | refine blk_drewN ?_ _ | refine blk_drew ?_ | refine blk_alloc ?_ _)); refine blk_far ?_ NB162_166.out _; (with_reducible repeat (first | refine blk_drewN ?_ _ | refine blk_drew ?_ | refine blk_alloc ?_ _)); refine blk_far ?_ NB162_166.out _; (with_reducible repeat (first | refine blk_drewN ?_ _ | refine blk_drew ?_ | refine blk_alloc ?_ _)); exact BK162.out) hb); have n2_ := Aside0.mk (blk_below (g := gb166) (o := .cells #[.int .u32 t163, .int .u16 t164] 25 (0, 0)) (by (with_reducible repeat (first | refine blk_drewN ?_ _ | refine blk_drew ?_ | refine blk_alloc ?_ _)); refine blk_put (cs := #[.int .u32 t163, .int .u16 0]) ?_ 1 _ rfl; (with_reducible repeat (first | refine blk_drewN ?_ _ | refine blk_drew ?_ | refine blk_alloc ?_ _)); refine blk_put (cs := #[.int .u32 0, .int .u16 0]) ?_ 0 _ rfl; (with_reducible repeat (first | refine blk_drewN ?_ _ | refine blk_drew ?_ | refine blk_alloc ?_ _)); exact BK166.out) hb); have n3_ := Aside0.mk (below_step (by repeat (first | (with_reducible first | exact HB.out | apply below_alloc | apply pw_below_drewN | apply below_drew1 | refine below_set ?_ GE158.out | refine below_set ?_ GE162.out | refine below_set ?_ GE166.out) | exact HB.out)) hb); clear BK158; clear BK162; clear BK166; clear HB; have BK158 := n0_; have BK162 := n1_; have BK166 := n2_; have HB := n3_; clear n0_ n1_ n2_ n3_; (try clear hb); (try clear hb2); (try clear hk); (try clear hi); have hcz34_0 : w33.cell? ⟨gb158, 0, none⟩ = some (.int .u32 t155) := (blk_cell BK158.out 0).trans rfl; have hcz34_1 : w33.cell? ⟨gb158, 1, none⟩ = some (.int .u16 t156) := (blk_cell BK158.out 1).trans rfl; have hfz34_0 := blk_frozen BK158.out 0; have hfz34_1 := blk_frozen BK158.out 1) | (go_at_call 15; (with_reducible refine (addr_Addr_None.calls t155 t156 false _ A11.out).mono ?_); rintro e w35 ⟨rfl, hb⟩; have n0_ := Aside0.mk (blk_below (g := gb158) (o := .cells #[.int .u32 t155, .int .u16 t156] 25 (0, 0)) (by (with_reducible repeat (first | refine blk_drewN ?_ _ | refine blk_drew ?_ | refine blk_alloc ?_ _)); exact BK158.out) hb); have n1_ := Aside0.mk (blk_below (g := gb162) (o := .cells #[.int .u32 t159, .int .u16 t160] 25 (0, 0)) (by (with_reducible repeat (first | refine blk_drewN ?_ _ | refine blk_drew ?_ | refine blk_alloc ?_ _)); exact BK162.out) hb); have n2_ := Aside0.mk (blk_below (g := gb166) (o := .cells #[.int .u32 t163, .int .u16 t164] 25 (0, 0)) (by (with_reducible repeat (first | refine blk_drewN ?_ _ | refine blk_drew ?_ | refine blk_alloc ?_ _)); exact BK166.out) hb); have n3_ := Aside0.mk (below_step (by repeat (first | (with_reducible first | exact HB.out | apply below_alloc | apply pw_below_drewN | apply below_drew1 | refine below_set ?_ GE158.out | refine below_set ?_ GE162.out | refine below_set ?_ GE166.out) | exact HB.out)) hb); clear BK158; clear BK162; clear BK166; clear HB; have BK158 := n0_; have BK162 := n1_; have BK166 := n2_; have HB := n3_; clear n0_ n1_ n2_ n3_; (try clear hb); (try clear hb2); (try clear hk); (try clear hi); have hcz36_0 : w35.cell? ⟨gb158, 0, none⟩ = some (.int .u32 t155) := (blk_cell BK158.out 0).trans rfl; have hcz36_1 : w35.cell? ⟨gb158, 1, none⟩ = some (.int .u16 t156) := (blk_cell BK158.out 1).trans rfl; have hfz36_0 := blk_frozen BK158.out 0; have hfz36_1 := blk_frozen BK158.out 1) | (go_at_call 11; (with_reducible refine (addr_Addr_Text.calls k t155 t156 t169 _ A13.out).mono ?_); rintro e w37 ⟨rfl, hb⟩; have n0_ := Aside0.mk (blk_below (g := gb158) (o := .cells #[.int .u32 t155, .int .u16 t156] 25 (0, 0)) (by (with_reducible repeat (first | refine blk_drewN ?_ _ | refine blk_drew ?_ | refine blk_alloc ?_ _)); exact BK158.out) hb); have n1_ := Aside0.mk (blk_below (g := gb162) (o := .cells #[.int .u32 t159, .int .u16 t160] 25 (0, 0)) (by (with_reducible repeat (first | refine blk_drewN ?_ _ | refine blk_drew ?_ | refine blk_alloc ?_ _)); exact BK162.out) hb); have n2_ := Aside0.mk (blk_below (g := gb166) (o := .cells #[.int .u32 t163, .int .u16 t164] 25 (0, 0)) (by (with_reducible repeat (first | refine blk_drewN ?_ _ | refine blk_drew ?_ | refine blk_alloc ?_ _)); exact BK166.out) hb); have n3_ := Aside0.mk (below_step (by repeat (first | (with_reducible first | exact HB.out | apply below_alloc | apply pw_below_drewN | apply below_drew1 | refine below_set ?_ GE158.out | refine below_set ?_ GE162.out | refine below_set ?_ GE166.out) | exact HB.out)) hb); clear BK158; clear BK162; clear BK166; clear HB; have BK158 := n0_; have BK162 := n1_; have BK166 := n2_; have HB := n3_; clear n0_ n1_ n2_ n3_; (try clear hb); (try clear hb2); (try clear hk); (try clear hi); have hcz38_0 : w37.cell? ⟨gb158, 0, none⟩ = some (.int .u32 t155) := (blk_cell BK158.out 0).trans rfl; have hcz38_1 : w37.cell? ⟨gb158, 1, none⟩ = some (.int .u16 t156) := (blk_cell BK158.out 1).trans rfl; have hfz38_0 := blk_frozen BK158.out 0; have hfz38_1 := blk_frozen BK158.out 1) | (go_at_call 13; (with_reducible refine (addr_Addr_Put.calls t155 t156 t170 _ A15.out).mono ?_); rintro e w39 ⟨rfl, hb⟩; have n0_ := Aside0.mk (blk_below (g := gb158) (o := .cells #[.int .u32 t155, .int .u16 t156] 25 (0, 0)) (by (with_reducible repeat (first | refine blk_drewN ?_ _ | refine blk_drew ?_ | refine blk_alloc ?_ _)); exact BK158.out) hb); have n1_ := Aside0.mk (blk_below (g := gb162) (o := .cells #[.int .u32 t159, .int .u16 t160] 25 (0, 0)) (by (with_reducible repeat (first | refine blk_drewN ?_ _ | refine blk_drew ?_ | refine blk_alloc ?_ _)); exact BK162.out) hb); have n2_ := Aside0.mk (blk_below (g := gb166) (o := .cells #[.int .u32 t163, .int .u16 t164] 25 (0, 0)) (by (with_reducible repeat (first | refine blk_drewN ?_ _ | refine blk_drew ?_ | refine blk_alloc ?_ _)); exact BK166.out) hb); have n3_ := Aside0.mk (below_step (by repeat (first | (with_reducible first | exact HB.out | apply below_alloc | apply pw_below_drewN | apply below_drew1 | refine below_set ?_ GE158.out | refine below_set ?_ GE162.out | refine below_set ?_ GE166.out) | exact HB.out)) hb); clear BK158; clear BK162; clear BK166; clear HB; have BK158 := n0_; have BK162 := n1_; have BK166 := n2_; have HB := n3_; clear n0_ n1_ n2_ n3_; (try clear hb); (try clear hb2); (try clear hk); (try clear hi); have hcz40_0 : w39.cell? ⟨gb158, 0, none⟩ = some (.int .u32 t155) := (blk_cell BK158.out 0).trans rfl; have hcz40_1 : w39.cell? ⟨gb158, 1, none⟩ = some (.int .u16 t156) := (blk_cell BK158.out 1).trans rfl; have hfz40_0 := blk_frozen BK158.out 0; have hfz40_1 := blk_frozen BK158.out 1) | (go_at_call 19; (with_reducible refine (addr_Order.calls k t155 t156 0 0 t171 _ A17.out).mono ?_); rintro e w41 ⟨rfl, hb⟩; have n0_ := Aside0.mk (blk_below (g := gb158) (o := .cells #[.int .u32 t155, .int .u16 t156] 25 (0, 0)) (by (with_reducible repeat (first | refine blk_drewN ?_ _ | refine blk_drew ?_ | refine blk_alloc ?_ _)); exact BK158.out) hb); have n1_ := Aside0.mk (blk_below (g := gb162) (o := .cells #[.int .u32 t159, .int .u16 t160] 25 (0, 0)) (by (with_reducible repeat (first | refine blk_drewN ?_ _ | refine blk_drew ?_ | refine blk_alloc ?_ _)); exact BK162.out) hb); have n2_ := Aside0.mk (blk_below (g := gb166) (o := .cells #[.int .u32 t163, .int .u16 t164] 25 (0, 0)) (by (with_reducible repeat (first | refine blk_drewN ?_ _ | refine blk_drew ?_ | refine blk_alloc ?_ _)); exact BK166.out) hb); have n3_ := Aside0.mk (below_step (by repeat (first | (with_reducible first | exact HB.out | apply below_alloc | apply pw_below_drewN | apply below_drew1 | refine below_set ?_ GE158.out | refine below_set ?_ GE162.out | refine below_set ?_ GE166.out) | exact HB.out)) hb); clear BK158; clear BK162; clear BK166; clear HB; have BK158 := n0_; have BK162 := n1_; have BK166 := n2_; have HB := n3_; clear n0_ n1_ n2_ n3_; (try clear hb); (try clear hb2); (try clear hk); (try clear hi)) | (go_at_call 15; (with_reducible refine (addr_Addr_None.calls 1 0 t172 _ A19.out).mono ?_); rintro e w42 ⟨rfl, hb⟩; have n0_ := Aside0.mk (blk_below (g := gb158) (o := .cells #[.int .u32 t155, .int .u16 t156] 25 (0, 0)) (by (with_reducible repeat (first | refine blk_drewN ?_ _ | refine blk_drew ?_ | refine blk_alloc ?_ _)); exact BK158.out) hb); have n1_ := Aside0.mk (blk_below (g := gb162) (o := .cells #[.int .u32 t159, .int .u16 t160] 25 (0, 0)) (by (with_reducible repeat (first | refine blk_drewN ?_ _ | refine blk_drew ?_ | refine blk_alloc ?_ _)); exact BK162.out) hb); have n2_ := Aside0.mk (blk_below (g := gb166) (o := .cells #[.int .u32 t163, .int .u16 t164] 25 (0, 0)) (by (with_reducible repeat (first | refine blk_drewN ?_ _ | refine blk_drew ?_ | refine blk_alloc ?_ _)); exact BK166.out) hb); have n3_ := Aside0.mk (below_step (by repeat (first | (with_reducible first | exact HB.out | apply below_alloc | apply pw_below_drewN | apply below_drew1 | refine below_set ?_ GE158.out | refine below_set ?_ GE162.out | refine below_set ?_ GE166.out) | exact HB.out)) hb); clear BK158; clear BK162; clear BK166; clear HB; have BK158 := n0_; have BK162 := n1_; have BK166 := n2_; have HB := n3_; clear n0_ n1_ n2_ n3_; (try clear hb); (try clear hb2); (try clear hk); (try clear hi)))
                      go_ret
                      exact ⟨by first | rfl | (simp only [Go.Proofs.YtjlpfmiipicnoaaDoorX.ne_nil, Go.Proofs.YtjlpfmiipicnoaaDoorX.eq_nil]; rfl) | (simp [Go.Proofs.YtjlpfmiipicnoaaDoorX.ne_nil, Go.Proofs.YtjlpfmiipicnoaaDoorX.eq_nil]; done) | (simp [errW_none, errW_some] <;> rfl) | (simp [*, errW_none, errW_some] <;> rfl), by repeat (first | (with_reducible first | exact HB.out | apply below_alloc | apply pw_below_drewN | apply below_drew1 | refine below_set ?_ GE158.out | refine below_set ?_ GE162.out | refine below_set ?_ GE166.out) | exact HB.out)⟩
                    · (first | rw [if_neg c18] at H | exact absurd rfl c18)
                      exact absurd H (by simp)
                  · (first | rw [if_neg c16] at H | exact absurd rfl c16)
                    exact absurd H (by simp)
                · (first | rw [if_neg c14] at H | exact absurd rfl c14)
                  exact absurd H (by simp)
            · replace c10 := Bool.eq_false_iff.mpr c10
              (first | subst c10 | clear c10)
              have H1 : (none) = some r := by rw [if_neg (show ¬ (false = true) by decide)] at H; exact H
              clear H
              have H := H1
              clear H1
              exact absurd H (by simp)
      · replace c6 := Bool.eq_false_iff.mpr c6
        (first | subst c6 | clear c6)
        have H1 : (none) = some r := by rw [if_neg (show ¬ (false = true) by decide)] at H; exact H
        clear H
        have H := H1
        clear H1
        exact absurd H (by simp)
    · (first | rw [if_neg c5] at H | exact absurd rfl c5)
      exact absurd H (by simp)
  · (first | rw [if_neg c4] at H | exact absurd rfl c4)
    exact absurd H (by simp)

/-! ### scuttlebuttlaw03_AddrPrivate: function 7 -/
def scuttlebuttlaw03_AddrPrivate.f (k : Nat) (a0 : Int) (a1 : Int) (a2 : Int) : Option (Bool) := (scuttlebuttlaw03_examples.f k).bind fun t173 => (if t173 = true then ((some (([167772160, 2886729728, 3232235520] : List Int) : List Int)).bind fun y174 => (if 0 ≤ (Int.tmod a0 3) then (if (Int.tmod a0 3) < (y174.length : Int) then ((some (([16777216, 1048576, 65536] : List Int) : List Int)).bind fun y178 => (if (Int.tmod a0 3) < (y178.length : Int) then (if (rd y178 (Int.tmod a0 3)) = 0 then (none) else ((addr_Addr_Private.f (((rd y174 (Int.tmod a0 3)) + (Int.tmod a1 (rd y178 (Int.tmod a0 3)))) % 4294967296) a2).bind fun t182 => (if t182 = true then ((addr_Addr_Private.f (((rd y174 (Int.tmod a0 3)) - 1) % 4294967296) a2).bind fun t183 => (if t183 = true then (none) else ((addr_Addr_Private.f (((rd y174 (Int.tmod a0 3)) + (rd y178 (Int.tmod a0 3))) % 4294967296) a2).bind fun t184 => (if t184 = true then (none) else ((addr_Addr_None.f a1 0).bind fun t185 => (if t185 = true then ((addr_Addr_None.f (rd y174 (Int.tmod a0 3)) a2).bind fun t186 => (some (t186 == (a2 == 0)))) else (none))))))) else (none)))) else (none))) else (none)) else (none))) else (none))
theorem scuttlebuttlaw03_AddrPrivate.mono : ∀ a0 a1 a2 k, LeO (scuttlebuttlaw03_AddrPrivate.f k a0 a1 a2) (scuttlebuttlaw03_AddrPrivate.f (k + 1) a0 a1 a2) := by
  intro a0 a1 a2 k
  unfold scuttlebuttlaw03_AddrPrivate.f
  repeat' first
      | (with_reducible exact scuttlebuttlaw03_examples.mono _)
      | (with_reducible exact LeO.refl _)
      | (with_reducible exact LeO.none _)
      | (with_reducible refine LeO.ite ?_ ?_)
      | (with_reducible refine LeO.bind ?_ (fun _ => ?_))
      | exact scuttlebuttlaw03_examples.mono _
      | exact LeO.none _
      | refine LeO.ite ?_ ?_
      | refine LeO.bind ?_ (fun _ => ?_)
set_option maxHeartbeats 8000000 in
set_option maxRecDepth 100000 in
theorem scuttlebuttlaw03_AddrPrivate.calls (k : Nat) (a0 : Int) (a1 : Int) (a2 : Int) (r : Bool) (w : World) (h : scuttlebuttlaw03_AddrPrivate.f k a0 a1 a2 = some r) :
    Calls Tryd.prog 7 #[.int .u8 a0, .int .u32 a1, .int .u16 a2] w fun e w' => e = .returned (.bool r) ∧ Below w.heap.size w w' := by
  have hu25 := Tryd.underlying25
  have HB := Aside0.mk (Below.refl w.heap.size w)
  have H : ((scuttlebuttlaw03_examples.f k).bind fun t173 => (if t173 = true then ((some (([167772160, 2886729728, 3232235520] : List Int) : List Int)).bind fun y174 => (if 0 ≤ (Int.tmod a0 3) then (if (Int.tmod a0 3) < (y174.length : Int) then ((some (([16777216, 1048576, 65536] : List Int) : List Int)).bind fun y178 => (if (Int.tmod a0 3) < (y178.length : Int) then (if (rd y178 (Int.tmod a0 3)) = 0 then (none) else ((addr_Addr_Private.f (((rd y174 (Int.tmod a0 3)) + (Int.tmod a1 (rd y178 (Int.tmod a0 3)))) % 4294967296) a2).bind fun t182 => (if t182 = true then ((addr_Addr_Private.f (((rd y174 (Int.tmod a0 3)) - 1) % 4294967296) a2).bind fun t183 => (if t183 = true then (none) else ((addr_Addr_Private.f (((rd y174 (Int.tmod a0 3)) + (rd y178 (Int.tmod a0 3))) % 4294967296) a2).bind fun t184 => (if t184 = true then (none) else ((addr_Addr_None.f a1 0).bind fun t185 => (if t185 = true then ((addr_Addr_None.f (rd y174 (Int.tmod a0 3)) a2).bind fun t186 => (some (t186 == (a2 == 0)))) else (none))))))) else (none)))) else (none))) else (none)) else (none))) else (none))) = some r := h
  clear h
  replace H := Option.bind_eq_some_iff.mp H
  obtain ⟨t173, A40, H⟩ := H
  replace H : (if t173 = true then ((some (([167772160, 2886729728, 3232235520] : List Int) : List Int)).bind fun y174 => (if 0 ≤ (Int.tmod a0 3) then (if (Int.tmod a0 3) < (y174.length : Int) then ((some (([16777216, 1048576, 65536] : List Int) : List Int)).bind fun y178 => (if (Int.tmod a0 3) < (y178.length : Int) then (if (rd y178 (Int.tmod a0 3)) = 0 then (none) else ((addr_Addr_Private.f (((rd y174 (Int.tmod a0 3)) + (Int.tmod a1 (rd y178 (Int.tmod a0 3)))) % 4294967296) a2).bind fun t182 => (if t182 = true then ((addr_Addr_Private.f (((rd y174 (Int.tmod a0 3)) - 1) % 4294967296) a2).bind fun t183 => (if t183 = true then (none) else ((addr_Addr_Private.f (((rd y174 (Int.tmod a0 3)) + (rd y178 (Int.tmod a0 3))) % 4294967296) a2).bind fun t184 => (if t184 = true then (none) else ((addr_Addr_None.f a1 0).bind fun t185 => (if t185 = true then ((addr_Addr_None.f (rd y174 (Int.tmod a0 3)) a2).bind fun t186 => (some (t186 == (a2 == 0)))) else (none))))))) else (none)))) else (none))) else (none)) else (none))) else (none)) = some r := H
  have A4 := Aside0.mk A40
  clear A40
  by_cases c5 : t173 = true
  · (first | subst c5 | clear c5)
    have H1 : ((some (([167772160, 2886729728, 3232235520] : List Int) : List Int)).bind fun y174 => (if 0 ≤ (Int.tmod a0 3) then (if (Int.tmod a0 3) < (y174.length : Int) then ((some (([16777216, 1048576, 65536] : List Int) : List Int)).bind fun y178 => (if (Int.tmod a0 3) < (y178.length : Int) then (if (rd y178 (Int.tmod a0 3)) = 0 then (none) else ((addr_Addr_Private.f (((rd y174 (Int.tmod a0 3)) + (Int.tmod a1 (rd y178 (Int.tmod a0 3)))) % 4294967296) a2).bind fun t182 => (if t182 = true then ((addr_Addr_Private.f (((rd y174 (Int.tmod a0 3)) - 1) % 4294967296) a2).bind fun t183 => (if t183 = true then (none) else ((addr_Addr_Private.f (((rd y174 (Int.tmod a0 3)) + (rd y178 (Int.tmod a0 3))) % 4294967296) a2).bind fun t184 => (if t184 = true then (none) else ((addr_Addr_None.f a1 0).bind fun t185 => (if t185 = true then ((addr_Addr_None.f (rd y174 (Int.tmod a0 3)) a2).bind fun t186 => (some (t186 == (a2 == 0)))) else (none))))))) else (none)))) else (none))) else (none)) else (none))) = some r := by first | (rw [if_pos rfl] at H; exact H) | (rw [if_pos trivial] at H; exact H)
    clear H
    have H := H1
    clear H1
    obtain ⟨y174, hy174⟩ : ∃ y_ : List Int, y_ = (([167772160, 2886729728, 3232235520] : List Int)) := ⟨_, rfl⟩
    replace H : (if 0 ≤ (Int.tmod a0 3) then (if (Int.tmod a0 3) < (y174.length : Int) then ((some (([16777216, 1048576, 65536] : List Int) : List Int)).bind fun y178 => (if (Int.tmod a0 3) < (y178.length : Int) then (if (rd y178 (Int.tmod a0 3)) = 0 then (none) else ((addr_Addr_Private.f (((rd y174 (Int.tmod a0 3)) + (Int.tmod a1 (rd y178 (Int.tmod a0 3)))) % 4294967296) a2).bind fun t182 => (if t182 = true then ((addr_Addr_Private.f (((rd y174 (Int.tmod a0 3)) - 1) % 4294967296) a2).bind fun t183 => (if t183 = true then (none) else ((addr_Addr_Private.f (((rd y174 (Int.tmod a0 3)) + (rd y178 (Int.tmod a0 3))) % 4294967296) a2).bind fun t184 => (if t184 = true then (none) else ((addr_Addr_None.f a1 0).bind fun t185 => (if t185 = true then ((addr_Addr_None.f (rd y174 (Int.tmod a0 3)) a2).bind fun t186 => (some (t186 == (a2 == 0)))) else (none))))))) else (none)))) else (none))) else (none)) else (none)) = some r := by first | (rw [hy174]; with_reducible exact H) | (have H2_ := (Option.bind_some _ _).symm.trans H; rw [hy174]; with_reducible exact H2_) | (have H2_ := (Option.bind_some _ _).symm.trans H; with_reducible exact H2_) | with_reducible exact H | (rw [hy174]; exact H) | exact H
    have Ny174 := Aside0.mk hy174
    clear hy174
    obtain ⟨ji6, hji6⟩ : ∃ j_ : Int, (Int.tmod a0 3) = j_ := ⟨_, rfl⟩
    replace H : (if 0 ≤ (ji6) then (if (ji6) < (y174.length : Int) then ((some (([16777216, 1048576, 65536] : List Int) : List Int)).bind fun y178 => (if (ji6) < (y178.length : Int) then (if (rd y178 (ji6)) = 0 then (none) else ((addr_Addr_Private.f (((rd y174 (ji6)) + (Int.tmod a1 (rd y178 (ji6)))) % 4294967296) a2).bind fun t182 => (if t182 = true then ((addr_Addr_Private.f (((rd y174 (ji6)) - 1) % 4294967296) a2).bind fun t183 => (if t183 = true then (none) else ((addr_Addr_Private.f (((rd y174 (ji6)) + (rd y178 (ji6))) % 4294967296) a2).bind fun t184 => (if t184 = true then (none) else ((addr_Addr_None.f a1 0).bind fun t185 => (if t185 = true then ((addr_Addr_None.f (rd y174 (ji6)) a2).bind fun t186 => (some (t186 == (a2 == 0)))) else (none))))))) else (none)))) else (none))) else (none)) else (none)) = some r := by first | (rw [hji6] at H; exact H) | (simp only [hji6] at H ⊢; exact H)
    (try rw [hji6] at A4)
    by_cases c7 : 0 ≤ (ji6)
    · rw [if_pos c7] at H
      have c7b0 : decide (0 ≤ (ji6)) = true := decide_eq_true c7
      clear c7
      by_cases c8 : (ji6) < (y174.length : Int)
      · rw [if_pos c8] at H
        have c8b0 : decide ((ji6) < (y174.length : Int)) = true := decide_eq_true c8
        clear c8
        obtain ⟨y178, hy178⟩ : ∃ y_ : List Int, y_ = (([16777216, 1048576, 65536] : List Int)) := ⟨_, rfl⟩
        replace H : (if (ji6) < (y178.length : Int) then (if (rd y178 (ji6)) = 0 then (none) else ((addr_Addr_Private.f (((rd y174 (ji6)) + (Int.tmod a1 (rd y178 (ji6)))) % 4294967296) a2).bind fun t182 => (if t182 = true then ((addr_Addr_Private.f (((rd y174 (ji6)) - 1) % 4294967296) a2).bind fun t183 => (if t183 = true then (none) else ((addr_Addr_Private.f (((rd y174 (ji6)) + (rd y178 (ji6))) % 4294967296) a2).bind fun t184 => (if t184 = true then (none) else ((addr_Addr_None.f a1 0).bind fun t185 => (if t185 = true then ((addr_Addr_None.f (rd y174 (ji6)) a2).bind fun t186 => (some (t186 == (a2 == 0)))) else (none))))))) else (none)))) else (none)) = some r := by first | (rw [hy178]; with_reducible exact H) | (have H2_ := (Option.bind_some _ _).symm.trans H; rw [hy178]; with_reducible exact H2_) | (have H2_ := (Option.bind_some _ _).symm.trans H; with_reducible exact H2_) | with_reducible exact H | (rw [hy178]; exact H) | exact H
        have Ny178 := Aside0.mk hy178
        clear hy178
        by_cases c9 : (ji6) < (y178.length : Int)
        · rw [if_pos c9] at H
          have c9b0 : decide ((ji6) < (y178.length : Int)) = true := decide_eq_true c9
          clear c9
          by_cases c10 : (rd y178 (ji6)) = 0
          · rw [if_pos c10] at H
            exact absurd H (by simp)
          · (first | rw [if_neg c10] at H | exact absurd rfl c10)
            have c10b0 : ((rd y178 (ji6)) == 0) = false := beq_eq_false_iff_ne.mpr c10
            have c10b1 : ((rd y178 (ji6)) != 0) = true := bne_iff_ne.mpr c10
            replace H := Option.bind_eq_some_iff.mp H
            obtain ⟨t182, A110, H⟩ := H
            replace H : (if t182 = true then ((addr_Addr_Private.f (((rd y174 (ji6)) - 1) % 4294967296) a2).bind fun t183 => (if t183 = true then (none) else ((addr_Addr_Private.f (((rd y174 (ji6)) + (rd y178 (ji6))) % 4294967296) a2).bind fun t184 => (if t184 = true then (none) else ((addr_Addr_None.f a1 0).bind fun t185 => (if t185 = true then ((addr_Addr_None.f (rd y174 (ji6)) a2).bind fun t186 => (some (t186 == (a2 == 0)))) else (none))))))) else (none)) = some r := H
            have A11 := Aside0.mk A110
            clear A110
            by_cases c12 : t182 = true
            · (first | subst c12 | clear c12)
              have H1 : ((addr_Addr_Private.f (((rd y174 (ji6)) - 1) % 4294967296) a2).bind fun t183 => (if t183 = true then (none) else ((addr_Addr_Private.f (((rd y174 (ji6)) + (rd y178 (ji6))) % 4294967296) a2).bind fun t184 => (if t184 = true then (none) else ((addr_Addr_None.f a1 0).bind fun t185 => (if t185 = true then ((addr_Addr_None.f (rd y174 (ji6)) a2).bind fun t186 => (some (t186 == (a2 == 0)))) else (none))))))) = some r := by first | (rw [if_pos rfl] at H; exact H) | (rw [if_pos trivial] at H; exact H)
              clear H
              have H := H1
              clear H1
              replace H := Option.bind_eq_some_iff.mp H
              obtain ⟨t183, A130, H⟩ := H
              replace H : (if t183 = true then (none) else ((addr_Addr_Private.f (((rd y174 (ji6)) + (rd y178 (ji6))) % 4294967296) a2).bind fun t184 => (if t184 = true then (none) else ((addr_Addr_None.f a1 0).bind fun t185 => (if t185 = true then ((addr_Addr_None.f (rd y174 (ji6)) a2).bind fun t186 => (some (t186 == (a2 == 0)))) else (none)))))) = some r := H
              have A13 := Aside0.mk A130
              clear A130
              by_cases c14 : t183 = true
              · (first | subst c14 | clear c14)
                have H1 : (none) = some r := by first | (rw [if_pos rfl] at H; exact H) | (rw [if_pos trivial] at H; exact H)
                clear H
                have H := H1
                clear H1
                exact absurd H (by simp)
              · replace c14 := Bool.eq_false_iff.mpr c14
                (first | subst c14 | clear c14)
                have H1 : ((addr_Addr_Private.f (((rd y174 (ji6)) + (rd y178 (ji6))) % 4294967296) a2).bind fun t184 => (if t184 = true then (none) else ((addr_Addr_None.f a1 0).bind fun t185 => (if t185 = true then ((addr_Addr_None.f (rd y174 (ji6)) a2).bind fun t186 => (some (t186 == (a2 == 0)))) else (none))))) = some r := by rw [if_neg (show ¬ (false = true) by decide)] at H; exact H
                clear H
                have H := H1
                clear H1
                replace H := Option.bind_eq_some_iff.mp H
                obtain ⟨t184, A150, H⟩ := H
                replace H : (if t184 = true then (none) else ((addr_Addr_None.f a1 0).bind fun t185 => (if t185 = true then ((addr_Addr_None.f (rd y174 (ji6)) a2).bind fun t186 => (some (t186 == (a2 == 0)))) else (none)))) = some r := H
                have A15 := Aside0.mk A150
                clear A150
                by_cases c16 : t184 = true
                · (first | subst c16 | clear c16)
                  have H1 : (none) = some r := by first | (rw [if_pos rfl] at H; exact H) | (rw [if_pos trivial] at H; exact H)
                  clear H
                  have H := H1
                  clear H1
                  exact absurd H (by simp)
                · replace c16 := Bool.eq_false_iff.mpr c16
                  (first | subst c16 | clear c16)
                  have H1 : ((addr_Addr_None.f a1 0).bind fun t185 => (if t185 = true then ((addr_Addr_None.f (rd y174 (ji6)) a2).bind fun t186 => (some (t186 == (a2 == 0)))) else (none))) = some r := by rw [if_neg (show ¬ (false = true) by decide)] at H; exact H
                  clear H
                  have H := H1
                  clear H1
                  replace H := Option.bind_eq_some_iff.mp H
                  obtain ⟨t185, A170, H⟩ := H
                  replace H : (if t185 = true then ((addr_Addr_None.f (rd y174 (ji6)) a2).bind fun t186 => (some (t186 == (a2 == 0)))) else (none)) = some r := H
                  have A17 := Aside0.mk A170
                  clear A170
                  by_cases c18 : t185 = true
                  · (first | subst c18 | clear c18)
                    have H1 : ((addr_Addr_None.f (rd y174 (ji6)) a2).bind fun t186 => (some (t186 == (a2 == 0)))) = some r := by first | (rw [if_pos rfl] at H; exact H) | (rw [if_pos trivial] at H; exact H)
                    clear H
                    have H := H1
                    clear H1
                    replace H := Option.bind_eq_some_iff.mp H
                    obtain ⟨t186, A190, H⟩ := H
                    replace H : (some (t186 == (a2 == 0))) = some r := H
                    have A19 := Aside0.mk A190
                    clear A190
                    obtain rfl := Option.some.inj H
                    go_enter Tryd.func7, Tryd.ntmps7
                    go_wp2_with (first | ((with_reducible refine gate_callee (f := 9) rfl ?_); refine goesL_ (some 10) rfl rfl Tryd.func9 (by kernel_rfl) rfl #[] rfl (by (try simp only [List.map_toArray, List.map_cons, List.map_nil]); first | done | rfl | (simp only [List.length_drop, List.length_take]; rfl)) ?_; (with_reducible refine (scuttlebuttlaw03_examples.calls k  true _ A4.out).mono ?_); rintro e w20 ⟨rfl, hb⟩; refine ⟨_, rfl, ?_⟩; have n0_ := Aside0.mk (below_step (by repeat (first | (with_reducible first | exact HB.out | apply below_alloc | apply pw_below_drewN | apply below_drew1) | exact HB.out)) hb); clear HB; have HB := n0_; clear n0_; (try clear hb); (try clear hb2); (try clear hk); (try clear hi)) | ((with_reducible refine gate_dst (N := 13) rfl ?_); refine Kd.R_lit (Kd.int .u32) _ 22 ?hg (N := 13) ?hd (xs := ([167772160, 2886729728, 3232235520] : List Int)) (inner := [.int .u32 167772160, .int .u32 2886729728, .int .u32 3232235520]) (ok := fun _ => True) (okp := fun _ => True) ?hr ?hp (fun _ hk => hk) trivial (Below.refl _ _) (Nat.le_refl _) (by simp) ?_; (case hd => rfl); (case hg => rfl); (case hr => first | (go_simp; done) | (go_simp; rfl)); (case hp => exact (Reps.one (show Kd.M (Kd.int .u32) _ _ _ 167772160 [.int .u32 167772160] from rfl) (Reps.one (show Kd.M (Kd.int .u32) _ _ _ 2886729728 [.int .u32 2886729728] from rfl) (Reps.one (show Kd.M (Kd.int .u32) _ _ _ 3232235520 [.int .u32 3232235520] from rfl) (Reps.none _ _))))); intro v175 w21 ho22 hb hg_ hnew_; clear hg_ hnew_; (first | rw [← Ny174.out] at ho22 | (simp only [Int.reduceToNat] at ho22; rw [← Ny174.out] at ho22)); have n0_ := Aside0.mk (Kd.R_lower ho22 (below_size (by repeat (first | (with_reducible first | exact HB.out | apply below_alloc | apply pw_below_drewN | apply below_drew1) | exact HB.out)))); have n1_ := Aside0.mk (below_step (by repeat (first | (with_reducible first | exact HB.out | apply below_alloc | apply pw_below_drewN | apply below_drew1) | exact HB.out)) hb); clear HB; have HO176 := n0_; have HB := n1_; clear n0_ n1_; clear hb ho22; obtain ⟨Ao23, co23, eo23⟩ := Kd.R_slice HO176.out; subst eo23; have p177 : 0 ≤ ((ji6) : Int) := of_decide_eq_true (by first | (with_reducible assumption) | assumption); have q177 : (ji6) < (y174.length : Int) := of_decide_eq_true (by first | (with_reducible assumption) | assumption); obtain ⟨ad177, e177, hx177_0⟩ := Kd.at_int (Kd.R_reads' HO176.out).2.2 (ji6) p177 q177; cases e177; replace p177 := eq_true p177; replace q177 := eq_true q177) | ((with_reducible refine gate_dst (N := 18) rfl ?_); refine Kd.R_lit (Kd.int .u32) _ 22 ?hg (N := 18) ?hd (xs := ([16777216, 1048576, 65536] : List Int)) (inner := [.int .u32 16777216, .int .u32 1048576, .int .u32 65536]) (ok := fun _ => True) (okp := fun _ => True) ?hr ?hp (fun _ hk => hk) trivial (Below.refl _ _) (Nat.le_refl _) (by simp) ?_; (case hd => rfl); (case hg => rfl); (case hr => first | (go_simp; done) | (go_simp; rfl)); (case hp => exact (Reps.one (show Kd.M (Kd.int .u32) _ _ _ 16777216 [.int .u32 16777216] from rfl) (Reps.one (show Kd.M (Kd.int .u32) _ _ _ 1048576 [.int .u32 1048576] from rfl) (Reps.one (show Kd.M (Kd.int .u32) _ _ _ 65536 [.int .u32 65536] from rfl) (Reps.none _ _))))); intro v179 w24 ho25 hb hg_ hnew_; clear hg_ hnew_; (first | rw [← Ny178.out] at ho25 | (simp only [Int.reduceToNat] at ho25; rw [← Ny178.out] at ho25)); have n0_ := Aside0.mk (Kd.R_elder' (by (with_reducible repeat (first | apply Kd.R_alloc | apply Kd.R_drewN | apply Kd.R_drew)); exact HO176.out) (Kd.R_base ho25) hb); have n1_ := Aside0.mk (Kd.R_lower (Kd.R_new' ho25 (Kd.R_lt (by (with_reducible repeat (first | apply Kd.R_alloc | apply Kd.R_drewN | apply Kd.R_drew)); exact HO176.out))) (below_size (by repeat (first | (with_reducible first | exact HB.out | apply below_alloc | apply pw_below_drewN | apply below_drew1) | exact HB.out)))); have n2_ := Aside0.mk (below_step (by repeat (first | (with_reducible first | exact HB.out | apply below_alloc | apply pw_below_drewN | apply below_drew1) | exact HB.out)) hb); clear HO176; clear HB; have HO176 := n0_; have HO180 := n1_; have HB := n2_; clear n0_ n1_ n2_; clear hb ho25; obtain ⟨Ao26, co26, eo26⟩ := Kd.R_slice HO180.out; subst eo26; have p181 : 0 ≤ ((ji6) : Int) := of_decide_eq_true (by first | (with_reducible assumption) | assumption); have q181 : (ji6) < (y178.length : Int) := of_decide_eq_true (by first | (with_reducible assumption) | assumption); obtain ⟨ad181, e181, hx181_0⟩ := Kd.at_int (Kd.R_reads' HO180.out).2.2 (ji6) p181 q181; cases e181; replace p181 := eq_true p181; replace q181 := eq_true q181) | (go_at_call 17; (with_reducible refine (addr_Addr_Private.calls (((rd y174 (ji6)) + (Int.tmod a1 (rd y178 (ji6)))) % 4294967296) a2 true _ A11.out).mono ?_); rintro e w27 ⟨rfl, hb⟩; have n0_ := Aside0.mk (Kd.R_below (by (with_reducible repeat (first | apply Kd.R_alloc | apply Kd.R_drewN | apply Kd.R_drew)); exact HO176.out) hb); have n1_ := Aside0.mk (Kd.R_below (by (with_reducible repeat (first | apply Kd.R_alloc | apply Kd.R_drewN | apply Kd.R_drew)); exact HO180.out) hb); have n2_ := Aside0.mk (below_step (by repeat (first | (with_reducible first | exact HB.out | apply below_alloc | apply pw_below_drewN | apply below_drew1) | exact HB.out)) hb); clear HO176; clear HO180; clear HB; have HO176 := n0_; have HO180 := n1_; have HB := n2_; clear n0_ n1_ n2_; (try clear hb); (try clear hb2); (try clear hk); (try clear hi)) | (go_at_call 17; (with_reducible refine (addr_Addr_Private.calls (((rd y174 (ji6)) - 1) % 4294967296) a2 false _ A13.out).mono ?_); rintro e w28 ⟨rfl, hb⟩; have n0_ := Aside0.mk (Kd.R_below (by (with_reducible repeat (first | apply Kd.R_alloc | apply Kd.R_drewN | apply Kd.R_drew)); exact HO176.out) hb); have n1_ := Aside0.mk (Kd.R_below (by (with_reducible repeat (first | apply Kd.R_alloc | apply Kd.R_drewN | apply Kd.R_drew)); exact HO180.out) hb); have n2_ := Aside0.mk (below_step (by repeat (first | (with_reducible first | exact HB.out | apply below_alloc | apply pw_below_drewN | apply below_drew1) | exact HB.out)) hb); clear HO176; clear HO180; clear HB; have HO176 := n0_; have HO180 := n1_; have HB := n2_; clear n0_ n1_ n2_; (try clear hb); (try clear hb2); (try clear hk); (try clear hi)) | (go_at_call 17; (with_reducible refine (addr_Addr_Private.calls (((rd y174 (ji6)) + (rd y178 (ji6))) % 4294967296) a2 false _ A15.out).mono ?_); rintro e w29 ⟨rfl, hb⟩; have n0_ := Aside0.mk (Kd.R_below (by (with_reducible repeat (first | apply Kd.R_alloc | apply Kd.R_drewN | apply Kd.R_drew)); exact HO176.out) hb); have n1_ := Aside0.mk (Kd.R_below (by (with_reducible repeat (first | apply Kd.R_alloc | apply Kd.R_drewN | apply Kd.R_drew)); exact HO180.out) hb); have n2_ := Aside0.mk (below_step (by repeat (first | (with_reducible first | exact HB.out | apply below_alloc | apply pw_below_drewN | apply below_drew1) | exact HB.out)) hb); clear HO176; clear HO180; clear HB; have HO176 := n0_; have HO180 := n1_; have HB := n2_; clear n0_ n1_ n2_; (try clear hb); (try clear hb2); (try clear hk); (try clear hi)) | (go_at_call 15; (with_reducible refine (addr_Addr_None.calls a1 0 true _ A17.out).mono ?_); rintro e w30 ⟨rfl, hb⟩; have n0_ := Aside0.mk (Kd.R_below (by (with_reducible repeat (first | apply Kd.R_alloc | apply Kd.R_drewN | apply Kd.R_drew)); exact HO176.out) hb); have n1_ := Aside0.mk (Kd.R_below (by (with_reducible repeat (first | apply Kd.R_alloc | apply Kd.R_drewN | apply Kd.R_drew)); exact HO180.out) hb); have n2_ := Aside0.mk (below_step (by repeat (first | (with_reducible first | exact HB.out | apply below_alloc | apply pw_below_drewN | apply below_drew1) | exact HB.out)) hb); clear HO176; clear HO180; clear HB; have HO176 := n0_; have HO180 := n1_; have HB := n2_; clear n0_ n1_ n2_; (try clear hb); (try clear hb2); (try clear hk); (try clear hi)) | (go_at_call 15; (with_reducible refine (addr_Addr_None.calls (rd y174 (ji6)) a2 t186 _ A19.out).mono ?_); rintro e w31 ⟨rfl, hb⟩; have n0_ := Aside0.mk (Kd.R_below (by (with_reducible repeat (first | apply Kd.R_alloc | apply Kd.R_drewN | apply Kd.R_drew)); exact HO176.out) hb); have n1_ := Aside0.mk (Kd.R_below (by (with_reducible repeat (first | apply Kd.R_alloc | apply Kd.R_drewN | apply Kd.R_drew)); exact HO180.out) hb); have n2_ := Aside0.mk (below_step (by repeat (first | (with_reducible first | exact HB.out | apply below_alloc | apply pw_below_drewN | apply below_drew1) | exact HB.out)) hb); clear HO176; clear HO180; clear HB; have HO176 := n0_; have HO180 := n1_; have HB := n2_; clear n0_ n1_ n2_; (try clear hb); (try clear hb2); (try clear hk); (try clear hi)))
                    go_ret
                    exact ⟨by first | rfl | (simp only [Go.Proofs.YtjlpfmiipicnoaaDoorX.ne_nil, Go.Proofs.YtjlpfmiipicnoaaDoorX.eq_nil]; rfl) | (simp [Go.Proofs.YtjlpfmiipicnoaaDoorX.ne_nil, Go.Proofs.YtjlpfmiipicnoaaDoorX.eq_nil]; done) | (simp [errW_none, errW_some] <;> rfl) | (simp only [← hji6]; first | rfl | (simp [errW_none, errW_some] <;> rfl)) | (simp [*, errW_none, errW_some] <;> rfl), by repeat (first | (with_reducible first | exact HB.out | apply below_alloc | apply pw_below_drewN | apply below_drew1) | exact HB.out)⟩
                  · replace c18 := Bool.eq_false_iff.mpr c18
                    (first | subst c18 | clear c18)
                    have H1 : (none) = some r := by rw [if_neg (show ¬ (false = true) by decide)] at H; exact H
                    clear H
                    have H := H1
                    clear H1
                    exact absurd H (by simp)
            · replace c12 := Bool.eq_false_iff.mpr c12
              (first | subst c12 | clear c12)
              have H1 : (none) = some r := by rw [if_neg (show ¬ (false = true) by decide)] at H; exact H
              clear H
              have H := H1
              clear H1
              exact absurd H (by simp)
        · (first | rw [if_neg c9] at H | exact absurd rfl c9)
          exact absurd H (by simp)
      · (first | rw [if_neg c8] at H | exact absurd rfl c8)
        exact absurd H (by simp)
    · (first | rw [if_neg c7] at H | exact absurd rfl c7)
      exact absurd H (by simp)
  · replace c5 := Bool.eq_false_iff.mpr c5
    (first | subst c5 | clear c5)
    have H1 : (none) = some r := by rw [if_neg (show ¬ (false = true) by decide)] at H; exact H
    clear H
    have H := H1
    clear H1
    exact absurd H (by simp)

/-- THE ONE PURE STATEMENT of scuttlebuttlaw03_AddrPrivate: yours. -/
def scuttlebuttlaw03_AddrPrivate.Pure : Prop := ∀ (a0 : Int) (a1 : Int) (a2 : Int), (Lit.int .u8 a0).wf = true → (Lit.int .u32 a1).wf = true → (Lit.int .u16 a2).wf = true → ∃ k, scuttlebuttlaw03_AddrPrivate.f k a0 a1 a2 = some true
theorem scuttlebuttlaw03_AddrPrivate.walk (P : scuttlebuttlaw03_AddrPrivate.Pure) (a0 : Int) (a1 : Int) (a2 : Int) (w : World) (w0 : (Lit.int .u8 a0).wf = true) (w1 : (Lit.int .u32 a1).wf = true) (w2 : (Lit.int .u16 a2).wf = true) :
    Calls Tryd.prog 7 #[.int .u8 a0, .int .u32 a1, .int .u16 a2] w fun e w' => e = .returned (.bool true) ∧ Below w.heap.size w w' := by
  obtain ⟨k, h⟩ := P a0 a1 a2 w0 w1 w2
  refine (scuttlebuttlaw03_AddrPrivate.calls k a0 a1 a2 true w h).mono ?_
  rintro e w' ⟨rfl, hd⟩
  exact ⟨rfl, hd⟩

end Go.Proofs.YtjlpfmiipicnoaaDoor.PA
