/- Chapter 9's examples: they are so. No condition. -/
import Derived.Test.YtlpiodcklacdpaaBL
import Derived.Deep.RegionHeld3
namespace Go.Proofs.Ytlpiodcklacdpaa.BG
set_option linter.unusedVariables false
set_option linter.unusedSimpArgs false
open Go Go.RowKit Go.Proofs.YtlpiodcklacdpaaS Go.Proofs.YtlpiodcklacdpaaS.Asn Go.Proofs.Ytlpiodcklacdpaa.PA Go.Proofs.YtlpiodcklacdpaaW.PrintWords Go.Proofs.YtlpiodcklacdpaaW.PrintLast Go.Proofs.YtlpiodcklacdpaaW.PrintMore
def x5 : It := ⟨1, 1, 1, 1, ⟨#[120]⟩, 5⟩
def x8 : It := ⟨1, 1, 1, 1, ⟨#[120]⟩, 8⟩
def x0 : It := ⟨1, 1, 1, 1, ⟨#[]⟩, 0⟩
theorem ex1 : awayE [] 0 0 = (It.zero, 5, []) := by rfl
theorem ex2 : putE 2 [] x5 = 0 := by decide +kernel
theorem ex2L : putL 2 [] x5 = [x5] := by rfl
theorem ex3 : putE 2 [x5] x0 = 3 := by decide +kernel
theorem ex3L : putL 2 [x5] x0 = [x5] := by rfl
theorem ex4 : awayE [x5] 4 0 = (It.zero, 5, [x5]) := by rfl
theorem ex5 : twiceE 2 [x5] 3 = 0 := by decide +kernel
theorem ex5L : twiceL 2 [x5] 3 = [x5, x5] := by rfl
theorem ex6 : twiceE 2 [x5, x5] 3 = 4 := by decide +kernel
theorem ex6L : twiceL 2 [x5, x5] 3 = [x5, x5] := by rfl
theorem ex7 : delayE [x5, x5] 1 = 0 := by decide +kernel
theorem ex7L : delayL [x5, x5] 1 3 = [x5, x8] := by rfl
theorem ex8 : awayE [x5, x8] 5 7 = (x5, 0, [x8]) := by rfl
theorem ex9 : rdy [x8] 5 = 0 := by decide +kernel
theorem facts2g {w0 w : World} {ok0 : Nat → Prop} {F : Asn} {g : Nat} {t : TypeId} {a b : Value} (h : Sep w0 ok0 (pt g #[a, b] t ⋆ F) w) :
    w.cell? ⟨g, 0, none⟩ = some a ∧ w.cell? ⟨g, 1, none⟩ = some b := ⟨sep_cell h 0, sep_cell h 1⟩
set_option maxHeartbeats 4000000 in
theorem examples_walk (w : World) : Calls Try.prog 9 #[] w fun e w' => e = .returned (.bool true) ∧ Below w.heap.size w w' := by
  have HS := Aside0.mk (sep_start w)
  go_enter Try.func9, Try.ntmps9
  go_upto_region 3 with (first | (go_at_call 10; (with_reducible refine Calls.mono (bag_New_none 0 _ (by decide)) ?_); rintro e w1 ⟨rfl, hb_⟩; have n_ := sep_below HS.out hb_; clear hb_; have n0_ := Aside0.mk n_; clear HS n_; have HS := n0_; clear n0_) | (go_at_call 10; (with_reducible refine Calls.mono (bag_New 2 _ (by decide) (by decide)) ?_); rintro e w2 ⟨p, rfl, hm_⟩; have n_ := sep_made_of HS.out (sep_only hm_); clear hm_; have n0_ := Aside0.mk n_; clear HS n_; have HS := n0_; clear n0_))
  go_upto_region 6 with (fail)
  have n_ := sep_l1 (sep_alloc HS.out #[.int .u32 1, .int .u16 1] 32)
  have n0_ := Aside0.mk n_; clear HS n_; have HS := n0_; clear n0_
  generalize w2.alloc (.cells #[.int .u32 1, .int .u16 1] 32) = wa at HS ⊢
  generalize w2.heap.size = g5 at HS ⊢
  obtain ⟨k1, k2⟩ := facts2g (sep_l1 HS.out)
  go_upto_region 7 with (go_at_call 13; obtain ⟨ok_, hp_, hk_⟩ := sep_use1 HS.out; have hx_ := bag_Take p [] 2 0 0 _ ok_ (by decide) hp_; rw [ex1] at hx_; dsimp only [It.val, It.zero, x5, x8] at hx_; (with_reducible refine Calls.mono hx_ ?_); rintro e w1 ⟨rfl, hq_⟩; have n_ := back1 hk_ hq_; clear hx_ hp_ hk_ hq_; have n0_ := Aside0.mk n_; clear HS n_; have HS := n0_; clear n0_; clear k1 k2; obtain ⟨k1, k2⟩ := facts2g (sep_l1 HS.out))
  have n_ := sep_skip HS.out (.cells #[.int .u32 0, .int .u16 0, .int .u32 0, .int .u16 0, .string ⟨#[]⟩, .int .u64 0] 35)
  have n0_ := Aside0.mk n_; clear HS n_; have HS := n0_; clear n0_
  generalize w1.alloc (.cells #[.int .u32 0, .int .u16 0, .int .u32 0, .int .u16 0, .string ⟨#[]⟩, .int .u64 0] 35) = w1 at HS ⊢
  clear k1 k2; obtain ⟨k1, k2⟩ := facts2g (sep_l1 HS.out)
  go_upto_region 8 with (go_at_call 11; obtain ⟨ok_, hp_, hk_⟩ := sep_use1 HS.out; have hx_ := bag_PutE p [] 2 x5 _ ok_ (by decide) hp_; rw [ex2, ex2L] at hx_; dsimp only [It.val, x5, x0] at hx_; (with_reducible refine Calls.mono hx_ ?_); rintro e w1 ⟨rfl, hq_⟩; have n_ := back1 hk_ hq_; clear hx_ hp_ hk_ hq_; have n0_ := Aside0.mk n_; clear HS n_; have HS := n0_; clear n0_; clear k1 k2; obtain ⟨k1, k2⟩ := facts2g (sep_l1 HS.out))
  go_upto_region 9 with (go_at_call 11; obtain ⟨ok_, hp_, hk_⟩ := sep_use1 HS.out; have hx_ := bag_PutE p [x5] 2 x0 _ ok_ (by decide) hp_; rw [ex3, ex3L] at hx_; dsimp only [It.val, x5, x0] at hx_; (with_reducible refine Calls.mono hx_ ?_); rintro e w1 ⟨rfl, hq_⟩; have n_ := back1 hk_ hq_; clear hx_ hp_ hk_ hq_; have n0_ := Aside0.mk n_; clear HS n_; have HS := n0_; clear n0_; clear k1 k2; obtain ⟨k1, k2⟩ := facts2g (sep_l1 HS.out))
  go_upto_region 10 with (go_at_call 13; obtain ⟨ok_, hp_, hk_⟩ := sep_use1 HS.out; have hx_ := bag_Take p [x5] 2 4 0 _ ok_ (by decide) hp_; rw [ex4] at hx_; dsimp only [It.val, It.zero, x5, x8] at hx_; (with_reducible refine Calls.mono hx_ ?_); rintro e w1 ⟨rfl, hq_⟩; have n_ := back1 hk_ hq_; clear hx_ hp_ hk_ hq_; have n0_ := Aside0.mk n_; clear HS n_; have HS := n0_; clear n0_; clear k1 k2; obtain ⟨k1, k2⟩ := facts2g (sep_l1 HS.out))
  have n_ := sep_skip HS.out (.cells #[.int .u32 0, .int .u16 0, .int .u32 0, .int .u16 0, .string ⟨#[]⟩, .int .u64 0] 35)
  have n0_ := Aside0.mk n_; clear HS n_; have HS := n0_; clear n0_
  generalize w1.alloc (.cells #[.int .u32 0, .int .u16 0, .int .u32 0, .int .u16 0, .string ⟨#[]⟩, .int .u64 0] 35) = w1 at HS ⊢
  clear k1 k2; obtain ⟨k1, k2⟩ := facts2g (sep_l1 HS.out)
  go_upto_region 11 with (go_at_call 22; obtain ⟨ok_, hp_, hk_⟩ := sep_use1 HS.out; have hx_ := bag_Twice p [x5] 2 3 _ ok_ (by decide) (by decide) hp_; rw [ex5, ex5L] at hx_; (with_reducible refine Calls.mono hx_ ?_); rintro e w1 ⟨rfl, hq_⟩; have n_ := back1 hk_ hq_; clear hx_ hp_ hk_ hq_; have n0_ := Aside0.mk n_; clear HS n_; have HS := n0_; clear n0_; clear k1 k2; obtain ⟨k1, k2⟩ := facts2g (sep_l1 HS.out))
  go_upto_region 12 with (go_at_call 22; obtain ⟨ok_, hp_, hk_⟩ := sep_use1 HS.out; have hx_ := bag_Twice p [x5, x5] 2 3 _ ok_ (by decide) (by decide) hp_; rw [ex6, ex6L] at hx_; (with_reducible refine Calls.mono hx_ ?_); rintro e w1 ⟨rfl, hq_⟩; have n_ := back1 hk_ hq_; clear hx_ hp_ hk_ hq_; have n0_ := Aside0.mk n_; clear HS n_; have HS := n0_; clear n0_; clear k1 k2; obtain ⟨k1, k2⟩ := facts2g (sep_l1 HS.out))
  go_upto_region 13 with (go_at_call 15; obtain ⟨ok_, hp_, hk_⟩ := sep_use1 HS.out; have hx_ := bag_Delay p [x5, x5] 2 1 3 _ ok_ (by decide) (by decide) (by intro x hx; simp at hx; subst hx; decide) hp_; rw [ex7, ex7L] at hx_; (with_reducible refine Calls.mono hx_ ?_); rintro e w1 ⟨rfl, hq_⟩; have n_ := back1 hk_ hq_; clear hx_ hp_ hk_ hq_; have n0_ := Aside0.mk n_; clear HS n_; have HS := n0_; clear n0_; clear k1 k2; obtain ⟨k1, k2⟩ := facts2g (sep_l1 HS.out))
  go_upto_region 14 with (go_at_call 13; obtain ⟨ok_, hp_, hk_⟩ := sep_use1 HS.out; have hx_ := bag_Take p [x5, x8] 2 5 7 _ ok_ (by decide) hp_; rw [ex8] at hx_; dsimp only [It.val, It.zero, x5, x8] at hx_; (with_reducible refine Calls.mono hx_ ?_); rintro e w1 ⟨rfl, hq_⟩; have n_ := back1 hk_ hq_; clear hx_ hp_ hk_ hq_; have n0_ := Aside0.mk n_; clear HS n_; have HS := n0_; clear n0_; clear k1 k2; obtain ⟨k1, k2⟩ := facts2g (sep_l1 HS.out))
  have n_ := sep_l1 (sep_alloc HS.out #[.int .u32 1, .int .u16 1, .int .u32 1, .int .u16 1, .string ⟨#[120]⟩, .int .u64 5] 35)
  have n0_ := Aside0.mk n_; clear HS n_; have HS := n0_; clear n0_
  generalize w1.alloc (.cells #[.int .u32 1, .int .u16 1, .int .u32 1, .int .u16 1, .string ⟨#[120]⟩, .int .u64 5] 35) = wz at HS ⊢
  generalize w1.heap.size = g15 at HS ⊢
  clear k1 k2
  obtain ⟨k1, k2, k3, k4, k5, k6⟩ := facts6 (sep_l1 HS.out)
  go_wp2_with (first | (go_at_call 14; obtain ⟨ok_, hp_, hk_⟩ := sep_use1 HS.out; have hx_ := bag_Len p [x8] 2 _ ok_ hp_; (with_reducible refine Calls.mono hx_ ?_); rintro e w1 ⟨rfl, hq_⟩; have n_ := back1 hk_ hq_; clear hx_ hp_ hk_ hq_; have n0_ := Aside0.mk n_; clear HS n_; have HS := n0_; clear n0_) | (go_at_call 12; obtain ⟨ok_, hp_, hk_⟩ := sep_use1 HS.out; have hx_ := bag_Ready p [x8] 2 5 _ ok_ hp_; rw [ex9] at hx_; (with_reducible refine Calls.mono hx_ ?_); rintro e w1 ⟨rfl, hq_⟩; have n_ := back1 hk_ hq_; clear hx_ hp_ hk_ hq_; have n0_ := Aside0.mk n_; clear HS n_; have HS := n0_; clear n0_) | (go_at_call 16; obtain ⟨ok_, hp_, hk_⟩ := sep_use1 HS.out; have hx_ := bag_Items p [x8] 2 _ ok_ (by decide) hp_; (with_reducible refine Calls.mono hx_ ?_); rintro e w1 ⟨v_, rfl, hq_⟩; have n_ := back2 hk_ hq_; clear hx_ hp_ hk_ hq_; obtain ⟨Av, cv, rfl, -, -⟩ := sep_row n_; have n0_ := Aside0.mk n_; clear HS n_; have HS := n0_; clear n0_))
  go_ret
  exact ⟨rfl, sep_below_of HS.out⟩
end Go.Proofs.Ytlpiodcklacdpaa.BG
