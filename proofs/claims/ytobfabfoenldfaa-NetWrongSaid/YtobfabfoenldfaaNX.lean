/- Chapter 20's examples: they are so. No condition. -/
import Derived.Test.YtobfabfoenldfaaNR
namespace Go.Proofs.Ytobfabfoenldfaa.NW
set_option linter.unusedVariables false
set_option linter.unusedSimpArgs false
open Go Go.RowKit Go.Proofs.YtobfabfoenldfaaS Go.Proofs.YtobfabfoenldfaaS.Asn Go.Proofs.Ytobfabfoenldfaa.PA Go.Proofs.YtobfabfoenldfaaW.PrintWords Go.Proofs.YtobfabfoenldfaaW.PrintLast Go.Proofs.YtobfabfoenldfaaW.PrintMore


open Go.Proofs.Ytobfabfoenldfaa.BG
def xh : List Hs := [⟨5, 7, 0⟩, ⟨10, 7, 1⟩]
def xs : Sp := ⟨0, 2, 9, 10, 2⟩
def xx : It := ⟨9, 20000, 5, 7, ⟨#[120]⟩, 1⟩
def xy : It := ⟨5, 7, 9, 20000, ⟨#[121]⟩, 2⟩
def xz : It := ⟨6, 6, 9, 20000, ⟨#[122]⟩, 3⟩
def xb (un : Int) : Bx := ⟨0, 2, 9, 10, 2, [bd1 ⟨10, 7⟩ ⟨0, 0⟩ [⟨5, 7⟩] un]⟩
theorem x_out (q : Nat) : OutIs q xs.bx (xb 10) 0 ⟨10, 7⟩ ⟨5, 7⟩ ⟨9, 20000⟩ := out_first q 0 2 9 10 2 0 ⟨10, 7⟩ ⟨5, 7⟩ rfl rfl (by decide) (by decide) (.inl rfl) (by decide)
theorem x_in (q : Nat) : InIs q (xb 10) (xb 12) 2 20000 ⟨5, 7⟩ ⟨10, 7⟩ 0 := in_at q 0 2 9 10 2 2 _ 0 (bd1 ⟨10, 7⟩ ⟨0, 0⟩ [⟨5, 7⟩] 10) true ⟨5, 7⟩ rfl (by decide) (by decide) (by decide) (fun x hx => by obtain rfl := List.mem_singleton.1 hx; decide) rfl rfl (by decide) rfl
theorem x_in2 (q : Nat) : InIs q (xb 12) (xb 12) 3 20000 ⟨6, 6⟩ ⟨0, 0⟩ 5 := in_at q 0 2 9 10 2 3 _ 0 (bd1 ⟨10, 7⟩ ⟨0, 0⟩ [⟨5, 7⟩] 12) false ⟨6, 6⟩ rfl (by decide) (by decide) (by decide) (fun x hx => by obtain rfl := List.mem_singleton.1 hx; decide) rfl rfl (by decide) rfl
theorem x_arr1 (p pb q : Nat) (X : Asn) : ArrIs p pb xh [q] X X 1 xx 1 := by
  have := arr_host p pb xh [q] X 1 xx rfl (by decide)
  rwa [show idx (hostH ⟨xx.ti, xx.tp, 0⟩) xh + 1 = 1 by decide +kernel] at this
theorem x_arr2 (p pb q : Nat) : ArrIs p pb xh [q] (boxA q (xb 10)) (boxA q (xb 12)) 2 xy 2 := by
  have := arr_in p pb q xh (xb 10) (xb 12) 2 xy ⟨10, 7⟩ 0 rfl (by decide) rfl (x_in q) (.inl rfl)
  rwa [if_pos rfl, show idx (hostH ⟨10, 7, 1⟩) xh + 1 = 2 by decide +kernel] at this
theorem x_arr3 (p pb q : Nat) : ArrIs p pb xh [q] (boxA q (xb 12)) (boxA q (xb 12)) 3 xz 0 := by
  have := arr_in p pb q xh (xb 12) (xb 12) 3 xz ⟨0, 0⟩ 5 rfl (by decide) rfl (x_in2 q) (.inr rfl)
  rwa [if_neg (by decide)] at this
set_option maxHeartbeats 4000000 in
set_option maxRecDepth 100000 in
theorem examples_walk (w : World) : Calls Try.prog 9 #[] w fun e w' => e = .returned (.bool true) ∧ Below w.heap.size w w' := by
  have HS := Aside0.mk (sep_start w)
  go_enter Try.func9, Try.ntmps9
  go_upto_region 2 with (go_at_call 10; (with_reducible refine Calls.mono (net_New_nil _ 1 _) ?_); rintro e w1 ⟨rfl, hb_⟩; have n_ := sep_below HS.out hb_; clear hb_; have n0_ := Aside0.mk n_; clear HS n_; have HS := n0_; clear n0_; skip)
  go_upto_region 3 with (fail)
  have n_ := sep_allocg HS.out #[.int .u32 5, .int .u16 7] 28 _ rfl; have n0_ := Aside0.mk n_; clear HS n_; have HS := n0_; clear n0_; generalize hw_ : World.alloc _ _ = wa at HS ⊢; clear hw_; generalize hp_ : Array.size (World.heap _) = g3 at HS ⊢; clear hp_
  go_upto_region 4 with (fail)
  have n_ := sep_allocg HS.out #[.int .u32 10, .int .u16 7] 28 _ rfl; have n0_ := Aside0.mk n_; clear HS n_; have HS := n0_; clear n0_; generalize hw_ : World.alloc _ _ = wb at HS ⊢; clear hw_; generalize hp_ : Array.size (World.heap _) = g4 at HS ⊢; clear hp_
  have a0 := sep_cell HS.out 0
  have a1 := sep_cell HS.out 1
  have b0 := sep_cell (sep_l1 HS.out) 0
  have b1 := sep_cell (sep_l1 HS.out) 1
  go_upto_region 5 with (go_at_call 10; have h1_ := sep_allocg HS.out #[.int .u32 5, .int .u16 7, .int .i64 0, .int .u32 10, .int .u16 7, .int .i64 1] 34 _ rfl; have h2_ := sep_allocg h1_ #[.int .i64 0, .int .i64 2, .int .u32 9, .int .u64 10, .int .i64 2] 38 _ (szS _ rfl); have hx_ := new_one _ _ 2 1 xh 2 4 _ xs rfl (by decide) (by decide) ⟨by decide, by decide, by decide, by decide, by decide⟩ (by decide +kernel) rfl (lit_hos xh (sep_l1 h2_) (by decide) (fun j x hx => by rcases j with _ | _ | _ | j <;> first | (cases hx; exact ⟨rfl, rfl, rfl⟩) | simp [xh] at hx)) (lit_sp [xs] h2_ (Nat.le_of_ble_eq_true rfl) (fun j x hx => by rcases j with _ | j <;> first | (cases hx; exact ⟨rfl, rfl, rfl, rfl, rfl⟩) | simp at hx)); (with_reducible refine Calls.mono hx_ ?_); rintro e w1 ⟨p, pb, q, rfl, hm_⟩; have n_ := made3 (sep_drop (sep_drop h2_)) hm_; clear h1_ h2_ hx_ hm_; have n0_ := Aside0.mk n_; clear HS n_; have HS := n0_; clear n0_; skip)
  clear a0 a1 b0 b1
  have n_ := sep_drop (sep_l3 HS.out)
  have n0_ := Aside0.mk n_; clear HS n_; have HS := n0_; clear n0_
  (try clear a0 a1); have a0 := sep_cell (sep_l3 HS.out) 0; have a1 := sep_cell (sep_l3 HS.out) 1
  go_upto_region 7 with (fail)
  go_upto_region 8 with (go_at_call 11; obtain ⟨ok_, hp_, hk_⟩ := sep_use3 HS.out; have hx_ := sendB p pb xh [q] [] [xx] 4 0 _ ok_ 1 ⟨10, 7, 1⟩ 2 q xs.bx (xb 10) ⟨5, 7⟩ ⟨9, 20000⟩ ⟨#[120]⟩ 0 rfl rfl (by decide) rfl rfl (by decide) (Nat.le_of_ble_eq_true rfl) (by decide) (by decide) (x_out q) (by decide +kernel) (by kernel_rfl) hp_; (with_reducible refine Calls.mono hx_ ?_); rintro e w1 ⟨rfl, hq_⟩; have n_ := back3 hk_ hq_; clear hx_ hp_ hk_ hq_; have n0_ := Aside0.mk n_; clear HS n_; have HS := n0_; clear n0_; skip)
  have n_ := sep_drop (sep_l3 HS.out)
  have n0_ := Aside0.mk n_; clear HS n_; have HS := n0_; clear n0_
  clear a0 a1
  go_upto_region 9 with (go_at_call 12; obtain ⟨ok_, hp_, hk_⟩ := sep_use3 HS.out; have hx_ := delI p pb xh [q] [xx] [] 4 1 _ ok_ 0 1 (boxA q (xb 10)) (boxA q (xb 10)) xx 9 20000 ⟨#[120]⟩ (by decide) (by kernel_rfl) (x_arr1 p pb q _) rfl rfl rfl hp_; (with_reducible refine Calls.mono hx_ ?_); rintro e w1 ⟨rfl, hq_⟩; have n_ := back3 hk_ hq_; clear hx_ hp_ hk_ hq_; have n0_ := Aside0.mk n_; clear HS n_; have HS := n0_; clear n0_; skip)
  have n_ := sep_l3 (sep_l3 (sep_l3 (sep_allocg HS.out #[.int .i64 1, .int .u32 9, .int .u16 20000, .string ⟨#[120]⟩] 42 _ rfl))); have n0_ := Aside0.mk n_; clear HS n_; have HS := n0_; clear n0_; generalize hw_ : World.alloc _ _ = wc at HS ⊢; clear hw_; generalize hp_ : Array.size (World.heap _) = g8 at HS ⊢; clear hp_
  have a1 := sep_cell (sep_l3 HS.out) 1
  have a2 := sep_cell (sep_l3 HS.out) 2
  go_upto_region 10 with (go_at_call 11; obtain ⟨ok_, hp_, hk_⟩ := sep_use2 HS.out; have hx_ := sendP p pb xh [q] [] [xy] 4 1 _ ok_ 0 ⟨5, 7, 0⟩ 1 ⟨9, 20000⟩ ⟨#[121]⟩ 0 rfl rfl rfl rfl (by decide) (Nat.le_of_ble_eq_true rfl) (by decide) (by decide) (by decide +kernel) (by kernel_rfl) hp_; (with_reducible refine Calls.mono hx_ ?_); rintro e w1 ⟨rfl, hq_⟩; have n_ := back2 hk_ hq_; clear hx_ hp_ hk_ hq_; have n0_ := Aside0.mk n_; clear HS n_; have HS := n0_; clear n0_; skip)
  clear a1 a2
  go_upto_region 11 with (go_at_call 12; obtain ⟨ok_, hp_, hk_⟩ := sep_use3 HS.out; have hx_ := delI p pb xh [q] [xy] [] 4 2 _ ok_ 0 2 (boxA q (xb 10)) (boxA q (xb 12)) xy 5 7 ⟨#[121]⟩ (by decide) (by kernel_rfl) (x_arr2 p pb q) rfl rfl rfl hp_; (with_reducible refine Calls.mono hx_ ?_); rintro e w1 ⟨rfl, hq_⟩; have n_ := back3 hk_ hq_; clear hx_ hp_ hk_ hq_; have n0_ := Aside0.mk n_; clear HS n_; have HS := n0_; clear n0_; skip)
  have n_ := sep_l3 (sep_l3 (sep_l3 (sep_allocg HS.out #[.int .i64 2, .int .u32 5, .int .u16 7, .string ⟨#[121]⟩] 42 _ rfl))); have n0_ := Aside0.mk n_; clear HS n_; have HS := n0_; clear n0_; generalize hw_ : World.alloc _ _ = wd at HS ⊢; clear hw_; generalize hp_ : Array.size (World.heap _) = g11 at HS ⊢; clear hp_
  have a1 := sep_cell (sep_l4 HS.out) 1
  have a2 := sep_cell (sep_l4 HS.out) 2
  go_upto_region 12 with (go_at_call 18; obtain ⟨ok_, hp_, hk_⟩ := sep_use2 HS.out; have hx_ := injI p pb xh [q] [] [xz] 4 2 _ ok_ ⟨6, 6⟩ ⟨9, 20000⟩ ⟨#[122]⟩ 0 (by decide) (by decide) (by decide +kernel) (by kernel_rfl) hp_; (with_reducible refine Calls.mono hx_ ?_); rintro e w1 ⟨rfl, hq_⟩; have n_ := back2 hk_ hq_; clear hx_ hp_ hk_ hq_; have n0_ := Aside0.mk n_; clear HS n_; have HS := n0_; clear n0_; skip)
  clear a1 a2
  go_upto_region 13 with (go_at_call 12; obtain ⟨ok_, hp_, hk_⟩ := sep_use3 HS.out; have hx_ := delI p pb xh [q] [xz] [] 4 3 _ ok_ 0 0 (boxA q (xb 12)) (boxA q (xb 12)) xz 6 6 ⟨#[122]⟩ (by decide) (by kernel_rfl) (x_arr3 p pb q) rfl rfl rfl hp_; (with_reducible refine Calls.mono hx_ ?_); rintro e w1 ⟨rfl, hq_⟩; have n_ := back3 hk_ hq_; clear hx_ hp_ hk_ hq_; have n0_ := Aside0.mk n_; clear HS n_; have HS := n0_; clear n0_; skip)
  have n_ := sep_l3 (sep_l3 (sep_l3 (sep_allocg HS.out #[.int .i64 0, .int .u32 6, .int .u16 6, .string ⟨#[122]⟩] 42 _ rfl))); have n0_ := Aside0.mk n_; clear HS n_; have HS := n0_; clear n0_; generalize hw_ : World.alloc _ _ = we at HS ⊢; clear hw_; generalize hp_ : Array.size (World.heap _) = g14 at HS ⊢; clear hp_
  go_upto_region 14 with (go_at_call 12; obtain ⟨ok_, hp_, hk_⟩ := sep_use2 HS.out; have hx_ := delN p pb xh [q] [] [] 4 3 _ ok_ 0 5 It.zero (by decide) (by kernel_rfl) (by decide) hp_; (with_reducible refine Calls.mono hx_ ?_); rintro e w1 ⟨rfl, hq_⟩; have n_ := back2 hk_ hq_; clear hx_ hp_ hk_ hq_; have n0_ := Aside0.mk n_; clear HS n_; have HS := n0_; clear n0_; skip)
  have n_ := sep_skip HS.out (.cells #[.int .i64 0, .int .u32 0, .int .u16 0, .string ⟨#[]⟩] 42 (0, 0))
  have n0_ := Aside0.mk n_; clear HS n_; have HS := n0_; clear n0_
  generalize hw_ : World.alloc _ _ = wf at HS ⊢
  clear hw_
  (try clear x0 x1 x2); have x0 := sep_cell (sep_l5 HS.out) 0; have x1 := sep_cell (sep_l5 HS.out) 1; (try clear y0 y2); have y0 := sep_cell (sep_l4 HS.out) 0; have y2 := sep_cell (sep_l4 HS.out) 3; (try clear z0); have z0 := sep_cell (sep_l3 HS.out) 0
  go_wp2_with (first
    | (go_at_call 13; obtain ⟨ok_, hp_, hk_⟩ := sep_use1 HS.out; have hx_ := none_A p pb xh [q] _ ok_ 2 8 (by decide) (Nat.le_of_ble_eq_true rfl) rfl hp_; (with_reducible refine Calls.mono hx_ ?_); rintro e w1 ⟨rfl, hb_⟩; have n_ := sep_below HS.out hb_; clear hx_ hp_ hk_ hb_; have n0_ := Aside0.mk n_; clear HS n_; have HS := n0_; clear n0_; (try clear x0 x1 x2); have x0 := sep_cell (sep_l5 HS.out) 0; have x1 := sep_cell (sep_l5 HS.out) 1; (try clear y0 y2); have y0 := sep_cell (sep_l4 HS.out) 0; have y2 := sep_cell (sep_l4 HS.out) 3; (try clear z0); have z0 := sep_cell (sep_l3 HS.out) 0)
    | (go_at_call 13; obtain ⟨ok_, hp_, hk_⟩ := sep_use2 (sep_l1 (sep_l2 HS.out)); have hx_ := taken_A p pb xh [q] _ ok_ 1 5 [9] q (boxA q (xb 12)) (by decide) (Nat.le_of_ble_eq_true rfl) rfl rfl (.inr rfl) (ips_box q (xb 12)) hp_; (with_reducible refine Calls.mono hx_ ?_); rintro e w1 ⟨rfl, hb_⟩; have n_ := sep_below HS.out hb_; clear hx_ hp_ hk_ hb_; have n0_ := Aside0.mk n_; clear HS n_; have HS := n0_; clear n0_; (try clear x0 x1 x2); have x0 := sep_cell (sep_l5 HS.out) 0; have x1 := sep_cell (sep_l5 HS.out) 1; (try clear y0 y2); have y0 := sep_cell (sep_l4 HS.out) 0; have y2 := sep_cell (sep_l4 HS.out) 3; (try clear z0); have z0 := sep_cell (sep_l3 HS.out) 0)
    | (go_at_call 13; obtain ⟨ok_, hp_, hk_⟩ := sep_use2 (sep_l1 (sep_l2 HS.out)); have hx_ := rebI p pb xh [q] _ ok_ 1 8 [9] q (xb 12) ⟨0, 2, 8, 10, 2, []⟩ (by decide) (Nat.le_of_ble_eq_true rfl) rfl rfl rfl rfl (by decide) (ips_one q (xb 12) emp) rfl hp_; (with_reducible refine Calls.mono hx_ ?_); rintro e w1 ⟨rfl, hq_⟩; have n_ := back2 hk_ hq_; clear hx_ hp_ hk_ hq_; have n0_ := Aside0.mk n_; clear HS n_; have HS := n0_; clear n0_; clear x0 x1 y0 y2 z0)
    | (go_at_call 15; obtain ⟨ok_, hp_, hk_⟩ := sep_use1 HS.out; have hx_ := boxI p pb xh [q] _ ok_ 2 none (by decide) (Nat.le_of_ble_eq_true rfl) rfl hp_; (with_reducible refine Calls.mono hx_ ?_); rintro e w1 ⟨rfl, hb_⟩; have n_ := sep_below HS.out hb_; clear hx_ hp_ hk_ hb_; have n0_ := Aside0.mk n_; clear HS n_; have HS := n0_; clear n0_; skip)
    | (go_at_call 19; obtain ⟨ok_, hp_, hk_⟩ := sep_use1 HS.out; have hx_ := bag_A p pb xh [q] _ ok_ hp_; (with_reducible refine Calls.mono hx_ ?_); rintro e w1 ⟨rfl, hb_⟩; have n_ := sep_below HS.out hb_; clear hx_ hp_ hk_ hb_; have n0_ := Aside0.mk n_; clear HS n_; have HS := n0_; clear n0_; skip)
    | fail)
  go_ret
  exact ⟨rfl, sep_below_of HS.out⟩
end Go.Proofs.Ytobfabfoenldfaa.NW
