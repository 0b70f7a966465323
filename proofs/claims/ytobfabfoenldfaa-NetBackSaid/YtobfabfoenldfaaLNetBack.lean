/- NetBack, walked. Conditions: those that the theorem names. -/
import Derived.Test.YtobfabfoenldfaaPA2
namespace Go.Proofs.Ytobfabfoenldfaa.NW
set_option linter.unusedVariables false
set_option linter.unusedSimpArgs false
open Go Go.RowKit Go.Proofs.YtobfabfoenldfaaS Go.Proofs.YtobfabfoenldfaaS.Asn Go.Proofs.Ytobfabfoenldfaa.PA Go.Proofs.YtobfabfoenldfaaW.PrintWords Go.Proofs.YtobfabfoenldfaaW.PrintLast Go.Proofs.YtobfabfoenldfaaW.PrintMore


open Go.Proofs.Ytobfabfoenldfaa.BG
theorem k_arr1 (p pb q : Nat) (X : Asn) : ArrIs p pb nh [q] X X 1 (⟨9, 20000, 1, 7, ⟨#[97, 115, 107]⟩, 1⟩ : It) 1 := by
  have := arr_host p pb nh [q] X 1 (⟨9, 20000, 1, 7, ⟨#[97, 115, 107]⟩, 1⟩ : It) rfl (Nat.le_of_ble_eq_true rfl)
  rwa [show idx (hostH ⟨1, 7, 0⟩) nh + 1 = 1 by decide +kernel] at this
theorem k_arr2 (p pb q : Nat) (m f now : Int) : ArrIs p pb nh [q] (boxA q (⟨m, f, 8, 50, 8, []⟩ : Bx)) (boxA q (⟨m, f, 8, 50, 8, []⟩ : Bx)) now (⟨1, 7, 9, 20000, ⟨#[97, 110, 115, 119, 101, 114]⟩, 2⟩ : It) 0 :=
  arr_out p pb q nh (⟨m, f, 8, 50, 8, []⟩ : Bx) now (⟨1, 7, 9, 20000, ⟨#[97, 110, 115, 119, 101, 114]⟩, 2⟩ : It) rfl (Nat.le_of_ble_eq_true rfl) (show (8 : Int) ≠ 9 by decide)
theorem k_pass (f : Int) (hf : f = 0 ∨ f = 1 ∨ f = 2) : passB f [⟨1, 7⟩] ⟨1, 7⟩ = true := by rcases hf with rfl | rfl | rfl <;> decide +kernel
theorem k_arr3 (p pb q : Nat) (m f : Int) (hf : f = 0 ∨ f = 1 ∨ f = 2) : ∃ L, ArrIs p pb nh [q] (boxA q (⟨m, f, 9, 50, 8, L1 m⟩ : Bx)) (boxA q (⟨m, f, 9, 50, 8, L⟩ : Bx)) 2 (⟨1, 7, 9, 20000, ⟨#[97, 110, 115, 119, 101, 114]⟩, 2⟩ : It) 2 :=
  ar_arr p pb q m f 2 (bd1 ⟨10, 7⟩ (keyS m ⟨1, 7⟩) [⟨1, 7⟩] 50) [] true ⟨1, 7⟩ ⟨#[97, 110, 115, 119, 101, 114]⟩ 2 rfl (by decide) (by decide) (fun y hy => by obtain rfl := List.mem_singleton.1 hy; show (2 : Int) < 50; decide) ⟨rfl, rfl, rfl⟩ (Nat.le_of_ble_eq_true rfl) (k_pass f hf)
theorem k_arr4 (p pb q : Nat) (m f : Int) : ArrIs p pb nh [q] (boxA q (⟨m, f, 9, 50, 8, L1 m⟩ : Bx)) (boxA q (⟨m, f, 9, 50, 8, []⟩ : Bx)) 90 (⟨1, 7, 9, 20000, ⟨#[97, 110, 115, 119, 101, 114]⟩, 2⟩ : It) 0 := by
  have hi := in_gone q (⟨m, f, 9, 50, 8, L1 m⟩ : Bx) [] 90 20000 ⟨1, 7⟩ (.inr ⟨rfl, _, rfl, show (50 : Int) ≤ 90 by decide⟩) rfl (by decide) (show (0 : Int) ≤ 50 ∧ (50 : Int) ≤ 1000000 by decide) rfl
  have h2 := arr_in p pb q nh (⟨m, f, 9, 50, 8, L1 m⟩ : Bx) (⟨m, f, 9, 50, 8, []⟩ : Bx) 90 (⟨1, 7, 9, 20000, ⟨#[97, 110, 115, 119, 101, 114]⟩, 2⟩ : It) ⟨0, 0⟩ 5 rfl (Nat.le_of_ble_eq_true rfl) rfl hi (.inr rfl)
  rwa [if_neg (by decide)] at h2
set_option maxHeartbeats 4000000 in
set_option maxRecDepth 100000 in
theorem back_walk (t : Int) (anew late : Bool) (w : World) (ht : 0 ≤ t ∧ t ≤ 255) :
    Calls Try.prog 3 #[.int .u8 t, .bool anew, .bool late] w fun e w' => e = .returned (.bool true) ∧ Below w.heap.size w w' := by
  have HS := Aside0.mk (sep_start w)
  have hm := m3 t ht
  have hf := f3 t
  clear ht
  go_enter Try.func3, Try.ntmps3
  go_upto_region 5 with (go_at_call 9; (with_reducible refine Calls.mono (examples_walk _) ?_); rintro e w1 ⟨rfl, hb_⟩; have n_ := sep_below HS.out hb_; clear hb_; have n0_ := Aside0.mk n_; clear HS n_; have HS := n0_; clear n0_; skip)
  generalize wrap64 (t.tmod 3) = m at hm ⊢
  generalize t.tdiv 3 % 256 % 3 = f at hf ⊢
  have HR := Aside0.mk (nR m f hm hf)
  have HM := Aside0.mk (And.intro hm hf)
  clear hm hf
  have n_ := sep_allocg HS.out #[.int .i64 m, .int .i64 f] 24 _ rfl; have n0_ := Aside0.mk n_; clear HS n_; have HS := n0_; clear n0_; generalize hw_ : World.alloc _ _ = wa at HS ⊢; clear hw_; generalize hp_ : Array.size (World.heap _) = g8 at HS ⊢; clear hp_
  go_upto_region 6 with (fail)
  have n_ := sep_allocg HS.out #[.int .u32 1, .int .u16 7] 28 _ rfl; have n0_ := Aside0.mk n_; clear HS n_; have HS := n0_; clear n0_; generalize hw_ : World.alloc _ _ = wb at HS ⊢; clear hw_; generalize hp_ : Array.size (World.heap _) = g9 at HS ⊢; clear hp_
  have a0 := sep_cell HS.out 0
  have a1 := sep_cell HS.out 1
  have c0 := sep_cell (sep_l1 (sep_skip HS.out (.cells #[.int .u32 1, .int .u16 7, .int .i64 0, .int .u32 10, .int .u16 7, .int .i64 1] 34 (0, 0)))) 0
  have c1 := sep_cell (sep_l1 (sep_skip HS.out (.cells #[.int .u32 1, .int .u16 7, .int .i64 0, .int .u32 10, .int .u16 7, .int .i64 1] 34 (0, 0)))) 1
  go_upto_region 7 with (go_at_call 10; have h1_ := sep_allocg HS.out #[.int .u32 1, .int .u16 7, .int .i64 0, .int .u32 10, .int .u16 7, .int .i64 1] 34 _ rfl; have h2_ := sep_allocg h1_ #[.int .i64 m, .int .i64 f, .int .u32 9, .int .u64 50, .int .i64 8] 38 _ (szS _ rfl); have hx_ := new_one _ _ 2 1 nh 2 8 _ (⟨m, f, 9, 50, 8⟩ : Sp) rfl (by decide) (by decide) HR.out (by decide +kernel) rfl (lit_hos nh (sep_l1 h2_) (by decide) (fun j x hx => by rcases j with _ | _ | _ | j <;> first | (cases hx; exact ⟨rfl, rfl, rfl⟩) | simp [nh] at hx)) (lit_sp [(⟨m, f, 9, 50, 8⟩ : Sp)] h2_ (Nat.le_of_ble_eq_true rfl) (fun j x hx => by rcases j with _ | j <;> first | (cases hx; exact ⟨rfl, rfl, rfl, rfl, rfl⟩) | simp at hx)); (with_reducible refine Calls.mono hx_ ?_); rintro e w1 ⟨p, pb, q, rfl, hm_⟩; have n_ := made3 (sep_drop (sep_drop h2_)) hm_; clear h1_ h2_ hx_ hm_; have n0_ := Aside0.mk n_; clear HS n_; have HS := n0_; clear n0_; skip)
  have n_ := sep_drop (sep_l4 HS.out)
  clear a0 a1 c0 c1
  have n0_ := Aside0.mk n_; clear HS n_; have HS := n0_; clear n0_
  (try clear a0 a1); have a0 := sep_cell (sep_l3 HS.out) 0; have a1 := sep_cell (sep_l3 HS.out) 1
  go_upto_region 9 with (fail)
  go_upto_region 10 with (go_at_call 11; obtain ⟨ok_, hp_, hk_⟩ := sep_use3 HS.out; have hx_ := sendB p pb nh [q] [] [(⟨9, 20000, 1, 7, ⟨#[97, 115, 107]⟩, 1⟩ : It)] 8 0 _ ok_ 1 ⟨10, 7, 1⟩ 2 q (⟨m, f, 9, 50, 8, []⟩ : Bx) (⟨m, f, 9, 50, 8, L1 m⟩ : Bx) ⟨1, 7⟩ ⟨9, 20000⟩ ⟨#[97, 115, 107]⟩ 0 rfl rfl (by decide) rfl rfl (by decide) (Nat.le_of_ble_eq_true rfl) (by decide) (by decide) (ar_first q m f HM.out.1) (by decide +kernel) (by kernel_rfl) hp_; (with_reducible refine Calls.mono hx_ ?_); rintro e w1 ⟨rfl, hq_⟩; have n_ := back3 hk_ hq_; clear hx_ hp_ hk_ hq_; have n0_ := Aside0.mk n_; clear HS n_; have HS := n0_; clear n0_; skip)
  clear a0 a1
  go_upto_region 11 with (go_at_call 12; obtain ⟨ok_, hp_, hk_⟩ := sep_use3 HS.out; have hx_ := delI p pb nh [q] [(⟨9, 20000, 1, 7, ⟨#[97, 115, 107]⟩, 1⟩ : It)] [] 8 1 _ ok_ 0 1 _ (boxA q (⟨m, f, 9, 50, 8, L1 m⟩ : Bx)) (⟨9, 20000, 1, 7, ⟨#[97, 115, 107]⟩, 1⟩ : It) 9 20000 ⟨#[97, 115, 107]⟩ (by decide) (by kernel_rfl) (k_arr1 p pb q (boxA q (⟨m, f, 9, 50, 8, L1 m⟩ : Bx))) rfl rfl rfl hp_; (with_reducible refine Calls.mono hx_ ?_); rintro e w1 ⟨rfl, hq_⟩; have n_ := back3 hk_ hq_; clear hx_ hp_ hk_ hq_; have n0_ := Aside0.mk n_; clear HS n_; have HS := n0_; clear n0_; skip)
  have n_ := sep_l3 (sep_l3 (sep_l3 (sep_allocg HS.out #[.int .i64 1, .int .u32 9, .int .u16 20000, .string ⟨#[97, 115, 107]⟩] 42 _ rfl))); have n0_ := Aside0.mk n_; clear HS n_; have HS := n0_; clear n0_; generalize hw_ : World.alloc _ _ = we at HS ⊢; clear hw_; generalize hp_ : Array.size (World.heap _) = g13 at HS ⊢; clear hp_
  (try clear x1 x2); have x1 := sep_cell (sep_l3 HS.out) 1; have x2 := sep_cell (sep_l3 HS.out) 2
  go_upto_region 12 with (go_at_call 11; obtain ⟨ok_, hp_, hk_⟩ := sep_use2 HS.out; have hx_ := sendP p pb nh [q] [] [(⟨1, 7, 9, 20000, ⟨#[97, 110, 115, 119, 101, 114]⟩, 2⟩ : It)] 8 1 _ ok_ 0 ⟨1, 7, 0⟩ 1 ⟨9, 20000⟩ ⟨#[97, 110, 115, 119, 101, 114]⟩ 0 rfl rfl rfl rfl (by decide) (Nat.le_of_ble_eq_true rfl) (by decide) (by decide) (by decide +kernel) (by kernel_rfl) hp_; (with_reducible refine Calls.mono hx_ ?_); rintro e w1 ⟨rfl, hq_⟩; have n_ := back2 hk_ hq_; clear hx_ hp_ hk_ hq_; have n0_ := Aside0.mk n_; clear HS n_; have HS := n0_; clear n0_; skip)
  clear x1 x2
  cases anew with
  | true =>
    go_upto_region 14 with (go_at_call 13; obtain ⟨ok_, hp_, hk_⟩ := sep_use2 (sep_l1 (sep_l2 HS.out)); have hx_ := rebI p pb nh [q] _ ok_ 1 8 [9] q (⟨m, f, 9, 50, 8, L1 m⟩ : Bx) (⟨m, f, 8, 50, 8, []⟩ : Bx) (by decide) (Nat.le_of_ble_eq_true rfl) rfl rfl rfl rfl (by decide) (ips_one q (⟨m, f, 9, 50, 8, L1 m⟩ : Bx) emp) rfl hp_; (with_reducible refine Calls.mono hx_ ?_); rintro e w1 ⟨rfl, hq_⟩; have n_ := sep_l1 (sep_l2 (back2 hk_ hq_)); clear hx_ hp_ hk_ hq_; have n0_ := Aside0.mk n_; clear HS n_; have HS := n0_; clear n0_)
    cases late with
    | true =>
      go_upto_region 18 with (go_at_call 12; obtain ⟨ok_, hp_, hk_⟩ := sep_use3 HS.out; have hx_ := delI p pb nh [q] [(⟨1, 7, 9, 20000, ⟨#[97, 110, 115, 119, 101, 114]⟩, 2⟩ : It)] [] 8 90 _ ok_ 0 0 _ (boxA q (⟨m, f, 8, 50, 8, []⟩ : Bx)) (⟨1, 7, 9, 20000, ⟨#[97, 110, 115, 119, 101, 114]⟩, 2⟩ : It) 1 7 ⟨#[97, 110, 115, 119, 101, 114]⟩ (by decide) (by kernel_rfl) (k_arr2 p pb q m f 90) rfl rfl rfl hp_; (with_reducible refine Calls.mono hx_ ?_); rintro e w1 ⟨rfl, hq_⟩; have n_ := back3 hk_ hq_; clear hx_ hp_ hk_ hq_; have n0_ := Aside0.mk n_; clear HS n_; have HS := n0_; clear n0_; skip)
      have n_ := sep_l3 (sep_l3 (sep_l3 (sep_allocg HS.out #[.int .i64 0, .int .u32 1, .int .u16 7, .string ⟨#[97, 110, 115, 119, 101, 114]⟩] 42 _ rfl))); have n0_ := Aside0.mk n_; clear HS n_; have HS := n0_; clear n0_; generalize hw_ : World.alloc _ _ = wf at HS ⊢; clear hw_; generalize hp_ : Array.size (World.heap _) = g17 at HS ⊢; clear hp_
      have n_ := sep_drop (sep_drop (sep_drop HS.out))
      have n0_ := Aside0.mk n_; clear HS n_; have HS := n0_; clear n0_
      have u0 := sep_cell HS.out 0
      have u1 := sep_cell HS.out 1
      have u2 := sep_cell HS.out 2
      have u3 := sep_cell HS.out 3
      have x3 := sep_cell (sep_l1 HS.out) 3
      (try clear a0 a1); have a0 := sep_cell (sep_l2 HS.out) 0; have a1 := sep_cell (sep_l2 HS.out) 1
      go_wp2
      go_ret
      exact ⟨rfl, sep_below_of HS.out⟩
    | false =>
      go_upto_region 18 with (go_at_call 12; obtain ⟨ok_, hp_, hk_⟩ := sep_use3 HS.out; have hx_ := delI p pb nh [q] [(⟨1, 7, 9, 20000, ⟨#[97, 110, 115, 119, 101, 114]⟩, 2⟩ : It)] [] 8 2 _ ok_ 0 0 _ (boxA q (⟨m, f, 8, 50, 8, []⟩ : Bx)) (⟨1, 7, 9, 20000, ⟨#[97, 110, 115, 119, 101, 114]⟩, 2⟩ : It) 1 7 ⟨#[97, 110, 115, 119, 101, 114]⟩ (by decide) (by kernel_rfl) (k_arr2 p pb q m f 2) rfl rfl rfl hp_; (with_reducible refine Calls.mono hx_ ?_); rintro e w1 ⟨rfl, hq_⟩; have n_ := back3 hk_ hq_; clear hx_ hp_ hk_ hq_; have n0_ := Aside0.mk n_; clear HS n_; have HS := n0_; clear n0_; skip)
      have n_ := sep_l3 (sep_l3 (sep_l3 (sep_allocg HS.out #[.int .i64 0, .int .u32 1, .int .u16 7, .string ⟨#[97, 110, 115, 119, 101, 114]⟩] 42 _ rfl))); have n0_ := Aside0.mk n_; clear HS n_; have HS := n0_; clear n0_; generalize hw_ : World.alloc _ _ = wf at HS ⊢; clear hw_; generalize hp_ : Array.size (World.heap _) = g17 at HS ⊢; clear hp_
      have n_ := sep_drop (sep_drop (sep_drop HS.out))
      have n0_ := Aside0.mk n_; clear HS n_; have HS := n0_; clear n0_
      have u0 := sep_cell HS.out 0
      have u1 := sep_cell HS.out 1
      have u2 := sep_cell HS.out 2
      have u3 := sep_cell HS.out 3
      have x3 := sep_cell (sep_l1 HS.out) 3
      (try clear a0 a1); have a0 := sep_cell (sep_l2 HS.out) 0; have a1 := sep_cell (sep_l2 HS.out) 1
      go_wp2
      go_ret
      exact ⟨rfl, sep_below_of HS.out⟩
  | false =>
    cases late with
    | true =>
      go_upto_region 18 with (go_at_call 12; obtain ⟨ok_, hp_, hk_⟩ := sep_use3 HS.out; have hx_ := delI p pb nh [q] [(⟨1, 7, 9, 20000, ⟨#[97, 110, 115, 119, 101, 114]⟩, 2⟩ : It)] [] 8 90 _ ok_ 0 0 _ (boxA q (⟨m, f, 9, 50, 8, []⟩ : Bx)) (⟨1, 7, 9, 20000, ⟨#[97, 110, 115, 119, 101, 114]⟩, 2⟩ : It) 1 7 ⟨#[97, 110, 115, 119, 101, 114]⟩ (by decide) (by kernel_rfl) (k_arr4 p pb q m f) rfl rfl rfl hp_; (with_reducible refine Calls.mono hx_ ?_); rintro e w1 ⟨rfl, hq_⟩; have n_ := back3 hk_ hq_; clear hx_ hp_ hk_ hq_; have n0_ := Aside0.mk n_; clear HS n_; have HS := n0_; clear n0_; skip)
      have n_ := sep_l3 (sep_l3 (sep_l3 (sep_allocg HS.out #[.int .i64 0, .int .u32 1, .int .u16 7, .string ⟨#[97, 110, 115, 119, 101, 114]⟩] 42 _ rfl))); have n0_ := Aside0.mk n_; clear HS n_; have HS := n0_; clear n0_; generalize hw_ : World.alloc _ _ = wf at HS ⊢; clear hw_; generalize hp_ : Array.size (World.heap _) = g17 at HS ⊢; clear hp_
      have n_ := sep_drop (sep_drop (sep_drop HS.out))
      have n0_ := Aside0.mk n_; clear HS n_; have HS := n0_; clear n0_
      have u0 := sep_cell HS.out 0
      have u1 := sep_cell HS.out 1
      have u2 := sep_cell HS.out 2
      have u3 := sep_cell HS.out 3
      have x3 := sep_cell (sep_l1 HS.out) 3
      (try clear a0 a1); have a0 := sep_cell (sep_l2 HS.out) 0; have a1 := sep_cell (sep_l2 HS.out) 1
      go_wp2
      go_ret
      exact ⟨rfl, sep_below_of HS.out⟩
    | false =>
      obtain ⟨L3, h3⟩ := k_arr3 p pb q m f HM.out.2
      have H3 := Aside0.mk h3
      clear h3
      go_upto_region 18 with (go_at_call 12; obtain ⟨ok_, hp_, hk_⟩ := sep_use3 HS.out; have hx_ := delI p pb nh [q] [(⟨1, 7, 9, 20000, ⟨#[97, 110, 115, 119, 101, 114]⟩, 2⟩ : It)] [] 8 2 _ ok_ 0 2 _ (boxA q (⟨m, f, 9, 50, 8, L3⟩ : Bx)) (⟨1, 7, 9, 20000, ⟨#[97, 110, 115, 119, 101, 114]⟩, 2⟩ : It) 1 7 ⟨#[97, 110, 115, 119, 101, 114]⟩ (by decide) (by kernel_rfl) (H3.out) rfl rfl rfl hp_; (with_reducible refine Calls.mono hx_ ?_); rintro e w1 ⟨rfl, hq_⟩; have n_ := back3 hk_ hq_; clear hx_ hp_ hk_ hq_; have n0_ := Aside0.mk n_; clear HS n_; have HS := n0_; clear n0_; skip)
      have n_ := sep_l3 (sep_l3 (sep_l3 (sep_allocg HS.out #[.int .i64 2, .int .u32 1, .int .u16 7, .string ⟨#[97, 110, 115, 119, 101, 114]⟩] 42 _ rfl))); have n0_ := Aside0.mk n_; clear HS n_; have HS := n0_; clear n0_; generalize hw_ : World.alloc _ _ = wf at HS ⊢; clear hw_; generalize hp_ : Array.size (World.heap _) = g17 at HS ⊢; clear hp_
      have n_ := sep_drop (sep_drop (sep_drop HS.out))
      have n0_ := Aside0.mk n_; clear HS n_; have HS := n0_; clear n0_
      have u0 := sep_cell HS.out 0
      have u1 := sep_cell HS.out 1
      have u2 := sep_cell HS.out 2
      have u3 := sep_cell HS.out 3
      have x3 := sep_cell (sep_l1 HS.out) 3
      (try clear a0 a1); have a0 := sep_cell (sep_l2 HS.out) 0; have a1 := sep_cell (sep_l2 HS.out) 1
      go_wp2
      go_ret
      exact ⟨rfl, sep_below_of HS.out⟩
end Go.Proofs.Ytobfabfoenldfaa.NW
