/- Chapter 13's laws, walked: what is common to them (examples). No condition. -/
import Derived.Test.YtmoepfmgpfjppaaRS
namespace Go.Proofs.Ytmoepfmgpfjppaa.LX
set_option linter.unusedVariables false
set_option linter.unusedSimpArgs false
open Go Go.RowKit Go.Proofs.YtmoepfmgpfjppaaS Go.Proofs.YtmoepfmgpfjppaaS.Asn Go.Proofs.Ytmoepfmgpfjppaa.PA Go.Proofs.Ytmoepfmgpfjppaa.MA Go.Proofs.Ytmoepfmgpfjppaa.RG Go.Proofs.YtmoepfmgpfjppaaW.PrintWords Go.Proofs.YtmoepfmgpfjppaaW.PrintLast Go.Proofs.YtmoepfmgpfjppaaW.PrintMore

/-! ## the contracts, with what they come to told -/
theorem ring_NextE {p : Nat} {s : Int} {left l : List Int} {A : Option Addr} {c : Nat} {w : World} {ok : Nat → Prop} {id : Int} {b : Bool} {s' : Int} {left' : List Int} (hn : nx s left l = (id, b, s', left')) (hc : l.length ≤ c) (hm : left.length ≤ 1000000) (hlm : l.length ≤ 1000000) (h : (ringA p s left ⋆ rdo (Kd.int .i64) A l ⋆ emp).H w ok) :
    Calls Try.prog 15 #[.pointer (some ⟨p, 0, none⟩), .slice A l.length c] w fun e w' => e = .returned (.tuple #[.int .i64 id, .bool b]) ∧ Sep w ok (ringA p s' left' ⋆ rdo (Kd.int .i64) A l ⋆ emp) w' := by
  have h := ring_Next p s left l A c w ok hc hm hlm h
  rw [hn] at h
  exact h
theorem ref_NextE {p : Nat} {s : Int} {left l : List Int} {A : Option Addr} {c : Nat} {w : World} {ok : Nat → Prop} {id : Int} {b : Bool} {s' : Int} {left' : List Int} (hn : nx s left l = (id, b, s', left')) (hc : l.length ≤ c) (hm : left.length ≤ 1000000) (hlm : l.length ≤ 1000000) (h : (refA p s left ⋆ rdo (Kd.int .i64) A l ⋆ emp).H w ok) :
    Calls Try.prog 16 #[.pointer (some ⟨p, 0, none⟩), .slice A l.length c] w fun e w' => e = .returned (.tuple #[.int .i64 id, .bool b]) ∧ Sep w ok (refA p s' left' ⋆ rdo (Kd.int .i64) A l ⋆ emp) w' := by
  have h := ref_Next p s left l A c w ok hc hm hlm h
  rw [hn] at h
  exact h
theorem ring_SomeE {p : Nat} {s : Int} {left l : List Int} {A : Option Addr} {c : Nat} {k : Int} {w : World} {ok : Nat → Prop} {m : List Int} {s' : Int} (hn : som s l k = (m, s')) (hc : l.length ≤ c) (hlm : l.length ≤ 1000000) (h : (ringA p s left ⋆ rdo (Kd.int .i64) A l ⋆ emp).H w ok) :
    Calls Try.prog 12 #[.pointer (some ⟨p, 0, none⟩), .slice A l.length c, .int .i64 k] w fun e w' => ∃ v, e = .returned v ∧ Sep w ok (row (Kd.int .i64) 3 v m ⋆ ringA p s' left ⋆ rdo (Kd.int .i64) A l ⋆ emp) w' := by
  have h := ring_Some p s left l A c k w ok hc hlm h
  rw [hn] at h
  exact h
theorem ref_SomeE {p : Nat} {s : Int} {left l : List Int} {A : Option Addr} {c : Nat} {k : Int} {w : World} {ok : Nat → Prop} {m : List Int} {s' : Int} (hn : som s l k = (m, s')) (hc : l.length ≤ c) (hlm : l.length ≤ 1000000) (h : (refA p s left ⋆ rdo (Kd.int .i64) A l ⋆ emp).H w ok) :
    Calls Try.prog 14 #[.pointer (some ⟨p, 0, none⟩), .slice A l.length c, .int .i64 k] w fun e w' => ∃ v, e = .returned v ∧ Sep w ok (row (Kd.int .i64) 3 v m ⋆ refA p s' left ⋆ rdo (Kd.int .i64) A l ⋆ emp) w' := by
  have h := ref_Some p s left l A c k w ok hc hlm h
  rw [hn] at h
  exact h

theorem list_call {a : Bool} {n : Int} {l : List Int} {A : Option Addr} {c : Nat} {w : World} (h : Kd.C (Kd.int .u8) w A l.length l) (hc : l.length ≤ c) :
    Calls Try.prog 13 #[.agg #[.bool a, .slice A l.length c, .int .i64 n]] w fun e w' => ∃ v, e = .returned v ∧ Sep w (fun _ => False) (row (Kd.int .i64) 3 v (lst l) ⋆ emp) w' := by
  refine (scuttlebuttlaw13_Deed_list.calls 14 a A c l n (lst l) w h hc ?_).mono ?_
  · exact list_eq 14 a l n (by omega)
  · rintro e w' ⟨v, rfl, hr, hb⟩
    exact ⟨v, rfl, sep_made (sep_start w) hr hb⟩
/-! ## examples -/
theorem ex1 : nx 3 [] [] = (0, false, 3, []) := by decide +kernel
theorem ex2 : nx 3 [] [7] = (7, true, 3, []) := by decide +kernel
theorem ex3 : nx 3 [] [7, 8] = (7, true, 11400714819323198488, [8]) := by decide +kernel
theorem ex4 : nx 11400714819323198488 [8] [7, 8] = (8, true, 11400714819323198488, []) := by decide +kernel
theorem ex5 : som 11400714819323198488 [1, 2, 3] 2 = ([3, 2], 15755400384260043842) := by decide +kernel
set_option maxHeartbeats 4000000 in
set_option maxRecDepth 100000 in
theorem examples_walk (w : World) : Calls Try.prog 8 #[] w fun e w' => e = .returned (.bool true) ∧ Below w.heap.size w w' := by
  have HS := Aside0.mk (sep_start w)
  go_enter Try.func8, Try.ntmps8
  go_upto_region 4 with (go_at_call 9; refine Calls.mono (ring_New _ _) ?_; rintro e w1 ⟨p, rfl, hm⟩; have n_ := sep_made_of HS.out (sep_only hm); clear hm; have n0_ := Aside0.mk n_; clear HS n_; have HS := n0_; clear n0_)
  go_upto_region 5 with (go_at_call 15; obtain ⟨ok_, hp_, hk_⟩ := sep_use2 (sep_l1 (sep_nil (d := Kd.int .i64) HS.out)); have hx_ := ring_NextE (c := 0) ex1 (Nat.le_refl _) (Nat.zero_le _) (Nat.zero_le _) hp_; refine Calls.mono hx_ ?_; rintro e w2 ⟨rfl, hq_⟩; have n_ := sep_drop (sep_l1 (back2 hk_ hq_)); clear hx_ hp_ hk_ hq_; have n0_ := Aside0.mk n_; clear HS n_; have HS := n0_; clear n0_)
  go_upto_region 6 with (go_at_call 15; obtain ⟨ok_, hp_, hk_⟩ := sep_use2 (sep_l1 (row_rdo (sep_lit (enc := Value.int .i64) (h1 := fun _ => rfl) HS.out 3 [7] (by decide)))); have hx_ := ring_NextE (c := 1) ex2 (Nat.le_refl _) (by decide) (by decide) hp_; refine Calls.mono hx_ ?_; rintro e w3 ⟨rfl, hq_⟩; have n_ := sep_drop (sep_l1 (back2 hk_ hq_)); clear hx_ hp_ hk_ hq_; have n0_ := Aside0.mk n_; clear HS n_; have HS := n0_; clear n0_)
  go_upto_region 7 with (go_at_call 15; obtain ⟨ok_, hp_, hk_⟩ := sep_use2 (sep_l1 (row_rdo (sep_lit (enc := Value.int .i64) (h1 := fun _ => rfl) HS.out 3 [7, 8] (by decide)))); have hx_ := ring_NextE (c := 2) ex3 (Nat.le_refl _) (by decide) (by decide) hp_; refine Calls.mono hx_ ?_; rintro e w4 ⟨rfl, hq_⟩; have n_ := sep_drop (sep_l1 (back2 hk_ hq_)); clear hx_ hp_ hk_ hq_; have n0_ := Aside0.mk n_; clear HS n_; have HS := n0_; clear n0_)
  go_upto_region 8 with (go_at_call 15; obtain ⟨ok_, hp_, hk_⟩ := sep_use2 (sep_l1 (row_rdo (sep_lit (enc := Value.int .i64) (h1 := fun _ => rfl) HS.out 3 [7, 8] (by decide)))); have hx_ := ring_NextE (c := 2) ex4 (Nat.le_refl _) (by decide) (by decide) hp_; refine Calls.mono hx_ ?_; rintro e w5 ⟨rfl, hq_⟩; have n_ := sep_drop (sep_l1 (back2 hk_ hq_)); clear hx_ hp_ hk_ hq_; have n0_ := Aside0.mk n_; clear HS n_; have HS := n0_; clear n0_)
  go_wp2_with (first | (go_at_call 17; obtain ⟨ok_, hp_, hk_⟩ := sep_use1 HS.out; have hx_ := ring_Left p _ [] _ ok_ (by decide) hp_; refine Calls.mono hx_ ?_; rintro e w6 ⟨v6, rfl, hq_⟩; have n_ := back2 hk_ hq_; obtain ⟨A6, c6, rfl, -, -⟩ := sep_row n_; replace n_ := sep_drop n_; clear hx_ hp_ hk_ hq_; have n0_ := Aside0.mk n_; clear HS n_; have HS := n0_; clear n0_) | (go_at_call 12; obtain ⟨ok_, hp_, hk_⟩ := sep_use2 (sep_l1 (row_rdo (sep_lit (enc := Value.int .i64) (h1 := fun _ => rfl) HS.out 3 [1, 2, 3] (by decide)))); have hx_ := ring_SomeE (c := 3) ex5 (Nat.le_refl _) (by decide) hp_; refine Calls.mono hx_ ?_; rintro e w7 ⟨v7, rfl, hq_⟩; have n_ := back3 hk_ hq_; obtain ⟨A7, c7, rfl, -, -⟩ := sep_row n_; replace n_ := sep_drop (sep_l1 (sep_drop n_)); clear hx_ hp_ hk_ hq_; have n0_ := Aside0.mk n_; clear HS n_; have HS := n0_; clear n0_) | (go_at_call 18; obtain ⟨ok_, hp_, hk_⟩ := sep_use1 HS.out; have hx_ := ring_State p _ [] _ ok_ hp_; refine Calls.mono hx_ ?_; rintro e w8 ⟨rfl, hq_⟩; have n_ := back1 hk_ hq_; clear hx_ hp_ hk_ hq_; have n0_ := Aside0.mk n_; clear HS n_; have HS := n0_; clear n0_))
  go_ret
  exact ⟨rfl, sep_below_of HS.out⟩
end Go.Proofs.Ytmoepfmgpfjppaa.LX
