/- NetArrives, walked. Conditions: those that the theorem names. -/
import Derived.Test.YtobfabfoenldfaaPA2
namespace Go.Proofs.Ytobfabfoenldfaa.NW
set_option linter.unusedVariables false
set_option linter.unusedSimpArgs false
open Go Go.RowKit Go.Proofs.YtobfabfoenldfaaS Go.Proofs.YtobfabfoenldfaaS.Asn Go.Proofs.Ytobfabfoenldfaa.PA Go.Proofs.YtobfabfoenldfaaW.PrintWords Go.Proofs.YtobfabfoenldfaaW.PrintLast Go.Proofs.YtobfabfoenldfaaW.PrintMore


open Go.Proofs.Ytobfabfoenldfaa.BG
theorem nR (m f : Int) (hm : m = 0 ∨ m = 1 ∨ m = 2) (hf : f = 0 ∨ f = 1 ∨ f = 2) : Right ⟨m, f, 9, 50, 8⟩ :=
  ⟨show 0 ≤ m ∧ m < 3 by omega, show 0 ≤ f ∧ f < 3 by omega, show (9 : Int) ≠ 0 by decide, show (0 : Int) ≤ 50 ∧ (50 : Int) ≤ 1000000 by decide, show (1 : Int) ≤ 8 by decide, show (8 : Int) ≤ 64 by decide⟩
theorem m3 (t : Int) (ht : 0 ≤ t ∧ t ≤ 255) : wrap64 (t.tmod 3) = 0 ∨ wrap64 (t.tmod 3) = 1 ∨ wrap64 (t.tmod 3) = 2 := by
  rw [Int.tmod_eq_emod_of_nonneg ht.1]
  unfold wrap64
  omega
theorem f3 (t : Int) : t.tdiv 3 % 256 % 3 = 0 ∨ t.tdiv 3 % 256 % 3 = 1 ∨ t.tdiv 3 % 256 % 3 = 2 := by
  generalize t.tdiv 3 = u
  omega
theorem a4 (ip : Int) (h : 0 ≤ ip ∧ ip ≤ 255) : 100 ≤ (100 + ip.tmod 4) % 4294967296 ∧ (100 + ip.tmod 4) % 4294967296 ≤ 103 := by
  rw [Int.tmod_eq_emod_of_nonneg h.1]
  omega
theorem b4 (port : Int) (h : 0 ≤ port ∧ port ≤ 255) : 1 ≤ IntKind.u16.wrap (1 + IntKind.u16.wrap (port.tmod 4)) ∧ IntKind.u16.wrap (1 + IntKind.u16.wrap (port.tmod 4)) ≤ 4 := by
  rw [Int.tmod_eq_emod_of_nonneg h.1, IntKind.wrap_u16, IntKind.wrap_u16]
  omega
theorem noneB_no {a b : Int} (h1 : a ≠ 0) (h2 : b ≠ 0) : noneB a b = false := by
  unfold noneB
  rw [if_neg h1]
  exact beq_eq_false_iff_ne.2 h2
theorem putE_ok {room : Int} {l : List It} {x : It} (h1 : noneB x.fi x.fp = false) (h2 : noneB x.ti x.tp = false) (h3 : x.by_.size = 1) (h4 : (l.length : Int) < room) : putE room l x = 0 := by
  unfold putE
  rw [if_neg (by rw [h1, h2]; simp), if_neg (by rw [h3]; omega), if_neg (by omega)]
theorem n_arr1 (p pb q : Nat) (X : Asn) : ArrIs p pb nh [q] X X 1 ⟨9, 20000, 1, 7, ⟨#[97]⟩, 1⟩ 1 := by
  have := arr_host p pb nh [q] X 1 ⟨9, 20000, 1, 7, ⟨#[97]⟩, 1⟩ rfl (Nat.le_of_ble_eq_true rfl)
  rwa [show idx (hostH ⟨1, 7, 0⟩) nh + 1 = 1 by decide +kernel] at this
theorem n_arr2 (p pb q : Nat) (m f : Int) (L : List Bd) (a b : Int) (t : Int) : ArrIs p pb nh [q] (boxA q ⟨m, f, 9, 50, 8, L⟩) (boxA q ⟨m, f, 9, 50, 8, L⟩) 2 ⟨a, b, 10, 7, ⟨#[100]⟩, t⟩ 0 := 
  arr_out p pb q nh ⟨m, f, 9, 50, 8, L⟩ 2 ⟨a, b, 10, 7, ⟨#[100]⟩, t⟩ rfl (Nat.le_of_ble_eq_true rfl) (show (9 : Int) ≠ 10 by decide)
theorem n_arr3 (p pb q : Nat) (X : Asn) (a b t : Int) : ArrIs p pb nh [q] X X 2 ⟨a, b, 1, 7, ⟨#[102]⟩, t⟩ 1 := by
  have := arr_host p pb nh [q] X 2 ⟨a, b, 1, 7, ⟨#[102]⟩, t⟩ rfl (Nat.le_of_ble_eq_true rfl)
  rwa [show idx (hostH ⟨1, 7, 0⟩) nh + 1 = 1 by decide +kernel] at this
set_option maxHeartbeats 4000000 in
set_option maxRecDepth 100000 in
theorem arrives_walk (t ip port : Int) (asked : Bool) (w : World) (ht : 0 ≤ t ∧ t ≤ 255) (hi : 0 ≤ ip ∧ ip ≤ 255) (hp : 0 ≤ port ∧ port ≤ 255) :
    Calls Try.prog 6 #[.int .u8 t, .int .u8 ip, .int .u8 port, .bool asked] w fun e w' => e = .returned (.bool true) ∧ Below w.heap.size w w' := by
  have HS := Aside0.mk (sep_start w)
  have HB := Aside0.mk (And.intro ht (And.intro hi hp))
  clear ht hi hp
  go_enter Try.func6, Try.ntmps6
  go_upto_region 5 with (go_at_call 9; (with_reducible refine Calls.mono (examples_walk _) ?_); rintro e w1 ⟨rfl, hb_⟩; have n_ := sep_below HS.out hb_; clear hb_; have n0_ := Aside0.mk n_; clear HS n_; have HS := n0_; clear n0_; skip)
  have hm := m3 t HB.out.1
  have hf := f3 t
  generalize wrap64 (t.tmod 3) = m at hm ⊢
  generalize t.tdiv 3 % 256 % 3 = f at hf ⊢
  have HR := Aside0.mk (nR m f hm hf)
  have HM := Aside0.mk (And.intro hm hf)
  clear hm hf
  have n_ := sep_allocg HS.out #[.int .i64 m, .int .i64 f] 24 _ rfl; have n0_ := Aside0.mk n_; clear HS n_; have HS := n0_; clear n0_; generalize hw_ : World.alloc _ _ = wa at HS ⊢; clear hw_; generalize hp_ : Array.size (World.heap _) = g10 at HS ⊢; clear hp_
  go_upto_region 6 with (fail)
  have n_ := sep_allocg HS.out #[.int .u32 1, .int .u16 7] 28 _ rfl; have n0_ := Aside0.mk n_; clear HS n_; have HS := n0_; clear n0_; generalize hw_ : World.alloc _ _ = wb at HS ⊢; clear hw_; generalize hp_ : Array.size (World.heap _) = g11 at HS ⊢; clear hp_
  go_upto_region 7 with (fail)
  have n_ := sep_allocg HS.out #[.int .u32 10, .int .u16 7] 28 _ rfl; have n0_ := Aside0.mk n_; clear HS n_; have HS := n0_; clear n0_; generalize hw_ : World.alloc _ _ = wc at HS ⊢; clear hw_; generalize hp_ : Array.size (World.heap _) = g12 at HS ⊢; clear hp_
  have b0 := sep_cell HS.out 0
  have b1 := sep_cell HS.out 1
  have a0 := sep_cell (sep_l1 HS.out) 0
  have a1 := sep_cell (sep_l1 HS.out) 1
  have c0 := sep_cell (sep_l2 (sep_skip HS.out (.cells #[.int .u32 1, .int .u16 7, .int .i64 0, .int .u32 10, .int .u16 7, .int .i64 1] 34 (0, 0)))) 0
  have c1 := sep_cell (sep_l2 (sep_skip HS.out (.cells #[.int .u32 1, .int .u16 7, .int .i64 0, .int .u32 10, .int .u16 7, .int .i64 1] 34 (0, 0)))) 1
  go_upto_region 8 with (go_at_call 10; have h1_ := sep_allocg HS.out #[.int .u32 1, .int .u16 7, .int .i64 0, .int .u32 10, .int .u16 7, .int .i64 1] 34 _ rfl; have h2_ := sep_allocg h1_ #[.int .i64 m, .int .i64 f, .int .u32 9, .int .u64 50, .int .i64 8] 38 _ (szS _ rfl); have hx_ := new_one _ _ 2 1 nh 2 8 _ (⟨m, f, 9, 50, 8⟩ : Sp) rfl (by decide) (by decide) HR.out (by decide +kernel) rfl (lit_hos nh (sep_l1 h2_) (by decide) (fun j x hx => by rcases j with _ | _ | _ | j <;> first | (cases hx; exact ⟨rfl, rfl, rfl⟩) | simp [nh] at hx)) (lit_sp [(⟨m, f, 9, 50, 8⟩ : Sp)] h2_ (Nat.le_of_ble_eq_true rfl) (fun j x hx => by rcases j with _ | j <;> first | (cases hx; exact ⟨rfl, rfl, rfl, rfl, rfl⟩) | simp at hx)); (with_reducible refine Calls.mono hx_ ?_); rintro e w1 ⟨p, pb, q, rfl, hm_⟩; have n_ := made3 (sep_drop (sep_drop h2_)) hm_; clear h1_ h2_ hx_ hm_; have n0_ := Aside0.mk n_; clear HS n_; have HS := n0_; clear n0_; skip)
  clear a0 a1 b0 b1 c0 c1
  go_upto_region 11 with (fail)
  have ha := a4 ip HB.out.2.1
  have hb := b4 port HB.out.2.2
  generalize (100 + ip.tmod 4) % 4294967296 = a at ha ⊢
  generalize IntKind.u16.wrap (1 + IntKind.u16.wrap (port.tmod 4)) = b at hb ⊢
  have HN : Aside0 (noneB a b = false) := ⟨noneB_no (by omega) (by omega)⟩
  have HA : Aside0 (a ≠ 1) := ⟨by omega⟩
  clear ha hb
  have n_ := sep_l3 (sep_l3 (sep_l3 (sep_allocg HS.out #[.int .u32 a, .int .u16 b] 28 _ rfl))); have n0_ := Aside0.mk n_; clear HS n_; have HS := n0_; clear n0_; generalize hw_ : World.alloc _ _ = wd at HS ⊢; clear hw_; generalize hp_ : Array.size (World.heap _) = g15 at HS ⊢; clear hp_
  (try clear a0 a1); have a0 := sep_cell (sep_l5 HS.out) 0; have a1 := sep_cell (sep_l5 HS.out) 1
  go_upto_region 12 with (go_at_call 11; obtain ⟨ok_, hp_, hk_⟩ := sep_use3 HS.out; have hx_ := sendB p pb nh [q] [] [⟨9, 20000, 1, 7, ⟨#[97]⟩, 1⟩] 8 0 _ ok_ 1 ⟨10, 7, 1⟩ 2 q (⟨m, f, 9, 50, 8, []⟩ : Bx) (⟨m, f, 9, 50, 8, L1 m⟩ : Bx) ⟨1, 7⟩ ⟨9, 20000⟩ ⟨#[97]⟩ 0 rfl rfl (by decide) rfl rfl (by decide) (Nat.le_of_ble_eq_true rfl) (by decide) (by decide) (ar_first q m f HM.out.1) (by decide +kernel) (by kernel_rfl) hp_; (with_reducible refine Calls.mono hx_ ?_); rintro e w1 ⟨rfl, hq_⟩; have n_ := back3 hk_ hq_; clear hx_ hp_ hk_ hq_; have n0_ := Aside0.mk n_; clear HS n_; have HS := n0_; clear n0_; skip)
  clear a0 a1
  go_upto_region 13 with (go_at_call 12; obtain ⟨ok_, hp_, hk_⟩ := sep_use3 HS.out; have hx_ := delI p pb nh [q] [⟨9, 20000, 1, 7, ⟨#[97]⟩, 1⟩] [] 8 1 _ ok_ 0 1 _ (boxA q (⟨m, f, 9, 50, 8, L1 m⟩ : Bx)) ⟨9, 20000, 1, 7, ⟨#[97]⟩, 1⟩ 9 20000 ⟨#[97]⟩ (by decide) (by kernel_rfl) (n_arr1 p pb q (boxA q (⟨m, f, 9, 50, 8, L1 m⟩ : Bx))) rfl rfl rfl hp_; (with_reducible refine Calls.mono hx_ ?_); rintro e w1 ⟨rfl, hq_⟩; have n_ := back3 hk_ hq_; clear hx_ hp_ hk_ hq_; have n0_ := Aside0.mk n_; clear HS n_; have HS := n0_; clear n0_; skip)
  have n_ := sep_l3 (sep_l3 (sep_l3 (sep_allocg HS.out #[.int .i64 1, .int .u32 9, .int .u16 20000, .string ⟨#[97]⟩] 42 _ rfl))); have n0_ := Aside0.mk n_; clear HS n_; have HS := n0_; clear n0_; generalize hw_ : World.alloc _ _ = we at HS ⊢; clear hw_; generalize hp_ : Array.size (World.heap _) = g16 at HS ⊢; clear hp_
  cases asked with
  | true =>
    obtain ⟨po, hpo⟩ : ∃ po : Int, (if m = 0 then 20000 else 20001) = po := ⟨_, rfl⟩
    have ho := ar_out q m f ⟨a, b⟩ HM.out.1 HA.out HN.out
    rw [hpo] at ho
    have HO := Aside0.mk ho
    have HP : Aside0 (noneB 9 po = false) := ⟨noneB_no (by decide) (by rw [← hpo]; split <;> decide)⟩
    clear hpo ho
    (try clear d0 d1); have d0 := sep_cell (sep_l4 HS.out) 0; have d1 := sep_cell (sep_l4 HS.out) 1
    go_upto_region 15 with (go_at_call 11; obtain ⟨ok_, hp_, hk_⟩ := sep_use3 HS.out; have hx_ := sendB p pb nh [q] [] [⟨9, po, a, b, ⟨#[98]⟩, 1 + 1⟩] 8 1 _ ok_ 1 ⟨10, 7, 1⟩ 2 q (⟨m, f, 9, 50, 8, L1 m⟩ : Bx) (⟨m, f, 9, 50, 8, L2 m ⟨a, b⟩⟩ : Bx) ⟨a, b⟩ ⟨9, po⟩ ⟨#[98]⟩ 0 rfl rfl (by decide) rfl HN.out (by decide) (Nat.le_of_ble_eq_true rfl) (by decide) (by decide) HO.out (putE_ok HP.out HN.out rfl (by decide)) (putL_ok (putE_ok HP.out HN.out rfl (by decide))) hp_; (with_reducible refine Calls.mono hx_ ?_); rintro e w1 ⟨rfl, hq_⟩; have n_ := back3 hk_ hq_; clear hx_ hp_ hk_ hq_; have n0_ := Aside0.mk n_; clear HS n_; have HS := n0_; clear n0_; skip)
    clear d0 d1
    go_upto_region 16 with (go_at_call 17; obtain ⟨ok_, hp_, hk_⟩ := sep_use2 HS.out; have hx_ := dropI p pb nh [q] [⟨9, po, a, b, ⟨#[98]⟩, 1 + 1⟩] [] 8 _ ok_ 0 0 ⟨9, po, a, b, ⟨#[98]⟩, 1 + 1⟩ (by decide) (by kernel_rfl) hp_; (with_reducible refine Calls.mono hx_ ?_); rintro e w1 ⟨rfl, hq_⟩; have n_ := back2 hk_ hq_; clear hx_ hp_ hk_ hq_; have n0_ := Aside0.mk n_; clear HS n_; have HS := n0_; clear n0_; skip)
    (try clear d0 d1); have d0 := sep_cell (sep_l4 HS.out) 0; have d1 := sep_cell (sep_l4 HS.out) 1
    (try clear x1 x2); have x1 := sep_cell (sep_l3 HS.out) 1; have x2 := sep_cell (sep_l3 HS.out) 2
    go_upto_region 17 with (go_at_call 18; obtain ⟨ok_, hp_, hk_⟩ := sep_use2 HS.out; have hx_ := injI p pb nh [q] [] [(⟨a, b, 9, 20000, ⟨#[99]⟩, 1 + 1⟩ : It)] 8 1 _ ok_ ⟨a, b⟩ ⟨9, 20000⟩ ⟨#[99]⟩ 0 (by decide) (by decide) (putE_ok HN.out rfl rfl (by decide)) (putL_ok (putE_ok HN.out rfl rfl (by decide))) hp_; (with_reducible refine Calls.mono hx_ ?_); rintro e w1 ⟨rfl, hq_⟩; have n_ := back2 hk_ hq_; clear hx_ hp_ hk_ hq_; have n0_ := Aside0.mk n_; clear HS n_; have HS := n0_; clear n0_; skip)
    clear x1 x2
    (try clear d0 d1); have d0 := sep_cell (sep_l4 HS.out) 0; have d1 := sep_cell (sep_l4 HS.out) 1
    (try clear b0 b1); have b0 := sep_cell (sep_l5 HS.out) 0; have b1 := sep_cell (sep_l5 HS.out) 1
    go_upto_region 18 with (go_at_call 18; obtain ⟨ok_, hp_, hk_⟩ := sep_use2 HS.out; have hx_ := injI p pb nh [q] [(⟨a, b, 9, 20000, ⟨#[99]⟩, 1 + 1⟩ : It)] [(⟨a, b, 9, 20000, ⟨#[99]⟩, 1 + 1⟩ : It), (⟨a, b, 10, 7, ⟨#[100]⟩, 1 + 1⟩ : It)] 8 1 _ ok_ ⟨a, b⟩ ⟨10, 7⟩ ⟨#[100]⟩ 0 (by decide) (by decide) (putE_ok HN.out rfl rfl (show ((1 : Nat) : Int) < 8 by decide)) (putL_ok (putE_ok HN.out rfl rfl (show ((1 : Nat) : Int) < 8 by decide))) hp_; (with_reducible refine Calls.mono hx_ ?_); rintro e w1 ⟨rfl, hq_⟩; have n_ := back2 hk_ hq_; clear hx_ hp_ hk_ hq_; have n0_ := Aside0.mk n_; clear HS n_; have HS := n0_; clear n0_; skip)
    clear b0 b1
    (try clear d0 d1); have d0 := sep_cell (sep_l4 HS.out) 0; have d1 := sep_cell (sep_l4 HS.out) 1
    (try clear a0 a1); have a0 := sep_cell (sep_l6 HS.out) 0; have a1 := sep_cell (sep_l6 HS.out) 1
    go_upto_region 19 with (go_at_call 18; obtain ⟨ok_, hp_, hk_⟩ := sep_use2 HS.out; have hx_ := injI p pb nh [q] [(⟨a, b, 9, 20000, ⟨#[99]⟩, 1 + 1⟩ : It), (⟨a, b, 10, 7, ⟨#[100]⟩, 1 + 1⟩ : It)] [(⟨a, b, 9, 20000, ⟨#[99]⟩, 1 + 1⟩ : It), (⟨a, b, 10, 7, ⟨#[100]⟩, 1 + 1⟩ : It), (⟨a, b, 1, 7, ⟨#[102]⟩, 1 + 1⟩ : It)] 8 1 _ ok_ ⟨a, b⟩ ⟨1, 7⟩ ⟨#[102]⟩ 0 (by decide) (by decide) (putE_ok HN.out rfl rfl (show ((2 : Nat) : Int) < 8 by decide)) (putL_ok (putE_ok HN.out rfl rfl (show ((2 : Nat) : Int) < 8 by decide))) hp_; (with_reducible refine Calls.mono hx_ ?_); rintro e w1 ⟨rfl, hq_⟩; have n_ := back2 hk_ hq_; clear hx_ hp_ hk_ hq_; have n0_ := Aside0.mk n_; clear HS n_; have HS := n0_; clear n0_; skip)
    clear a0 a1 d0 d1
    have n_ := sep_drop (sep_l5 (sep_drop (sep_l5 HS.out)))
    have n0_ := Aside0.mk n_; clear HS n_; have HS := n0_; clear n0_
    obtain ⟨L3, h3⟩ := ar_c p pb q m f ⟨a, b⟩ true ⟨#[99]⟩ (1 + 1) HM.out.2 HA.out HN.out
    obtain ⟨k, hk⟩ : ∃ k : Int, (if gets m f true = true then 2 else 0) = k := ⟨_, rfl⟩
    rw [hk] at h3
    have HK := Aside0.mk hk
    have H3 := Aside0.mk h3
    clear hk h3
    go_upto_region 20 with (go_at_call 12; obtain ⟨ok_, hp_, hk_⟩ := sep_use3 HS.out; have hx_ := delI p pb nh [q] [(⟨a, b, 9, 20000, ⟨#[99]⟩, 1 + 1⟩ : It), (⟨a, b, 10, 7, ⟨#[100]⟩, 1 + 1⟩ : It), (⟨a, b, 1, 7, ⟨#[102]⟩, 1 + 1⟩ : It)] [(⟨a, b, 10, 7, ⟨#[100]⟩, 1 + 1⟩ : It), (⟨a, b, 1, 7, ⟨#[102]⟩, 1 + 1⟩ : It)] 8 2 _ ok_ 0 k _ (boxA q (⟨m, f, 9, 50, 8, L3⟩ : Bx)) (⟨a, b, 9, 20000, ⟨#[99]⟩, 1 + 1⟩ : It) a b ⟨#[99]⟩ (by decide) (by kernel_rfl) H3.out rfl rfl rfl hp_; (with_reducible refine Calls.mono hx_ ?_); rintro e w1 ⟨rfl, hq_⟩; have n_ := back3 hk_ hq_; clear hx_ hp_ hk_ hq_; have n0_ := Aside0.mk n_; clear HS n_; have HS := n0_; clear n0_; skip)
    have n_ := sep_l3 (sep_l3 (sep_l3 (sep_allocg HS.out #[.int .i64 k, .int .u32 a, .int .u16 b, .string ⟨#[99]⟩] 42 _ rfl))); have n0_ := Aside0.mk n_; clear HS n_; have HS := n0_; clear n0_; generalize hw_ : World.alloc _ _ = wf at HS ⊢; clear hw_; generalize hp_ : Array.size (World.heap _) = g18 at HS ⊢; clear hp_
    go_upto_region 21 with (go_at_call 12; obtain ⟨ok_, hp_, hk_⟩ := sep_use3 HS.out; have hx_ := delI p pb nh [q] [(⟨a, b, 10, 7, ⟨#[100]⟩, 1 + 1⟩ : It), (⟨a, b, 1, 7, ⟨#[102]⟩, 1 + 1⟩ : It)] [(⟨a, b, 1, 7, ⟨#[102]⟩, 1 + 1⟩ : It)] 8 2 _ ok_ 0 0 _ (boxA q (⟨m, f, 9, 50, 8, L3⟩ : Bx)) (⟨a, b, 10, 7, ⟨#[100]⟩, 1 + 1⟩ : It) a b ⟨#[100]⟩ (by decide) (by kernel_rfl) (n_arr2 p pb q m f L3 a b (1 + 1)) rfl rfl rfl hp_; (with_reducible refine Calls.mono hx_ ?_); rintro e w1 ⟨rfl, hq_⟩; have n_ := back3 hk_ hq_; clear hx_ hp_ hk_ hq_; have n0_ := Aside0.mk n_; clear HS n_; have HS := n0_; clear n0_; skip)
    have n_ := sep_l3 (sep_l3 (sep_l3 (sep_allocg HS.out #[.int .i64 0, .int .u32 a, .int .u16 b, .string ⟨#[100]⟩] 42 _ rfl))); have n0_ := Aside0.mk n_; clear HS n_; have HS := n0_; clear n0_; generalize hw_ : World.alloc _ _ = wg at HS ⊢; clear hw_; generalize hp_ : Array.size (World.heap _) = g20 at HS ⊢; clear hp_
    go_upto_region 22 with (go_at_call 12; obtain ⟨ok_, hp_, hk_⟩ := sep_use3 HS.out; have hx_ := delI p pb nh [q] [(⟨a, b, 1, 7, ⟨#[102]⟩, 1 + 1⟩ : It)] [] 8 2 _ ok_ 0 1 _ (boxA q (⟨m, f, 9, 50, 8, L3⟩ : Bx)) (⟨a, b, 1, 7, ⟨#[102]⟩, 1 + 1⟩ : It) a b ⟨#[102]⟩ (by decide) (by kernel_rfl) (n_arr3 p pb q (boxA q (⟨m, f, 9, 50, 8, L3⟩ : Bx)) a b (1 + 1)) rfl rfl rfl hp_; (with_reducible refine Calls.mono hx_ ?_); rintro e w1 ⟨rfl, hq_⟩; have n_ := back3 hk_ hq_; clear hx_ hp_ hk_ hq_; have n0_ := Aside0.mk n_; clear HS n_; have HS := n0_; clear n0_; skip)
    have n_ := sep_l3 (sep_l3 (sep_l3 (sep_allocg HS.out #[.int .i64 1, .int .u32 a, .int .u16 b, .string ⟨#[102]⟩] 42 _ rfl))); have n0_ := Aside0.mk n_; clear HS n_; have HS := n0_; clear n0_; generalize hw_ : World.alloc _ _ = wh at HS ⊢; clear hw_; generalize hp_ : Array.size (World.heap _) = g22 at HS ⊢; clear hp_
    have n_ := sep_drop (sep_drop (sep_drop HS.out))
    have n0_ := Aside0.mk n_; clear HS n_; have HS := n0_; clear n0_
    have u0 := sep_cell HS.out 0
    have u1 := sep_cell HS.out 1
    have u2 := sep_cell HS.out 2
    have u3 := sep_cell HS.out 3
    have v0 := sep_cell (sep_l1 HS.out) 0
    have y0 := sep_cell (sep_l2 HS.out) 0
    have x0 := sep_cell (sep_l3 HS.out) 0
    have x1 := sep_cell (sep_l3 HS.out) 1
    (try clear d0 d1); have d0 := sep_cell (sep_l4 HS.out) 0; have d1 := sep_cell (sep_l4 HS.out) 1
    (try clear c0 c1); have c0 := sep_cell (sep_l5 HS.out) 0; have c1 := sep_cell (sep_l5 HS.out) 1
    by_cases hf : f = 0
    · have e1 : (f == 0) = true := beq_iff_eq.2 hf
      have e2 := eq_true hf
      obtain rfl : k = 2 := by have h := HK.out; unfold gets at h; simp [hf] at h; exact h.symm
      clear HK
      go_wp2
      go_ret
      exact ⟨rfl, sep_below_of HS.out⟩
    · have e1 : (f == 0) = false := beq_eq_false_iff_ne.2 hf
      have e2 := eq_false hf
      by_cases hm : m = 0
      · have e3 : (m == 0) = true := beq_iff_eq.2 hm
        have e4 := eq_true hm
        obtain rfl : k = 2 := by have h := HK.out; unfold gets at h; simp [hf, hm] at h; exact h.symm
        clear HK
        go_wp2
        go_ret
        exact ⟨rfl, sep_below_of HS.out⟩
      · have e3 : (m == 0) = false := beq_eq_false_iff_ne.2 hm
        have e4 := eq_false hm
        obtain rfl : k = 0 := by have h := HK.out; unfold gets at h; simp [hf, hm] at h; exact h.symm
        clear HK
        go_wp2
        go_ret
        exact ⟨rfl, sep_below_of HS.out⟩
  | false =>
    go_upto_region 16 with (fail)
    (try clear d0 d1); have d0 := sep_cell (sep_l4 HS.out) 0; have d1 := sep_cell (sep_l4 HS.out) 1
    (try clear x1 x2); have x1 := sep_cell (sep_l3 HS.out) 1; have x2 := sep_cell (sep_l3 HS.out) 2
    go_upto_region 17 with (go_at_call 18; obtain ⟨ok_, hp_, hk_⟩ := sep_use2 HS.out; have hx_ := injI p pb nh [q] [] [(⟨a, b, 9, 20000, ⟨#[99]⟩, 1 + 1⟩ : It)] 8 1 _ ok_ ⟨a, b⟩ ⟨9, 20000⟩ ⟨#[99]⟩ 0 (by decide) (by decide) (putE_ok HN.out rfl rfl (by decide)) (putL_ok (putE_ok HN.out rfl rfl (by decide))) hp_; (with_reducible refine Calls.mono hx_ ?_); rintro e w1 ⟨rfl, hq_⟩; have n_ := back2 hk_ hq_; clear hx_ hp_ hk_ hq_; have n0_ := Aside0.mk n_; clear HS n_; have HS := n0_; clear n0_; skip)
    clear x1 x2
    (try clear d0 d1); have d0 := sep_cell (sep_l4 HS.out) 0; have d1 := sep_cell (sep_l4 HS.out) 1
    (try clear b0 b1); have b0 := sep_cell (sep_l5 HS.out) 0; have b1 := sep_cell (sep_l5 HS.out) 1
    go_upto_region 18 with (go_at_call 18; obtain ⟨ok_, hp_, hk_⟩ := sep_use2 HS.out; have hx_ := injI p pb nh [q] [(⟨a, b, 9, 20000, ⟨#[99]⟩, 1 + 1⟩ : It)] [(⟨a, b, 9, 20000, ⟨#[99]⟩, 1 + 1⟩ : It), (⟨a, b, 10, 7, ⟨#[100]⟩, 1 + 1⟩ : It)] 8 1 _ ok_ ⟨a, b⟩ ⟨10, 7⟩ ⟨#[100]⟩ 0 (by decide) (by decide) (putE_ok HN.out rfl rfl (show ((1 : Nat) : Int) < 8 by decide)) (putL_ok (putE_ok HN.out rfl rfl (show ((1 : Nat) : Int) < 8 by decide))) hp_; (with_reducible refine Calls.mono hx_ ?_); rintro e w1 ⟨rfl, hq_⟩; have n_ := back2 hk_ hq_; clear hx_ hp_ hk_ hq_; have n0_ := Aside0.mk n_; clear HS n_; have HS := n0_; clear n0_; skip)
    clear b0 b1
    (try clear d0 d1); have d0 := sep_cell (sep_l4 HS.out) 0; have d1 := sep_cell (sep_l4 HS.out) 1
    (try clear a0 a1); have a0 := sep_cell (sep_l6 HS.out) 0; have a1 := sep_cell (sep_l6 HS.out) 1
    go_upto_region 19 with (go_at_call 18; obtain ⟨ok_, hp_, hk_⟩ := sep_use2 HS.out; have hx_ := injI p pb nh [q] [(⟨a, b, 9, 20000, ⟨#[99]⟩, 1 + 1⟩ : It), (⟨a, b, 10, 7, ⟨#[100]⟩, 1 + 1⟩ : It)] [(⟨a, b, 9, 20000, ⟨#[99]⟩, 1 + 1⟩ : It), (⟨a, b, 10, 7, ⟨#[100]⟩, 1 + 1⟩ : It), (⟨a, b, 1, 7, ⟨#[102]⟩, 1 + 1⟩ : It)] 8 1 _ ok_ ⟨a, b⟩ ⟨1, 7⟩ ⟨#[102]⟩ 0 (by decide) (by decide) (putE_ok HN.out rfl rfl (show ((2 : Nat) : Int) < 8 by decide)) (putL_ok (putE_ok HN.out rfl rfl (show ((2 : Nat) : Int) < 8 by decide))) hp_; (with_reducible refine Calls.mono hx_ ?_); rintro e w1 ⟨rfl, hq_⟩; have n_ := back2 hk_ hq_; clear hx_ hp_ hk_ hq_; have n0_ := Aside0.mk n_; clear HS n_; have HS := n0_; clear n0_; skip)
    clear a0 a1 d0 d1
    have n_ := sep_drop (sep_l5 (sep_drop (sep_l5 HS.out)))
    have n0_ := Aside0.mk n_; clear HS n_; have HS := n0_; clear n0_
    obtain ⟨L3, h3⟩ := ar_c p pb q m f ⟨a, b⟩ false ⟨#[99]⟩ (1 + 1) HM.out.2 HA.out HN.out
    obtain ⟨k, hk⟩ : ∃ k : Int, (if gets m f false = true then 2 else 0) = k := ⟨_, rfl⟩
    rw [hk] at h3
    have HK := Aside0.mk hk
    have H3 := Aside0.mk h3
    clear hk h3
    go_upto_region 20 with (go_at_call 12; obtain ⟨ok_, hp_, hk_⟩ := sep_use3 HS.out; have hx_ := delI p pb nh [q] [(⟨a, b, 9, 20000, ⟨#[99]⟩, 1 + 1⟩ : It), (⟨a, b, 10, 7, ⟨#[100]⟩, 1 + 1⟩ : It), (⟨a, b, 1, 7, ⟨#[102]⟩, 1 + 1⟩ : It)] [(⟨a, b, 10, 7, ⟨#[100]⟩, 1 + 1⟩ : It), (⟨a, b, 1, 7, ⟨#[102]⟩, 1 + 1⟩ : It)] 8 2 _ ok_ 0 k _ (boxA q (⟨m, f, 9, 50, 8, L3⟩ : Bx)) (⟨a, b, 9, 20000, ⟨#[99]⟩, 1 + 1⟩ : It) a b ⟨#[99]⟩ (by decide) (by kernel_rfl) H3.out rfl rfl rfl hp_; (with_reducible refine Calls.mono hx_ ?_); rintro e w1 ⟨rfl, hq_⟩; have n_ := back3 hk_ hq_; clear hx_ hp_ hk_ hq_; have n0_ := Aside0.mk n_; clear HS n_; have HS := n0_; clear n0_; skip)
    have n_ := sep_l3 (sep_l3 (sep_l3 (sep_allocg HS.out #[.int .i64 k, .int .u32 a, .int .u16 b, .string ⟨#[99]⟩] 42 _ rfl))); have n0_ := Aside0.mk n_; clear HS n_; have HS := n0_; clear n0_; generalize hw_ : World.alloc _ _ = wf at HS ⊢; clear hw_; generalize hp_ : Array.size (World.heap _) = g18 at HS ⊢; clear hp_
    go_upto_region 21 with (go_at_call 12; obtain ⟨ok_, hp_, hk_⟩ := sep_use3 HS.out; have hx_ := delI p pb nh [q] [(⟨a, b, 10, 7, ⟨#[100]⟩, 1 + 1⟩ : It), (⟨a, b, 1, 7, ⟨#[102]⟩, 1 + 1⟩ : It)] [(⟨a, b, 1, 7, ⟨#[102]⟩, 1 + 1⟩ : It)] 8 2 _ ok_ 0 0 _ (boxA q (⟨m, f, 9, 50, 8, L3⟩ : Bx)) (⟨a, b, 10, 7, ⟨#[100]⟩, 1 + 1⟩ : It) a b ⟨#[100]⟩ (by decide) (by kernel_rfl) (n_arr2 p pb q m f L3 a b (1 + 1)) rfl rfl rfl hp_; (with_reducible refine Calls.mono hx_ ?_); rintro e w1 ⟨rfl, hq_⟩; have n_ := back3 hk_ hq_; clear hx_ hp_ hk_ hq_; have n0_ := Aside0.mk n_; clear HS n_; have HS := n0_; clear n0_; skip)
    have n_ := sep_l3 (sep_l3 (sep_l3 (sep_allocg HS.out #[.int .i64 0, .int .u32 a, .int .u16 b, .string ⟨#[100]⟩] 42 _ rfl))); have n0_ := Aside0.mk n_; clear HS n_; have HS := n0_; clear n0_; generalize hw_ : World.alloc _ _ = wg at HS ⊢; clear hw_; generalize hp_ : Array.size (World.heap _) = g20 at HS ⊢; clear hp_
    go_upto_region 22 with (go_at_call 12; obtain ⟨ok_, hp_, hk_⟩ := sep_use3 HS.out; have hx_ := delI p pb nh [q] [(⟨a, b, 1, 7, ⟨#[102]⟩, 1 + 1⟩ : It)] [] 8 2 _ ok_ 0 1 _ (boxA q (⟨m, f, 9, 50, 8, L3⟩ : Bx)) (⟨a, b, 1, 7, ⟨#[102]⟩, 1 + 1⟩ : It) a b ⟨#[102]⟩ (by decide) (by kernel_rfl) (n_arr3 p pb q (boxA q (⟨m, f, 9, 50, 8, L3⟩ : Bx)) a b (1 + 1)) rfl rfl rfl hp_; (with_reducible refine Calls.mono hx_ ?_); rintro e w1 ⟨rfl, hq_⟩; have n_ := back3 hk_ hq_; clear hx_ hp_ hk_ hq_; have n0_ := Aside0.mk n_; clear HS n_; have HS := n0_; clear n0_; skip)
    have n_ := sep_l3 (sep_l3 (sep_l3 (sep_allocg HS.out #[.int .i64 1, .int .u32 a, .int .u16 b, .string ⟨#[102]⟩] 42 _ rfl))); have n0_ := Aside0.mk n_; clear HS n_; have HS := n0_; clear n0_; generalize hw_ : World.alloc _ _ = wh at HS ⊢; clear hw_; generalize hp_ : Array.size (World.heap _) = g22 at HS ⊢; clear hp_
    have n_ := sep_drop (sep_drop (sep_drop HS.out))
    have n0_ := Aside0.mk n_; clear HS n_; have HS := n0_; clear n0_
    have u0 := sep_cell HS.out 0
    have u1 := sep_cell HS.out 1
    have u2 := sep_cell HS.out 2
    have u3 := sep_cell HS.out 3
    have v0 := sep_cell (sep_l1 HS.out) 0
    have y0 := sep_cell (sep_l2 HS.out) 0
    have x0 := sep_cell (sep_l3 HS.out) 0
    have x1 := sep_cell (sep_l3 HS.out) 1
    (try clear d0 d1); have d0 := sep_cell (sep_l4 HS.out) 0; have d1 := sep_cell (sep_l4 HS.out) 1
    (try clear c0 c1); have c0 := sep_cell (sep_l5 HS.out) 0; have c1 := sep_cell (sep_l5 HS.out) 1
    by_cases hf : f = 0
    · have e1 : (f == 0) = true := beq_iff_eq.2 hf
      have e2 := eq_true hf
      obtain rfl : k = 2 := by have h := HK.out; unfold gets at h; simp [hf] at h; exact h.symm
      clear HK
      go_wp2
      go_ret
      exact ⟨rfl, sep_below_of HS.out⟩
    · have e1 : (f == 0) = false := beq_eq_false_iff_ne.2 hf
      have e2 := eq_false hf
      obtain rfl : k = 0 := by have h := HK.out; unfold gets at h; simp [hf] at h; exact h.symm
      clear HK
      go_wp2
      go_ret
      exact ⟨rfl, sep_below_of HS.out⟩
end Go.Proofs.Ytobfabfoenldfaa.NW
