/- JudgeFirst, walked: a case. Conditions: those that the theorem names. -/
import Derived.Test.YthncipgafdfnfaaDoorJF
namespace Go.Proofs.YthncipgafdfnfaaDoor.JW
set_option linter.unusedVariables false
set_option linter.unusedSimpArgs false
open Go Go.RowKit Go.Proofs.YthncipgafdfnfaaDoorS Go.Proofs.YthncipgafdfnfaaDoorS.Asn Go.Proofs.YthncipgafdfnfaaDoor.PA Go.Proofs.YthncipgafdfnfaaDoorW.PrintWords Go.Proofs.YthncipgafdfnfaaDoorW.PrintLast Go.Proofs.YthncipgafdfnfaaDoorW.PrintMore

set_option maxHeartbeats 4000000 in
set_option maxRecDepth 100000 in
theorem judgeFirst_B (x y : Th) (up : Bool) (hup : up = true) (w : World) (hx : thOk x) (hy : thOk y) (hlv : liveB ⟨2, (thE ⟨x.r, true⟩).st, (thE ⟨x.r, true⟩).inc, (thE ⟨x.r, true⟩).ip, (thE ⟨x.r, true⟩).po⟩ = false) : Calls Tryd.prog 7 #[.agg #[.int .i64 x.r.id, .int .i64 x.r.st, .int .u32 x.r.inc, .int .u32 x.r.ip, .int .u16 x.r.po, .bool x.own], .agg #[.int .i64 y.r.id, .int .i64 y.r.st, .int .u32 y.r.inc, .int .u32 y.r.ip, .int .u16 y.r.po, .bool y.own], .bool up] w fun e w' => e = .returned (.bool true) ∧ Below w.heap.size w w' := by
  have HS := Aside0.mk (sep_start w)
  have HX := Aside0.mk hx
  have HY := Aside0.mk hy
  obtain ⟨a0, ha0⟩ : ∃ a, thE ⟨x.r, true⟩ = a := ⟨_, rfl⟩
  obtain ⟨b0, hb0⟩ : ∃ b, thE ⟨y.r, true⟩ = b := ⟨_, rfl⟩
  rw [ha0] at hlv
  obtain ⟨a, ha⟩ : ∃ a : Rec, a = ⟨2, a0.st, a0.inc, a0.ip, a0.po⟩ := ⟨_, rfl⟩
  obtain ⟨b, hb⟩ : ∃ b : Rec, b = ⟨2, b0.st, b0.inc, b0.ip, b0.po⟩ := ⟨_, rfl⟩
  rw [← ha] at hlv
  have HLL := Aside0.mk hlv
  have HUP := Aside0.mk hup
  clear hlv hup
  have HA0 := Aside0.mk ha0
  have HB0 := Aside0.mk hb0
  have HA := Aside0.mk ha
  have HB := Aside0.mk hb
  have HAI : Aside0 (a.id = 2) := ⟨by rw [ha]⟩
  have HBI : Aside0 (b.id = 2) := ⟨by rw [hb]⟩
  clear hx hy ha0 hb0 ha hb
  go_enter Tryd.func7, Tryd.ntmps7
  go_upto_region 1 with (fail)
  have n_ := sep_allocg (sep_allocg HS.out #[.int .i64 x.r.id, .int .i64 x.r.st, .int .u32 x.r.inc, .int .u32 x.r.ip, .int .u16 x.r.po, .bool x.own] 43 _ rfl) #[.int .i64 y.r.id, .int .i64 y.r.st, .int .u32 y.r.inc, .int .u32 y.r.ip, .int .u16 y.r.po, .bool y.own] 43 _ (szS _ rfl)
  have n0_ := Aside0.mk n_; clear HS n_; have HS := n0_; clear n0_
  generalize (w.alloc (.cells #[.int .i64 x.r.id, .int .i64 x.r.st, .int .u32 x.r.inc, .int .u32 x.r.ip, .int .u16 x.r.po, .bool x.own] 43)).alloc (.cells #[.int .i64 y.r.id, .int .i64 y.r.st, .int .u32 y.r.inc, .int .u32 y.r.ip, .int .u16 y.r.po, .bool y.own] 43) = wa at HS ⊢
  generalize w.heap.size + 1 = g2 at HS ⊢
  generalize w.heap.size = g1 at HS ⊢
  go_upto_region 4 with (go_at_call 8; (with_reducible refine Calls.mono (examples_walk _) ?_); rintro e w1 ⟨rfl, hb_⟩; have n_ := sep_below HS.out hb_; clear hb_; have n0_ := Aside0.mk n_; clear HS n_; have HS := n0_; clear n0_; skip)
  have k5 := sep_cell (sep_l1 HS.out) 5
  have f5 := sep_frozen (sep_l1 HS.out) 5
  go_upto_region 5 with (fail)
  have n_ := sep_l1 (sep_set (sep_l1 HS.out) 5 (.bool true))
  rw [show (#[.int .i64 x.r.id, .int .i64 x.r.st, .int .u32 x.r.inc, .int .u32 x.r.ip, .int .u16 x.r.po, .bool x.own] : Array Value).setIfInBounds 5 (.bool true) = #[.int .i64 x.r.id, .int .i64 x.r.st, .int .u32 x.r.inc, .int .u32 x.r.ip, .int .u16 x.r.po, .bool true] from rfl] at n_
  have n0_ := Aside0.mk n_; clear HS n_; have HS := n0_; clear n0_
  generalize w1.setCell ⟨g1, 5, none⟩ (.bool true) = wb at HS ⊢
  clear k5 f5
  have k5 := sep_cell HS.out 5
  have f5 := sep_frozen HS.out 5
  go_upto_region 6 with (fail)
  have n_ := sep_set HS.out 5 (.bool true)
  rw [show (#[.int .i64 y.r.id, .int .i64 y.r.st, .int .u32 y.r.inc, .int .u32 y.r.ip, .int .u16 y.r.po, .bool y.own] : Array Value).setIfInBounds 5 (.bool true) = #[.int .i64 y.r.id, .int .i64 y.r.st, .int .u32 y.r.inc, .int .u32 y.r.ip, .int .u16 y.r.po, .bool true] from rfl] at n_
  have n0_ := Aside0.mk n_; clear HS n_; have HS := n0_; clear n0_
  generalize wb.setCell ⟨g2, 5, none⟩ (.bool true) = wc at HS ⊢
  clear k5 f5
  obtain ⟨k0, k1, k2, k3, k4, k5⟩ := facts6 (sep_l1 HS.out)
  go_upto_region 7 with (go_at_call 13; (have hx_ := own_walk x.r wc HX.out; rw [HA0.out] at hx_; (with_reducible refine Calls.mono hx_ ?_); rintro e w1 ⟨rfl, hb_⟩; have n_ := sep_below HS.out hb_; clear hb_ hx_; have n0_ := Aside0.mk n_; clear HS n_; have HS := n0_; clear n0_))
  have n_ := sep_l1 (sep_drop (sep_l2 (sep_alloc HS.out #[.int .i64 a0.id, .int .i64 a0.st, .int .u32 a0.inc, .int .u32 a0.ip, .int .u16 a0.po] 36)))
  have n0_ := Aside0.mk n_; clear HS n_; have HS := n0_; clear n0_
  generalize w1.alloc (.cells #[.int .i64 a0.id, .int .i64 a0.st, .int .u32 a0.inc, .int .u32 a0.ip, .int .u16 a0.po] 36) = wd at HS ⊢
  generalize w1.heap.size = g3 at HS ⊢
  clear k0 k1 k2 k3 k4 k5
  obtain ⟨k0, k1, k2, k3, k4, k5⟩ := facts6 HS.out
  go_upto_region 8 with (go_at_call 13; (have hx_ := own_walk y.r wd HY.out; rw [HB0.out] at hx_; (with_reducible refine Calls.mono hx_ ?_); rintro e w1 ⟨rfl, hb_⟩; have n_ := sep_below HS.out hb_; clear hb_ hx_; have n0_ := Aside0.mk n_; clear HS n_; have HS := n0_; clear n0_))
  have n_ := sep_drop (sep_l1 (sep_alloc HS.out #[.int .i64 b0.id, .int .i64 b0.st, .int .u32 b0.inc, .int .u32 b0.ip, .int .u16 b0.po] 36))
  have n0_ := Aside0.mk n_; clear HS n_; have HS := n0_; clear n0_
  generalize w1.alloc (.cells #[.int .i64 b0.id, .int .i64 b0.st, .int .u32 b0.inc, .int .u32 b0.ip, .int .u16 b0.po] 36) = we at HS ⊢
  generalize w1.heap.size = g4 at HS ⊢
  clear k0 k1 k2 k3 k4 k5
  have k0 := sep_cell (sep_l1 HS.out) 0
  have f0 := sep_frozen (sep_l1 HS.out) 0
  go_upto_region 9 with (fail)
  have n_ := sep_l1 (sep_set (sep_l1 HS.out) 0 (.int .i64 2))
  rw [show (#[.int .i64 a0.id, .int .i64 a0.st, .int .u32 a0.inc, .int .u32 a0.ip, .int .u16 a0.po] : Array Value).setIfInBounds 0 (.int .i64 2) = #[.int .i64 a.id, .int .i64 a.st, .int .u32 a.inc, .int .u32 a.ip, .int .u16 a.po] by rw [HA.out]; rfl] at n_
  have n0_ := Aside0.mk n_; clear HS n_; have HS := n0_; clear n0_
  generalize we.setCell ⟨g3, 0, none⟩ (.int .i64 2) = wf at HS ⊢
  clear k0 f0
  have k0 := sep_cell HS.out 0
  have f0 := sep_frozen HS.out 0
  go_upto_region 10 with (fail)
  have n_ := sep_set HS.out 0 (.int .i64 2)
  rw [show (#[.int .i64 b0.id, .int .i64 b0.st, .int .u32 b0.inc, .int .u32 b0.ip, .int .u16 b0.po] : Array Value).setIfInBounds 0 (.int .i64 2) = #[.int .i64 b.id, .int .i64 b.st, .int .u32 b.inc, .int .u32 b.ip, .int .u16 b.po] by rw [HB.out]; rfl] at n_
  have n0_ := Aside0.mk n_; clear HS n_; have HS := n0_; clear n0_
  generalize wf.setCell ⟨g4, 0, none⟩ (.int .i64 2) = wg at HS ⊢
  clear k0 f0
  obtain ⟨m1, m2, m3, m4, m5⟩ := facts5 HS.out
  obtain ⟨k1, k2, k3, k4, k5⟩ := facts5 (sep_l1 HS.out)
  go_upto_region 11 with (go_at_call 12; go_loud (have h1 := sep_allocg HS.out #[.int .i64 a.id, .int .i64 a.st, .int .u32 a.inc, .int .u32 a.ip, .int .u16 a.po, .int .i64 b.id, .int .i64 b.st, .int .u32 b.inc, .int .u32 b.ip, .int .u16 b.po] 36 _ rfl; have h2 := sep_allocg h1 #[.int .i64 1, .int .i64 0, .int .u32 0, .int .u32 0, .int .u16 0] 36 _ (szS _ rfl); have h3 := sep_allocg h2 #[.slice (some ⟨wg.heap.size, 0, none⟩) 2 2, .slice (some ⟨wg.heap.size + 1, 0, none⟩) 1 1] 24 _ (szS _ (szS _ rfl)); have h4 := sep_allocg h3 #[.bool true, .bool up] 4 _ (szS _ (szS _ (szS _ rfl))); have hx_ := c_wrong a b up _ _ _ (lit2 (d := llK) [.slice (some ⟨wg.heap.size, 0, none⟩) 2 2] [.slice (some ⟨wg.heap.size + 1, 0, none⟩) 1 1] (sep_l1 h4) rfl rfl rfl (ll_K (l := [a, b]) (Nat.le_refl 2) (lit2 a.cells b.cells (sep_l3 h4) rfl rfl rfl (recK_mk _ _) (recK_mk _ _))) (ll_K (l := [r1]) (Nat.le_refl 1) (lit1 r1.cells (sep_l2 h4) rfl rfl (recK_mk _ _)))) (lit2 (d := Kd.bool) [.bool true] [.bool up] h4 rfl rfl rfl rfl rfl) HAI.out; (with_reducible refine Calls.mono hx_ ?_); rintro e w1 ⟨v1, rfl, hm_⟩; have n_ := sep_made_of (sep_drop (sep_drop3 h4)) (sep_only hm_); clear hm_ hx_ h1 h2 h3 h4; have n0_ := Aside0.mk n_; clear HS n_; have HS := n0_; clear n0_))
  go_upto_region 12 with (go_at_call 12; go_loud (have h1 := sep_allocg HS.out #[.bool true, .bool up] 4 _ rfl; have hx_ := c_none up _ _ (lit2 (d := Kd.bool) [.bool true] [.bool up] h1 rfl rfl rfl rfl rfl); (with_reducible refine Calls.mono hx_ ?_); rintro e w1 ⟨v2, rfl, hm_⟩; have n_ := sep_made_of (sep_drop h1) (sep_only hm_); clear hm_ hx_ h1; have n0_ := Aside0.mk n_; clear HS n_; have HS := n0_; clear n0_))
  (try clear k1 k2 k3 k4 k5); (try clear m1 m2 m3 m4 m5); obtain ⟨m1, m2, m3, m4, m5⟩ := facts5 (sep_l2 HS.out); obtain ⟨k1, k2, k3, k4, k5⟩ := facts5 (sep_l3 HS.out)
  have n_ := sep_drew HS.out
  have n0_ := Aside0.mk n_; clear HS n_; have HS := n0_; clear n0_
  (try clear k1 k2 k3 k4 k5); (try clear m1 m2 m3 m4 m5); obtain ⟨m1, m2, m3, m4, m5⟩ := facts5 (sep_l2 HS.out); obtain ⟨k1, k2, k3, k4, k5⟩ := facts5 (sep_l3 HS.out)
  have HID : Aside0 (a.id = b.id) := ⟨HAI.out.trans HBI.out.symm⟩
  have hl2 := live_f a
  rw [HLL.out] at hl2 HS
  have HLV := Aside0.mk hl2
  obtain rfl := HUP.out
  obtain ⟨d, hd⟩ : ∃ d, order b a = d := ⟨_, rfl⟩
  have ho := order_f b a
  rw [hd] at ho
  have HO := Aside0.mk ho
  have HD := Aside0.mk hd
  clear hl2 ho hd
  have n_ := HS.out
  simp only [reduceIte, Bool.false_eq_true, Bool.true_eq_false] at n_
  have n0_ := Aside0.mk n_; clear HS n_; have HS := n0_; clear n0_
  obtain ⟨A2, c2, rfl, -, -⟩ := sep_row HS.out
  obtain ⟨A1, c1, rfl, -, -⟩ := sep_row (sep_l1 HS.out)
  (first | go_region_held3 (fun w' => w'.cell? ⟨g4, 0, none⟩ = some (.int .i64 b.id) ∧ w'.cell? ⟨g4, 1, none⟩ = some (.int .i64 b.st) ∧ w'.cell? ⟨g4, 2, none⟩ = some (.int .u32 b.inc) ∧ w'.cell? ⟨g4, 3, none⟩ = some (.int .u32 b.ip) ∧ w'.cell? ⟨g4, 4, none⟩ = some (.int .u16 b.po) ∧ w'.cell? ⟨g3, 0, none⟩ = some (.int .i64 a.id) ∧ w'.cell? ⟨g3, 1, none⟩ = some (.int .i64 a.st) ∧ w'.cell? ⟨g3, 2, none⟩ = some (.int .u32 a.inc) ∧ w'.cell? ⟨g3, 3, none⟩ = some (.int .u32 a.ip) ∧ w'.cell? ⟨g3, 4, none⟩ = some (.int .u16 a.po)) (first | exact ⟨m1, m2, m3, m4, m5, k1, k2, k3, k4, k5⟩ | exact keep10 HS.out | exact keep10 (sep_skip HS.out _) | exact keep10 (sep_skip (sep_skip HS.out _) _)) (first | (go_at_call 16; (with_reducible refine Calls.mono (record_Record_Live.calls a.id a.st a.inc a.ip a.po false _ HLV.out) ?_); rintro e w1 ⟨rfl, hb_⟩; have n_ := sep_below HS.out hb_; clear hb_; have n0_ := Aside0.mk n_; clear HS n_; have HS := n0_; clear n0_; (try clear k1 k2 k3 k4 k5); (try clear m1 m2 m3 m4 m5); obtain ⟨m1, m2, m3, m4, m5⟩ := facts5 (sep_l2 HS.out); obtain ⟨k1, k2, k3, k4, k5⟩ := facts5 (sep_l3 HS.out)) | (go_at_call 11; have h1 := sep_allocg HS.out #[.int .i64 a.id, .int .i64 a.st, .int .u32 a.inc, .int .u32 a.ip, .int .u16 a.po] 36 _ rfl; have h2 := sep_allocg h1 #[.int .i64 a.id, .int .i64 a.st, .int .u32 a.inc, .int .u32 a.ip, .int .u16 a.po, .int .i64 b.id, .int .i64 b.st, .int .u32 b.inc, .int .u32 b.ip, .int .u16 b.po] 36 _ (szS _ rfl); have hx_ := c_rises1 a b _ _ _ (lit1 a.cells (sep_l1 h2) rfl rfl (recK_mk _ _)) (lit2 a.cells b.cells h2 rfl rfl rfl (recK_mk _ _) (recK_mk _ _)); ((with_reducible refine Calls.mono hx_ ?_); rintro e w1 ⟨rfl, hb_⟩; have n_ := sep_drop2 (sep_below h2 hb_); clear hb_ hx_; (try clear h1); (try clear h2); (try clear h3); have n0_ := Aside0.mk n_; clear HS n_; have HS := n0_; clear n0_; (try clear k1 k2 k3 k4 k5); (try clear m1 m2 m3 m4 m5); obtain ⟨m1, m2, m3, m4, m5⟩ := facts5 (sep_l2 HS.out); obtain ⟨k1, k2, k3, k4, k5⟩ := facts5 (sep_l3 HS.out))) | (go_at_call 11; have h1 := sep_allocg HS.out #[.int .i64 a.id, .int .i64 a.st, .int .u32 a.inc, .int .u32 a.ip, .int .u16 a.po, .int .i64 b.id, .int .i64 b.st, .int .u32 b.inc, .int .u32 b.ip, .int .u16 b.po] 36 _ rfl; have h2 := sep_allocg h1 #[.int .i64 b.id, .int .i64 b.st, .int .u32 b.inc, .int .u32 b.ip, .int .u16 b.po] 36 _ (szS _ rfl); have hx_ := c_rises2 a b _ _ _ (lit2 a.cells b.cells (sep_l1 h2) rfl rfl rfl (recK_mk _ _) (recK_mk _ _)) (lit1 b.cells h2 rfl rfl (recK_mk _ _)) HID.out; rw [HD.out] at hx_; ((with_reducible refine Calls.mono hx_ ?_); rintro e w1 ⟨rfl, hb_⟩; have n_ := sep_drop2 (sep_below h2 hb_); clear hb_ hx_; (try clear h1); (try clear h2); (try clear h3); have n0_ := Aside0.mk n_; clear HS n_; have HS := n0_; clear n0_; (try clear k1 k2 k3 k4 k5); (try clear m1 m2 m3 m4 m5); obtain ⟨m1, m2, m3, m4, m5⟩ := facts5 (sep_l2 HS.out); obtain ⟨k1, k2, k3, k4, k5⟩ := facts5 (sep_l3 HS.out))) | (go_at_call 11; have h1 := sep_allocg HS.out #[.int .i64 a.id, .int .i64 a.st, .int .u32 a.inc, .int .u32 a.ip, .int .u16 a.po, .int .i64 b.id, .int .i64 b.st, .int .u32 b.inc, .int .u32 b.ip, .int .u16 b.po] 36 _ rfl; have h2 := sep_allocg h1 #[.int .i64 a.id, .int .i64 a.st, .int .u32 a.inc, .int .u32 a.ip, .int .u16 a.po] 36 _ (szS _ rfl); have hx_ := c_rises1 a b _ _ _ (lit1 a.cells h2 rfl rfl (recK_mk _ _)) (lit2 a.cells b.cells (sep_l1 h2) rfl rfl rfl (recK_mk _ _) (recK_mk _ _)); ((with_reducible refine Calls.mono hx_ ?_); rintro e w1 ⟨rfl, hb_⟩; have n_ := sep_drop2 (sep_below h2 hb_); clear hb_ hx_; (try clear h1); (try clear h2); (try clear h3); have n0_ := Aside0.mk n_; clear HS n_; have HS := n0_; clear n0_; (try clear k1 k2 k3 k4 k5); (try clear m1 m2 m3 m4 m5); obtain ⟨m1, m2, m3, m4, m5⟩ := facts5 (sep_l2 HS.out); obtain ⟨k1, k2, k3, k4, k5⟩ := facts5 (sep_l3 HS.out))) | (go_at_call 11; have h1 := sep_allocg HS.out #[.int .i64 b.id, .int .i64 b.st, .int .u32 b.inc, .int .u32 b.ip, .int .u16 b.po] 36 _ rfl; have h2 := sep_allocg h1 #[.int .i64 a.id, .int .i64 a.st, .int .u32 a.inc, .int .u32 a.ip, .int .u16 a.po, .int .i64 b.id, .int .i64 b.st, .int .u32 b.inc, .int .u32 b.ip, .int .u16 b.po] 36 _ (szS _ rfl); have hx_ := c_rises2 a b _ _ _ (lit2 a.cells b.cells h2 rfl rfl rfl (recK_mk _ _) (recK_mk _ _)) (lit1 b.cells (sep_l1 h2) rfl rfl (recK_mk _ _)) HID.out; rw [HD.out] at hx_; ((with_reducible refine Calls.mono hx_ ?_); rintro e w1 ⟨rfl, hb_⟩; have n_ := sep_drop2 (sep_below h2 hb_); clear hb_ hx_; (try clear h1); (try clear h2); (try clear h3); have n0_ := Aside0.mk n_; clear HS n_; have HS := n0_; clear n0_; (try clear k1 k2 k3 k4 k5); (try clear m1 m2 m3 m4 m5); obtain ⟨m1, m2, m3, m4, m5⟩ := facts5 (sep_l2 HS.out); obtain ⟨k1, k2, k3, k4, k5⟩ := facts5 (sep_l3 HS.out))) | (go_at_call 17; (with_reducible refine Calls.mono (record_Order.calls 5 b.id b.st b.inc b.ip b.po a.id a.st a.inc a.ip a.po d _ HO.out) ?_); rintro e w1 ⟨rfl, hb_⟩; have n_ := sep_below HS.out hb_; clear hb_; have n0_ := Aside0.mk n_; clear HS n_; have HS := n0_; clear n0_; (try clear k1 k2 k3 k4 k5); (try clear m1 m2 m3 m4 m5); obtain ⟨m1, m2, m3, m4, m5⟩ := facts5 (sep_l2 HS.out); obtain ⟨k1, k2, k3, k4, k5⟩ := facts5 (sep_l3 HS.out)) | fail) | fail)
  all_goals
    go_wp2
    go_ret
    exact ⟨rfl, sep_below_of HS.out⟩
end Go.Proofs.YthncipgafdfnfaaDoor.JW
