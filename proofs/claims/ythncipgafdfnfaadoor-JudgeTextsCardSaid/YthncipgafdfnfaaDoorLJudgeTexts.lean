/- JudgeTexts, walked. Conditions: those that the theorem names. -/
import Derived.Test.YthncipgafdfnfaaDoorXD
import Derived.Laws.Strings
import Derived.WideShapes
namespace Go.Proofs.YthncipgafdfnfaaDoor.JW
set_option linter.unusedVariables false
set_option linter.unusedSimpArgs false
open Go Go.RowKit Go.Proofs.YthncipgafdfnfaaDoorS Go.Proofs.YthncipgafdfnfaaDoorS.Asn Go.Proofs.YthncipgafdfnfaaDoor.PA Go.Proofs.YthncipgafdfnfaaDoorW.PrintWords Go.Proofs.YthncipgafdfnfaaDoorW.PrintLast Go.Proofs.YthncipgafdfnfaaDoorW.PrintMore
theorem wordB_cases (st : Int) (h : 0 ≤ st ∧ st < 4) : (st = 0 ∧ wordB st = ⟨#[97, 108, 105, 118, 101]⟩) ∨ (st = 1 ∧ wordB st = ⟨#[115, 117, 115, 112, 101, 99, 116]⟩) ∨ (st = 2 ∧ wordB st = ⟨#[100, 101, 97, 100]⟩) ∨ (st = 3 ∧ wordB st = ⟨#[108, 101, 102, 116]⟩) := by
  obtain rfl | rfl | rfl | rfl : st = 0 ∨ st = 1 ∨ st = 2 ∨ st = 3 := by omega
  · exact .inl ⟨rfl, rfl⟩
  · exact .inr (.inl ⟨rfl, rfl⟩)
  · exact .inr (.inr (.inl ⟨rfl, rfl⟩))
  · exact .inr (.inr (.inr ⟨rfl, rfl⟩))
theorem one_list (r : Rec) : (one r).data.toList = [UInt8.ofNat (48 + r.id.toNat), 58] ++ (wordB r.st).data.toList ++ [64, UInt8.ofNat (48 + r.inc.toNat)] := by
  unfold one dig
  simp [ByteArray.data_append]
theorem one_len (r : Rec) (h : Fit r) : (one r).data.toList.length ≤ 11 := by
  rw [one_list]
  obtain ⟨-, h1⟩ | ⟨-, h1⟩ | ⟨-, h1⟩ | ⟨-, h1⟩ := wordB_cases r.st ⟨h.2.2.1, h.2.2.2.1⟩ <;> rw [h1] <;> simp
theorem one_inj (a b : Rec) (ha : Fit a) (hb : Fit b) (h : one a = one b) : a.id = b.id ∧ a.st = b.st ∧ a.inc = b.inc := by
  have hl := congrArg (fun x : ByteArray => x.data.toList) h
  rw [one_list, one_list] at hl
  obtain ⟨a1, a2, a3, a4, a5, a6⟩ := ha
  obtain ⟨b1, b2, b3, b4, b5, b6⟩ := hb
  have di : ∀ {x y : Int}, 0 ≤ x → x < 10 → 0 ≤ y → y < 10 → UInt8.ofNat x.toNat = UInt8.ofNat y.toNat → x = y := fun p q r s e => by
    have h2 := congrArg UInt8.toNat e
    simp at h2
    omega
  obtain ⟨p, h1⟩ | ⟨p, h1⟩ | ⟨p, h1⟩ | ⟨p, h1⟩ := wordB_cases a.st ⟨a3, a4⟩ <;> obtain ⟨q, h2⟩ | ⟨q, h2⟩ | ⟨q, h2⟩ | ⟨q, h2⟩ := wordB_cases b.st ⟨b3, b4⟩ <;> rw [h1, h2] at hl <;> simp at hl
  all_goals exact ⟨di a1 a2 b1 b2 hl.1, p.trans q.symm, di a5 a6 b5 b6 hl.2⟩
theorem one_same (a b : Rec) (h1 : a.id = b.id) (h2 : a.st = b.st) (h3 : a.inc = b.inc) : one a = one b := by unfold one; rw [h1, h2, h3]
theorem one_eq (a b : Rec) (h : one a = one b) : ((one a).toList == (one b).toList) = true := by rw [h]; exact beq_self_eq_true _
theorem one_ne (a b : Rec) (h : one a ≠ one b) : ((one a).toList == (one b).toList) = false := by
  rw [ByteArray.toList_eq, ByteArray.toList_eq, beq_eq_false_iff_ne]
  exact fun h2 => h (Go.WideShapes.bytes_inj h2)
theorem textE_one (a : Rec) : textE [a] = one a := by
  unfold textE
  rw [List.map_cons, List.map_nil, List.map_cons, List.map_nil, Lib.join_one]
theorem textE_two (a b : Rec) : textE [a, b] = (one a ++ (⟨#[32]⟩ : ByteArray)) ++ one b := by
  unfold textE
  simp [Lib.join_cons, Lib.joinTail]
  apply ByteArray.ext
  simp [ByteArray.data_append]
theorem t_one (r : Rec) (A : Option Addr) (w : World) (hf : Fit r) (h : recK.C w A (1 : Nat) [r]) : Calls Tryd.prog 15 #[.slice A 1 1] w fun e w' => e = .returned (.string (one r)) ∧ Below w.heap.size w w' := by
  have hx := text_walk A 1 [r] w h (by simp) (by simpa using hf) (by rw [List.map_cons, List.map_nil, List.map_cons, List.map_nil, Lib.join_one]; have := one_len r hf; omega)
  rw [textE_one] at hx
  exact hx
theorem t_two (r s : Rec) (A : Option Addr) (w : World) (hf : Fit r) (hg : Fit s) (h : recK.C w A (2 : Nat) [r, s]) : Calls Tryd.prog 15 #[.slice A 2 2] w fun e w' => e = .returned (.string ((one r ++ (⟨#[32]⟩ : ByteArray)) ++ one s)) ∧ Below w.heap.size w w' := by
  have hx := text_walk A 2 [r, s] w h (by simp) (by simpa using ⟨hf, hg⟩) (by have h1 := one_len r hf; have h2 := one_len s hg; simp only [List.map_cons, List.map_nil, Lib.join_cons, Lib.joinTail, List.flatten_cons, List.flatten_nil, List.length_append, List.length_cons, List.length_nil]; omega)
  rw [textE_two] at hx
  exact hx
theorem t_nil (w : World) : Calls Tryd.prog 15 #[.slice none 0 0] w fun e w' => e = .returned (.string ⟨#[]⟩) ∧ Below w.heap.size w w' := text_walk none 0 [] w (rec_nil w) (by simp) (by simp) (by simp [Lib.join_nil])
set_option maxHeartbeats 4000000 in
set_option maxRecDepth 100000 in
theorem judgeTexts_walk (x y : Th) (w : World) (hx : thOk x) (hy : thOk y) : Calls Tryd.prog 6 #[.agg #[.int .i64 x.r.id, .int .i64 x.r.st, .int .u32 x.r.inc, .int .u32 x.r.ip, .int .u16 x.r.po, .bool x.own], .agg #[.int .i64 y.r.id, .int .i64 y.r.st, .int .u32 y.r.inc, .int .u32 y.r.ip, .int .u16 y.r.po, .bool y.own]] w fun e w' => e = .returned (.bool true) ∧ Below w.heap.size w w' := by
  have HS := Aside0.mk (sep_start w)
  have HX := Aside0.mk hx
  have HY := Aside0.mk hy
  obtain ⟨a, ha⟩ : ∃ a, thE ⟨x.r, true⟩ = a := ⟨_, rfl⟩
  obtain ⟨b, hb⟩ : ∃ b, thE ⟨y.r, true⟩ = b := ⟨_, rfl⟩
  have hfa : Fit a := by have := thE_own ⟨x.r, true⟩ hx rfl; rw [ha] at this; unfold Fit; omega
  have hfb : Fit b := by have := thE_own ⟨y.r, true⟩ hy rfl; rw [hb] at this; unfold Fit; omega
  have HA := Aside0.mk ha
  have HB := Aside0.mk hb
  have HFA := Aside0.mk hfa
  have HFB := Aside0.mk hfb
  clear hx hy ha hb hfa hfb
  go_enter Tryd.func6, Tryd.ntmps6
  go_upto_region 1 with (fail)
  have n_ := sep_allocg (sep_allocg HS.out #[.int .i64 x.r.id, .int .i64 x.r.st, .int .u32 x.r.inc, .int .u32 x.r.ip, .int .u16 x.r.po, .bool x.own] 43 _ rfl) #[.int .i64 y.r.id, .int .i64 y.r.st, .int .u32 y.r.inc, .int .u32 y.r.ip, .int .u16 y.r.po, .bool y.own] 43 _ (szS _ rfl)
  have n0_ := Aside0.mk n_; clear HS n_; have HS := n0_; clear n0_
  generalize (w.alloc (.cells #[.int .i64 x.r.id, .int .i64 x.r.st, .int .u32 x.r.inc, .int .u32 x.r.ip, .int .u16 x.r.po, .bool x.own] 43)).alloc (.cells #[.int .i64 y.r.id, .int .i64 y.r.st, .int .u32 y.r.inc, .int .u32 y.r.ip, .int .u16 y.r.po, .bool y.own] 43) = wa at HS ⊢
  generalize w.heap.size + 1 = g2 at HS ⊢
  generalize w.heap.size = g1 at HS ⊢
  go_upto_region 4 with (go_at_call 8; (with_reducible refine Calls.mono (examples_walk _) ?_); rintro e w1 ⟨rfl, hb_⟩; have n_ := sep_below HS.out hb_; clear hb_; have n0_ := Aside0.mk n_; clear HS n_; have HS := n0_; clear n0_; skip)
  have k5 := sep_cell (sep_l1 HS.out) 5
  have f5 := sep_frozen (sep_l1 HS.out) 5
  go_upto_region 5 with (fail)
  have n_ := sep_l1 (sep_set (sep_l1 HS.out) 5 (.bool true))
  rw [show (#[.int .i64 x.r.id, .int .i64 x.r.st, .int .u32 x.r.inc, .int .u32 x.r.ip, .int .u16 x.r.po, .bool x.own] : Array Value).setIfInBounds 5 (.bool true) = #[.int .i64 x.r.id, .int .i64 x.r.st, .int .u32 x.r.inc, .int .u32 x.r.ip, .int .u16 x.r.po, .bool true] from rfl] at n_
  have n0_ := Aside0.mk n_; clear HS n_; have HS := n0_; clear n0_
  generalize w1.setCell ⟨g1, 5, none⟩ (.bool true) = wb at HS ⊢
  clear k5 f5
  have k5 := sep_cell HS.out 5
  have f5 := sep_frozen HS.out 5
  go_upto_region 6 with (fail)
  have n_ := sep_set HS.out 5 (.bool true)
  rw [show (#[.int .i64 y.r.id, .int .i64 y.r.st, .int .u32 y.r.inc, .int .u32 y.r.ip, .int .u16 y.r.po, .bool y.own] : Array Value).setIfInBounds 5 (.bool true) = #[.int .i64 y.r.id, .int .i64 y.r.st, .int .u32 y.r.inc, .int .u32 y.r.ip, .int .u16 y.r.po, .bool true] from rfl] at n_
  have n0_ := Aside0.mk n_; clear HS n_; have HS := n0_; clear n0_
  generalize wb.setCell ⟨g2, 5, none⟩ (.bool true) = wc at HS ⊢
  clear k5 f5
  obtain ⟨k0, k1, k2, k3, k4, k5⟩ := facts6 (sep_l1 HS.out)
  go_upto_region 7 with (go_at_call 13; (have hx_ := own_walk x.r wc HX.out; rw [HA.out] at hx_; (with_reducible refine Calls.mono hx_ ?_); rintro e w1 ⟨rfl, hb_⟩; have n_ := sep_below HS.out hb_; clear hb_ hx_; have n0_ := Aside0.mk n_; clear HS n_; have HS := n0_; clear n0_))
  have n_ := sep_l1 (sep_drop (sep_l2 (sep_alloc HS.out #[.int .i64 a.id, .int .i64 a.st, .int .u32 a.inc, .int .u32 a.ip, .int .u16 a.po] 36)))
  have n0_ := Aside0.mk n_; clear HS n_; have HS := n0_; clear n0_
  generalize w1.alloc (.cells #[.int .i64 a.id, .int .i64 a.st, .int .u32 a.inc, .int .u32 a.ip, .int .u16 a.po] 36) = wd at HS ⊢
  generalize w1.heap.size = g3 at HS ⊢
  clear k0 k1 k2 k3 k4 k5
  obtain ⟨k0, k1, k2, k3, k4, k5⟩ := facts6 HS.out
  go_upto_region 8 with (go_at_call 13; (have hx_ := own_walk y.r wd HY.out; rw [HB.out] at hx_; (with_reducible refine Calls.mono hx_ ?_); rintro e w1 ⟨rfl, hb_⟩; have n_ := sep_below HS.out hb_; clear hb_ hx_; have n0_ := Aside0.mk n_; clear HS n_; have HS := n0_; clear n0_))
  have n_ := sep_drop (sep_l1 (sep_alloc HS.out #[.int .i64 b.id, .int .i64 b.st, .int .u32 b.inc, .int .u32 b.ip, .int .u16 b.po] 36))
  have n0_ := Aside0.mk n_; clear HS n_; have HS := n0_; clear n0_
  generalize w1.alloc (.cells #[.int .i64 b.id, .int .i64 b.st, .int .u32 b.inc, .int .u32 b.ip, .int .u16 b.po] 36) = we at HS ⊢
  generalize w1.heap.size = g4 at HS ⊢
  clear k0 k1 k2 k3 k4 k5
  (try clear k1 k2 k3 k4 k5); (try clear m1 m2 m3 m4 m5); obtain ⟨m1, m2, m3, m4, m5⟩ := facts5 HS.out; obtain ⟨k1, k2, k3, k4, k5⟩ := facts5 (sep_l1 HS.out)
  go_upto_region 9 with (go_at_call 15; have h1 := sep_allocg HS.out #[.int .i64 a.id, .int .i64 a.st, .int .u32 a.inc, .int .u32 a.ip, .int .u16 a.po] 36 _ rfl; have hx_ := t_one a _ _ HFA.out (lit1 a.cells h1 rfl rfl (recK_mk _ _)); ((with_reducible refine Calls.mono hx_ ?_); rintro e w1 ⟨rfl, hb_⟩; have n_ := sep_drop (sep_below h1 hb_); clear hb_ hx_; (try clear h1); (try clear h2); (try clear h3); have n0_ := Aside0.mk n_; clear HS n_; have HS := n0_; clear n0_; (try clear k1 k2 k3 k4 k5); (try clear m1 m2 m3 m4 m5); obtain ⟨m1, m2, m3, m4, m5⟩ := facts5 HS.out; obtain ⟨k1, k2, k3, k4, k5⟩ := facts5 (sep_l1 HS.out)))
  go_upto_region 10 with (go_at_call 15; have h1 := sep_allocg HS.out #[.int .i64 b.id, .int .i64 b.st, .int .u32 b.inc, .int .u32 b.ip, .int .u16 b.po] 36 _ rfl; have hx_ := t_one b _ _ HFB.out (lit1 b.cells h1 rfl rfl (recK_mk _ _)); ((with_reducible refine Calls.mono hx_ ?_); rintro e w1 ⟨rfl, hb_⟩; have n_ := sep_drop (sep_below h1 hb_); clear hb_ hx_; (try clear h1); (try clear h2); (try clear h3); have n0_ := Aside0.mk n_; clear HS n_; have HS := n0_; clear n0_; (try clear k1 k2 k3 k4 k5); (try clear m1 m2 m3 m4 m5); obtain ⟨m1, m2, m3, m4, m5⟩ := facts5 HS.out; obtain ⟨k1, k2, k3, k4, k5⟩ := facts5 (sep_l1 HS.out)))
  have za : (one a).size ≤ 11 := one_len a HFA.out
  have zb : (one b).size ≤ 11 := one_len b HFB.out
  have z1 : (9223372036854775807 < (one a).size + 1) = False := eq_false (by omega)
  have z2 : (9223372036854775807 < (one a).size + 1 + (one b).size) = False := eq_false (by omega)
  clear za zb
  by_cases q1 : a.id = b.id
  · have i1 : (a.id == b.id) = true := beq_iff_eq.2 q1
    have i2 := eq_true q1
    by_cases q2 : a.st = b.st
    · have j1 : (a.st == b.st) = true := beq_iff_eq.2 q2
      have j2 := eq_true q2
      by_cases q3 : a.inc = b.inc
      · have l1 : (a.inc == b.inc) = true := beq_iff_eq.2 q3
        have l2 := eq_true q3
        have s1 := one_eq a b (one_same a b q1 q2 q3)
        clear q1 q2 q3
        go_wp2_with (first
          | (go_at_call 15; have h1 := sep_allocg HS.out #[.int .i64 a.id, .int .i64 a.st, .int .u32 a.inc, .int .u32 a.ip, .int .u16 a.po, .int .i64 b.id, .int .i64 b.st, .int .u32 b.inc, .int .u32 b.ip, .int .u16 b.po] 36 _ rfl; have hx_ := t_two a b _ _ HFA.out HFB.out (lit2 a.cells b.cells h1 rfl rfl rfl (recK_mk _ _) (recK_mk _ _)); ((with_reducible refine Calls.mono hx_ ?_); rintro e w1 ⟨rfl, hb_⟩; have n_ := sep_drop (sep_below h1 hb_); clear hb_ hx_; (try clear h1); (try clear h2); (try clear h3); have n0_ := Aside0.mk n_; clear HS n_; have HS := n0_; clear n0_; (try clear k1 k2 k3 k4 k5); (try clear m1 m2 m3 m4 m5); obtain ⟨m1, m2, m3, m4, m5⟩ := facts5 HS.out; obtain ⟨k1, k2, k3, k4, k5⟩ := facts5 (sep_l1 HS.out)))
          | (go_at_call 15; have hx_ := t_nil w1; ((with_reducible refine Calls.mono hx_ ?_); rintro e w1 ⟨rfl, hb_⟩; have n_ := id (sep_below HS.out hb_); clear hb_ hx_; (try clear h1); (try clear h2); (try clear h3); have n0_ := Aside0.mk n_; clear HS n_; have HS := n0_; clear n0_; (try clear k1 k2 k3 k4 k5); (try clear m1 m2 m3 m4 m5); obtain ⟨m1, m2, m3, m4, m5⟩ := facts5 HS.out; obtain ⟨k1, k2, k3, k4, k5⟩ := facts5 (sep_l1 HS.out))))
        go_ret
        exact ⟨rfl, sep_below_of HS.out⟩
      · have l1 : (a.inc == b.inc) = false := beq_eq_false_iff_ne.2 q3
        have l2 := eq_false q3
        have s1 := one_ne a b (fun h => q3 (one_inj a b HFA.out HFB.out h).2.2)
        clear q1 q2 q3
        go_wp2_with (first
          | (go_at_call 15; have h1 := sep_allocg HS.out #[.int .i64 a.id, .int .i64 a.st, .int .u32 a.inc, .int .u32 a.ip, .int .u16 a.po, .int .i64 b.id, .int .i64 b.st, .int .u32 b.inc, .int .u32 b.ip, .int .u16 b.po] 36 _ rfl; have hx_ := t_two a b _ _ HFA.out HFB.out (lit2 a.cells b.cells h1 rfl rfl rfl (recK_mk _ _) (recK_mk _ _)); ((with_reducible refine Calls.mono hx_ ?_); rintro e w1 ⟨rfl, hb_⟩; have n_ := sep_drop (sep_below h1 hb_); clear hb_ hx_; (try clear h1); (try clear h2); (try clear h3); have n0_ := Aside0.mk n_; clear HS n_; have HS := n0_; clear n0_; (try clear k1 k2 k3 k4 k5); (try clear m1 m2 m3 m4 m5); obtain ⟨m1, m2, m3, m4, m5⟩ := facts5 HS.out; obtain ⟨k1, k2, k3, k4, k5⟩ := facts5 (sep_l1 HS.out)))
          | (go_at_call 15; have hx_ := t_nil w1; ((with_reducible refine Calls.mono hx_ ?_); rintro e w1 ⟨rfl, hb_⟩; have n_ := id (sep_below HS.out hb_); clear hb_ hx_; (try clear h1); (try clear h2); (try clear h3); have n0_ := Aside0.mk n_; clear HS n_; have HS := n0_; clear n0_; (try clear k1 k2 k3 k4 k5); (try clear m1 m2 m3 m4 m5); obtain ⟨m1, m2, m3, m4, m5⟩ := facts5 HS.out; obtain ⟨k1, k2, k3, k4, k5⟩ := facts5 (sep_l1 HS.out))))
        go_ret
        exact ⟨rfl, sep_below_of HS.out⟩
    · have j1 : (a.st == b.st) = false := beq_eq_false_iff_ne.2 q2
      have j2 := eq_false q2
      have s1 := one_ne a b (fun h => q2 (one_inj a b HFA.out HFB.out h).2.1)
      clear q1 q2
      go_wp2_with (first
        | (go_at_call 15; have h1 := sep_allocg HS.out #[.int .i64 a.id, .int .i64 a.st, .int .u32 a.inc, .int .u32 a.ip, .int .u16 a.po, .int .i64 b.id, .int .i64 b.st, .int .u32 b.inc, .int .u32 b.ip, .int .u16 b.po] 36 _ rfl; have hx_ := t_two a b _ _ HFA.out HFB.out (lit2 a.cells b.cells h1 rfl rfl rfl (recK_mk _ _) (recK_mk _ _)); ((with_reducible refine Calls.mono hx_ ?_); rintro e w1 ⟨rfl, hb_⟩; have n_ := sep_drop (sep_below h1 hb_); clear hb_ hx_; (try clear h1); (try clear h2); (try clear h3); have n0_ := Aside0.mk n_; clear HS n_; have HS := n0_; clear n0_; (try clear k1 k2 k3 k4 k5); (try clear m1 m2 m3 m4 m5); obtain ⟨m1, m2, m3, m4, m5⟩ := facts5 HS.out; obtain ⟨k1, k2, k3, k4, k5⟩ := facts5 (sep_l1 HS.out)))
        | (go_at_call 15; have hx_ := t_nil w1; ((with_reducible refine Calls.mono hx_ ?_); rintro e w1 ⟨rfl, hb_⟩; have n_ := id (sep_below HS.out hb_); clear hb_ hx_; (try clear h1); (try clear h2); (try clear h3); have n0_ := Aside0.mk n_; clear HS n_; have HS := n0_; clear n0_; (try clear k1 k2 k3 k4 k5); (try clear m1 m2 m3 m4 m5); obtain ⟨m1, m2, m3, m4, m5⟩ := facts5 HS.out; obtain ⟨k1, k2, k3, k4, k5⟩ := facts5 (sep_l1 HS.out))))
      go_ret
      exact ⟨rfl, sep_below_of HS.out⟩
  · have i1 : (a.id == b.id) = false := beq_eq_false_iff_ne.2 q1
    have i2 := eq_false q1
    have s1 := one_ne a b (fun h => q1 (one_inj a b HFA.out HFB.out h).1)
    clear q1
    go_wp2_with (first
      | (go_at_call 15; have h1 := sep_allocg HS.out #[.int .i64 a.id, .int .i64 a.st, .int .u32 a.inc, .int .u32 a.ip, .int .u16 a.po, .int .i64 b.id, .int .i64 b.st, .int .u32 b.inc, .int .u32 b.ip, .int .u16 b.po] 36 _ rfl; have hx_ := t_two a b _ _ HFA.out HFB.out (lit2 a.cells b.cells h1 rfl rfl rfl (recK_mk _ _) (recK_mk _ _)); ((with_reducible refine Calls.mono hx_ ?_); rintro e w1 ⟨rfl, hb_⟩; have n_ := sep_drop (sep_below h1 hb_); clear hb_ hx_; (try clear h1); (try clear h2); (try clear h3); have n0_ := Aside0.mk n_; clear HS n_; have HS := n0_; clear n0_; (try clear k1 k2 k3 k4 k5); (try clear m1 m2 m3 m4 m5); obtain ⟨m1, m2, m3, m4, m5⟩ := facts5 HS.out; obtain ⟨k1, k2, k3, k4, k5⟩ := facts5 (sep_l1 HS.out)))
      | (go_at_call 15; have hx_ := t_nil w1; ((with_reducible refine Calls.mono hx_ ?_); rintro e w1 ⟨rfl, hb_⟩; have n_ := id (sep_below HS.out hb_); clear hb_ hx_; (try clear h1); (try clear h2); (try clear h3); have n0_ := Aside0.mk n_; clear HS n_; have HS := n0_; clear n0_; (try clear k1 k2 k3 k4 k5); (try clear m1 m2 m3 m4 m5); obtain ⟨m1, m2, m3, m4, m5⟩ := facts5 HS.out; obtain ⟨k1, k2, k3, k4, k5⟩ := facts5 (sep_l1 HS.out))))
    go_ret
    exact ⟨rfl, sep_below_of HS.out⟩
end Go.Proofs.YthncipgafdfnfaaDoor.JW
