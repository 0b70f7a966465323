/- Written by xprint.py, a program of this session: Go functions that the laws reach, each as a plain Lean function, and the proof that the Go code comes to what it says. No condition but those that each theorem names. -/
import Derived.Test.YtbkileohjcijpaaPAx0
import Derived.Test.YtbkileohjcijpaaPAx1
import Derived.Test.YtbkileohjcijpaaPAx2
import Derived.Test.YtbkileohjcijpaaPAx3
import Derived.Test.YtbkileohjcijpaaPAx4
import Derived.WalkSpells
import Derived.WalkLawsBesides
import Derived.Laws.IdiomStrings
import Derived.Laws.BytesArg
import Derived.Test.YtbkileohjcijpaaXAux
namespace Go.Proofs.Ytbkileohjcijpaa.PA
open Go.RowKit Go.Proofs.YtbkileohjcijpaaW.PrintWords Go.Proofs.YtbkileohjcijpaaW.PrintLast Go.Proofs.YtbkileohjcijpaaW.PrintMore
attribute [local go_sem] max2_int min2_int max_two min_two max_three min_three max_four min_four   -- for this text's walks alone
set_option linter.unusedVariables false
set_option linter.unusedSimpArgs false

/-! ### scuttlebuttlaw01_DrawMixed: function 4 -/
attribute [local go_sem] max2_int min2_int max_two min_two max_three min_three max_four min_four
def cells8 (f : Nat → Int) : Array Value := #[.int .i64 (f 0), .int .i64 (f 1), .int .i64 (f 2), .int .i64 (f 3), .int .i64 (f 4), .int .i64 (f 5), .int .i64 (f 6), .int .i64 (f 7)]
theorem cells8_get (f : Nat → Int) (j : Nat) (hj : j < 8) : (cells8 f)[j]? = some (.int .i64 (f j)) := by
  match j, hj with
  | 0, _ => rfl
  | 1, _ => rfl
  | 2, _ => rfl
  | 3, _ => rfl
  | 4, _ => rfl
  | 5, _ => rfl
  | 6, _ => rfl
  | 7, _ => rfl
theorem cells8_set (f : Nat → Int) (j : Nat) (hj : j < 8) (y : Int) : (cells8 f).setIfInBounds j (.int .i64 y) = cells8 (fun v => if v = j then y else f v) := by
  match j, hj with
  | 0, _ => rfl
  | 1, _ => rfl
  | 2, _ => rfl
  | 3, _ => rfl
  | 4, _ => rfl
  | 5, _ => rfl
  | 6, _ => rfl
  | 7, _ => rfl
theorem own_ne {w : World} {base : Nat} {ok : Nat → Prop} {v : Value} {xs : List Int} {g : Nat} {cs : Array Value} (h : Kd.R (Kd.int .i64) 3 w base ok v xs) (hb : w.heap[g]? = some (.cells cs 46 (0, 0))) : some g ≠ v.ownBlock := by
  intro e
  obtain ⟨_, _, ho, _⟩ := h
  obtain ⟨cells, hc⟩ := own_typed ho g e.symm
  rw [hb] at hc
  injection hc with hc
  injection hc with _ hc _
  exact absurd hc (by decide)
theorem rt46 : ∀ q, q ∈ 3 :: (Kd.int .i64).E → q ≠ 46 := by
  intro q hq
  have : q = 3 := by simpa [Kd.int, Kd.scalar] using hq
  omega
theorem rt26 : ∀ q, q ∈ 3 :: (Kd.int .i64).E → q ≠ 26 := by
  intro q hq
  have : q = 3 := by simpa [Kd.int, Kd.scalar] using hq
  omega
theorem cells8_congr {f f' : Nat → Int} (h : ∀ v, v < 8 → f v = f' v) : cells8 f = cells8 f' := by
  unfold cells8
  rw [h 0 (by omega), h 1 (by omega), h 2 (by omega), h 3 (by omega), h 4 (by omega), h 5 (by omega), h 6 (by omega), h 7 (by omega)]
theorem same2 (k : Nat) (Ac Aa : Option Addr) (cc ca : Nat) (a c : List Int) (hcc : c.length ≤ cc) (hca : a.length ≤ ca) (hle : c.length ≤ a.length) (hs : scuttlebuttlaw01_same.f k c (a.take c.length) = some true) (W : World) (h1 : Kd.C (Kd.int .i64) W Ac c.length c) (h2 : Kd.C (Kd.int .i64) W Aa a.length a) :
    Calls Try.prog 18 #[.slice Ac c.length cc, .slice Aa c.length ca] W fun e w' => e = .returned (.bool true) ∧ Drawn0 W w' := by
  have htl : (a.take c.length).length = c.length := by rw [List.length_take]; exact Nat.min_eq_left hle
  have h3 : Kd.C (Kd.int .i64) W Aa (a.take c.length).length (a.take c.length) := Kd.C_take h2 hle
  have h := scuttlebuttlaw01_same.calls k Ac cc c Aa ca (a.take c.length) true W h1 hcc h3 (by rw [htl]; exact Nat.le_trans hle hca) hs
  rw [htl] at h
  exact h
/-- The numbers below 8 that the law takes. -/
def low (l : List Int) : List Int := l.map (fun x => wrap64 (Int.tmod x 8))
def tally (l : List Int) (v : Nat) : Int := (l.count (v : Int) : Nat)
theorem tally_snoc (l : List Int) (m : Nat) : (fun v => if v = m then wrap64 (tally l m + 1) else tally l v) = (fun v => if v = m then wrap64 (tally l m + 1) else tally (l ++ [(m : Int)]) v) := by
  funext v
  by_cases h : v = m
  · rw [if_pos h, if_pos h]
  · rw [if_neg h, if_neg h]
    unfold tally
    rw [List.count_append, List.count_singleton]
    have : ((m : Int) == (v : Int)) = false := by simp; omega
    simp [this]
theorem tally_step (l : List Int) (m : Nat) (hl : l.length ≤ 1000) : (fun v => if v = m then wrap64 (tally l m + 1) else tally l v) = tally (l ++ [(m : Int)]) := by
  rw [tally_snoc]
  funext v
  by_cases h : v = m
  · subst h
    rw [if_pos rfl]
    unfold tally
    have h1 : l.count (v : Int) ≤ l.length := List.count_le_length
    rw [List.count_append, List.count_singleton]
    simp
    unfold wrap64
    omega
  · rw [if_neg h]
theorem tally_start (L a : List Int) : (fun v => tally L v - tally (a.take 0) v) = tally L := by
  funext v
  rw [List.take_zero]
  unfold tally
  simp
theorem tally_sub (L a : List Int) (i m : Nat) (hn : a.take (i + 1) = a.take i ++ [(m : Int)]) (hL : L.length ≤ 30) (ha : a.length ≤ 30) :
    (fun v => if v = m then wrap64 (tally L m - tally (a.take i) m - 1) else tally L v - tally (a.take i) v) = fun v => tally L v - tally (a.take (i + 1)) v := by
  funext v
  rw [hn]
  by_cases h : v = m
  · subst h
    rw [if_pos rfl]
    unfold tally
    have h1 : L.count (v : Int) ≤ L.length := List.count_le_length
    have h2 : (a.take i).count (v : Int) ≤ (a.take i).length := List.count_le_length
    rw [List.length_take] at h2
    rw [List.count_append, List.count_singleton]
    simp
    unfold wrap64
    omega
  · rw [if_neg h]
    unfold tally
    rw [List.count_append, List.count_singleton]
    have : ((m : Int) == (v : Int)) = false := by simp; omega
    simp [this]
set_option maxHeartbeats 8000000 in
set_option maxRecDepth 100000 in
theorem mixed_walk (k : Nat) (a0 : Int) (A1 : Option Addr) (c1 : Nat) (l1 : List Int) (a2 : Int) (w : World) (hr1 : Kd.C (Kd.int .u8) w A1 l1.length l1) (hc1 : l1.length ≤ c1)
   (hex : scuttlebuttlaw01_examples.f k = some true) (hpos : ∀ x ∈ l1, 0 ≤ x ∧ x < 256) (a c : List Int) (s : Int) (hmix : draw_Stream_Mix.f k a0 (low (l1.take 30)) = some (a, s)) (hsome : draw_Stream_Some.f k a0 (low (l1.take 30)) (wrap64 (Int.tmod a2 40)) = some (c, s)) (hs1 : scuttlebuttlaw01_same.f k a a = some true) (hs2 : scuttlebuttlaw01_same.f k c (a.take c.length) = some true) (hcl : (c.length : Int) = mn (wrap64 (Int.tmod a2 40)) ((low (l1.take 30)).length : Int)) (hal : a.length = (low (l1.take 30)).length) (hca : c.length ≤ a.length) (hrange : ∀ x ∈ a, 0 ≤ x ∧ x ≤ 7) (hcnt : ∀ v : Nat, v < 8 → a.count (v : Int) = (low (l1.take 30)).count (v : Int)) :
  Calls Try.prog 4 #[.int .u64 a0, .slice A1 l1.length c1, .int .u8 a2] w fun e w' => e = .returned (.bool true) ∧ Below w.heap.size w w' := by
  have hlen : l1.length ≤ 9223372036854775807 := hr1.2.1
  have HR1 := Aside0.mk hr1
  have HP := Aside0.mk hpos
  have HMIX := Aside0.mk hmix
  have HSOME := Aside0.mk hsome
  have HS1 := Aside0.mk hs1
  have HS2 := Aside0.mk hs2
  have HCL := Aside0.mk hcl
  have HAL := Aside0.mk hal
  have HCA := Aside0.mk hca
  have HRG := Aside0.mk hrange
  have HCNT := Aside0.mk hcnt
  clear hr1 hpos hmix hsome hs1 hs2 hcl hal hca hrange hcnt
  have HB := Aside0.mk (Below.refl w.heap.size w)
  go_enter Try.func4, Try.ntmps4
  go_upto_region 5 with (go_at_call 8; refine Calls.mono (scuttlebuttlaw01_examples.calls k true _ hex) ?_; rintro e w1 ⟨rfl, hb1⟩; have n0_ := Aside0.mk (below_step HB.out hb1); clear HB; have HB := n0_; clear n0_ hb1)
  go_upto_region 6 with (first | ((with_reducible refine gate_dst (N := 9) rfl ?_); refine box_event ?hg (N := 9) ?hd (cs := cells8 (fun _ => 0)) (t := 46) ?hr ?_; (case hd => rfl); (case hg => rfl); (case hr => first | (go_simp; done) | (go_simp; rfl)); intro g hg w2 hbox hb2; have HG := Aside0.mk (show w.heap.size ≤ g by (have := below_size HB.out; omega)); have BK := Aside0.mk hbox; have n0_ := Aside0.mk (below_step HB.out hb2); clear HB; have HB := n0_; clear n0_ hb2 hbox hg))
  go_upto_region 7 with (fail)
  go_loopg [8, 10] 30 (fun gg v8 v10 wr => ∃ i : Nat, i ≤ l1.length ∧ i ≤ 30 ∧ 30 - i ≤ gg ∧ v10 = .int .i64 (i : Int) ∧ Aside0 (Kd.R (Kd.int .i64) 3 wr w.heap.size (fun _ => True) v8 (low (l1.take i))) ∧ Aside0 (wr.heap[g]? = some (.cells (cells8 (tally (low (l1.take i)))) 46 (0, 0))) ∧ Aside0 (Below w.heap.size w wr))
  case atStart => exact ⟨0, by omega, by omega, by omega, rfl, ⟨by rw [List.take_zero]; exact Kd.R_nil _ _ _ _ _⟩, ⟨by rw [List.take_zero, show cells8 (tally (low [])) = cells8 (fun _ => 0) from rfl]; exact BK.out⟩, ⟨HB.out⟩⟩
  case round =>
    clear BK HB
    obtain ⟨i, hi1, hi30, hgg, rfl, HO, BK, HB⟩ := hrel
    by_cases hb : i < l1.length ∧ i < 30
    · obtain ⟨hlt, h30⟩ := hb
      have c1b : decide ((i : Int) < (l1.length : Int)) = true := decide_eq_true (by omega)
      have c2b : decide ((i : Int) < 30) = true := decide_eq_true (by omega)
      have p0 : 0 ≤ (i : Int) := by omega
      have q0 : (i : Int) < (l1.length : Int) := by omega
      obtain ⟨ad, e_, hx⟩ := Kd.at_int HR1.out (i : Int) p0 q0
      cases e_
      rw [Int.toNat_natCast] at hx
      have hx0 := hx
      replace hx := (HB.out.cell (World.block_lt_of_cell? w _ hx)).trans hx
      have hel : rd l1 (i : Int) = l1[i] := by simp [rd, List.getD, hlt]
      rw [hel] at hx hx0
      have hxr := HP.out l1[i] (List.getElem_mem hlt)
      have hnext : low (l1.take (i + 1)) = low (l1.take i) ++ [wrap64 (Int.tmod l1[i] 8)] := by
        unfold low
        rw [List.take_succ_eq_append_getElem hlt, List.map_append]
        rfl
      have hll : (low (l1.take i)).length ≤ 30 := by unfold low; rw [List.length_map, List.length_take]; omega
      obtain ⟨m, hm⟩ : ∃ m : Nat, Int.tmod l1[i] 8 = (m : Int) := ⟨(Int.tmod l1[i] 8).toNat, by have := Int.tmod_nonneg 8 hxr.1; omega⟩
      have hm8 : m < 8 := by have := Int.tmod_lt_of_pos l1[i] (show (0 : Int) < 8 by decide); omega
      have hmw : wrap64 (m : Int) = (m : Int) := by unfold wrap64; omega
      rw [hm, hmw] at hnext
      have p1 := eq_true (Int.natCast_nonneg m)
      have q1 := eq_true (Int.ofNat_lt.2 hm8 : (m : Int) < ((8 : Nat) : Int))
      rw [show ((8 : Nat) : Int) = 8 from rfl] at q1
      have p0e := eq_true p0
      have q0e := eq_true q0
      have HN := Aside0.mk hnext
      have HLL := Aside0.mk hll
      have HM8 := Aside0.mk hm8
      have HI := Aside0.mk (And.intro hlt (And.intro h30 hgg))
      generalize l1[i] = y at hx hx0 hm hxr
      clear hnext hll hm8 hel hxr hlt h30 hgg hi1 hi30 p0 q0 hlen
      go_wp2_with (first | ((with_reducible refine gate_builtin (b := .append) (xs := #[.tmp 34, .tmp 41]) rfl ?_); at_builtin; refine Kd.R_append (Kd.int .i64) (w0 := w) w.heap.size rfl (.tmp 34) (.tmp 41) 23 3 (.int .i64 0) 8 rfl Try.underlying23 info3 rfl (by decide) (by omega) u8 (low (l1.take i)) (m : Int) [.int .i64 (m : Int)] (fun _ => True) (fun _ => False) rfl rfl ?aP (fun _ hk => hk.elim) ?aF ?aO ?aB ?aS ?aL ?_; (case aP => exact rfl); (case aB => exact (by repeat (first | (with_reducible first | exact HB.out | apply below_alloc | apply pw_below_drewN | apply below_drew1) | exact HB.out))); (case aF => exact (fun _ _ => trivial)); (case aO => exact (by (with_reducible repeat (first | apply Kd.R_alloc | apply Kd.R_drewN | apply Kd.R_drew)); exact HO.out)); (case aS => exact (below_size (by repeat (first | (with_reducible first | exact HB.out | apply below_alloc | apply pw_below_drewN | apply below_drew1) | exact HB.out)))); (case aL => have := HLL.out; omega); intro v8' w11 ho hb1 hg hat; rw [← HN.out] at ho; have n2_ := Aside0.mk (blk_grown (by (with_reducible repeat (first | refine blk_drewN ?_ _ | refine blk_drew ?_ | refine blk_alloc ?_ _)); exact BK.out) hg (own_ne HO.out BK.out)); have hx2 := (hb1.cell (World.block_lt_of_cell? w _ hx0)).trans hx0; clear hx hx0; clear HB; have HB := Aside0.mk hb1; have HO' := Aside0.mk ho; clear BK; have BK := n2_; clear n2_ hb1 ho hat; have hc8 : w11.cell? ⟨g, m, none⟩ = some (.int .i64 (tally (low (l1.take i)) m)) := (blk_cell BK.out m).trans (cells8_get _ m HM8.out); have hf8 := blk_frozen BK.out m))
      go_roundg (30 - (i + 1))
      case measure => have := HI.out; omega
      case rel =>
        have hi_ := HI.out
        have hl_ := HLL.out
        refine ⟨i + 1, by omega, by omega, by omega, congrArg (Value.int .i64) (by unfold wrap64; omega), ⟨Kd.R_set HO'.out BK.out rt46 _ _⟩, ⟨blk_put BK.out m _ ?_⟩, ⟨below_set HB.out HG.out⟩⟩
        rw [cells8_set _ m HM8.out, tally_step _ m (by omega), ← HN.out]
    · have htk : l1.take i = l1.take 30 := by
        by_cases h30 : i = 30
        · rw [h30]
        · rw [List.take_of_length_le (by omega), List.take_of_length_le (by omega)]
      rw [htk] at HO BK
      have hc : (decide ((i : Int) < (l1.length : Int)) = false ∧ decide (i < l1.length) = false ∧ ((i : Int) < (l1.length : Int)) = False ∧ (i < l1.length) = False) ∨ ((decide ((i : Int) < (l1.length : Int)) = true ∧ decide (i < l1.length) = true ∧ ((i : Int) < (l1.length : Int)) = True ∧ (i < l1.length) = True) ∧ (decide ((i : Int) < 30) = false ∧ decide (i < 30) = false ∧ ((i : Int) < 30) = False ∧ (i < 30) = False)) := by
        by_cases hlt : i < l1.length
        · exact Or.inr ⟨⟨decide_eq_true (by omega), decide_eq_true hlt, eq_true (by omega), eq_true hlt⟩, ⟨decide_eq_false (by omega), decide_eq_false (by omega), eq_false (by omega), eq_false (by omega)⟩⟩
        · exact Or.inl ⟨decide_eq_false (by omega), decide_eq_false hlt, eq_false (by omega), eq_false hlt⟩
      clear htk hb hgg hi1 hi30
      have HLEN : Aside0 ((low (l1.take 30)).length ≤ 30) := ⟨by unfold low; rw [List.length_map, List.length_take]; omega⟩
      generalize low (l1.take 30) = L at HO BK HMIX HSOME HCL HAL HCNT HLEN
      rcases hc with ⟨c1b, c1n, c1p, c1q⟩ | ⟨⟨c1b, c1n, c1p, c1q⟩, c2b, c2n, c2p, c2q⟩
      all_goals go_upto_region 11 with (fail)
      all_goals obtain ⟨A, cL, rfl, hcL, _⟩ := Kd.R_reads HO.out
      all_goals have HL := HO
      all_goals clear HO
      all_goals go_upto_region 12 with (first | (go_at_call 9; refine Calls.mono (draw_New.calls a0 a0 _ rfl) ?_; rintro e w1_ ⟨rfl, hb_⟩; have n0_ := Aside0.mk (blk_below (g := g) (o := .cells (cells8 (tally L)) 46 (0, 0)) (by (with_reducible repeat (first | refine blk_drewN ?_ _ | refine blk_drew ?_ | refine blk_alloc ?_ _)); exact BK.out) hb_); have n1_ := Aside0.mk (Kd.R_below (by (with_reducible repeat (first | apply Kd.R_alloc | apply Kd.R_drewN | apply Kd.R_drew)); exact HL.out) hb_); have n2_ := Aside0.mk (below_step (by repeat (first | (with_reducible first | exact HB.out | apply below_alloc | apply pw_below_drewN | apply below_drew1) | exact HB.out)) hb_); clear BK HL HB; have BK := n0_; have HL := n1_; have HB := n2_; clear n0_ n1_ n2_; clear hb_) | (go_at_call 14; refine Calls.mono (draw_Stream_Mix.calls k a0 A cL L a s _ ?hR hcL HMIX.out) ?_; (case hR => (exact (Kd.R_reads' (by (with_reducible repeat (first | apply Kd.R_alloc | apply Kd.R_drewN | apply Kd.R_drew)); exact HL.out)).2.2)); rintro e w2_ ⟨va, rfl, ho_, hb_⟩; have hra_ := Aside0.mk (Kd.R_lower ho_ (below_size (by repeat (first | (with_reducible first | exact HB.out | apply below_alloc | apply pw_below_drewN | apply below_drew1) | exact HB.out)))); have n0_ := Aside0.mk (blk_below (g := g) (o := .cells (cells8 (tally L)) 46 (0, 0)) (by (with_reducible repeat (first | refine blk_drewN ?_ _ | refine blk_drew ?_ | refine blk_alloc ?_ _)); exact BK.out) hb_); have n1_ := Aside0.mk (Kd.R_below (by (with_reducible repeat (first | apply Kd.R_alloc | apply Kd.R_drewN | apply Kd.R_drew)); exact HL.out) hb_); have n2_ := Aside0.mk (below_step (by repeat (first | (with_reducible first | exact HB.out | apply below_alloc | apply pw_below_drewN | apply below_drew1) | exact HB.out)) hb_); clear BK HL HB; have BK := n0_; have HL := n1_; have HB := n2_; clear n0_ n1_ n2_; have HA := hra_; clear hb_ ho_ hra_))
      all_goals go_upto_region 13 with (first | (go_at_call 9; refine Calls.mono (draw_New.calls a0 a0 _ rfl) ?_; rintro e w3_ ⟨rfl, hb_⟩; have NG1 := Aside0.mk (Nat.ne_of_gt (blk_lt BK.out)); have BX1 := Aside0.mk (blk_below (g := w2_.heap.size) (o := .cells #[.int .u64 s] 26 (0, 0)) (by (with_reducible repeat (first | refine blk_drewN ?_ _ | refine blk_drew ?_)); exact blk_new _ _) hb_); have n0_ := Aside0.mk (blk_below (g := g) (o := .cells (cells8 (tally L)) 46 (0, 0)) (by (with_reducible repeat (first | refine blk_drewN ?_ _ | refine blk_drew ?_ | refine blk_alloc ?_ _)); exact BK.out) hb_); have n1_ := Aside0.mk (Kd.R_below (by (with_reducible repeat (first | apply Kd.R_alloc | apply Kd.R_drewN | apply Kd.R_drew)); exact HL.out) hb_); have n2_ := Aside0.mk (Kd.R_below (by (with_reducible repeat (first | apply Kd.R_alloc | apply Kd.R_drewN | apply Kd.R_drew)); exact HA.out) hb_); have n3_ := Aside0.mk (below_step (by repeat (first | (with_reducible first | exact HB.out | apply below_alloc | apply pw_below_drewN | apply below_drew1) | exact HB.out)) hb_); clear BK HL HA HB; have BK := n0_; have HL := n1_; have HA := n2_; have HB := n3_; clear n0_ n1_ n2_ n3_; clear hb_) | (go_at_call 14; refine Calls.mono (draw_Stream_Mix.calls k a0 A cL L a s _ ?hR hcL HMIX.out) ?_; (case hR => (exact (Kd.R_reads' (by (with_reducible repeat (first | apply Kd.R_alloc | apply Kd.R_drewN | apply Kd.R_drew)); exact HL.out)).2.2)); rintro e w4_ ⟨vb, rfl, ho_, hb_⟩; have hra_ := Aside0.mk (Kd.R_lower ho_ (below_size (by repeat (first | (with_reducible first | exact HB.out | apply below_alloc | apply pw_below_drewN | apply below_drew1) | exact HB.out)))); have n0_ := Aside0.mk (blk_below (g := g) (o := .cells (cells8 (tally L)) 46 (0, 0)) (by (with_reducible repeat (first | refine blk_drewN ?_ _ | refine blk_drew ?_ | refine blk_alloc ?_ _)); exact BK.out) hb_); have n1_ := Aside0.mk (Kd.R_below (by (with_reducible repeat (first | apply Kd.R_alloc | apply Kd.R_drewN | apply Kd.R_drew)); exact HL.out) hb_); have n2_ := Aside0.mk (Kd.R_below (by (with_reducible repeat (first | apply Kd.R_alloc | apply Kd.R_drewN | apply Kd.R_drew)); exact HA.out) hb_); have n3_ := Aside0.mk (blk_below (g := w2_.heap.size) (o := .cells #[.int .u64 s] 26 (0, 0)) (by (with_reducible repeat (first | refine blk_drewN ?_ _ | refine blk_drew ?_ | refine blk_alloc ?_ _)); exact BX1.out) hb_); have n4_ := Aside0.mk (below_step (by repeat (first | (with_reducible first | exact HB.out | apply below_alloc | apply pw_below_drewN | apply below_drew1) | exact HB.out)) hb_); clear BK HL HA BX1 HB; have BK := n0_; have HL := n1_; have HA := n2_; have BX1 := n3_; have HB := n4_; clear n0_ n1_ n2_ n3_ n4_; have HV := hra_; clear hb_ ho_ hra_))
      all_goals go_upto_region 14 with (first | (go_at_call 9; refine Calls.mono (draw_New.calls a0 a0 _ rfl) ?_; rintro e w5_ ⟨rfl, hb_⟩; have NG2 := Aside0.mk (Nat.ne_of_gt (blk_lt BK.out)); have BX2 := Aside0.mk (blk_below (g := w4_.heap.size) (o := .cells #[.int .u64 s] 26 (0, 0)) (by (with_reducible repeat (first | refine blk_drewN ?_ _ | refine blk_drew ?_)); exact blk_new _ _) hb_); have n0_ := Aside0.mk (blk_below (g := g) (o := .cells (cells8 (tally L)) 46 (0, 0)) (by (with_reducible repeat (first | refine blk_drewN ?_ _ | refine blk_drew ?_ | refine blk_alloc ?_ _)); exact BK.out) hb_); have n1_ := Aside0.mk (Kd.R_below (by (with_reducible repeat (first | apply Kd.R_alloc | apply Kd.R_drewN | apply Kd.R_drew)); exact HL.out) hb_); have n2_ := Aside0.mk (Kd.R_below (by (with_reducible repeat (first | apply Kd.R_alloc | apply Kd.R_drewN | apply Kd.R_drew)); exact HA.out) hb_); have n3_ := Aside0.mk (Kd.R_below (by (with_reducible repeat (first | apply Kd.R_alloc | apply Kd.R_drewN | apply Kd.R_drew)); exact HV.out) hb_); have n4_ := Aside0.mk (blk_below (g := w2_.heap.size) (o := .cells #[.int .u64 s] 26 (0, 0)) (by (with_reducible repeat (first | refine blk_drewN ?_ _ | refine blk_drew ?_ | refine blk_alloc ?_ _)); exact BX1.out) hb_); have n5_ := Aside0.mk (below_step (by repeat (first | (with_reducible first | exact HB.out | apply below_alloc | apply pw_below_drewN | apply below_drew1) | exact HB.out)) hb_); clear BK HL HA HV BX1 HB; have BK := n0_; have HL := n1_; have HA := n2_; have HV := n3_; have BX1 := n4_; have HB := n5_; clear n0_ n1_ n2_ n3_ n4_ n5_; clear hb_) | (go_at_call 16; refine Calls.mono (draw_Stream_Some.calls k a0 A cL L (wrap64 (Int.tmod a2 40)) c s _ ?hR hcL HSOME.out) ?_; (case hR => (exact (Kd.R_reads' (by (with_reducible repeat (first | apply Kd.R_alloc | apply Kd.R_drewN | apply Kd.R_drew)); exact HL.out)).2.2)); rintro e w6_ ⟨vc, rfl, ho_, hb_⟩; have hra_ := Aside0.mk (Kd.R_lower ho_ (below_size (by repeat (first | (with_reducible first | exact HB.out | apply below_alloc | apply pw_below_drewN | apply below_drew1) | exact HB.out)))); have n0_ := Aside0.mk (blk_below (g := g) (o := .cells (cells8 (tally L)) 46 (0, 0)) (by (with_reducible repeat (first | refine blk_drewN ?_ _ | refine blk_drew ?_ | refine blk_alloc ?_ _)); exact BK.out) hb_); have n1_ := Aside0.mk (Kd.R_below (by (with_reducible repeat (first | apply Kd.R_alloc | apply Kd.R_drewN | apply Kd.R_drew)); exact HL.out) hb_); have n2_ := Aside0.mk (Kd.R_below (by (with_reducible repeat (first | apply Kd.R_alloc | apply Kd.R_drewN | apply Kd.R_drew)); exact HA.out) hb_); have n3_ := Aside0.mk (Kd.R_below (by (with_reducible repeat (first | apply Kd.R_alloc | apply Kd.R_drewN | apply Kd.R_drew)); exact HV.out) hb_); have n4_ := Aside0.mk (blk_below (g := w2_.heap.size) (o := .cells #[.int .u64 s] 26 (0, 0)) (by (with_reducible repeat (first | refine blk_drewN ?_ _ | refine blk_drew ?_ | refine blk_alloc ?_ _)); exact BX1.out) hb_); have n5_ := Aside0.mk (blk_below (g := w4_.heap.size) (o := .cells #[.int .u64 s] 26 (0, 0)) (by (with_reducible repeat (first | refine blk_drewN ?_ _ | refine blk_drew ?_ | refine blk_alloc ?_ _)); exact BX2.out) hb_); have n6_ := Aside0.mk (below_step (by repeat (first | (with_reducible first | exact HB.out | apply below_alloc | apply pw_below_drewN | apply below_drew1) | exact HB.out)) hb_); clear BK HL HA HV BX1 BX2 HB; have BK := n0_; have HL := n1_; have HA := n2_; have HV := n3_; have BX1 := n4_; have BX2 := n5_; have HB := n6_; clear n0_ n1_ n2_ n3_ n4_ n5_ n6_; have HC := hra_; clear hb_ ho_ hra_))
      all_goals obtain ⟨Aa, ca, rfl, hca, _⟩ := Kd.R_reads HA.out
      all_goals obtain ⟨Ab, cb, rfl, hcb, _⟩ := Kd.R_reads HV.out
      all_goals obtain ⟨Ac, cc, rfl, hcc, _⟩ := Kd.R_reads HC.out
      all_goals go_upto_region 15 with (first | (go_at_call 18; refine Calls.mono (scuttlebuttlaw01_same.calls k Aa ca a Ab cb a true _ ?hR hca ?hS hcb HS1.out) ?_; (case hR => exact (Kd.R_reads' (by (with_reducible repeat (first | apply Kd.R_alloc | apply Kd.R_drewN | apply Kd.R_drew)); exact HA.out)).2.2); (case hS => exact (Kd.R_reads' (by (with_reducible repeat (first | apply Kd.R_alloc | apply Kd.R_drewN | apply Kd.R_drew)); exact HV.out)).2.2); rintro e w7_ ⟨rfl, hd_⟩; have hb_ := hd_.below; clear hd_; have NG3 := Aside0.mk (Nat.ne_of_gt (blk_lt BK.out)); have BX3 := Aside0.mk (blk_below (g := w6_.heap.size) (o := .cells #[.int .u64 s] 26 (0, 0)) (by (with_reducible repeat (first | refine blk_drewN ?_ _ | refine blk_drew ?_)); exact blk_new _ _) hb_); have n0_ := Aside0.mk (blk_below (g := g) (o := .cells (cells8 (tally L)) 46 (0, 0)) (by (with_reducible repeat (first | refine blk_drewN ?_ _ | refine blk_drew ?_ | refine blk_alloc ?_ _)); exact BK.out) hb_); have n1_ := Aside0.mk (Kd.R_below (by (with_reducible repeat (first | apply Kd.R_alloc | apply Kd.R_drewN | apply Kd.R_drew)); exact HL.out) hb_); have n2_ := Aside0.mk (Kd.R_below (by (with_reducible repeat (first | apply Kd.R_alloc | apply Kd.R_drewN | apply Kd.R_drew)); exact HA.out) hb_); have n3_ := Aside0.mk (Kd.R_below (by (with_reducible repeat (first | apply Kd.R_alloc | apply Kd.R_drewN | apply Kd.R_drew)); exact HV.out) hb_); have n4_ := Aside0.mk (Kd.R_below (by (with_reducible repeat (first | apply Kd.R_alloc | apply Kd.R_drewN | apply Kd.R_drew)); exact HC.out) hb_); have n5_ := Aside0.mk (blk_below (g := w2_.heap.size) (o := .cells #[.int .u64 s] 26 (0, 0)) (by (with_reducible repeat (first | refine blk_drewN ?_ _ | refine blk_drew ?_ | refine blk_alloc ?_ _)); exact BX1.out) hb_); have n6_ := Aside0.mk (blk_below (g := w4_.heap.size) (o := .cells #[.int .u64 s] 26 (0, 0)) (by (with_reducible repeat (first | refine blk_drewN ?_ _ | refine blk_drew ?_ | refine blk_alloc ?_ _)); exact BX2.out) hb_); have n7_ := Aside0.mk (below_step (by repeat (first | (with_reducible first | exact HB.out | apply below_alloc | apply pw_below_drewN | apply below_drew1) | exact HB.out)) hb_); clear BK HL HA HV HC BX1 BX2 HB; have BK := n0_; have HL := n1_; have HA := n2_; have HV := n3_; have HC := n4_; have BX1 := n5_; have BX2 := n6_; have HB := n7_; clear n0_ n1_ n2_ n3_ n4_ n5_ n6_ n7_; clear hb_))
      all_goals have e1 : (if (L.length : Int) < wrap64 (Int.tmod a2 40) then (L.length : Int) else wrap64 (Int.tmod a2 40)) = (c.length : Int) := HCL.out.symm
      all_goals have e2 : decide ((a.length : Int) = (L.length : Int)) = true := decide_eq_true (by rw [HAL.out])
      all_goals have e3 : ((a.length : Int) != (L.length : Int)) = false := by rw [HAL.out]; simp
      all_goals have e4 : ((a.length : Int) == (L.length : Int)) = true := by rw [HAL.out]; simp
      all_goals go_upto_region 17 with (fail)
      all_goals clear e1 e2 e3 e4
      all_goals have hcc_ : 0 ≤ (c.length : Int) := Int.natCast_nonneg _
      all_goals have hcd_ : (c.length : Int) ≤ (a.length : Int) := Int.ofNat_le.2 HCA.out
      all_goals have p1 := eq_true hcc_
      all_goals have p2 := eq_true hcd_
      all_goals obtain ⟨i0, hi0, _, _, _⟩ := info_parts info3
      all_goals have hcut := cut_to (P := Try.prog) 23 3 .i64 Try.underlying23 hi0 Aa a.length ca (c.length : Int) hcc_ hcd_ hca
      all_goals rw [Int.toNat_natCast] at hcut
      all_goals go_upto_region 18 with (first | (go_at_call 18; refine Calls.mono (same2 k Ac Aa cc ca a c hcc hca HCA.out HS2.out _ ?hR ?hS) ?_; (case hR => exact (Kd.R_reads' (by (with_reducible repeat (first | apply Kd.R_alloc | apply Kd.R_drewN | apply Kd.R_drew)); exact HC.out)).2.2); (case hS => exact (Kd.R_reads' (by (with_reducible repeat (first | apply Kd.R_alloc | apply Kd.R_drewN | apply Kd.R_drew)); exact HA.out)).2.2); rintro e w8_ ⟨rfl, hd_⟩; have hb_ := hd_.below; clear hd_; have n0_ := Aside0.mk (blk_below (g := g) (o := .cells (cells8 (tally L)) 46 (0, 0)) (by (with_reducible repeat (first | refine blk_drewN ?_ _ | refine blk_drew ?_ | refine blk_alloc ?_ _)); exact BK.out) hb_); have n1_ := Aside0.mk (Kd.R_below (by (with_reducible repeat (first | apply Kd.R_alloc | apply Kd.R_drewN | apply Kd.R_drew)); exact HL.out) hb_); have n2_ := Aside0.mk (Kd.R_below (by (with_reducible repeat (first | apply Kd.R_alloc | apply Kd.R_drewN | apply Kd.R_drew)); exact HA.out) hb_); have n3_ := Aside0.mk (Kd.R_below (by (with_reducible repeat (first | apply Kd.R_alloc | apply Kd.R_drewN | apply Kd.R_drew)); exact HV.out) hb_); have n4_ := Aside0.mk (Kd.R_below (by (with_reducible repeat (first | apply Kd.R_alloc | apply Kd.R_drewN | apply Kd.R_drew)); exact HC.out) hb_); have n5_ := Aside0.mk (blk_below (g := w2_.heap.size) (o := .cells #[.int .u64 s] 26 (0, 0)) (by (with_reducible repeat (first | refine blk_drewN ?_ _ | refine blk_drew ?_ | refine blk_alloc ?_ _)); exact BX1.out) hb_); have n6_ := Aside0.mk (blk_below (g := w4_.heap.size) (o := .cells #[.int .u64 s] 26 (0, 0)) (by (with_reducible repeat (first | refine blk_drewN ?_ _ | refine blk_drew ?_ | refine blk_alloc ?_ _)); exact BX2.out) hb_); have n7_ := Aside0.mk (blk_below (g := w6_.heap.size) (o := .cells #[.int .u64 s] 26 (0, 0)) (by (with_reducible repeat (first | refine blk_drewN ?_ _ | refine blk_drew ?_ | refine blk_alloc ?_ _)); exact BX3.out) hb_); have n8_ := Aside0.mk (below_step (by repeat (first | (with_reducible first | exact HB.out | apply below_alloc | apply pw_below_drewN | apply below_drew1) | exact HB.out)) hb_); clear BK HL HA HV HC BX1 BX2 BX3 HB; have BK := n0_; have HL := n1_; have HA := n2_; have HV := n3_; have HC := n4_; have BX1 := n5_; have BX2 := n6_; have BX3 := n7_; have HB := n8_; clear n0_ n1_ n2_ n3_ n4_ n5_ n6_ n7_ n8_; clear hb_))
      all_goals (
        go_upto_region 19 with (fail)
        go_loopg [19] a.length (fun gg v19 wr => ∃ i : Nat, i ≤ a.length ∧ a.length - i ≤ gg ∧ v19 = .int .i64 (i : Int) ∧ Aside0 (Kd.R (Kd.int .i64) 3 wr w.heap.size (fun _ => True) (.slice Aa a.length ca) a) ∧ Aside0 (wr.heap[g]? = some (.cells (cells8 (fun v => tally L v - tally (a.take i) v)) 46 (0, 0))) ∧ Aside0 (wr.heap[w2_.heap.size]? = some (.cells #[.int .u64 s] 26 (0, 0))) ∧ Aside0 (wr.heap[w4_.heap.size]? = some (.cells #[.int .u64 s] 26 (0, 0))) ∧ Aside0 (wr.heap[w6_.heap.size]? = some (.cells #[.int .u64 s] 26 (0, 0))) ∧ Aside0 (Below w.heap.size w wr))
        case atStart => exact ⟨0, Nat.zero_le _, by omega, rfl, ⟨(by (with_reducible repeat (first | apply Kd.R_alloc | apply Kd.R_drewN | apply Kd.R_drew)); exact HA.out)⟩, ⟨by rw [tally_start]; exact (by (with_reducible repeat (first | refine blk_drewN ?_ _ | refine blk_drew ?_ | refine blk_alloc ?_ _)); exact BK.out)⟩, ⟨(by (with_reducible repeat (first | refine blk_drewN ?_ _ | refine blk_drew ?_ | refine blk_alloc ?_ _)); exact BX1.out)⟩, ⟨(by (with_reducible repeat (first | refine blk_drewN ?_ _ | refine blk_drew ?_ | refine blk_alloc ?_ _)); exact BX2.out)⟩, ⟨(by (with_reducible repeat (first | refine blk_drewN ?_ _ | refine blk_drew ?_ | refine blk_alloc ?_ _)); exact BX3.out)⟩, ⟨(by repeat (first | (with_reducible first | exact HB.out | apply below_alloc | apply pw_below_drewN | apply below_drew1) | exact HB.out))⟩⟩
        case round =>
          clear BK HL HA HV HC HB BX1 BX2 BX3
          obtain ⟨i, hi, hgg, rfl, HA, BK, BX1, BX2, BX3, HB⟩ := hrel
          by_cases hlt : i < a.length
          · have c1b : decide ((i : Int) < (a.length : Int)) = true := decide_eq_true (by omega)
            have p0 : 0 ≤ (i : Int) := Int.natCast_nonneg i
            have q0 : (i : Int) < (a.length : Int) := Int.ofNat_lt.2 hlt
            obtain ⟨ad, e_, hx⟩ := Kd.at_int (Kd.R_reads' HA.out).2.2 (i : Int) p0 q0
            cases e_
            rw [Int.toNat_natCast] at hx
            have hel : rd a (i : Int) = a[i] := by simp [rd, List.getD, hlt]
            rw [hel] at hx
            have hxr := HRG.out a[i] (List.getElem_mem hlt)
            obtain ⟨m, hm⟩ : ∃ m : Nat, a[i] = (m : Int) := ⟨a[i].toNat, by omega⟩
            have hm8 : m < 8 := by omega
            have hnext : a.take (i + 1) = a.take i ++ [(m : Int)] := by rw [List.take_succ_eq_append_getElem hlt, hm]
            rw [hm] at hx
            have HN := Aside0.mk hnext
            have HM8 := Aside0.mk hm8
            have HI := Aside0.mk (And.intro hlt hgg)
            have p1 := eq_true (Int.natCast_nonneg m)
            have q1 := eq_true (Int.ofNat_lt.2 hm8 : (m : Int) < ((8 : Nat) : Int))
            rw [show ((8 : Nat) : Int) = 8 from rfl] at q1
            have n1 : decide ((m : Int) < 0) = false := decide_eq_false (by omega)
            have n2 : ((m : Int) < 0) = False := eq_false (by omega)
            have n3 : decide ((7 : Int) < (m : Int)) = false := decide_eq_false (by omega)
            have n4 : ((7 : Int) < (m : Int)) = False := eq_false (by omega)
            have p0e := eq_true p0
            have q0e := eq_true q0
            have hc8 : wr.cell? ⟨g, m, none⟩ = some (.int .i64 (tally L m - tally (a.take i) m)) := (blk_cell BK.out m).trans (cells8_get _ m hm8)
            have hf8 := blk_frozen BK.out m
            clear hnext hm8 hm hxr hel hlt hgg hi p0 q0
            go_wp2
            go_roundg (a.length - (i + 1))
            case measure => have := HI.out; omega
            case rel =>
              have hi_ := HI.out
              refine ⟨i + 1, by omega, by omega, congrArg (Value.int .i64) (by unfold wrap64; have := HAL.out; have := HLEN.out; omega), ⟨Kd.R_set HA.out BK.out rt46 _ _⟩, ⟨blk_put BK.out m _ ?_⟩, ⟨blk_far BX1.out NG1.out _⟩, ⟨blk_far BX2.out NG2.out _⟩, ⟨blk_far BX3.out NG3.out _⟩, ⟨below_set HB.out HG.out⟩⟩
              rw [cells8_set _ m HM8.out, tally_sub L a i m HN.out HLEN.out (by have := HAL.out; have := HLEN.out; omega)]
          · obtain rfl : i = a.length := by omega
            have hz : cells8 (fun v => tally L v - tally (a.take a.length) v) = cells8 (fun _ => 0) := cells8_congr (fun v hv => by
              rw [List.take_length]
              unfold tally
              rw [HCNT.out v hv]
              omega)
            rw [hz] at BK
            have c1b : decide ((a.length : Int) < (a.length : Int)) = false := decide_eq_false (by omega)
            clear hz hgg hi hlt
            go_upto_region 25 with (fail)
            go_loopg [20] 8 (fun gg v20 wq => ∃ i : Nat, i ≤ 8 ∧ 8 - i ≤ gg ∧ v20 = .int .i64 (i : Int) ∧ Aside0 (wq.heap[g]? = some (.cells (cells8 (fun _ => 0)) 46 (0, 0))) ∧ Aside0 (wq.heap[w2_.heap.size]? = some (.cells #[.int .u64 s] 26 (0, 0))) ∧ Aside0 (wq.heap[w4_.heap.size]? = some (.cells #[.int .u64 s] 26 (0, 0))) ∧ Aside0 (wq.heap[w6_.heap.size]? = some (.cells #[.int .u64 s] 26 (0, 0))) ∧ Aside0 (Below w.heap.size w wq))
            case atStart => exact ⟨0, by omega, by omega, rfl, ⟨BK.out⟩, ⟨BX1.out⟩, ⟨BX2.out⟩, ⟨BX3.out⟩, ⟨HB.out⟩⟩
            case round =>
              clear BK HB BX1 BX2 BX3
              obtain ⟨j, hj, hgj, rfl, BK, BX1, BX2, BX3, HB⟩ := hrel
              by_cases hlt : j < 8
              · have c2b : decide ((j : Int) < 8) = true := decide_eq_true (by omega)
                have c2e : ((j : Int) < 8) = True := eq_true (by omega)
                have p0e := eq_true (Int.natCast_nonneg j)
                have hc8 := (blk_cell BK.out j).trans (cells8_get _ j hlt)
                have HI := Aside0.mk (And.intro hlt hgj)
                clear hlt hgj hj
                go_wp2
                go_roundg (8 - (j + 1))
                case measure => have := HI.out; omega
                case rel =>
                  have hi_ := HI.out
                  exact ⟨j + 1, by omega, by omega, congrArg (Value.int .i64) (by unfold wrap64; omega), ⟨BK.out⟩, ⟨BX1.out⟩, ⟨BX2.out⟩, ⟨BX3.out⟩, ⟨HB.out⟩⟩
              · obtain rfl : j = 8 := by omega
                have hb1 := (blk_cell BX1.out 0)
                have hb2 := (blk_cell BX2.out 0)
                have hb3 := (blk_cell BX3.out 0)
                clear hlt hgj hj
                go_wp2
                go_ret
                exact ⟨rfl, HB.out⟩)
def scuttlebuttlaw01_DrawMixed.f (k : Nat) (a0 : Int) (l1 : List Int) (a2 : Int) : Option Bool := (scuttlebuttlaw01_examples.f k).bind fun e => if e = true then ((draw_Stream_Mix.f k a0 (low (l1.take 30))).bind fun m => ((draw_Stream_Some.f k a0 (low (l1.take 30)) (wrap64 (Int.tmod a2 40))).bind fun c => ((scuttlebuttlaw01_same.f k m.1 m.1).bind fun al => ((scuttlebuttlaw01_same.f k c.1 (m.1.take c.1.length)).bind fun fi => if al = true ∧ fi = true ∧ m.2 = c.2 ∧ (c.1.length : Int) = mn (wrap64 (Int.tmod a2 40)) ((low (l1.take 30)).length : Int) ∧ m.1.length = (low (l1.take 30)).length ∧ c.1.length ≤ m.1.length ∧ (∀ x ∈ m.1, 0 ≤ x ∧ x ≤ 7) ∧ (∀ v : Nat, v < 8 → m.1.count (v : Int) = (low (l1.take 30)).count (v : Int)) ∧ (∀ x ∈ l1, 0 ≤ x ∧ x < 256) then some true else none)))) else none
set_option maxHeartbeats 8000000 in
set_option maxRecDepth 100000 in
theorem scuttlebuttlaw01_DrawMixed.calls (k : Nat) (a0 : Int) (A1 : Option Addr) (c1 : Nat) (l1 : List Int) (a2 : Int) (r : Bool) (w : World) (hr1 : Kd.C (Kd.int .u8) w A1 l1.length l1) (hc1 : l1.length ≤ c1) (h : scuttlebuttlaw01_DrawMixed.f k a0 l1 a2 = some r) :
    Calls Try.prog 4 #[.int .u64 a0, .slice A1 l1.length c1, .int .u8 a2] w fun e w' => e = .returned (.bool r) ∧ Below w.heap.size w w' := by
  unfold scuttlebuttlaw01_DrawMixed.f at h
  obtain ⟨e_, he, h⟩ := Option.bind_eq_some_iff.mp h
  by_cases e1 : e_ = true
  case neg => rw [if_neg e1] at h; cases h
  rw [if_pos e1] at h
  subst e1
  obtain ⟨⟨a, s⟩, hm, h⟩ := Option.bind_eq_some_iff.mp h
  obtain ⟨⟨c, u⟩, hs, h⟩ := Option.bind_eq_some_iff.mp h
  obtain ⟨al, h1, h⟩ := Option.bind_eq_some_iff.mp h
  obtain ⟨fi, h2, h⟩ := Option.bind_eq_some_iff.mp h
  dsimp only at h1 h2 h
  split at h
  case isFalse => cases h
  case isTrue hc =>
    obtain ⟨g1, g2, g3, g4, g5, g6, g7, g8, g9⟩ := hc
    obtain rfl := Option.some.inj h
    subst g1 g2 g3
    exact mixed_walk k a0 A1 c1 l1 a2 w hr1 hc1 he g9 a c s hm hs h1 h2 g4 g5 g6 g7 g8


/-- THE ONE PURE STATEMENT of scuttlebuttlaw01_DrawMixed: yours. -/
def scuttlebuttlaw01_DrawMixed.Pure : Prop := ∀ (a0 : Int) (l1 : List Int) (a2 : Int), (Lit.int .u64 a0).wf = true → l1.length ≤ maxLen → l1.length * 1 ≤ 140737488351232 → (∀ x ∈ l1, (Lit.int .u8 x).wf = true) → (Lit.int .u8 a2).wf = true → ∃ k, scuttlebuttlaw01_DrawMixed.f k a0 l1 a2 = some true
theorem scuttlebuttlaw01_DrawMixed.walk (P : scuttlebuttlaw01_DrawMixed.Pure) (a0 : Int) (a1 : Option Addr) (len1 cap1 : Nat) (z1 : List Int) (a2 : Int) (w : World) (w0 : (Lit.int .u64 a0).wf = true) (w1 : (a1 = none ∧ len1 = 0 ∧ cap1 = 0 ∧ z1 = []) ∨ ∃ x, a1 = some x ∧ len1 ≤ cap1 ∧ cap1 ≤ maxLen ∧ z1.length = cap1 ∧ (∀ i, i < z1.length → w.cell? (x.add i) = some (.int .u8 (z1.getD i 0))) ∧ ∀ n ∈ z1, (Lit.int .u8 n).wf = true) (y1 : len1 * 1 ≤ 140737488351232) (w2 : (Lit.int .u8 a2).wf = true) :
    Calls Try.prog 4 #[.int .u64 a0, .slice a1 len1 cap1, .int .u8 a2] w fun e w' => e = .returned (.bool true) ∧ Below w.heap.size w w' := by
  obtain ⟨l1, rfl, hr1, hm1, hw1, hc1⟩ := ReadsInt.ofRowC w1
  obtain ⟨k, h⟩ := P a0 l1 a2 w0 hm1 y1 hw1 w2
  refine (scuttlebuttlaw01_DrawMixed.calls k a0 _ _ l1 a2 true w (Kd.C_of_reads (d := (0 : Int)) (h1 := fun _ => rfl) hr1) hc1 h).mono ?_
  rintro e w' ⟨rfl, hd⟩
  exact ⟨rfl, hd⟩

end Go.Proofs.Ytbkileohjcijpaa.PA
