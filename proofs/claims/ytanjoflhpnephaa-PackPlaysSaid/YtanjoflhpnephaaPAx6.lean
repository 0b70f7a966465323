/- Written by xprint.py, a program of this session: Go functions that the laws reach, each as a plain Lean function, and the proof that the Go code comes to what it says. No condition but those that each theorem names. -/
import Derived.Test.YtanjoflhpnephaaPAx0
import Derived.Test.YtanjoflhpnephaaPAx1
import Derived.Test.YtanjoflhpnephaaPAx2
import Derived.Test.YtanjoflhpnephaaPAx3
import Derived.Test.YtanjoflhpnephaaPAx4
import Derived.Test.YtanjoflhpnephaaPAx5
import Derived.WalkSpells
import Derived.WalkLawsBesides
import Derived.Test.YtanjoflhpnephaaXAux
namespace Go.Proofs.Ytanjoflhpnephaa.PA
open Go.RowKit Go.Proofs.YtanjoflhpnephaaW.PrintWords Go.Proofs.YtanjoflhpnephaaW.PrintLast Go.Proofs.YtanjoflhpnephaaW.PrintMore
attribute [local go_sem] max2_int min2_int max_two min_two max_three min_three max_four min_four   -- for this text's walks alone
set_option linter.unusedVariables false
set_option linter.unusedSimpArgs false

/-! ### scuttlebuttlaw02_PackPlays: function 3 -/
mutual
def scuttlebuttlaw02_PackPlays.l0 : Nat → List (S30) → Int → Int → ByteArray → Int → Int → ByteArray → Bool → ByteArray → Bool → Option (Bool)
  | 0, _, _, _, _, _, _, _, _, _, _ => none
  | k + 1, x1, x2, x3, x4, x5, x15, x163000, x163001, x165000, x165001 => if x15 < (x1.length : Int) then (scuttlebuttlaw02_PackPlays.j1 k x1 x2 x3 x4 x5 x15 (decide (x15 < 20)) x163000 x163001 x165000 x165001) else (scuttlebuttlaw02_PackPlays.j1 k x1 x2 x3 x4 x5 x15 false x163000 x163001 x165000 x165001)
def scuttlebuttlaw02_PackPlays.j1 : Nat → List (S30) → Int → Int → ByteArray → Int → Int → Bool → ByteArray → Bool → ByteArray → Bool → Option (Bool)
  | 0, _, _, _, _, _, _, _, _, _, _, _ => none
  | k + 1, x1, x2, x3, x4, x5, x15, x52, x163000, x163001, x165000, x165001 => if x52 = true then (if 0 ≤ x15 then (if x15 < (x1.length : Int) then (if (rd_T30 x1 x15).f0 = true then ((pack_Reader_Text.f k x163000 x163001).bind fun bt166 => ((scuttlebuttref02_Reader_Text.f k x165000 x165001).bind fun bt170 => (if bt166.1.toList = bt170.1.toList then (scuttlebuttlaw02_PackPlays.j2 k x1 x2 x3 x4 x5 x15 bt166.2.1 bt166.2.2 bt170.2.1 bt170.2.2) else (none)))) else ((pack_Reader_Number.f k x163000 x163001 (Int.tmod ((rd_T30 x1 x15).f1) 11)).bind fun bt175 => ((scuttlebuttref02_Reader_Number.f k x165000 x165001 (Int.tmod ((rd_T30 x1 x15).f1) 11)).bind fun bt180 => (if bt175.1 = bt180.1 then (scuttlebuttlaw02_PackPlays.j2 k x1 x2 x3 x4 x5 x15 bt175.2.1 bt175.2.2 bt180.2.1 bt180.2.2) else (none))))) else (none)) else (none)) else (if 0 ≤ (wrap64 (Int.tmod x5 300)) then (if (wrap64 (Int.tmod x5 300) : Int).toNat ≤ 281474976710656 then ((some (List.replicate (wrap64 (Int.tmod x5 300) : Int).toNat 0 : List Int)).bind fun y187 => (if x4.size + (strOfNums y187).size ≤ 9223372036854775807 then ((pack_Text.f (x4 ++ (strOfNums y187))).bind fun bt190 => ((scuttlebuttref02_Text.f (x4 ++ (strOfNums y187))).bind fun bt192 => ((pack_Number.f x2 x3).bind fun t194 => ((pack_Number.f x2 (Int.tmod x3 10)).bind fun t195 => ((pack_Read.f x163000).bind fun bt196 => ((pack_Reader_Number.f k bt196.1 bt196.2 x3).bind fun bt198 => ((scuttlebuttref02_Reader_Number.f k x165000 false x3).bind fun bt202 => ((scuttlebuttlaw02_same.f bt198.2.1 bt198.2.2 bt202.2.1 bt202.2.2).bind fun t206 => (if bt190.1.toList = bt192.1.toList then (if (bt190.2 == bt192.2) = true then ((scuttlebuttref02_Number.f k x2 x3).bind fun t207 => (if t194.toList = t207.toList then ((scuttlebuttref02_Number.f k x2 (Int.tmod x3 10)).bind fun t208 => (if t195.toList = t208.toList then (some t206) else (none))) else (none))) else (none)) else (none)))))))))) else (none))) else (none)) else (none))
def scuttlebuttlaw02_PackPlays.j2 : Nat → List (S30) → Int → Int → ByteArray → Int → Int → ByteArray → Bool → ByteArray → Bool → Option (Bool)
  | 0, _, _, _, _, _, _, _, _, _, _ => none
  | k + 1, x1, x2, x3, x4, x5, x15, x163000, x163001, x165000, x165001 => (scuttlebuttlaw02_same.f x163000 x163001 x165000 x165001).bind fun t184 => (if t184 = true then ((pack_Reader_Done.f x163000 x163001).bind fun t185 => ((scuttlebuttref02_Reader_Done.f x165000 x165001).bind fun t186 => (if (t185 != t186) = true then (none) else (scuttlebuttlaw02_PackPlays.l0 k x1 x2 x3 x4 x5 (wrap64 (x15 + 1)) x163000 x163001 x165000 x165001)))) else (none))
end
def scuttlebuttlaw02_PackPlays.f (k : Nat) (a0_0 : ByteArray) (a0_1 : Bool) (l1 : List (S30)) (a2 : Int) (a3 : Int) (a4 : ByteArray) (a5 : Int) : Option (Bool) := (scuttlebuttlaw02_examples.f k).bind fun t163 => (if t163 = true then (scuttlebuttlaw02_PackPlays.l0 k l1 a2 a3 a4 a5 0 a0_0 a0_1 a0_0 a0_1) else (none))
theorem scuttlebuttlaw02_PackPlays.mono_l : ∀ k, (∀ y0 y1 y2 y3 y4 y5 y6 y7 y8 y9, LeO (scuttlebuttlaw02_PackPlays.l0 k y0 y1 y2 y3 y4 y5 y6 y7 y8 y9) (scuttlebuttlaw02_PackPlays.l0 (k + 1) y0 y1 y2 y3 y4 y5 y6 y7 y8 y9)) ∧ (∀ y0 y1 y2 y3 y4 y5 y6 y7 y8 y9 y10, LeO (scuttlebuttlaw02_PackPlays.j1 k y0 y1 y2 y3 y4 y5 y6 y7 y8 y9 y10) (scuttlebuttlaw02_PackPlays.j1 (k + 1) y0 y1 y2 y3 y4 y5 y6 y7 y8 y9 y10)) ∧ (∀ y0 y1 y2 y3 y4 y5 y6 y7 y8 y9, LeO (scuttlebuttlaw02_PackPlays.j2 k y0 y1 y2 y3 y4 y5 y6 y7 y8 y9) (scuttlebuttlaw02_PackPlays.j2 (k + 1) y0 y1 y2 y3 y4 y5 y6 y7 y8 y9))
  | 0 => ⟨fun _ _ _ _ _ _ _ _ _ _ r h => by simp [scuttlebuttlaw02_PackPlays.l0] at h, fun _ _ _ _ _ _ _ _ _ _ _ r h => by simp [scuttlebuttlaw02_PackPlays.j1] at h, fun _ _ _ _ _ _ _ _ _ _ r h => by simp [scuttlebuttlaw02_PackPlays.j2] at h⟩
  | k + 1 => by
    obtain ⟨ih0, ih1, ih2⟩ := scuttlebuttlaw02_PackPlays.mono_l k
    refine ⟨?_, ?_, ?_⟩
    · intro y0 y1 y2 y3 y4 y5 y6 y7 y8 y9
      unfold scuttlebuttlaw02_PackPlays.l0
      repeat' first
      | (with_reducible exact ih0 _ _ _ _ _ _ _ _ _ _)
      | (with_reducible exact ih1 _ _ _ _ _ _ _ _ _ _ _)
      | (with_reducible exact ih2 _ _ _ _ _ _ _ _ _ _)
      | (with_reducible exact pack_Reader_Number.mono _ _ _ _)
      | (with_reducible exact pack_Reader_Text.mono _ _ _)
      | (with_reducible exact scuttlebuttlaw02_examples.mono _)
      | (with_reducible exact scuttlebuttref02_Number.mono _ _ _)
      | (with_reducible exact scuttlebuttref02_Reader_Number.mono _ _ _ _)
      | (with_reducible exact scuttlebuttref02_Reader_Text.mono _ _ _)
      | (with_reducible exact LeO.refl _)
      | (with_reducible exact LeO.none _)
      | (with_reducible refine LeO.ite ?_ ?_)
      | (with_reducible refine LeO.bind ?_ (fun _ => ?_))
      | exact ih0 _ _ _ _ _ _ _ _ _ _
      | exact ih1 _ _ _ _ _ _ _ _ _ _ _
      | exact ih2 _ _ _ _ _ _ _ _ _ _
      | exact pack_Reader_Number.mono _ _ _ _
      | exact pack_Reader_Text.mono _ _ _
      | exact scuttlebuttlaw02_examples.mono _
      | exact scuttlebuttref02_Number.mono _ _ _
      | exact scuttlebuttref02_Reader_Number.mono _ _ _ _
      | exact scuttlebuttref02_Reader_Text.mono _ _ _
      | exact LeO.none _
      | refine LeO.ite ?_ ?_
      | refine LeO.bind ?_ (fun _ => ?_)
    · intro y0 y1 y2 y3 y4 y5 y6 y7 y8 y9 y10
      unfold scuttlebuttlaw02_PackPlays.j1
      repeat' first
      | (with_reducible exact ih0 _ _ _ _ _ _ _ _ _ _)
      | (with_reducible exact ih1 _ _ _ _ _ _ _ _ _ _ _)
      | (with_reducible exact ih2 _ _ _ _ _ _ _ _ _ _)
      | (with_reducible exact pack_Reader_Number.mono _ _ _ _)
      | (with_reducible exact pack_Reader_Text.mono _ _ _)
      | (with_reducible exact scuttlebuttlaw02_examples.mono _)
      | (with_reducible exact scuttlebuttref02_Number.mono _ _ _)
      | (with_reducible exact scuttlebuttref02_Reader_Number.mono _ _ _ _)
      | (with_reducible exact scuttlebuttref02_Reader_Text.mono _ _ _)
      | (with_reducible exact LeO.refl _)
      | (with_reducible exact LeO.none _)
      | (with_reducible refine LeO.ite ?_ ?_)
      | (with_reducible refine LeO.bind ?_ (fun _ => ?_))
      | exact ih0 _ _ _ _ _ _ _ _ _ _
      | exact ih1 _ _ _ _ _ _ _ _ _ _ _
      | exact ih2 _ _ _ _ _ _ _ _ _ _
      | exact pack_Reader_Number.mono _ _ _ _
      | exact pack_Reader_Text.mono _ _ _
      | exact scuttlebuttlaw02_examples.mono _
      | exact scuttlebuttref02_Number.mono _ _ _
      | exact scuttlebuttref02_Reader_Number.mono _ _ _ _
      | exact scuttlebuttref02_Reader_Text.mono _ _ _
      | exact LeO.none _
      | refine LeO.ite ?_ ?_
      | refine LeO.bind ?_ (fun _ => ?_)
    · intro y0 y1 y2 y3 y4 y5 y6 y7 y8 y9
      unfold scuttlebuttlaw02_PackPlays.j2
      repeat' first
      | (with_reducible exact ih0 _ _ _ _ _ _ _ _ _ _)
      | (with_reducible exact ih1 _ _ _ _ _ _ _ _ _ _ _)
      | (with_reducible exact ih2 _ _ _ _ _ _ _ _ _ _)
      | (with_reducible exact pack_Reader_Number.mono _ _ _ _)
      | (with_reducible exact pack_Reader_Text.mono _ _ _)
      | (with_reducible exact scuttlebuttlaw02_examples.mono _)
      | (with_reducible exact scuttlebuttref02_Number.mono _ _ _)
      | (with_reducible exact scuttlebuttref02_Reader_Number.mono _ _ _ _)
      | (with_reducible exact scuttlebuttref02_Reader_Text.mono _ _ _)
      | (with_reducible exact LeO.refl _)
      | (with_reducible exact LeO.none _)
      | (with_reducible refine LeO.ite ?_ ?_)
      | (with_reducible refine LeO.bind ?_ (fun _ => ?_))
      | exact ih0 _ _ _ _ _ _ _ _ _ _
      | exact ih1 _ _ _ _ _ _ _ _ _ _ _
      | exact ih2 _ _ _ _ _ _ _ _ _ _
      | exact pack_Reader_Number.mono _ _ _ _
      | exact pack_Reader_Text.mono _ _ _
      | exact scuttlebuttlaw02_examples.mono _
      | exact scuttlebuttref02_Number.mono _ _ _
      | exact scuttlebuttref02_Reader_Number.mono _ _ _ _
      | exact scuttlebuttref02_Reader_Text.mono _ _ _
      | exact LeO.none _
      | refine LeO.ite ?_ ?_
      | refine LeO.bind ?_ (fun _ => ?_)
theorem scuttlebuttlaw02_PackPlays.mono : ∀ a0 a1 a2 a3 a4 a5 a6 k, LeO (scuttlebuttlaw02_PackPlays.f k a0 a1 a2 a3 a4 a5 a6) (scuttlebuttlaw02_PackPlays.f (k + 1) a0 a1 a2 a3 a4 a5 a6) := by
  intro a0 a1 a2 a3 a4 a5 a6 k
  obtain ⟨ih0, ih1, ih2⟩ := scuttlebuttlaw02_PackPlays.mono_l k
  unfold scuttlebuttlaw02_PackPlays.f
  repeat' first
      | (with_reducible exact ih0 _ _ _ _ _ _ _ _ _ _)
      | (with_reducible exact ih1 _ _ _ _ _ _ _ _ _ _ _)
      | (with_reducible exact ih2 _ _ _ _ _ _ _ _ _ _)
      | (with_reducible exact pack_Reader_Number.mono _ _ _ _)
      | (with_reducible exact pack_Reader_Text.mono _ _ _)
      | (with_reducible exact scuttlebuttlaw02_examples.mono _)
      | (with_reducible exact scuttlebuttref02_Number.mono _ _ _)
      | (with_reducible exact scuttlebuttref02_Reader_Number.mono _ _ _ _)
      | (with_reducible exact scuttlebuttref02_Reader_Text.mono _ _ _)
      | (with_reducible exact LeO.refl _)
      | (with_reducible exact LeO.none _)
      | (with_reducible refine LeO.ite ?_ ?_)
      | (with_reducible refine LeO.bind ?_ (fun _ => ?_))
      | exact ih0 _ _ _ _ _ _ _ _ _ _
      | exact ih1 _ _ _ _ _ _ _ _ _ _ _
      | exact ih2 _ _ _ _ _ _ _ _ _ _
      | exact pack_Reader_Number.mono _ _ _ _
      | exact pack_Reader_Text.mono _ _ _
      | exact scuttlebuttlaw02_examples.mono _
      | exact scuttlebuttref02_Number.mono _ _ _
      | exact scuttlebuttref02_Reader_Number.mono _ _ _ _
      | exact scuttlebuttref02_Reader_Text.mono _ _ _
      | exact LeO.none _
      | refine LeO.ite ?_ ?_
      | refine LeO.bind ?_ (fun _ => ?_)
def scuttlebuttlaw02_PackPlays.T15 : Bool × List (List Nat × List Nat) := (true, [([], []), ([], []), ([], []), ([1, 2], [1, 2]), ([3], [3]), ([4], [4]), ([5], [5]), ([0, 6], [0, 6]), ([7], [7]), ([8], [8]), ([8], [8]), ([], []), ([9, 7, 0, 1, 2, 3, 4, 5, 6, 7, 8, 9, 11], [9]), ([11, 10, 12, 0, 1, 2, 3, 4, 5, 6, 7, 8, 9, 10, 11, 12], [10, 11])])
def scuttlebuttlaw02_PackPlays.B15 : List Nat := [0, 0, 0, 6, 14, 30, 62, 127, 255, 511, 511, 0, 3071, 8191]
theorem scuttlebuttlaw02_PackPlays.tab15 : rtab .any (opsOf Try.f3 15) = scuttlebuttlaw02_PackPlays.T15 := by kernel_rfl
theorem scuttlebuttlaw02_PackPlays.bits15 : waitsOk scuttlebuttlaw02_PackPlays.T15.2 scuttlebuttlaw02_PackPlays.B15 = true := by kernel_rfl
def scuttlebuttlaw02_PackPlays.T16 : Bool × List (List Nat × List Nat) := (true, [([], []), ([], []), ([], []), ([1, 2], [1, 2]), ([3], [3]), ([4], [4]), ([5], [5]), ([0, 6], [0, 6]), ([7], [7]), ([8], [8]), ([8], [8]), ([], []), ([9, 7, 0, 1, 2, 3, 4, 5, 6, 7, 8, 9, 11], [9]), ([11, 10, 12, 0, 1, 2, 3, 4, 5, 6, 7, 8, 9, 10, 11, 12], [10, 11])])
def scuttlebuttlaw02_PackPlays.B16 : List Nat := [0, 0, 0, 6, 14, 30, 62, 127, 255, 511, 511, 0, 3071, 8191]
theorem scuttlebuttlaw02_PackPlays.tab16 : rtab .any (opsOf Try.f3 16) = scuttlebuttlaw02_PackPlays.T16 := by kernel_rfl
theorem scuttlebuttlaw02_PackPlays.bits16 : waitsOk scuttlebuttlaw02_PackPlays.T16.2 scuttlebuttlaw02_PackPlays.B16 = true := by kernel_rfl
def scuttlebuttlaw02_PackPlays.T22 : Bool × List (List Nat × List Nat) := (true, [([], []), ([0], [0]), ([1], [1]), ([2], [2]), ([3, 2, 2], [2, 3]), ([2], [2]), ([5, 4, 2], [2, 5]), ([4, 6, 2], [2, 4, 6]), ([2, 7], [2, 7])])
def scuttlebuttlaw02_PackPlays.B22 : List Nat := [0, 1, 3, 7, 15, 7, 63, 127, 255]
theorem scuttlebuttlaw02_PackPlays.tab22 : rtab .any (opsOf Try.f3 22) = scuttlebuttlaw02_PackPlays.T22 := by kernel_rfl
theorem scuttlebuttlaw02_PackPlays.bits22 : waitsOk scuttlebuttlaw02_PackPlays.T22.2 scuttlebuttlaw02_PackPlays.B22 = true := by kernel_rfl
set_option maxHeartbeats 8000000 in
set_option maxRecDepth 100000 in
theorem scuttlebuttlaw02_PackPlays.calls (k : Nat) (a0_0 : ByteArray) (a0_1 : Bool) (A1 : Option Addr) (c1 : Nat) (l1 : List (S30)) (a2 : Int) (a3 : Int) (a4 : ByteArray) (a5 : Int) (r : Bool) (w : World) (hr1 : Kd.C k30 w A1 l1.length l1) (hc1 : l1.length ≤ c1) (h : scuttlebuttlaw02_PackPlays.f k a0_0 a0_1 l1 a2 a3 a4 a5 = some r) :
    Calls Try.prog 3 #[.agg #[.string a0_0, .bool a0_1], .slice A1 l1.length c1, .int .u64 a2, .int .i64 a3, .string a4, .int .u16 a5] w fun e w' => e = .returned (.bool r) ∧ Below w.heap.size w w' := by
  have hu23 := Try.underlying23
  have hu28 := Try.underlying28
  have HR1 := Aside0.mk hr1
  have HC1 := Aside0.mk hc1
  clear hr1 hc1
  have HB := Aside0.mk (Below.refl w.heap.size w)
  have H : ((scuttlebuttlaw02_examples.f k).bind fun t163 => (if t163 = true then (scuttlebuttlaw02_PackPlays.l0 k l1 a2 a3 a4 a5 0 a0_0 a0_1 a0_0 a0_1) else (none))) = some r := h
  clear h
  replace H := Option.bind_eq_some_iff.mp H
  obtain ⟨t163, A70, H⟩ := H
  replace H : (if t163 = true then (scuttlebuttlaw02_PackPlays.l0 k l1 a2 a3 a4 a5 0 a0_0 a0_1 a0_0 a0_1) else (none)) = some r := H
  have A7 := Aside0.mk A70
  clear A70
  by_cases c8 : t163 = true
  · (first | subst c8 | clear c8)
    have H1 : (scuttlebuttlaw02_PackPlays.l0 k l1 a2 a3 a4 a5 0 a0_0 a0_1 a0_0 a0_1) = some r := by first | (rw [if_pos rfl] at H; exact H) | (rw [if_pos trivial] at H; exact H)
    clear H
    have H := H1
    clear H1
    have H' := Aside0.mk H
    clear H
    go_enter Try.func3, Try.ntmps3
    go_wp2_with (first | ((with_reducible refine gate_dst (N := 6) rfl ?_); refine box_event ?hg (N := 6) ?hd (cs := #[.string a0_0, .bool a0_1]) (t := 23) ?hr ?_; (case hd => rfl); (case hg => rfl); (case hr => first | (go_simp; done) | (go_simp; rfl)); intro gb162 hg w9 hbox hb; have n0_ := Aside0.mk (below_step (by repeat (first | (with_reducible first | exact HB.out | apply below_alloc | apply pw_below_drewN | apply below_drew1) | exact HB.out)) hb); have n1_ := Aside0.mk (hbox); have n2_ := Aside0.mk ((by rw [hg]; exact (below_size (by repeat (first | (with_reducible first | exact HB.out | apply below_alloc | apply pw_below_drewN | apply below_drew1) | exact HB.out))) : w.heap.size ≤ gb162)); have n3_ := Aside0.mk ((by rw [hg]; exact (below_size (by repeat (first | (with_reducible first | exact HB.out | apply below_alloc | apply pw_below_drewN | apply below_drew1) | exact HB.out))) : w.heap.size ≤ gb162)); clear HB; have HB := n0_; have BK162 := n1_; have GW162 := n2_; have GE162 := n3_; clear n0_ n1_ n2_ n3_; clear hb hbox hg) | ((with_reducible refine gate_callee (f := 8) rfl ?_); refine goesL_ (some 37) rfl rfl Try.func8 (by kernel_rfl) rfl #[] rfl (by (try simp only [List.map_toArray, List.map_cons, List.map_nil]); first | done | rfl | (simp only [List.length_drop, List.length_take]; rfl)) ?_; (with_reducible refine (scuttlebuttlaw02_examples.calls k  true _ A7.out).mono ?_); rintro e w10 ⟨rfl, hb⟩; refine ⟨_, rfl, ?_⟩; have n0_ := Aside0.mk (blk_below (g := gb162) (o := .cells #[.string a0_0, .bool a0_1] 23 (0, 0)) (by (with_reducible repeat (first | refine blk_drewN ?_ _ | refine blk_drew ?_ | refine blk_alloc ?_ _)); exact BK162.out) hb); have n1_ := Aside0.mk (below_step (by repeat (first | (with_reducible first | exact HB.out | apply below_alloc | apply pw_below_drewN | apply below_drew1 | refine below_set ?_ GE162.out) | exact HB.out)) hb); clear BK162; clear HB; have BK162 := n0_; have HB := n1_; clear n0_ n1_; (try clear hb); (try clear hb2); (try clear hk); (try clear hi); have hcz11_0 : w10.cell? ⟨gb162, 0, none⟩ = some (.string a0_0) := (blk_cell BK162.out 0).trans rfl; have hcz11_1 : w10.cell? ⟨gb162, 1, none⟩ = some (.bool a0_1) := (blk_cell BK162.out 1).trans rfl; have hfz11_0 := blk_frozen BK162.out 0; have hfz11_1 := blk_frozen BK162.out 1) | ((with_reducible refine gate_dst (N := 14) rfl ?_); refine box_event ?hg (N := 14) ?hd (cs := #[.string (⟨#[]⟩ : ByteArray), .bool false]) (t := 28) ?hr ?_; (case hd => rfl); (case hg => rfl); (case hr => first | (go_simp; done) | (go_simp; rfl)); intro gb164 hg w12 hbox hb; have n0_ := Aside0.mk (blk_below (g := gb162) (o := .cells #[.string a0_0, .bool a0_1] 23 (0, 0)) (by (with_reducible repeat (first | refine blk_drewN ?_ _ | refine blk_drew ?_ | refine blk_alloc ?_ _)); exact BK162.out) hb); have n1_ := Aside0.mk (below_step (by repeat (first | (with_reducible first | exact HB.out | apply below_alloc | apply pw_below_drewN | apply below_drew1 | refine below_set ?_ GE162.out) | exact HB.out)) hb); have n2_ := Aside0.mk (hbox); have n3_ := Aside0.mk ((by rw [hg]; exact (below_size (by repeat (first | (with_reducible first | exact HB.out | apply below_alloc | apply pw_below_drewN | apply below_drew1 | refine below_set ?_ GE162.out) | exact HB.out))) : w.heap.size ≤ gb164)); have n4_ := Aside0.mk ((by rw [hg]; exact (below_size (by repeat (first | (with_reducible first | exact HB.out | apply below_alloc | apply pw_below_drewN | apply below_drew1 | refine below_set ?_ GE162.out) | exact HB.out))) : w.heap.size ≤ gb164)); have n5_ := Aside0.mk ((by rw [hg]; exact Nat.ne_of_lt (blk_lt (g := gb162) (o := .cells #[.string a0_0, .bool a0_1] 23 (0, 0)) (by (with_reducible repeat (first | refine blk_drewN ?_ _ | refine blk_drew ?_ | refine blk_alloc ?_ _)); exact BK162.out)) : gb162 ≠ gb164)); have n6_ := Aside0.mk ((by rw [hg]; exact Nat.ne_of_gt (blk_lt (g := gb162) (o := .cells #[.string a0_0, .bool a0_1] 23 (0, 0)) (by (with_reducible repeat (first | refine blk_drewN ?_ _ | refine blk_drew ?_ | refine blk_alloc ?_ _)); exact BK162.out)) : gb164 ≠ gb162)); clear BK162; clear HB; have BK162 := n0_; have HB := n1_; have BK164 := n2_; have GW164 := n3_; have GE164 := n4_; have NB162_164 := n5_; have NB164_162 := n6_; clear n0_ n1_ n2_ n3_ n4_ n5_ n6_; clear hb hbox hg; have hnb13 := NB164_162.out; have hnc13 := NB162_164.out; have hcz14_0 : w12.cell? ⟨gb164, 0, none⟩ = some (.string (⟨#[]⟩ : ByteArray)) := (blk_cell BK164.out 0).trans rfl; have hcz14_1 : w12.cell? ⟨gb164, 1, none⟩ = some (.bool false) := (blk_cell BK164.out 1).trans rfl; have hfz14_0 := blk_frozen BK164.out 0; have hfz14_1 := blk_frozen BK164.out 1))
    go_loopg [15] k (fun kq v15 w' => ∃ (x15_1 : Int) (x163000_1 : ByteArray) (x163001_1 : Bool) (x165000_1 : ByteArray) (x165001_1 : Bool), v15 = .int .i64 x15_1 ∧ Aside0 (scuttlebuttlaw02_PackPlays.l0 kq l1 a2 a3 a4 a5 x15_1 x163000_1 x163001_1 x165000_1 x165001_1 = some r) ∧ Aside0 (kq ≤ k) ∧ Aside0 (w'.heap[gb162]? = some (.cells #[.string x163000_1, .bool x163001_1] 23 (0, 0))) ∧ Aside0 (w'.heap[gb164]? = some (.cells #[.string x165000_1, .bool x165001_1] 28 (0, 0))) ∧ Aside0 (Below w.heap.size w w'))
    case atStart => exact ⟨(0), (a0_0), (a0_1), (a0_0), (a0_1), (by first | rfl | (simp; done) | (simp [*]; done)), H', ⟨Nat.le_refl _⟩, ⟨by (with_reducible repeat (first | refine blk_drewN ?_ _ | refine blk_drew ?_ | refine blk_alloc ?_ _)); refine blk_far ?_ NB162_164.out _; (with_reducible repeat (first | refine blk_drewN ?_ _ | refine blk_drew ?_ | refine blk_alloc ?_ _)); refine blk_far ?_ NB162_164.out _; (with_reducible repeat (first | refine blk_drewN ?_ _ | refine blk_drew ?_ | refine blk_alloc ?_ _)); exact BK162.out⟩, ⟨by (with_reducible repeat (first | refine blk_drewN ?_ _ | refine blk_drew ?_ | refine blk_alloc ?_ _)); refine blk_put (cs := #[.string a0_0, .bool false]) ?_ 1 _ rfl; (with_reducible repeat (first | refine blk_drewN ?_ _ | refine blk_drew ?_ | refine blk_alloc ?_ _)); refine blk_put (cs := #[.string (⟨#[]⟩ : ByteArray), .bool false]) ?_ 0 _ rfl; (with_reducible repeat (first | refine blk_drewN ?_ _ | refine blk_drew ?_ | refine blk_alloc ?_ _)); exact BK164.out⟩, ⟨by repeat (first | (with_reducible first | exact HB.out | apply below_alloc | apply pw_below_drewN | apply below_drew1 | refine below_set ?_ GE162.out | refine below_set ?_ GE164.out) | exact HB.out)⟩⟩
    case round =>
      clear H'
      try clear c1
      try clear p2
      try clear c3
      try clear c8
      try clear c13
      try clear hcz11_0
      try clear hcz11_1
      try clear hcz14_0
      try clear hcz14_1
      try clear hfz11_0
      try clear hfz11_1
      try clear hfz14_0
      try clear hfz14_1
      obtain ⟨x15_1, x163000_1, x163001_1, x165000_1, x165001_1, rfl, HA, HK1, BK162, BK164, HB⟩ := hrel
      cases gk with
      | zero => exact absurd HA.out (by simp [scuttlebuttlaw02_PackPlays.l0])
      | succ k1 =>
        have H := HA.out
        clear HA
        simp only [scuttlebuttlaw02_PackPlays.l0] at H
        have HC15 := Aside0.mk H
        clear H
        go_upto_region 6 with (fail)
        go_cut [52] (fun v52 wc => ∃ (kq : Nat) (x52_14 : Bool), v52 = .bool x52_14 ∧ Aside0 (scuttlebuttlaw02_PackPlays.j1 kq l1 a2 a3 a4 a5 x15_1 x52_14 x163000_1 x163001_1 x165000_1 x165001_1 = some r) ∧ Aside0 (kq ≤ k1) ∧ Aside0 (wc.heap[gb162]? = some (.cells #[.string x163000_1, .bool x163001_1] 23 (0, 0))) ∧ Aside0 (wc.heap[gb164]? = some (.cells #[.string x165000_1, .bool x165001_1] 28 (0, 0))) ∧ Aside0 (Below w.heap.size w wc))
        case first =>
          have H := HC15.out
          clear HC15
          by_cases c16 : x15_1 < (l1.length : Int)
          · rw [if_pos c16] at H
            have c16b0 : decide (x15_1 < (l1.length : Int)) = true := decide_eq_true c16
            clear c16
            (first | rw [c16b0] | (simp only [i64_w, i32_w]; rw [c16b0]) | skip)
            have H' := Aside0.mk H
            clear H
            go_wp2
            go_meet
            case rel => exact ⟨_, (decide (x15_1 < 20)), (by first | rfl | (simp; done) | (simp [*]; done)), H', ⟨by have := HK1.out; first | omega | exact Nat.le_refl _⟩, ⟨by (with_reducible repeat (first | refine blk_drewN ?_ _ | refine blk_drew ?_ | refine blk_alloc ?_ _)); exact BK162.out⟩, ⟨by (with_reducible repeat (first | refine blk_drewN ?_ _ | refine blk_drew ?_ | refine blk_alloc ?_ _)); exact BK164.out⟩, ⟨by repeat (first | (with_reducible first | exact HB.out | apply below_alloc | apply pw_below_drewN | apply below_drew1 | refine below_set ?_ GE162.out | refine below_set ?_ GE164.out) | exact HB.out)⟩⟩
          · (first | rw [if_neg c16] at H | exact absurd rfl c16)
            have c16b0 : decide (x15_1 < (l1.length : Int)) = false := decide_eq_false c16
            clear c16
            (first | rw [c16b0] | (simp only [i64_w, i32_w]; rw [c16b0]) | skip)
            have H' := Aside0.mk H
            clear H
            go_wp2
            go_meet
            case rel => exact ⟨_, (false), (by first | rfl | (simp; done) | (simp [*]; done)), H', ⟨by have := HK1.out; first | omega | exact Nat.le_refl _⟩, ⟨by (with_reducible repeat (first | refine blk_drewN ?_ _ | refine blk_drew ?_ | refine blk_alloc ?_ _)); exact BK162.out⟩, ⟨by (with_reducible repeat (first | refine blk_drewN ?_ _ | refine blk_drew ?_ | refine blk_alloc ?_ _)); exact BK164.out⟩, ⟨by repeat (first | (with_reducible first | exact HB.out | apply below_alloc | apply pw_below_drewN | apply below_drew1 | refine below_set ?_ GE162.out | refine below_set ?_ GE164.out) | exact HB.out)⟩⟩
        case rest =>
          clear HC15
          try clear c1
          try clear p2
          try clear c3
          try clear c8
          try clear c13
          try clear c16
          try clear c16b0
          try clear hcz11_0
          try clear hcz11_1
          try clear hcz14_0
          try clear hcz14_1
          try clear hfz11_0
          try clear hfz11_1
          try clear hfz14_0
          try clear hfz14_1
          try clear p2
          obtain ⟨kq, x52_14, rfl, HA, HJ14, BK162, BK164, HB⟩ := hcut
          cases kq with
          | zero => exact absurd HA.out (by simp [scuttlebuttlaw02_PackPlays.j1])
          | succ kj14 =>
            have H := HA.out
            clear HA
            simp only [scuttlebuttlaw02_PackPlays.j1] at H
            by_cases c17 : x52_14 = true
            · (first | subst c17 | clear c17)
              have H1 : (if 0 ≤ x15_1 then (if x15_1 < (l1.length : Int) then (if (rd_T30 l1 x15_1).f0 = true then ((pack_Reader_Text.f kj14 x163000_1 x163001_1).bind fun bt166 => ((scuttlebuttref02_Reader_Text.f kj14 x165000_1 x165001_1).bind fun bt170 => (if bt166.1.toList = bt170.1.toList then (scuttlebuttlaw02_PackPlays.j2 kj14 l1 a2 a3 a4 a5 x15_1 bt166.2.1 bt166.2.2 bt170.2.1 bt170.2.2) else (none)))) else ((pack_Reader_Number.f kj14 x163000_1 x163001_1 (Int.tmod ((rd_T30 l1 x15_1).f1) 11)).bind fun bt175 => ((scuttlebuttref02_Reader_Number.f kj14 x165000_1 x165001_1 (Int.tmod ((rd_T30 l1 x15_1).f1) 11)).bind fun bt180 => (if bt175.1 = bt180.1 then (scuttlebuttlaw02_PackPlays.j2 kj14 l1 a2 a3 a4 a5 x15_1 bt175.2.1 bt175.2.2 bt180.2.1 bt180.2.2) else (none))))) else (none)) else (none)) = some r := by first | (rw [if_pos rfl] at H; exact H) | (rw [if_pos trivial] at H; exact H)
              clear H
              have H := H1
              clear H1
              by_cases c18 : 0 ≤ x15_1
              · rw [if_pos c18] at H
                have c18b0 : decide (0 ≤ x15_1) = true := decide_eq_true c18
                clear c18
                by_cases c19 : x15_1 < (l1.length : Int)
                · rw [if_pos c19] at H
                  have c19b0 : decide (x15_1 < (l1.length : Int)) = true := decide_eq_true c19
                  clear c19
                  have HC20 := Aside0.mk H
                  clear H
                  have p165 : 0 ≤ (x15_1 : Int) := of_decide_eq_true (by first | (with_reducible assumption) | assumption)
                  have q165 : x15_1 < (l1.length : Int) := of_decide_eq_true (by first | (with_reducible assumption) | assumption)
                  obtain ⟨ad165, e165, hx165_0, hx165_1⟩ := at_T30 HR1.out x15_1 p165 q165
                  cases e165
                  replace hx165_0 := (HB.out.cell (World.block_lt_of_cell? w _ hx165_0)).trans hx165_0
                  replace hx165_1 := (HB.out.cell (World.block_lt_of_cell? w _ hx165_1)).trans hx165_1
                  replace p165 := eq_true p165
                  replace q165 := eq_true q165
                  go_upto_if 59 with (fail)
                  go_cut [] (fun wc => ∃ (kq : Nat) (x163000_19 : ByteArray) (x163001_19 : Bool) (x165000_19 : ByteArray) (x165001_19 : Bool), Aside0 (scuttlebuttlaw02_PackPlays.j2 kq l1 a2 a3 a4 a5 x15_1 x163000_19 x163001_19 x165000_19 x165001_19 = some r) ∧ Aside0 (kq ≤ kj14) ∧ Aside0 (wc.heap[gb162]? = some (.cells #[.string x163000_19, .bool x163001_19] 23 (0, 0))) ∧ Aside0 (wc.heap[gb164]? = some (.cells #[.string x165000_19, .bool x165001_19] 28 (0, 0))) ∧ Aside0 (Below w.heap.size w wc))
                  case first =>
                    have H := HC20.out
                    clear HC20
                    obtain ⟨bq21, hbq21⟩ : ∃ b_ : Bool, b_ = ((rd_T30 l1 x15_1).f0) := ⟨_, rfl⟩
                    replace H : (if bq21 = true then ((pack_Reader_Text.f kj14 x163000_1 x163001_1).bind fun bt166 => ((scuttlebuttref02_Reader_Text.f kj14 x165000_1 x165001_1).bind fun bt170 => (if bt166.1.toList = bt170.1.toList then (scuttlebuttlaw02_PackPlays.j2 kj14 l1 a2 a3 a4 a5 x15_1 bt166.2.1 bt166.2.2 bt170.2.1 bt170.2.2) else (none)))) else ((pack_Reader_Number.f kj14 x163000_1 x163001_1 (Int.tmod ((rd_T30 l1 x15_1).f1) 11)).bind fun bt175 => ((scuttlebuttref02_Reader_Number.f kj14 x165000_1 x165001_1 (Int.tmod ((rd_T30 l1 x15_1).f1) 11)).bind fun bt180 => (if bt175.1 = bt180.1 then (scuttlebuttlaw02_PackPlays.j2 kj14 l1 a2 a3 a4 a5 x15_1 bt175.2.1 bt175.2.2 bt180.2.1 bt180.2.2) else (none))))) = some r := by rw [← hbq21] at H; exact H
                    have Nbq21 := Aside0.mk hbq21
                    clear hbq21
                    (try rw [← Nbq21.out])
                    by_cases c22 : bq21 = true
                    · (first | subst c22 | clear c22)
                      have H1 : ((pack_Reader_Text.f kj14 x163000_1 x163001_1).bind fun bt166 => ((scuttlebuttref02_Reader_Text.f kj14 x165000_1 x165001_1).bind fun bt170 => (if bt166.1.toList = bt170.1.toList then (scuttlebuttlaw02_PackPlays.j2 kj14 l1 a2 a3 a4 a5 x15_1 bt166.2.1 bt166.2.2 bt170.2.1 bt170.2.2) else (none)))) = some r := by first | (rw [if_pos rfl] at H; exact H) | (rw [if_pos trivial] at H; exact H)
                      clear H
                      have H := H1
                      clear H1
                      replace H := Option.bind_eq_some_iff.mp H
                      obtain ⟨⟨t166, t167, t168⟩, A230, H⟩ := H
                      replace H : ((scuttlebuttref02_Reader_Text.f kj14 x165000_1 x165001_1).bind fun bt170 => (if t166.toList = bt170.1.toList then (scuttlebuttlaw02_PackPlays.j2 kj14 l1 a2 a3 a4 a5 x15_1 t167 t168 bt170.2.1 bt170.2.2) else (none))) = some r := H
                      have A23 := Aside0.mk A230
                      clear A230
                      replace H := Option.bind_eq_some_iff.mp H
                      obtain ⟨⟨t170, t171, t172⟩, A240, H⟩ := H
                      replace H : (if t166.toList = t170.toList then (scuttlebuttlaw02_PackPlays.j2 kj14 l1 a2 a3 a4 a5 x15_1 t167 t168 t171 t172) else (none)) = some r := H
                      have A24 := Aside0.mk A240
                      clear A240
                      by_cases c25 : t166.toList = t170.toList
                      · rw [if_pos c25] at H
                        have c25b0 : (t166.toList == t170.toList) = true := beq_iff_eq.mpr c25
                        have c25b1 : (t166.toList != t170.toList) = false := bne_eq_false_iff_eq.mpr c25
                        clear c25
                        have H' := Aside0.mk H
                        clear H
                        have hnb26 := NB162_164.out
                        have hnc26 := NB164_162.out
                        have hcz27_0 : wc.cell? ⟨gb162, 0, none⟩ = some (.string x163000_1) := (blk_cell BK162.out 0).trans rfl
                        have hcz27_1 : wc.cell? ⟨gb162, 1, none⟩ = some (.bool x163001_1) := (blk_cell BK162.out 1).trans rfl
                        have hfz27_0 := blk_frozen BK162.out 0
                        have hfz27_1 := blk_frozen BK162.out 1
                        go_wp2_with (first | ((with_reducible refine gate_callee (f := 9) rfl ?_); refine goesL_ (some 62) rfl rfl Try.func9 (by kernel_rfl) rfl #[.agg #[.string x163000_1, .bool x163001_1]] rfl (by (try simp only [List.map_toArray, List.map_cons, List.map_nil]); first | done | rfl | (simp only [List.length_drop, List.length_take]; rfl)) ?_; (with_reducible refine (pack_Reader_Text.calls kj14 x163000_1 x163001_1 t166 t167 t168 _ A23.out).mono ?_); rintro e w28 ⟨rfl, hb⟩; refine ⟨_, rfl, ?_⟩; have n0_ := Aside0.mk (blk_below (g := gb162) (o := .cells #[.string x163000_1, .bool x163001_1] 23 (0, 0)) (by (with_reducible repeat (first | refine blk_drewN ?_ _ | refine blk_drew ?_ | refine blk_alloc ?_ _)); exact BK162.out) hb); have n1_ := Aside0.mk (blk_below (g := gb164) (o := .cells #[.string x165000_1, .bool x165001_1] 28 (0, 0)) (by (with_reducible repeat (first | refine blk_drewN ?_ _ | refine blk_drew ?_ | refine blk_alloc ?_ _)); exact BK164.out) hb); have n2_ := Aside0.mk (below_step (by repeat (first | (with_reducible first | exact HB.out | apply below_alloc | apply pw_below_drewN | apply below_drew1 | refine below_set ?_ GE162.out | refine below_set ?_ GE164.out) | exact HB.out)) hb); clear BK162; clear BK164; clear HB; have BK162 := n0_; have BK164 := n1_; have HB := n2_; clear n0_ n1_ n2_; (try clear hb); (try clear hb2); (try clear hk); (try clear hi)) | ((with_reducible refine gate_dst (N := 17) rfl ?_); refine box_event ?hg (N := 17) ?hd (cs := #[.string (⟨#[]⟩ : ByteArray), .bool false]) (t := 23) ?hr ?_; (case hd => rfl); (case hg => rfl); (case hr => first | (go_simp; done) | (go_simp; rfl)); intro gb169 hg w29 hbox hb; have n0_ := Aside0.mk (blk_below (g := gb162) (o := .cells #[.string x163000_1, .bool x163001_1] 23 (0, 0)) (by (with_reducible repeat (first | refine blk_drewN ?_ _ | refine blk_drew ?_ | refine blk_alloc ?_ _)); exact BK162.out) hb); have n1_ := Aside0.mk (blk_below (g := gb164) (o := .cells #[.string x165000_1, .bool x165001_1] 28 (0, 0)) (by (with_reducible repeat (first | refine blk_drewN ?_ _ | refine blk_drew ?_ | refine blk_alloc ?_ _)); exact BK164.out) hb); have n2_ := Aside0.mk (below_step (by repeat (first | (with_reducible first | exact HB.out | apply below_alloc | apply pw_below_drewN | apply below_drew1 | refine below_set ?_ GE162.out | refine below_set ?_ GE164.out) | exact HB.out)) hb); have n3_ := Aside0.mk (hbox); have n4_ := Aside0.mk ((by rw [hg]; exact (below_size (by repeat (first | (with_reducible first | exact HB.out | apply below_alloc | apply pw_below_drewN | apply below_drew1 | refine below_set ?_ GE162.out | refine below_set ?_ GE164.out) | exact HB.out))) : w.heap.size ≤ gb169)); have n5_ := Aside0.mk ((by rw [hg]; exact (below_size (by repeat (first | (with_reducible first | exact HB.out | apply below_alloc | apply pw_below_drewN | apply below_drew1 | refine below_set ?_ GE162.out | refine below_set ?_ GE164.out) | exact HB.out))) : w.heap.size ≤ gb169)); have n6_ := Aside0.mk ((by rw [hg]; exact Nat.ne_of_lt (blk_lt (g := gb162) (o := .cells #[.string x163000_1, .bool x163001_1] 23 (0, 0)) (by (with_reducible repeat (first | refine blk_drewN ?_ _ | refine blk_drew ?_ | refine blk_alloc ?_ _)); exact BK162.out)) : gb162 ≠ gb169)); have n7_ := Aside0.mk ((by rw [hg]; exact Nat.ne_of_gt (blk_lt (g := gb162) (o := .cells #[.string x163000_1, .bool x163001_1] 23 (0, 0)) (by (with_reducible repeat (first | refine blk_drewN ?_ _ | refine blk_drew ?_ | refine blk_alloc ?_ _)); exact BK162.out)) : gb169 ≠ gb162)); have n8_ := Aside0.mk ((by rw [hg]; exact Nat.ne_of_lt (blk_lt (g := gb164) (o := .cells #[.string x165000_1, .bool x165001_1] 28 (0, 0)) (by (with_reducible repeat (first | refine blk_drewN ?_ _ | refine blk_drew ?_ | refine blk_alloc ?_ _)); exact BK164.out)) : gb164 ≠ gb169)); have n9_ := Aside0.mk ((by rw [hg]; exact Nat.ne_of_gt (blk_lt (g := gb164) (o := .cells #[.string x165000_1, .bool x165001_1] 28 (0, 0)) (by (with_reducible repeat (first | refine blk_drewN ?_ _ | refine blk_drew ?_ | refine blk_alloc ?_ _)); exact BK164.out)) : gb169 ≠ gb164)); clear BK162; clear BK164; clear HB; have BK162 := n0_; have BK164 := n1_; have HB := n2_; have BK169 := n3_; have GW169 := n4_; have GE169 := n5_; have NB162_169 := n6_; have NB169_162 := n7_; have NB164_169 := n8_; have NB169_164 := n9_; clear n0_ n1_ n2_ n3_ n4_ n5_ n6_ n7_ n8_ n9_; clear hb hbox hg; have hnb30 := NB169_162.out; have hnc30 := NB162_169.out; have hnb31 := NB169_164.out; have hnc31 := NB164_169.out; have hcz32_0 : w29.cell? ⟨gb169, 0, none⟩ = some (.string (⟨#[]⟩ : ByteArray)) := (blk_cell BK169.out 0).trans rfl; have hcz32_1 : w29.cell? ⟨gb169, 1, none⟩ = some (.bool false) := (blk_cell BK169.out 1).trans rfl; have hfz32_0 := blk_frozen BK169.out 0; have hfz32_1 := blk_frozen BK169.out 1; have hcz33_0 : w29.cell? ⟨gb164, 0, none⟩ = some (.string x165000_1) := (blk_cell BK164.out 0).trans rfl; have hcz33_1 : w29.cell? ⟨gb164, 1, none⟩ = some (.bool x165001_1) := (blk_cell BK164.out 1).trans rfl; have hfz33_0 := blk_frozen BK164.out 0; have hfz33_1 := blk_frozen BK164.out 1) | ((with_reducible refine gate_callee (f := 10) rfl ?_); refine goesL_ (some 67) rfl rfl Try.func10 (by kernel_rfl) rfl #[.agg #[.string x165000_1, .bool x165001_1]] rfl (by (try simp only [List.map_toArray, List.map_cons, List.map_nil]); first | done | rfl | (simp only [List.length_drop, List.length_take]; rfl)) ?_; (with_reducible refine (scuttlebuttref02_Reader_Text.calls kj14 x165000_1 x165001_1 t170 t171 t172 _ A24.out).mono ?_); rintro e w34 ⟨rfl, hb⟩; refine ⟨_, rfl, ?_⟩; have n0_ := Aside0.mk (blk_below (g := gb162) (o := .cells #[.string x163000_1, .bool x163001_1] 23 (0, 0)) (by (with_reducible repeat (first | refine blk_drewN ?_ _ | refine blk_drew ?_ | refine blk_alloc ?_ _)); refine blk_far ?_ NB162_169.out _; (with_reducible repeat (first | refine blk_drewN ?_ _ | refine blk_drew ?_ | refine blk_alloc ?_ _)); refine blk_far ?_ NB162_169.out _; (with_reducible repeat (first | refine blk_drewN ?_ _ | refine blk_drew ?_ | refine blk_alloc ?_ _)); exact BK162.out) hb); have n1_ := Aside0.mk (blk_below (g := gb164) (o := .cells #[.string x165000_1, .bool x165001_1] 28 (0, 0)) (by (with_reducible repeat (first | refine blk_drewN ?_ _ | refine blk_drew ?_ | refine blk_alloc ?_ _)); refine blk_far ?_ NB164_169.out _; (with_reducible repeat (first | refine blk_drewN ?_ _ | refine blk_drew ?_ | refine blk_alloc ?_ _)); refine blk_far ?_ NB164_169.out _; (with_reducible repeat (first | refine blk_drewN ?_ _ | refine blk_drew ?_ | refine blk_alloc ?_ _)); exact BK164.out) hb); have n2_ := Aside0.mk (blk_below (g := gb169) (o := .cells #[.string t167, .bool t168] 23 (0, 0)) (by (with_reducible repeat (first | refine blk_drewN ?_ _ | refine blk_drew ?_ | refine blk_alloc ?_ _)); refine blk_put (cs := #[.string t167, .bool false]) ?_ 1 _ rfl; (with_reducible repeat (first | refine blk_drewN ?_ _ | refine blk_drew ?_ | refine blk_alloc ?_ _)); refine blk_put (cs := #[.string (⟨#[]⟩ : ByteArray), .bool false]) ?_ 0 _ rfl; (with_reducible repeat (first | refine blk_drewN ?_ _ | refine blk_drew ?_ | refine blk_alloc ?_ _)); exact BK169.out) hb); have n3_ := Aside0.mk (below_step (by repeat (first | (with_reducible first | exact HB.out | apply below_alloc | apply pw_below_drewN | apply below_drew1 | refine below_set ?_ GE162.out | refine below_set ?_ GE164.out | refine below_set ?_ GE169.out) | exact HB.out)) hb); clear BK162; clear BK164; clear BK169; clear HB; have BK162 := n0_; have BK164 := n1_; have BK169 := n2_; have HB := n3_; clear n0_ n1_ n2_ n3_; (try clear hb); (try clear hb2); (try clear hk); (try clear hi)) | ((with_reducible refine gate_dst (N := 19) rfl ?_); refine box_event ?hg (N := 19) ?hd (cs := #[.string (⟨#[]⟩ : ByteArray), .bool false]) (t := 28) ?hr ?_; (case hd => rfl); (case hg => rfl); (case hr => first | (go_simp; done) | (go_simp; rfl)); intro gb173 hg w35 hbox hb; have n0_ := Aside0.mk (blk_below (g := gb162) (o := .cells #[.string x163000_1, .bool x163001_1] 23 (0, 0)) (by (with_reducible repeat (first | refine blk_drewN ?_ _ | refine blk_drew ?_ | refine blk_alloc ?_ _)); exact BK162.out) hb); have n1_ := Aside0.mk (blk_below (g := gb164) (o := .cells #[.string x165000_1, .bool x165001_1] 28 (0, 0)) (by (with_reducible repeat (first | refine blk_drewN ?_ _ | refine blk_drew ?_ | refine blk_alloc ?_ _)); exact BK164.out) hb); have n2_ := Aside0.mk (blk_below (g := gb169) (o := .cells #[.string t167, .bool t168] 23 (0, 0)) (by (with_reducible repeat (first | refine blk_drewN ?_ _ | refine blk_drew ?_ | refine blk_alloc ?_ _)); exact BK169.out) hb); have n3_ := Aside0.mk (below_step (by repeat (first | (with_reducible first | exact HB.out | apply below_alloc | apply pw_below_drewN | apply below_drew1 | refine below_set ?_ GE162.out | refine below_set ?_ GE164.out | refine below_set ?_ GE169.out) | exact HB.out)) hb); have n4_ := Aside0.mk (hbox); have n5_ := Aside0.mk ((by rw [hg]; exact (below_size (by repeat (first | (with_reducible first | exact HB.out | apply below_alloc | apply pw_below_drewN | apply below_drew1 | refine below_set ?_ GE162.out | refine below_set ?_ GE164.out | refine below_set ?_ GE169.out) | exact HB.out))) : w.heap.size ≤ gb173)); have n6_ := Aside0.mk ((by rw [hg]; exact (below_size (by repeat (first | (with_reducible first | exact HB.out | apply below_alloc | apply pw_below_drewN | apply below_drew1 | refine below_set ?_ GE162.out | refine below_set ?_ GE164.out | refine below_set ?_ GE169.out) | exact HB.out))) : w.heap.size ≤ gb173)); have n7_ := Aside0.mk ((by rw [hg]; exact Nat.ne_of_lt (blk_lt (g := gb162) (o := .cells #[.string x163000_1, .bool x163001_1] 23 (0, 0)) (by (with_reducible repeat (first | refine blk_drewN ?_ _ | refine blk_drew ?_ | refine blk_alloc ?_ _)); exact BK162.out)) : gb162 ≠ gb173)); have n8_ := Aside0.mk ((by rw [hg]; exact Nat.ne_of_gt (blk_lt (g := gb162) (o := .cells #[.string x163000_1, .bool x163001_1] 23 (0, 0)) (by (with_reducible repeat (first | refine blk_drewN ?_ _ | refine blk_drew ?_ | refine blk_alloc ?_ _)); exact BK162.out)) : gb173 ≠ gb162)); have n9_ := Aside0.mk ((by rw [hg]; exact Nat.ne_of_lt (blk_lt (g := gb164) (o := .cells #[.string x165000_1, .bool x165001_1] 28 (0, 0)) (by (with_reducible repeat (first | refine blk_drewN ?_ _ | refine blk_drew ?_ | refine blk_alloc ?_ _)); exact BK164.out)) : gb164 ≠ gb173)); have n10_ := Aside0.mk ((by rw [hg]; exact Nat.ne_of_gt (blk_lt (g := gb164) (o := .cells #[.string x165000_1, .bool x165001_1] 28 (0, 0)) (by (with_reducible repeat (first | refine blk_drewN ?_ _ | refine blk_drew ?_ | refine blk_alloc ?_ _)); exact BK164.out)) : gb173 ≠ gb164)); have n11_ := Aside0.mk ((by rw [hg]; exact Nat.ne_of_lt (blk_lt (g := gb169) (o := .cells #[.string t167, .bool t168] 23 (0, 0)) (by (with_reducible repeat (first | refine blk_drewN ?_ _ | refine blk_drew ?_ | refine blk_alloc ?_ _)); exact BK169.out)) : gb169 ≠ gb173)); have n12_ := Aside0.mk ((by rw [hg]; exact Nat.ne_of_gt (blk_lt (g := gb169) (o := .cells #[.string t167, .bool t168] 23 (0, 0)) (by (with_reducible repeat (first | refine blk_drewN ?_ _ | refine blk_drew ?_ | refine blk_alloc ?_ _)); exact BK169.out)) : gb173 ≠ gb169)); clear BK162; clear BK164; clear BK169; clear HB; have BK162 := n0_; have BK164 := n1_; have BK169 := n2_; have HB := n3_; have BK173 := n4_; have GW173 := n5_; have GE173 := n6_; have NB162_173 := n7_; have NB173_162 := n8_; have NB164_173 := n9_; have NB173_164 := n10_; have NB169_173 := n11_; have NB173_169 := n12_; clear n0_ n1_ n2_ n3_ n4_ n5_ n6_ n7_ n8_ n9_ n10_ n11_ n12_; clear hb hbox hg; have hnb36 := NB173_162.out; have hnc36 := NB162_173.out; have hnb37 := NB173_164.out; have hnc37 := NB164_173.out; have hnb38 := NB173_169.out; have hnc38 := NB169_173.out; have hcz39_0 : w35.cell? ⟨gb173, 0, none⟩ = some (.string (⟨#[]⟩ : ByteArray)) := (blk_cell BK173.out 0).trans rfl; have hcz39_1 : w35.cell? ⟨gb173, 1, none⟩ = some (.bool false) := (blk_cell BK173.out 1).trans rfl; have hfz39_0 := blk_frozen BK173.out 0; have hfz39_1 := blk_frozen BK173.out 1; have hcz40_0 : w35.cell? ⟨gb169, 0, none⟩ = some (.string t167) := (blk_cell BK169.out 0).trans rfl; have hcz40_1 : w35.cell? ⟨gb169, 1, none⟩ = some (.bool t168) := (blk_cell BK169.out 1).trans rfl; have hfz40_0 := blk_frozen BK169.out 0; have hfz40_1 := blk_frozen BK169.out 1; have hcz41_0 : w35.cell? ⟨gb162, 0, none⟩ = some (.string x163000_1) := (blk_cell BK162.out 0).trans rfl; have hcz41_1 : w35.cell? ⟨gb162, 1, none⟩ = some (.bool x163001_1) := (blk_cell BK162.out 1).trans rfl; have hfz41_0 := blk_frozen BK162.out 0; have hfz41_1 := blk_frozen BK162.out 1; have hcz42_0 : w35.cell? ⟨gb164, 0, none⟩ = some (.string x165000_1) := (blk_cell BK164.out 0).trans rfl; have hcz42_1 : w35.cell? ⟨gb164, 1, none⟩ = some (.bool x165001_1) := (blk_cell BK164.out 1).trans rfl; have hfz42_0 := blk_frozen BK164.out 0; have hfz42_1 := blk_frozen BK164.out 1))
                        go_meet
                        case rel => exact ⟨_, (t167), (t168), (t171), (t172), H', ⟨by have := HK1.out; have := HJ14.out; first | omega | exact Nat.le_refl _⟩, ⟨by (with_reducible repeat (first | refine blk_drewN ?_ _ | refine blk_drew ?_ | refine blk_alloc ?_ _)); refine blk_far ?_ NB162_164.out _; (with_reducible repeat (first | refine blk_drewN ?_ _ | refine blk_drew ?_ | refine blk_alloc ?_ _)); refine blk_far ?_ NB162_164.out _; (with_reducible repeat (first | refine blk_drewN ?_ _ | refine blk_drew ?_ | refine blk_alloc ?_ _)); refine blk_put (cs := #[.string t167, .bool x163001_1]) ?_ 1 _ rfl; (with_reducible repeat (first | refine blk_drewN ?_ _ | refine blk_drew ?_ | refine blk_alloc ?_ _)); refine blk_put (cs := #[.string x163000_1, .bool x163001_1]) ?_ 0 _ rfl; (with_reducible repeat (first | refine blk_drewN ?_ _ | refine blk_drew ?_ | refine blk_alloc ?_ _)); refine blk_far ?_ NB162_173.out _; (with_reducible repeat (first | refine blk_drewN ?_ _ | refine blk_drew ?_ | refine blk_alloc ?_ _)); refine blk_far ?_ NB162_173.out _; (with_reducible repeat (first | refine blk_drewN ?_ _ | refine blk_drew ?_ | refine blk_alloc ?_ _)); exact BK162.out⟩, ⟨by (with_reducible repeat (first | refine blk_drewN ?_ _ | refine blk_drew ?_ | refine blk_alloc ?_ _)); refine blk_put (cs := #[.string t171, .bool x165001_1]) ?_ 1 _ rfl; (with_reducible repeat (first | refine blk_drewN ?_ _ | refine blk_drew ?_ | refine blk_alloc ?_ _)); refine blk_put (cs := #[.string x165000_1, .bool x165001_1]) ?_ 0 _ rfl; (with_reducible repeat (first | refine blk_drewN ?_ _ | refine blk_drew ?_ | refine blk_alloc ?_ _)); refine blk_far ?_ NB164_162.out _; (with_reducible repeat (first | refine blk_drewN ?_ _ | refine blk_drew ?_ | refine blk_alloc ?_ _)); refine blk_far ?_ NB164_162.out _; (with_reducible repeat (first | refine blk_drewN ?_ _ | refine blk_drew ?_ | refine blk_alloc ?_ _)); refine blk_far ?_ NB164_173.out _; (with_reducible repeat (first | refine blk_drewN ?_ _ | refine blk_drew ?_ | refine blk_alloc ?_ _)); refine blk_far ?_ NB164_173.out _; (with_reducible repeat (first | refine blk_drewN ?_ _ | refine blk_drew ?_ | refine blk_alloc ?_ _)); exact BK164.out⟩, ⟨by repeat (first | (with_reducible first | exact HB.out | apply below_alloc | apply pw_below_drewN | apply below_drew1 | refine below_set ?_ GE162.out | refine below_set ?_ GE164.out | refine below_set ?_ GE169.out | refine below_set ?_ GE173.out) | exact HB.out)⟩⟩
                      · (first | rw [if_neg c25] at H | exact absurd rfl c25)
                        exact absurd H (by simp)
                    · replace c22 := Bool.eq_false_iff.mpr c22
                      (first | subst c22 | clear c22)
                      have H1 : ((pack_Reader_Number.f kj14 x163000_1 x163001_1 (Int.tmod ((rd_T30 l1 x15_1).f1) 11)).bind fun bt175 => ((scuttlebuttref02_Reader_Number.f kj14 x165000_1 x165001_1 (Int.tmod ((rd_T30 l1 x15_1).f1) 11)).bind fun bt180 => (if bt175.1 = bt180.1 then (scuttlebuttlaw02_PackPlays.j2 kj14 l1 a2 a3 a4 a5 x15_1 bt175.2.1 bt175.2.2 bt180.2.1 bt180.2.2) else (none)))) = some r := by rw [if_neg (show ¬ (false = true) by decide)] at H; exact H
                      clear H
                      have H := H1
                      clear H1
                      replace H := Option.bind_eq_some_iff.mp H
                      obtain ⟨⟨t175, t176, t177⟩, A430, H⟩ := H
                      replace H : ((scuttlebuttref02_Reader_Number.f kj14 x165000_1 x165001_1 (Int.tmod ((rd_T30 l1 x15_1).f1) 11)).bind fun bt180 => (if t175 = bt180.1 then (scuttlebuttlaw02_PackPlays.j2 kj14 l1 a2 a3 a4 a5 x15_1 t176 t177 bt180.2.1 bt180.2.2) else (none))) = some r := H
                      have A43 := Aside0.mk A430
                      clear A430
                      replace H := Option.bind_eq_some_iff.mp H
                      obtain ⟨⟨t180, t181, t182⟩, A440, H⟩ := H
                      replace H : (if t175 = t180 then (scuttlebuttlaw02_PackPlays.j2 kj14 l1 a2 a3 a4 a5 x15_1 t176 t177 t181 t182) else (none)) = some r := H
                      have A44 := Aside0.mk A440
                      clear A440
                      by_cases c45 : t175 = t180
                      · rw [if_pos c45] at H
                        have c45b0 : (t175 == t180) = true := beq_iff_eq.mpr c45
                        have c45b1 : (t175 != t180) = false := bne_eq_false_iff_eq.mpr c45
                        clear c45
                        have H' := Aside0.mk H
                        clear H
                        try go_wp2
                        have n0_ := Aside0.mk (blk_drew BK162.out)
                        have n1_ := Aside0.mk (blk_drew BK164.out)
                        have n2_ := Aside0.mk (below_drew1 HB.out)
                        clear BK162
                        clear BK164
                        clear HB
                        have BK162 := n0_
                        have BK164 := n1_
                        have HB := n2_
                        clear n0_ n1_ n2_
                        have p174 : 0 ≤ (x15_1 : Int) := of_decide_eq_true (by first | (with_reducible assumption) | assumption)
                        have q174 : x15_1 < (l1.length : Int) := of_decide_eq_true (by first | (with_reducible assumption) | assumption)
                        obtain ⟨ad174, e174, hx174_0, hx174_1⟩ := at_T30 HR1.out x15_1 p174 q174
                        have hw174_1 := hx174_1
                        have hw174_0 := hx174_0
                        (try rw [← Nbq21.out] at hx174_0)
                        (try rw [← Nbq21.out] at hw174_0)
                        obtain rfl : ad165 = ad174 := (by injection e174)
                        replace hx174_0 := (HB.out.cell (World.block_lt_of_cell? w _ hx174_0)).trans hx174_0
                        replace hx174_1 := (HB.out.cell (World.block_lt_of_cell? w _ hx174_1)).trans hx174_1
                        replace p174 := eq_true p174
                        replace q174 := eq_true q174
                        refine start_ (n := 14) (S := fun w' => w'.cell? ⟨gb162, 0, none⟩ = some (.string x163000_1) ∧ w'.cell? ⟨gb162, 1, none⟩ = some (.bool x163001_1) ∧ w'.cell? (ad165.add ((x15_1).toNat * 2)) = some (.bool (false)) ∧ w'.cell? ⟨(ad165.add ((x15_1).toNat * 2)).block, (ad165.add ((x15_1).toNat * 2)).off + 1, none⟩ = some (.int .i64 ((rd_T30 l1 x15_1).f1))) (ds := []) #[false, false, false, false, false, false, false, false, false, false, false, false, false, false] (by kernel_rfl) rfl rfl ⟨(blk_cell BK162.out 0).trans rfl, (blk_cell BK162.out 1).trans rfl, ((HB.out.cell (World.block_lt_of_cell? w _ hw174_0)).trans hw174_0), ((HB.out.cell (World.block_lt_of_cell? w _ hw174_1)).trans hw174_1)⟩ (fun hHeld => ?_); refine with_tabW scuttlebuttlaw02_PackPlays.tab15 scuttlebuttlaw02_PackPlays.bits15 (fun HT_ HW_ => ?_)
                        generalize wc.drew = w46 at BK162 BK164 HB hx174_0 hx174_1 hHeld ⊢
                        refine pure_ (i := 1) (N := some 77) (v := ?_) (a' := ?_) #[false, true, false, false, false, false, false, false, false, false, false, false, false, false] rfl rfl (any_of HT_.out (by kernel_rfl)) (fun _ _ _ h => h) (Or.inl ⟨by first | rfl | (simp only [c45b0]; rfl), ?_⟩) ?_ ?_
                        rotate_left
                        · intro w'
                          go_simp
                          with_reducible rfl
                        rotate_left
                        · simp only [Act.put, List.setIfInBounds_toArray, List.set_cons_zero, List.set_cons_succ, i64_w, i32_w]
                          rfl
                        refine pure_ (i := 2) (N := some 78) (v := ?_) (a' := ?_) #[false, true, true, false, false, false, false, false, false, false, false, false, false, false] rfl rfl (any_of HT_.out (by kernel_rfl)) (fun _ _ _ h => h) (Or.inl ⟨by first | rfl | (simp only [c45b0]; rfl), ?_⟩) ?_ ?_
                        rotate_left
                        · intro w'
                          go_simp
                          with_reducible rfl
                        rotate_left
                        · simp only [Act.put, List.setIfInBounds_toArray, List.set_cons_zero, List.set_cons_succ, i64_w, i32_w]
                          rfl
                        refine pure_ (i := 3) (N := some 79) (v := ?_) (a' := ?_) #[false, true, true, true, false, false, false, false, false, false, false, false, false, false] rfl rfl (any_of HT_.out (by kernel_rfl)) (fun _ _ _ h => h) (Or.inl ⟨by first | rfl | (simp only [c45b0]; rfl), ?_⟩) ?_ ?_
                        rotate_left
                        · intro w'
                          go_simp
                          with_reducible rfl
                        rotate_left
                        · simp only [Act.put, List.setIfInBounds_toArray, List.set_cons_zero, List.set_cons_succ, i64_w, i32_w]
                          rfl
                        refine pure_ (i := 4) (N := some 80) (v := ?_) (a' := ?_) #[false, true, true, true, true, false, false, false, false, false, false, false, false, false] rfl rfl (any_of HT_.out (by kernel_rfl)) (fun _ _ _ h => h) (Or.inl ⟨by first | rfl | (simp only [c45b0]; rfl), ?_⟩) ?_ ?_
                        rotate_left
                        · intro w'
                          go_simp
                          with_reducible rfl
                        rotate_left
                        · simp only [Act.put, List.setIfInBounds_toArray, List.set_cons_zero, List.set_cons_succ, i64_w, i32_w]
                          rfl
                        refine take_ (i := 0) (N := some 76) (v := ?_) (a' := ?_) #[true, true, true, true, true, false, false, false, false, false, false, false, false, false] rfl rfl (take_ofW HT_.out HW_.out (by kernel_rfl)) (fun _ _ _ h => h) (Or.inl ⟨by first | rfl | (simp only [c45b0]; rfl), ?_⟩) hHeld ?_ ?_
                        rotate_left
                        · rintro w' ⟨s0, s1, s2, s3⟩
                          go_simp
                          with_reducible rfl
                        rotate_left
                        · simp only [Act.put, List.setIfInBounds_toArray, List.set_cons_zero, List.set_cons_succ, i64_w, i32_w]
                          rfl
                        refine take_ (i := 5) (N := some 81) (v := ?_) (a' := ?_) #[true, true, true, true, true, true, false, false, false, false, false, false, false, false] rfl rfl (take_ofW HT_.out HW_.out (by kernel_rfl)) (fun _ _ _ h => h) (Or.inl ⟨by first | rfl | (simp only [c45b0]; rfl), ?_⟩) hHeld ?_ ?_
                        rotate_left
                        · rintro w' ⟨s0, s1, s2, s3⟩
                          go_simp
                          with_reducible rfl
                        rotate_left
                        · simp only [Act.put, List.setIfInBounds_toArray, List.set_cons_zero, List.set_cons_succ, i64_w, i32_w]
                          rfl
                        refine pure_ (i := 6) (N := some 82) (v := ?_) (a' := ?_) #[true, true, true, true, true, true, true, false, false, false, false, false, false, false] rfl rfl (any_of HT_.out (by kernel_rfl)) (fun _ _ _ h => h) (Or.inl ⟨by first | rfl | (simp only [c45b0]; rfl), ?_⟩) ?_ ?_
                        rotate_left
                        · intro w'
                          go_simp
                          with_reducible rfl
                        rotate_left
                        · simp only [Act.put, List.setIfInBounds_toArray, List.set_cons_zero, List.set_cons_succ, i64_w, i32_w]
                          rfl
                        refine join_ (σ := Nat) 2 #[true, true, true, true, true, true, true, true, true, true, true, true, false, false] (fun s_ => [(83, .tuple #[.int .u64 t175, .agg #[.string t176, .bool t177]]), (21, .pointer (some ⟨s_, 0, none⟩)), (75, .tuple #[.int .u64 t175, .agg #[.string t176, .bool t177]]), (84, .int .u64 t175), (85, .agg #[.string t176, .bool t177])]) (fun s_ w' => (w'.cell? ⟨gb162, 0, none⟩ = some (.string x163000_1) ∧ w'.cell? ⟨gb162, 1, none⟩ = some (.bool x163001_1) ∧ w'.cell? (ad165.add ((x15_1).toNat * 2)) = some (.bool (false)) ∧ w'.cell? ⟨(ad165.add ((x15_1).toNat * 2)).block, (ad165.add ((x15_1).toNat * 2)).off + 1, none⟩ = some (.int .i64 ((rd_T30 l1 x15_1).f1))) ∧ (w'.heap[gb162]? = some (.cells #[.string x163000_1, .bool x163001_1] 23 (0, 0))) ∧ (w'.heap[gb164]? = some (.cells #[.string x165000_1, .bool x165001_1] 28 (0, 0))) ∧ (w'.heap[s_]? = some (.cells #[.string (⟨#[]⟩ : ByteArray), .bool false] 23 (0, 0))) ∧ (w.heap.size ≤ s_) ∧ (w.heap.size ≤ s_) ∧ (gb162 ≠ s_) ∧ (s_ ≠ gb162) ∧ (gb164 ≠ s_) ∧ (s_ ≠ gb164) ∧ (Below w.heap.size w w')) ?_ ?_
                        rotate_left
                        · intro hCont
                          refine two_ (i := 7) (j := 11) (Ni := some 83) (Nj := some 21) #[true, true, true, true, true, true, true, true, false, false, false, false, false, false] #[true, true, true, true, true, true, true, false, false, false, false, true, false, false] rfl rfl rfl rfl (two_of HT_.out (by kernel_rfl)) (by decide) (by decide) (fun K hK => ?_) (fun K hK => ?_)
                          · skip
                            refine goes_ Try.func11 (by kernel_rfl) rfl #[.agg #[.string x163000_1, .bool x163001_1], .int .i64 (Int.tmod ((rd_T30 l1 x15_1).f1) 11)] (by rfl) rfl rfl (by (try simp only [List.map_toArray, List.map_cons, List.map_nil]); first | done | rfl | (simp only [List.length_drop, List.length_take]; rfl)) ?_
                            with_reducible refine (pack_Reader_Number.calls kj14 x163000_1 x163001_1 (Int.tmod ((rd_T30 l1 x15_1).f1) 11) t175 t176 t177 _ A43.out).mono ?_
                            rintro e w47 ⟨rfl, hb⟩
                            refine ⟨_, rfl, ?_⟩
                            have n0_ := Aside0.mk (blk_below (g := gb162) (o := .cells #[.string x163000_1, .bool x163001_1] 23 (0, 0)) (by (with_reducible repeat (first | refine blk_drewN ?_ _ | refine blk_drew ?_ | refine blk_alloc ?_ _)); exact BK162.out) hb)
                            have n1_ := Aside0.mk (blk_below (g := gb164) (o := .cells #[.string x165000_1, .bool x165001_1] 28 (0, 0)) (by (with_reducible repeat (first | refine blk_drewN ?_ _ | refine blk_drew ?_ | refine blk_alloc ?_ _)); exact BK164.out) hb)
                            have n2_ := Aside0.mk (below_step (by repeat (first | (with_reducible first | exact HB.out | apply below_alloc | apply pw_below_drewN | apply below_drew1 | refine below_set ?_ GE162.out | refine below_set ?_ GE164.out) | exact HB.out)) hb)
                            clear BK162
                            clear BK164
                            clear HB
                            have BK162 := n0_
                            have BK164 := n1_
                            have HB := n2_
                            clear n0_ n1_ n2_
                            (try clear hb)
                            (try clear hb2)
                            (try clear hk)
                            (try clear hi)
                            refine hK.out _ _ ⟨(blk_cell BK162.out 0).trans rfl, (blk_cell BK162.out 1).trans rfl, ((HB.out.cell (World.block_lt_of_cell? w _ hw174_0)).trans hw174_0), ((HB.out.cell (World.block_lt_of_cell? w _ hw174_1)).trans hw174_1)⟩ (fun hHeld => ?_)
                            clear hK K
                            refine norm_ (a' := ?_) ?_ ?_
                            rotate_left
                            · show Act.put _ (some 83) _ = _
                              simp only [Act.put, List.setIfInBounds_toArray, List.set_cons_zero, List.set_cons_succ, i64_w, i32_w]
                              rfl
                            refine pure_ (i := 8) (N := some 75) (v := ?_) (a' := ?_) #[true, true, true, true, true, true, true, true, true, false, false, false, false, false] rfl rfl (any_of HT_.out (by kernel_rfl)) (fun _ _ _ h => h) (Or.inl ⟨by first | rfl | (simp only [c45b0]; rfl), ?_⟩) ?_ ?_
                            rotate_left
                            · intro w'
                              go_simp
                              with_reducible rfl
                            rotate_left
                            · simp only [Act.put, List.setIfInBounds_toArray, List.set_cons_zero, List.set_cons_succ, i64_w, i32_w]
                              rfl
                            refine pure_ (i := 9) (N := some 84) (v := ?_) (a' := ?_) #[true, true, true, true, true, true, true, true, true, true, false, false, false, false] rfl rfl (any_of HT_.out (by kernel_rfl)) (fun _ _ _ h => h) (Or.inl ⟨by first | rfl | (simp only [c45b0]; rfl), ?_⟩) ?_ ?_
                            rotate_left
                            · intro w'
                              go_simp
                              with_reducible rfl
                            rotate_left
                            · simp only [Act.put, List.setIfInBounds_toArray, List.set_cons_zero, List.set_cons_succ, i64_w, i32_w]
                              rfl
                            refine pure_ (i := 10) (N := some 85) (v := ?_) (a' := ?_) #[true, true, true, true, true, true, true, true, true, true, true, false, false, false] rfl rfl (any_of HT_.out (by kernel_rfl)) (fun _ _ _ h => h) (Or.inl ⟨by first | rfl | (simp only [c45b0]; rfl), ?_⟩) ?_ ?_
                            rotate_left
                            · intro w'
                              go_simp
                              with_reducible rfl
                            rotate_left
                            · simp only [Act.put, List.setIfInBounds_toArray, List.set_cons_zero, List.set_cons_succ, i64_w, i32_w]
                              rfl
                            refine one_ (i := 11) (N := some 21) #[true, true, true, true, true, true, true, true, true, true, true, true, false, false] rfl rfl (one_of HT_.out (by kernel_rfl)) (by decide) (fun K hK => ?_)
                            refine box_step ?hg (N := 21) ?hd (cs := #[.string (⟨#[]⟩ : ByteArray), .bool false]) (t := 23) ?hr ?_; (case hd => rfl); (case hg => rfl); (case hr => first | (go_simp; done) | (go_simp; rfl))
                            intro gb178 hg w48 hbox hb
                            have n0_ := Aside0.mk (blk_below (g := gb162) (o := .cells #[.string x163000_1, .bool x163001_1] 23 (0, 0)) (by (with_reducible repeat (first | refine blk_drewN ?_ _ | refine blk_drew ?_ | refine blk_alloc ?_ _)); exact BK162.out) hb)
                            have n1_ := Aside0.mk (blk_below (g := gb164) (o := .cells #[.string x165000_1, .bool x165001_1] 28 (0, 0)) (by (with_reducible repeat (first | refine blk_drewN ?_ _ | refine blk_drew ?_ | refine blk_alloc ?_ _)); exact BK164.out) hb)
                            have n2_ := Aside0.mk (below_step (by repeat (first | (with_reducible first | exact HB.out | apply below_alloc | apply pw_below_drewN | apply below_drew1 | refine below_set ?_ GE162.out | refine below_set ?_ GE164.out) | exact HB.out)) hb)
                            have n3_ := Aside0.mk (hbox)
                            have n4_ := Aside0.mk ((by rw [hg]; exact (below_size (by repeat (first | (with_reducible first | exact HB.out | apply below_alloc | apply pw_below_drewN | apply below_drew1 | refine below_set ?_ GE162.out | refine below_set ?_ GE164.out) | exact HB.out))) : w.heap.size ≤ gb178))
                            have n5_ := Aside0.mk ((by rw [hg]; exact (below_size (by repeat (first | (with_reducible first | exact HB.out | apply below_alloc | apply pw_below_drewN | apply below_drew1 | refine below_set ?_ GE162.out | refine below_set ?_ GE164.out) | exact HB.out))) : w.heap.size ≤ gb178))
                            have n6_ := Aside0.mk ((by rw [hg]; exact Nat.ne_of_lt (blk_lt (g := gb162) (o := .cells #[.string x163000_1, .bool x163001_1] 23 (0, 0)) (by (with_reducible repeat (first | refine blk_drewN ?_ _ | refine blk_drew ?_ | refine blk_alloc ?_ _)); exact BK162.out)) : gb162 ≠ gb178))
                            have n7_ := Aside0.mk ((by rw [hg]; exact Nat.ne_of_gt (blk_lt (g := gb162) (o := .cells #[.string x163000_1, .bool x163001_1] 23 (0, 0)) (by (with_reducible repeat (first | refine blk_drewN ?_ _ | refine blk_drew ?_ | refine blk_alloc ?_ _)); exact BK162.out)) : gb178 ≠ gb162))
                            have n8_ := Aside0.mk ((by rw [hg]; exact Nat.ne_of_lt (blk_lt (g := gb164) (o := .cells #[.string x165000_1, .bool x165001_1] 28 (0, 0)) (by (with_reducible repeat (first | refine blk_drewN ?_ _ | refine blk_drew ?_ | refine blk_alloc ?_ _)); exact BK164.out)) : gb164 ≠ gb178))
                            have n9_ := Aside0.mk ((by rw [hg]; exact Nat.ne_of_gt (blk_lt (g := gb164) (o := .cells #[.string x165000_1, .bool x165001_1] 28 (0, 0)) (by (with_reducible repeat (first | refine blk_drewN ?_ _ | refine blk_drew ?_ | refine blk_alloc ?_ _)); exact BK164.out)) : gb178 ≠ gb164))
                            clear BK162
                            clear BK164
                            clear HB
                            have BK162 := n0_
                            have BK164 := n1_
                            have HB := n2_
                            have BK178 := n3_
                            have GW178 := n4_
                            have GE178 := n5_
                            have NB162_178 := n6_
                            have NB178_162 := n7_
                            have NB164_178 := n8_
                            have NB178_164 := n9_
                            clear n0_ n1_ n2_ n3_ n4_ n5_ n6_ n7_ n8_ n9_
                            clear hb hbox hg
                            refine hK.out _ _ ⟨(blk_cell BK162.out 0).trans rfl, (blk_cell BK162.out 1).trans rfl, ((HB.out.cell (World.block_lt_of_cell? w _ hw174_0)).trans hw174_0), ((HB.out.cell (World.block_lt_of_cell? w _ hw174_1)).trans hw174_1)⟩ (fun hHeld => ?_)
                            clear hK K
                            refine norm_ (a' := ?_) ?_ ?_
                            rotate_left
                            · show Act.put _ (some 21) _ = _
                              simp only [Act.put, List.setIfInBounds_toArray, List.set_cons_zero, List.set_cons_succ, i64_w, i32_w]
                              rfl
                            exact norm_ (by simp only [putAll, Act.put, List.setIfInBounds_toArray, List.set_cons_zero, List.set_cons_succ]) (hCont (gb178) _ ⟨hHeld, (by (with_reducible repeat (first | refine blk_drewN ?_ _ | refine blk_drew ?_ | refine blk_alloc ?_ _)); exact BK162.out), (by (with_reducible repeat (first | refine blk_drewN ?_ _ | refine blk_drew ?_ | refine blk_alloc ?_ _)); exact BK164.out), (by (with_reducible repeat (first | refine blk_drewN ?_ _ | refine blk_drew ?_ | refine blk_alloc ?_ _)); exact BK178.out), GW178.out, GE178.out, NB162_178.out, NB178_162.out, NB164_178.out, NB178_164.out, (by repeat (first | (with_reducible first | exact HB.out | apply below_alloc | apply pw_below_drewN | apply below_drew1 | refine below_set ?_ GE162.out | refine below_set ?_ GE164.out | refine below_set ?_ GE178.out) | exact HB.out))⟩)
                          · skip
                            refine box_step ?hg (N := 21) ?hd (cs := #[.string (⟨#[]⟩ : ByteArray), .bool false]) (t := 23) ?hr ?_; (case hd => rfl); (case hg => rfl); (case hr => first | (go_simp; done) | (go_simp; rfl))
                            intro gb178 hg w47 hbox hb
                            have n0_ := Aside0.mk (blk_below (g := gb162) (o := .cells #[.string x163000_1, .bool x163001_1] 23 (0, 0)) (by (with_reducible repeat (first | refine blk_drewN ?_ _ | refine blk_drew ?_ | refine blk_alloc ?_ _)); exact BK162.out) hb)
                            have n1_ := Aside0.mk (blk_below (g := gb164) (o := .cells #[.string x165000_1, .bool x165001_1] 28 (0, 0)) (by (with_reducible repeat (first | refine blk_drewN ?_ _ | refine blk_drew ?_ | refine blk_alloc ?_ _)); exact BK164.out) hb)
                            have n2_ := Aside0.mk (below_step (by repeat (first | (with_reducible first | exact HB.out | apply below_alloc | apply pw_below_drewN | apply below_drew1 | refine below_set ?_ GE162.out | refine below_set ?_ GE164.out) | exact HB.out)) hb)
                            have n3_ := Aside0.mk (hbox)
                            have n4_ := Aside0.mk ((by rw [hg]; exact (below_size (by repeat (first | (with_reducible first | exact HB.out | apply below_alloc | apply pw_below_drewN | apply below_drew1 | refine below_set ?_ GE162.out | refine below_set ?_ GE164.out) | exact HB.out))) : w.heap.size ≤ gb178))
                            have n5_ := Aside0.mk ((by rw [hg]; exact (below_size (by repeat (first | (with_reducible first | exact HB.out | apply below_alloc | apply pw_below_drewN | apply below_drew1 | refine below_set ?_ GE162.out | refine below_set ?_ GE164.out) | exact HB.out))) : w.heap.size ≤ gb178))
                            have n6_ := Aside0.mk ((by rw [hg]; exact Nat.ne_of_lt (blk_lt (g := gb162) (o := .cells #[.string x163000_1, .bool x163001_1] 23 (0, 0)) (by (with_reducible repeat (first | refine blk_drewN ?_ _ | refine blk_drew ?_ | refine blk_alloc ?_ _)); exact BK162.out)) : gb162 ≠ gb178))
                            have n7_ := Aside0.mk ((by rw [hg]; exact Nat.ne_of_gt (blk_lt (g := gb162) (o := .cells #[.string x163000_1, .bool x163001_1] 23 (0, 0)) (by (with_reducible repeat (first | refine blk_drewN ?_ _ | refine blk_drew ?_ | refine blk_alloc ?_ _)); exact BK162.out)) : gb178 ≠ gb162))
                            have n8_ := Aside0.mk ((by rw [hg]; exact Nat.ne_of_lt (blk_lt (g := gb164) (o := .cells #[.string x165000_1, .bool x165001_1] 28 (0, 0)) (by (with_reducible repeat (first | refine blk_drewN ?_ _ | refine blk_drew ?_ | refine blk_alloc ?_ _)); exact BK164.out)) : gb164 ≠ gb178))
                            have n9_ := Aside0.mk ((by rw [hg]; exact Nat.ne_of_gt (blk_lt (g := gb164) (o := .cells #[.string x165000_1, .bool x165001_1] 28 (0, 0)) (by (with_reducible repeat (first | refine blk_drewN ?_ _ | refine blk_drew ?_ | refine blk_alloc ?_ _)); exact BK164.out)) : gb178 ≠ gb164))
                            clear BK162
                            clear BK164
                            clear HB
                            have BK162 := n0_
                            have BK164 := n1_
                            have HB := n2_
                            have BK178 := n3_
                            have GW178 := n4_
                            have GE178 := n5_
                            have NB162_178 := n6_
                            have NB178_162 := n7_
                            have NB164_178 := n8_
                            have NB178_164 := n9_
                            clear n0_ n1_ n2_ n3_ n4_ n5_ n6_ n7_ n8_ n9_
                            clear hb hbox hg
                            refine hK.out _ _ ⟨(blk_cell BK162.out 0).trans rfl, (blk_cell BK162.out 1).trans rfl, ((HB.out.cell (World.block_lt_of_cell? w _ hw174_0)).trans hw174_0), ((HB.out.cell (World.block_lt_of_cell? w _ hw174_1)).trans hw174_1)⟩ (fun hHeld => ?_)
                            clear hK K
                            refine norm_ (a' := ?_) ?_ ?_
                            rotate_left
                            · show Act.put _ (some 21) _ = _
                              simp only [Act.put, List.setIfInBounds_toArray, List.set_cons_zero, List.set_cons_succ, i64_w, i32_w]
                              rfl
                            refine one_ (i := 7) (N := some 83) #[true, true, true, true, true, true, true, true, false, false, false, true, false, false] rfl rfl (one_of HT_.out (by kernel_rfl)) (by decide) (fun K hK => ?_)
                            refine goes_ Try.func11 (by kernel_rfl) rfl #[.agg #[.string x163000_1, .bool x163001_1], .int .i64 (Int.tmod ((rd_T30 l1 x15_1).f1) 11)] (by rfl) rfl rfl (by (try simp only [List.map_toArray, List.map_cons, List.map_nil]); first | done | rfl | (simp only [List.length_drop, List.length_take]; rfl)) ?_
                            with_reducible refine (pack_Reader_Number.calls kj14 x163000_1 x163001_1 (Int.tmod ((rd_T30 l1 x15_1).f1) 11) t175 t176 t177 _ A43.out).mono ?_
                            rintro e w48 ⟨rfl, hb⟩
                            refine ⟨_, rfl, ?_⟩
                            have n0_ := Aside0.mk (blk_below (g := gb162) (o := .cells #[.string x163000_1, .bool x163001_1] 23 (0, 0)) (by (with_reducible repeat (first | refine blk_drewN ?_ _ | refine blk_drew ?_ | refine blk_alloc ?_ _)); exact BK162.out) hb)
                            have n1_ := Aside0.mk (blk_below (g := gb164) (o := .cells #[.string x165000_1, .bool x165001_1] 28 (0, 0)) (by (with_reducible repeat (first | refine blk_drewN ?_ _ | refine blk_drew ?_ | refine blk_alloc ?_ _)); exact BK164.out) hb)
                            have n2_ := Aside0.mk (blk_below (g := gb178) (o := .cells #[.string (⟨#[]⟩ : ByteArray), .bool false] 23 (0, 0)) (by (with_reducible repeat (first | refine blk_drewN ?_ _ | refine blk_drew ?_ | refine blk_alloc ?_ _)); exact BK178.out) hb)
                            have n3_ := Aside0.mk (below_step (by repeat (first | (with_reducible first | exact HB.out | apply below_alloc | apply pw_below_drewN | apply below_drew1 | refine below_set ?_ GE162.out | refine below_set ?_ GE164.out | refine below_set ?_ GE178.out) | exact HB.out)) hb)
                            clear BK162
                            clear BK164
                            clear BK178
                            clear HB
                            have BK162 := n0_
                            have BK164 := n1_
                            have BK178 := n2_
                            have HB := n3_
                            clear n0_ n1_ n2_ n3_
                            (try clear hb)
                            (try clear hb2)
                            (try clear hk)
                            (try clear hi)
                            refine hK.out _ _ ⟨(blk_cell BK162.out 0).trans rfl, (blk_cell BK162.out 1).trans rfl, ((HB.out.cell (World.block_lt_of_cell? w _ hw174_0)).trans hw174_0), ((HB.out.cell (World.block_lt_of_cell? w _ hw174_1)).trans hw174_1)⟩ (fun hHeld => ?_)
                            clear hK K
                            refine norm_ (a' := ?_) ?_ ?_
                            rotate_left
                            · show Act.put _ (some 83) _ = _
                              simp only [Act.put, List.setIfInBounds_toArray, List.set_cons_zero, List.set_cons_succ, i64_w, i32_w]
                              rfl
                            refine pure_ (i := 8) (N := some 75) (v := ?_) (a' := ?_) #[true, true, true, true, true, true, true, true, true, false, false, true, false, false] rfl rfl (any_of HT_.out (by kernel_rfl)) (fun _ _ _ h => h) (Or.inl ⟨by first | rfl | (simp only [c45b0]; rfl), ?_⟩) ?_ ?_
                            rotate_left
                            · intro w'
                              go_simp
                              with_reducible rfl
                            rotate_left
                            · simp only [Act.put, List.setIfInBounds_toArray, List.set_cons_zero, List.set_cons_succ, i64_w, i32_w]
                              rfl
                            refine pure_ (i := 9) (N := some 84) (v := ?_) (a' := ?_) #[true, true, true, true, true, true, true, true, true, true, false, true, false, false] rfl rfl (any_of HT_.out (by kernel_rfl)) (fun _ _ _ h => h) (Or.inl ⟨by first | rfl | (simp only [c45b0]; rfl), ?_⟩) ?_ ?_
                            rotate_left
                            · intro w'
                              go_simp
                              with_reducible rfl
                            rotate_left
                            · simp only [Act.put, List.setIfInBounds_toArray, List.set_cons_zero, List.set_cons_succ, i64_w, i32_w]
                              rfl
                            refine pure_ (i := 10) (N := some 85) (v := ?_) (a' := ?_) #[true, true, true, true, true, true, true, true, true, true, true, true, false, false] rfl rfl (any_of HT_.out (by kernel_rfl)) (fun _ _ _ h => h) (Or.inl ⟨by first | rfl | (simp only [c45b0]; rfl), ?_⟩) ?_ ?_
                            rotate_left
                            · intro w'
                              go_simp
                              with_reducible rfl
                            rotate_left
                            · simp only [Act.put, List.setIfInBounds_toArray, List.set_cons_zero, List.set_cons_succ, i64_w, i32_w]
                              rfl
                            exact norm_ (by simp only [putAll, Act.put, List.setIfInBounds_toArray, List.set_cons_zero, List.set_cons_succ]) (hCont (gb178) _ ⟨hHeld, (by (with_reducible repeat (first | refine blk_drewN ?_ _ | refine blk_drew ?_ | refine blk_alloc ?_ _)); exact BK162.out), (by (with_reducible repeat (first | refine blk_drewN ?_ _ | refine blk_drew ?_ | refine blk_alloc ?_ _)); exact BK164.out), (by (with_reducible repeat (first | refine blk_drewN ?_ _ | refine blk_drew ?_ | refine blk_alloc ?_ _)); exact BK178.out), GW178.out, GE178.out, NB162_178.out, NB178_162.out, NB164_178.out, NB178_164.out, (by repeat (first | (with_reducible first | exact HB.out | apply below_alloc | apply pw_below_drewN | apply below_drew1 | refine below_set ?_ GE162.out | refine below_set ?_ GE164.out | refine below_set ?_ GE178.out) | exact HB.out))⟩)
                        rintro gb178 w49 ⟨hS_, h0_, h1_, h2_, h3_, h4_, h5_, h6_, h7_, h8_, h9_⟩
                        have n0_ : Aside0 (w49.heap[gb162]? = some (.cells #[.string x163000_1, .bool x163001_1] 23 (0, 0))) := ⟨h0_⟩
                        have n1_ : Aside0 (w49.heap[gb164]? = some (.cells #[.string x165000_1, .bool x165001_1] 28 (0, 0))) := ⟨h1_⟩
                        have n2_ : Aside0 (w49.heap[gb178]? = some (.cells #[.string (⟨#[]⟩ : ByteArray), .bool false] 23 (0, 0))) := ⟨h2_⟩
                        have n3_ : Aside0 (w.heap.size ≤ gb178) := ⟨h3_⟩
                        have n4_ : Aside0 (w.heap.size ≤ gb178) := ⟨h4_⟩
                        have n5_ : Aside0 (gb162 ≠ gb178) := ⟨h5_⟩
                        have n6_ : Aside0 (gb178 ≠ gb162) := ⟨h6_⟩
                        have n7_ : Aside0 (gb164 ≠ gb178) := ⟨h7_⟩
                        have n8_ : Aside0 (gb178 ≠ gb164) := ⟨h8_⟩
                        have n9_ : Aside0 (Below w.heap.size w w49) := ⟨h9_⟩
                        clear BK162
                        clear BK164
                        clear HB
                        clear h0_ h1_ h2_ h3_ h4_ h5_ h6_ h7_ h8_ h9_
                        have BK162 := n0_
                        have BK164 := n1_
                        have BK178 := n2_
                        have GW178 := n3_
                        have GE178 := n4_
                        have NB162_178 := n5_
                        have NB178_162 := n6_
                        have NB164_178 := n7_
                        have NB178_164 := n8_
                        have HB := n9_
                        clear n0_ n1_ n2_ n3_ n4_ n5_ n6_ n7_ n8_ n9_
                        have hHeld : w49.cell? ⟨gb162, 0, none⟩ = some (.string x163000_1) ∧ w49.cell? ⟨gb162, 1, none⟩ = some (.bool x163001_1) ∧ w49.cell? (ad165.add ((x15_1).toNat * 2)) = some (.bool (false)) ∧ w49.cell? ⟨(ad165.add ((x15_1).toNat * 2)).block, (ad165.add ((x15_1).toNat * 2)).off + 1, none⟩ = some (.int .i64 ((rd_T30 l1 x15_1).f1)) := hS_
                        refine norm_ (a' := ?_) ?_ ?_
                        rotate_left
                        · simp only [putAll, Act.put, List.setIfInBounds_toArray, List.set_cons_zero, List.set_cons_succ]
                          rfl
                        refine pure_ (i := 12) (N := some 20) (v := ?_) (a' := ?_) #[true, true, true, true, true, true, true, true, true, true, true, true, true, false] rfl rfl (any_of HT_.out (by kernel_rfl)) (fun _ _ _ h => h) (Or.inl ⟨by first | rfl | (simp only [c45b0]; rfl), ?_⟩) ?_ ?_
                        rotate_left
                        · intro w'
                          go_simp
                          with_reducible rfl
                        rotate_left
                        · simp only [Act.put, List.setIfInBounds_toArray, List.set_cons_zero, List.set_cons_succ, i64_w, i32_w]
                          rfl
                        refine one_ (i := 13) (N := none) #[true, true, true, true, true, true, true, true, true, true, true, true, true, true] rfl rfl (one_of HT_.out (by kernel_rfl)) (by decide) (fun K hK => ?_)
                        have hs50 : w49.cell? ⟨gb178, 0, none⟩ = some (.string (⟨#[]⟩ : ByteArray)) := (blk_cell BK178.out 0).trans rfl
                        have hfs50 := blk_frozen BK178.out 0
                        have hns50_0 := NB162_178.out
                        have hns50_1 := NB164_178.out
                        have hms50_0 := NB178_162.out
                        have hms50_1 := NB178_164.out
                        have hs51 : w49.cell? ⟨gb178, 1, none⟩ = some (.bool false) := (blk_cell BK178.out 1).trans rfl
                        have hfs51 := blk_frozen BK178.out 1
                        have hns51_0 := NB162_178.out
                        have hns51_1 := NB164_178.out
                        have hms51_0 := NB178_162.out
                        have hms51_1 := NB178_164.out
                        refine skip_ (w1 := ?_) (by rfl) rfl ?_ ?_
                        rotate_left
                        · go_simp
                          rfl
                        refine hK.out _ _ ⟨((cell_far (p := ⟨gb178, _, none⟩) NB162_178.out _).trans (((cell_far (p := ⟨gb178, _, none⟩) NB162_178.out _).trans (hHeld.1)))), ((cell_far (p := ⟨gb178, _, none⟩) NB162_178.out _).trans (((cell_far (p := ⟨gb178, _, none⟩) NB162_178.out _).trans (hHeld.2.1)))), ((cell_far (p := ⟨gb178, _, none⟩) (by first | exact Nat.ne_of_lt (Nat.lt_of_lt_of_le (by have := World.block_lt_of_cell? _ _ hw174_0; first | rwa [add_block] at this | exact this) GW178.out) | (rw [add_block]; exact Nat.ne_of_lt (Nat.lt_of_lt_of_le (by have := World.block_lt_of_cell? _ _ hw174_0; first | rwa [add_block] at this | exact this) GW178.out)) | (show (Addr.add _ _).block ≠ _; rw [add_block]; exact Nat.ne_of_lt (Nat.lt_of_lt_of_le (by have := World.block_lt_of_cell? _ _ hw174_0; first | rwa [add_block] at this | exact this) GW178.out)) | (dsimp only; exact Nat.ne_of_lt (Nat.lt_of_lt_of_le (by have := World.block_lt_of_cell? _ _ hw174_0; first | rwa [add_block] at this | exact this) GW178.out))) _).trans (((cell_far (p := ⟨gb178, _, none⟩) (by first | exact Nat.ne_of_lt (Nat.lt_of_lt_of_le (by have := World.block_lt_of_cell? _ _ hw174_0; first | rwa [add_block] at this | exact this) GW178.out) | (rw [add_block]; exact Nat.ne_of_lt (Nat.lt_of_lt_of_le (by have := World.block_lt_of_cell? _ _ hw174_0; first | rwa [add_block] at this | exact this) GW178.out)) | (show (Addr.add _ _).block ≠ _; rw [add_block]; exact Nat.ne_of_lt (Nat.lt_of_lt_of_le (by have := World.block_lt_of_cell? _ _ hw174_0; first | rwa [add_block] at this | exact this) GW178.out)) | (dsimp only; exact Nat.ne_of_lt (Nat.lt_of_lt_of_le (by have := World.block_lt_of_cell? _ _ hw174_0; first | rwa [add_block] at this | exact this) GW178.out))) _).trans (hHeld.2.2.1)))), ((cell_far (p := ⟨gb178, _, none⟩) (by first | exact Nat.ne_of_lt (Nat.lt_of_lt_of_le (by have := World.block_lt_of_cell? _ _ hw174_1; first | rwa [add_block] at this | exact this) GW178.out) | (rw [add_block]; exact Nat.ne_of_lt (Nat.lt_of_lt_of_le (by have := World.block_lt_of_cell? _ _ hw174_1; first | rwa [add_block] at this | exact this) GW178.out)) | (show (Addr.add _ _).block ≠ _; rw [add_block]; exact Nat.ne_of_lt (Nat.lt_of_lt_of_le (by have := World.block_lt_of_cell? _ _ hw174_1; first | rwa [add_block] at this | exact this) GW178.out)) | (dsimp only; exact Nat.ne_of_lt (Nat.lt_of_lt_of_le (by have := World.block_lt_of_cell? _ _ hw174_1; first | rwa [add_block] at this | exact this) GW178.out))) _).trans (((cell_far (p := ⟨gb178, _, none⟩) (by first | exact Nat.ne_of_lt (Nat.lt_of_lt_of_le (by have := World.block_lt_of_cell? _ _ hw174_1; first | rwa [add_block] at this | exact this) GW178.out) | (rw [add_block]; exact Nat.ne_of_lt (Nat.lt_of_lt_of_le (by have := World.block_lt_of_cell? _ _ hw174_1; first | rwa [add_block] at this | exact this) GW178.out)) | (show (Addr.add _ _).block ≠ _; rw [add_block]; exact Nat.ne_of_lt (Nat.lt_of_lt_of_le (by have := World.block_lt_of_cell? _ _ hw174_1; first | rwa [add_block] at this | exact this) GW178.out)) | (dsimp only; exact Nat.ne_of_lt (Nat.lt_of_lt_of_le (by have := World.block_lt_of_cell? _ _ hw174_1; first | rwa [add_block] at this | exact this) GW178.out))) _).trans (hHeld.2.2.2))))⟩ (fun hHeld => ?_)
                        clear hK K
                        refine done_ (done_of HT_.out (by kernel_rfl)) ?_
                        try go_wp2
                        have n0_ : Aside0 (((w49.setCell ⟨gb178, 0, none⟩ (.string t176)).setCell ⟨gb178, 1, none⟩ (.bool t177)).heap[gb162]? = some (.cells #[.string x163000_1, .bool x163001_1] 23 (0, 0))) := ⟨by (with_reducible repeat (first | refine blk_drewN ?_ _ | refine blk_drew ?_ | refine blk_alloc ?_ _)); refine blk_far ?_ NB162_178.out _; (with_reducible repeat (first | refine blk_drewN ?_ _ | refine blk_drew ?_ | refine blk_alloc ?_ _)); refine blk_far ?_ NB162_178.out _; (with_reducible repeat (first | refine blk_drewN ?_ _ | refine blk_drew ?_ | refine blk_alloc ?_ _)); exact BK162.out⟩
                        have n1_ : Aside0 (((w49.setCell ⟨gb178, 0, none⟩ (.string t176)).setCell ⟨gb178, 1, none⟩ (.bool t177)).heap[gb164]? = some (.cells #[.string x165000_1, .bool x165001_1] 28 (0, 0))) := ⟨by (with_reducible repeat (first | refine blk_drewN ?_ _ | refine blk_drew ?_ | refine blk_alloc ?_ _)); refine blk_far ?_ NB164_178.out _; (with_reducible repeat (first | refine blk_drewN ?_ _ | refine blk_drew ?_ | refine blk_alloc ?_ _)); refine blk_far ?_ NB164_178.out _; (with_reducible repeat (first | refine blk_drewN ?_ _ | refine blk_drew ?_ | refine blk_alloc ?_ _)); exact BK164.out⟩
                        have n2_ : Aside0 (((w49.setCell ⟨gb178, 0, none⟩ (.string t176)).setCell ⟨gb178, 1, none⟩ (.bool t177)).heap[gb178]? = some (.cells #[.string t176, .bool t177] 23 (0, 0))) := ⟨by (with_reducible repeat (first | refine blk_drewN ?_ _ | refine blk_drew ?_ | refine blk_alloc ?_ _)); refine blk_put (cs := #[.string t176, .bool false]) ?_ 1 _ rfl; (with_reducible repeat (first | refine blk_drewN ?_ _ | refine blk_drew ?_ | refine blk_alloc ?_ _)); refine blk_put (cs := #[.string (⟨#[]⟩ : ByteArray), .bool false]) ?_ 0 _ rfl; (with_reducible repeat (first | refine blk_drewN ?_ _ | refine blk_drew ?_ | refine blk_alloc ?_ _)); exact BK178.out⟩
                        have n3_ : Aside0 (Below w.heap.size w ((w49.setCell ⟨gb178, 0, none⟩ (.string t176)).setCell ⟨gb178, 1, none⟩ (.bool t177))) := ⟨by repeat (first | (with_reducible first | exact HB.out | apply below_alloc | apply pw_below_drewN | apply below_drew1 | refine below_set ?_ GE162.out | refine below_set ?_ GE164.out | refine below_set ?_ GE178.out) | exact HB.out)⟩
                        (try clear BK162)
                        (try clear BK164)
                        (try clear BK178)
                        (try clear HB)
                        generalize ((w49.setCell ⟨gb178, 0, none⟩ (.string t176)).setCell ⟨gb178, 1, none⟩ (.bool t177)) = w52 at n0_ n1_ n2_ n3_ ⊢
                        have BK162 := n0_
                        have BK164 := n1_
                        have BK178 := n2_
                        have HB := n3_
                        clear n0_ n1_ n2_ n3_
                        have n0_ := Aside0.mk (blk_drew BK162.out)
                        have n1_ := Aside0.mk (blk_drew BK164.out)
                        have n2_ := Aside0.mk (blk_drew BK178.out)
                        have n3_ := Aside0.mk (below_drew1 HB.out)
                        clear BK162
                        clear BK164
                        clear BK178
                        clear HB
                        have BK162 := n0_
                        have BK164 := n1_
                        have BK178 := n2_
                        have HB := n3_
                        clear n0_ n1_ n2_ n3_
                        have p179 : 0 ≤ (x15_1 : Int) := of_decide_eq_true (by first | (with_reducible assumption) | assumption)
                        have q179 : x15_1 < (l1.length : Int) := of_decide_eq_true (by first | (with_reducible assumption) | assumption)
                        obtain ⟨ad179, e179, hx179_0, hx179_1⟩ := at_T30 HR1.out x15_1 p179 q179
                        have hw179_1 := hx179_1
                        have hw179_0 := hx179_0
                        (try rw [← Nbq21.out] at hx179_0)
                        (try rw [← Nbq21.out] at hw179_0)
                        obtain rfl : ad165 = ad179 := (by injection e179)
                        replace hx179_0 := (HB.out.cell (World.block_lt_of_cell? w _ hx179_0)).trans hx179_0
                        replace hx179_1 := (HB.out.cell (World.block_lt_of_cell? w _ hx179_1)).trans hx179_1
                        replace p179 := eq_true p179
                        replace q179 := eq_true q179
                        refine start_ (n := 14) (S := fun w' => w'.cell? ⟨gb164, 0, none⟩ = some (.string x165000_1) ∧ w'.cell? ⟨gb164, 1, none⟩ = some (.bool x165001_1) ∧ w'.cell? (ad165.add ((x15_1).toNat * 2)) = some (.bool (false)) ∧ w'.cell? ⟨(ad165.add ((x15_1).toNat * 2)).block, (ad165.add ((x15_1).toNat * 2)).off + 1, none⟩ = some (.int .i64 ((rd_T30 l1 x15_1).f1))) (ds := []) #[false, false, false, false, false, false, false, false, false, false, false, false, false, false] (by kernel_rfl) rfl rfl ⟨(blk_cell BK164.out 0).trans rfl, (blk_cell BK164.out 1).trans rfl, ((HB.out.cell (World.block_lt_of_cell? w _ hw179_0)).trans hw179_0), ((HB.out.cell (World.block_lt_of_cell? w _ hw179_1)).trans hw179_1)⟩ (fun hHeld => ?_); refine with_tabW scuttlebuttlaw02_PackPlays.tab16 scuttlebuttlaw02_PackPlays.bits16 (fun HT_ HW_ => ?_)
                        generalize w52.drew = w53 at BK162 BK164 BK178 HB hx179_0 hx179_1 hHeld ⊢
                        refine pure_ (i := 1) (N := some 88) (v := ?_) (a' := ?_) #[false, true, false, false, false, false, false, false, false, false, false, false, false, false] rfl rfl (any_of HT_.out (by kernel_rfl)) (fun _ _ _ h => h) (Or.inl ⟨by first | rfl | (simp only [c45b0]; rfl), ?_⟩) ?_ ?_
                        rotate_left
                        · intro w'
                          go_simp
                          with_reducible rfl
                        rotate_left
                        · simp only [Act.put, List.setIfInBounds_toArray, List.set_cons_zero, List.set_cons_succ, i64_w, i32_w]
                          rfl
                        refine pure_ (i := 2) (N := some 89) (v := ?_) (a' := ?_) #[false, true, true, false, false, false, false, false, false, false, false, false, false, false] rfl rfl (any_of HT_.out (by kernel_rfl)) (fun _ _ _ h => h) (Or.inl ⟨by first | rfl | (simp only [c45b0]; rfl), ?_⟩) ?_ ?_
                        rotate_left
                        · intro w'
                          go_simp
                          with_reducible rfl
                        rotate_left
                        · simp only [Act.put, List.setIfInBounds_toArray, List.set_cons_zero, List.set_cons_succ, i64_w, i32_w]
                          rfl
                        refine pure_ (i := 3) (N := some 90) (v := ?_) (a' := ?_) #[false, true, true, true, false, false, false, false, false, false, false, false, false, false] rfl rfl (any_of HT_.out (by kernel_rfl)) (fun _ _ _ h => h) (Or.inl ⟨by first | rfl | (simp only [c45b0]; rfl), ?_⟩) ?_ ?_
                        rotate_left
                        · intro w'
                          go_simp
                          with_reducible rfl
                        rotate_left
                        · simp only [Act.put, List.setIfInBounds_toArray, List.set_cons_zero, List.set_cons_succ, i64_w, i32_w]
                          rfl
                        refine pure_ (i := 4) (N := some 91) (v := ?_) (a' := ?_) #[false, true, true, true, true, false, false, false, false, false, false, false, false, false] rfl rfl (any_of HT_.out (by kernel_rfl)) (fun _ _ _ h => h) (Or.inl ⟨by first | rfl | (simp only [c45b0]; rfl), ?_⟩) ?_ ?_
                        rotate_left
                        · intro w'
                          go_simp
                          with_reducible rfl
                        rotate_left
                        · simp only [Act.put, List.setIfInBounds_toArray, List.set_cons_zero, List.set_cons_succ, i64_w, i32_w]
                          rfl
                        refine take_ (i := 0) (N := some 87) (v := ?_) (a' := ?_) #[true, true, true, true, true, false, false, false, false, false, false, false, false, false] rfl rfl (take_ofW HT_.out HW_.out (by kernel_rfl)) (fun _ _ _ h => h) (Or.inl ⟨by first | rfl | (simp only [c45b0]; rfl), ?_⟩) hHeld ?_ ?_
                        rotate_left
                        · rintro w' ⟨s0, s1, s2, s3⟩
                          go_simp
                          with_reducible rfl
                        rotate_left
                        · simp only [Act.put, List.setIfInBounds_toArray, List.set_cons_zero, List.set_cons_succ, i64_w, i32_w]
                          rfl
                        refine take_ (i := 5) (N := some 92) (v := ?_) (a' := ?_) #[true, true, true, true, true, true, false, false, false, false, false, false, false, false] rfl rfl (take_ofW HT_.out HW_.out (by kernel_rfl)) (fun _ _ _ h => h) (Or.inl ⟨by first | rfl | (simp only [c45b0]; rfl), ?_⟩) hHeld ?_ ?_
                        rotate_left
                        · rintro w' ⟨s0, s1, s2, s3⟩
                          go_simp
                          with_reducible rfl
                        rotate_left
                        · simp only [Act.put, List.setIfInBounds_toArray, List.set_cons_zero, List.set_cons_succ, i64_w, i32_w]
                          rfl
                        refine pure_ (i := 6) (N := some 93) (v := ?_) (a' := ?_) #[true, true, true, true, true, true, true, false, false, false, false, false, false, false] rfl rfl (any_of HT_.out (by kernel_rfl)) (fun _ _ _ h => h) (Or.inl ⟨by first | rfl | (simp only [c45b0]; rfl), ?_⟩) ?_ ?_
                        rotate_left
                        · intro w'
                          go_simp
                          with_reducible rfl
                        rotate_left
                        · simp only [Act.put, List.setIfInBounds_toArray, List.set_cons_zero, List.set_cons_succ, i64_w, i32_w]
                          rfl
                        refine join_ (σ := Nat) 2 #[true, true, true, true, true, true, true, true, true, true, true, true, false, false] (fun s_ => [(94, .tuple #[.int .u64 t180, .agg #[.string t181, .bool t182]]), (23, .pointer (some ⟨s_, 0, none⟩)), (86, .tuple #[.int .u64 t180, .agg #[.string t181, .bool t182]]), (95, .int .u64 t180), (96, .agg #[.string t181, .bool t182])]) (fun s_ w' => (w'.cell? ⟨gb164, 0, none⟩ = some (.string x165000_1) ∧ w'.cell? ⟨gb164, 1, none⟩ = some (.bool x165001_1) ∧ w'.cell? (ad165.add ((x15_1).toNat * 2)) = some (.bool (false)) ∧ w'.cell? ⟨(ad165.add ((x15_1).toNat * 2)).block, (ad165.add ((x15_1).toNat * 2)).off + 1, none⟩ = some (.int .i64 ((rd_T30 l1 x15_1).f1))) ∧ (w'.heap[gb162]? = some (.cells #[.string x163000_1, .bool x163001_1] 23 (0, 0))) ∧ (w'.heap[gb164]? = some (.cells #[.string x165000_1, .bool x165001_1] 28 (0, 0))) ∧ (w'.heap[gb178]? = some (.cells #[.string t176, .bool t177] 23 (0, 0))) ∧ (w'.heap[s_]? = some (.cells #[.string (⟨#[]⟩ : ByteArray), .bool false] 28 (0, 0))) ∧ (w.heap.size ≤ s_) ∧ (w.heap.size ≤ s_) ∧ (gb162 ≠ s_) ∧ (s_ ≠ gb162) ∧ (gb164 ≠ s_) ∧ (s_ ≠ gb164) ∧ (gb178 ≠ s_) ∧ (s_ ≠ gb178) ∧ (Below w.heap.size w w')) ?_ ?_
                        rotate_left
                        · intro hCont
                          refine two_ (i := 7) (j := 11) (Ni := some 94) (Nj := some 23) #[true, true, true, true, true, true, true, true, false, false, false, false, false, false] #[true, true, true, true, true, true, true, false, false, false, false, true, false, false] rfl rfl rfl rfl (two_of HT_.out (by kernel_rfl)) (by decide) (by decide) (fun K hK => ?_) (fun K hK => ?_)
                          · skip
                            refine goes_ Try.func12 (by kernel_rfl) rfl #[.agg #[.string x165000_1, .bool x165001_1], .int .i64 (Int.tmod ((rd_T30 l1 x15_1).f1) 11)] (by rfl) rfl rfl (by (try simp only [List.map_toArray, List.map_cons, List.map_nil]); first | done | rfl | (simp only [List.length_drop, List.length_take]; rfl)) ?_
                            with_reducible refine (scuttlebuttref02_Reader_Number.calls kj14 x165000_1 x165001_1 (Int.tmod ((rd_T30 l1 x15_1).f1) 11) t180 t181 t182 _ A44.out).mono ?_
                            rintro e w54 ⟨rfl, hb⟩
                            refine ⟨_, rfl, ?_⟩
                            have n0_ := Aside0.mk (blk_below (g := gb162) (o := .cells #[.string x163000_1, .bool x163001_1] 23 (0, 0)) (by (with_reducible repeat (first | refine blk_drewN ?_ _ | refine blk_drew ?_ | refine blk_alloc ?_ _)); exact BK162.out) hb)
                            have n1_ := Aside0.mk (blk_below (g := gb164) (o := .cells #[.string x165000_1, .bool x165001_1] 28 (0, 0)) (by (with_reducible repeat (first | refine blk_drewN ?_ _ | refine blk_drew ?_ | refine blk_alloc ?_ _)); exact BK164.out) hb)
                            have n2_ := Aside0.mk (blk_below (g := gb178) (o := .cells #[.string t176, .bool t177] 23 (0, 0)) (by (with_reducible repeat (first | refine blk_drewN ?_ _ | refine blk_drew ?_ | refine blk_alloc ?_ _)); exact BK178.out) hb)
                            have n3_ := Aside0.mk (below_step (by repeat (first | (with_reducible first | exact HB.out | apply below_alloc | apply pw_below_drewN | apply below_drew1 | refine below_set ?_ GE162.out | refine below_set ?_ GE164.out | refine below_set ?_ GE178.out) | exact HB.out)) hb)
                            clear BK162
                            clear BK164
                            clear BK178
                            clear HB
                            have BK162 := n0_
                            have BK164 := n1_
                            have BK178 := n2_
                            have HB := n3_
                            clear n0_ n1_ n2_ n3_
                            (try clear hb)
                            (try clear hb2)
                            (try clear hk)
                            (try clear hi)
                            refine hK.out _ _ ⟨(blk_cell BK164.out 0).trans rfl, (blk_cell BK164.out 1).trans rfl, ((HB.out.cell (World.block_lt_of_cell? w _ hw179_0)).trans hw179_0), ((HB.out.cell (World.block_lt_of_cell? w _ hw179_1)).trans hw179_1)⟩ (fun hHeld => ?_)
                            clear hK K
                            refine norm_ (a' := ?_) ?_ ?_
                            rotate_left
                            · show Act.put _ (some 94) _ = _
                              simp only [Act.put, List.setIfInBounds_toArray, List.set_cons_zero, List.set_cons_succ, i64_w, i32_w]
                              rfl
                            refine pure_ (i := 8) (N := some 86) (v := ?_) (a' := ?_) #[true, true, true, true, true, true, true, true, true, false, false, false, false, false] rfl rfl (any_of HT_.out (by kernel_rfl)) (fun _ _ _ h => h) (Or.inl ⟨by first | rfl | (simp only [c45b0]; rfl), ?_⟩) ?_ ?_
                            rotate_left
                            · intro w'
                              go_simp
                              with_reducible rfl
                            rotate_left
                            · simp only [Act.put, List.setIfInBounds_toArray, List.set_cons_zero, List.set_cons_succ, i64_w, i32_w]
                              rfl
                            refine pure_ (i := 9) (N := some 95) (v := ?_) (a' := ?_) #[true, true, true, true, true, true, true, true, true, true, false, false, false, false] rfl rfl (any_of HT_.out (by kernel_rfl)) (fun _ _ _ h => h) (Or.inl ⟨by first | rfl | (simp only [c45b0]; rfl), ?_⟩) ?_ ?_
                            rotate_left
                            · intro w'
                              go_simp
                              with_reducible rfl
                            rotate_left
                            · simp only [Act.put, List.setIfInBounds_toArray, List.set_cons_zero, List.set_cons_succ, i64_w, i32_w]
                              rfl
                            refine pure_ (i := 10) (N := some 96) (v := ?_) (a' := ?_) #[true, true, true, true, true, true, true, true, true, true, true, false, false, false] rfl rfl (any_of HT_.out (by kernel_rfl)) (fun _ _ _ h => h) (Or.inl ⟨by first | rfl | (simp only [c45b0]; rfl), ?_⟩) ?_ ?_
                            rotate_left
                            · intro w'
                              go_simp
                              with_reducible rfl
                            rotate_left
                            · simp only [Act.put, List.setIfInBounds_toArray, List.set_cons_zero, List.set_cons_succ, i64_w, i32_w]
                              rfl
                            refine one_ (i := 11) (N := some 23) #[true, true, true, true, true, true, true, true, true, true, true, true, false, false] rfl rfl (one_of HT_.out (by kernel_rfl)) (by decide) (fun K hK => ?_)
                            refine box_step ?hg (N := 23) ?hd (cs := #[.string (⟨#[]⟩ : ByteArray), .bool false]) (t := 28) ?hr ?_; (case hd => rfl); (case hg => rfl); (case hr => first | (go_simp; done) | (go_simp; rfl))
                            intro gb183 hg w55 hbox hb
                            have n0_ := Aside0.mk (blk_below (g := gb162) (o := .cells #[.string x163000_1, .bool x163001_1] 23 (0, 0)) (by (with_reducible repeat (first | refine blk_drewN ?_ _ | refine blk_drew ?_ | refine blk_alloc ?_ _)); exact BK162.out) hb)
                            have n1_ := Aside0.mk (blk_below (g := gb164) (o := .cells #[.string x165000_1, .bool x165001_1] 28 (0, 0)) (by (with_reducible repeat (first | refine blk_drewN ?_ _ | refine blk_drew ?_ | refine blk_alloc ?_ _)); exact BK164.out) hb)
                            have n2_ := Aside0.mk (blk_below (g := gb178) (o := .cells #[.string t176, .bool t177] 23 (0, 0)) (by (with_reducible repeat (first | refine blk_drewN ?_ _ | refine blk_drew ?_ | refine blk_alloc ?_ _)); exact BK178.out) hb)
                            have n3_ := Aside0.mk (below_step (by repeat (first | (with_reducible first | exact HB.out | apply below_alloc | apply pw_below_drewN | apply below_drew1 | refine below_set ?_ GE162.out | refine below_set ?_ GE164.out | refine below_set ?_ GE178.out) | exact HB.out)) hb)
                            have n4_ := Aside0.mk (hbox)
                            have n5_ := Aside0.mk ((by rw [hg]; exact (below_size (by repeat (first | (with_reducible first | exact HB.out | apply below_alloc | apply pw_below_drewN | apply below_drew1 | refine below_set ?_ GE162.out | refine below_set ?_ GE164.out | refine below_set ?_ GE178.out) | exact HB.out))) : w.heap.size ≤ gb183))
                            have n6_ := Aside0.mk ((by rw [hg]; exact (below_size (by repeat (first | (with_reducible first | exact HB.out | apply below_alloc | apply pw_below_drewN | apply below_drew1 | refine below_set ?_ GE162.out | refine below_set ?_ GE164.out | refine below_set ?_ GE178.out) | exact HB.out))) : w.heap.size ≤ gb183))
                            have n7_ := Aside0.mk ((by rw [hg]; exact Nat.ne_of_lt (blk_lt (g := gb162) (o := .cells #[.string x163000_1, .bool x163001_1] 23 (0, 0)) (by (with_reducible repeat (first | refine blk_drewN ?_ _ | refine blk_drew ?_ | refine blk_alloc ?_ _)); exact BK162.out)) : gb162 ≠ gb183))
                            have n8_ := Aside0.mk ((by rw [hg]; exact Nat.ne_of_gt (blk_lt (g := gb162) (o := .cells #[.string x163000_1, .bool x163001_1] 23 (0, 0)) (by (with_reducible repeat (first | refine blk_drewN ?_ _ | refine blk_drew ?_ | refine blk_alloc ?_ _)); exact BK162.out)) : gb183 ≠ gb162))
                            have n9_ := Aside0.mk ((by rw [hg]; exact Nat.ne_of_lt (blk_lt (g := gb164) (o := .cells #[.string x165000_1, .bool x165001_1] 28 (0, 0)) (by (with_reducible repeat (first | refine blk_drewN ?_ _ | refine blk_drew ?_ | refine blk_alloc ?_ _)); exact BK164.out)) : gb164 ≠ gb183))
                            have n10_ := Aside0.mk ((by rw [hg]; exact Nat.ne_of_gt (blk_lt (g := gb164) (o := .cells #[.string x165000_1, .bool x165001_1] 28 (0, 0)) (by (with_reducible repeat (first | refine blk_drewN ?_ _ | refine blk_drew ?_ | refine blk_alloc ?_ _)); exact BK164.out)) : gb183 ≠ gb164))
                            have n11_ := Aside0.mk ((by rw [hg]; exact Nat.ne_of_lt (blk_lt (g := gb178) (o := .cells #[.string t176, .bool t177] 23 (0, 0)) (by (with_reducible repeat (first | refine blk_drewN ?_ _ | refine blk_drew ?_ | refine blk_alloc ?_ _)); exact BK178.out)) : gb178 ≠ gb183))
                            have n12_ := Aside0.mk ((by rw [hg]; exact Nat.ne_of_gt (blk_lt (g := gb178) (o := .cells #[.string t176, .bool t177] 23 (0, 0)) (by (with_reducible repeat (first | refine blk_drewN ?_ _ | refine blk_drew ?_ | refine blk_alloc ?_ _)); exact BK178.out)) : gb183 ≠ gb178))
                            clear BK162
                            clear BK164
                            clear BK178
                            clear HB
                            have BK162 := n0_
                            have BK164 := n1_
                            have BK178 := n2_
                            have HB := n3_
                            have BK183 := n4_
                            have GW183 := n5_
                            have GE183 := n6_
                            have NB162_183 := n7_
                            have NB183_162 := n8_
                            have NB164_183 := n9_
                            have NB183_164 := n10_
                            have NB178_183 := n11_
                            have NB183_178 := n12_
                            clear n0_ n1_ n2_ n3_ n4_ n5_ n6_ n7_ n8_ n9_ n10_ n11_ n12_
                            clear hb hbox hg
                            refine hK.out _ _ ⟨(blk_cell BK164.out 0).trans rfl, (blk_cell BK164.out 1).trans rfl, ((HB.out.cell (World.block_lt_of_cell? w _ hw179_0)).trans hw179_0), ((HB.out.cell (World.block_lt_of_cell? w _ hw179_1)).trans hw179_1)⟩ (fun hHeld => ?_)
                            clear hK K
                            refine norm_ (a' := ?_) ?_ ?_
                            rotate_left
                            · show Act.put _ (some 23) _ = _
                              simp only [Act.put, List.setIfInBounds_toArray, List.set_cons_zero, List.set_cons_succ, i64_w, i32_w]
                              rfl
                            exact norm_ (by simp only [putAll, Act.put, List.setIfInBounds_toArray, List.set_cons_zero, List.set_cons_succ]) (hCont (gb183) _ ⟨hHeld, (by (with_reducible repeat (first | refine blk_drewN ?_ _ | refine blk_drew ?_ | refine blk_alloc ?_ _)); exact BK162.out), (by (with_reducible repeat (first | refine blk_drewN ?_ _ | refine blk_drew ?_ | refine blk_alloc ?_ _)); exact BK164.out), (by (with_reducible repeat (first | refine blk_drewN ?_ _ | refine blk_drew ?_ | refine blk_alloc ?_ _)); exact BK178.out), (by (with_reducible repeat (first | refine blk_drewN ?_ _ | refine blk_drew ?_ | refine blk_alloc ?_ _)); exact BK183.out), GW183.out, GE183.out, NB162_183.out, NB183_162.out, NB164_183.out, NB183_164.out, NB178_183.out, NB183_178.out, (by repeat (first | (with_reducible first | exact HB.out | apply below_alloc | apply pw_below_drewN | apply below_drew1 | refine below_set ?_ GE162.out | refine below_set ?_ GE164.out | refine below_set ?_ GE178.out | refine below_set ?_ GE183.out) | exact HB.out))⟩)
                          · skip
                            refine box_step ?hg (N := 23) ?hd (cs := #[.string (⟨#[]⟩ : ByteArray), .bool false]) (t := 28) ?hr ?_; (case hd => rfl); (case hg => rfl); (case hr => first | (go_simp; done) | (go_simp; rfl))
                            intro gb183 hg w54 hbox hb
                            have n0_ := Aside0.mk (blk_below (g := gb162) (o := .cells #[.string x163000_1, .bool x163001_1] 23 (0, 0)) (by (with_reducible repeat (first | refine blk_drewN ?_ _ | refine blk_drew ?_ | refine blk_alloc ?_ _)); exact BK162.out) hb)
                            have n1_ := Aside0.mk (blk_below (g := gb164) (o := .cells #[.string x165000_1, .bool x165001_1] 28 (0, 0)) (by (with_reducible repeat (first | refine blk_drewN ?_ _ | refine blk_drew ?_ | refine blk_alloc ?_ _)); exact BK164.out) hb)
                            have n2_ := Aside0.mk (blk_below (g := gb178) (o := .cells #[.string t176, .bool t177] 23 (0, 0)) (by (with_reducible repeat (first | refine blk_drewN ?_ _ | refine blk_drew ?_ | refine blk_alloc ?_ _)); exact BK178.out) hb)
                            have n3_ := Aside0.mk (below_step (by repeat (first | (with_reducible first | exact HB.out | apply below_alloc | apply pw_below_drewN | apply below_drew1 | refine below_set ?_ GE162.out | refine below_set ?_ GE164.out | refine below_set ?_ GE178.out) | exact HB.out)) hb)
                            have n4_ := Aside0.mk (hbox)
                            have n5_ := Aside0.mk ((by rw [hg]; exact (below_size (by repeat (first | (with_reducible first | exact HB.out | apply below_alloc | apply pw_below_drewN | apply below_drew1 | refine below_set ?_ GE162.out | refine below_set ?_ GE164.out | refine below_set ?_ GE178.out) | exact HB.out))) : w.heap.size ≤ gb183))
                            have n6_ := Aside0.mk ((by rw [hg]; exact (below_size (by repeat (first | (with_reducible first | exact HB.out | apply below_alloc | apply pw_below_drewN | apply below_drew1 | refine below_set ?_ GE162.out | refine below_set ?_ GE164.out | refine below_set ?_ GE178.out) | exact HB.out))) : w.heap.size ≤ gb183))
                            have n7_ := Aside0.mk ((by rw [hg]; exact Nat.ne_of_lt (blk_lt (g := gb162) (o := .cells #[.string x163000_1, .bool x163001_1] 23 (0, 0)) (by (with_reducible repeat (first | refine blk_drewN ?_ _ | refine blk_drew ?_ | refine blk_alloc ?_ _)); exact BK162.out)) : gb162 ≠ gb183))
                            have n8_ := Aside0.mk ((by rw [hg]; exact Nat.ne_of_gt (blk_lt (g := gb162) (o := .cells #[.string x163000_1, .bool x163001_1] 23 (0, 0)) (by (with_reducible repeat (first | refine blk_drewN ?_ _ | refine blk_drew ?_ | refine blk_alloc ?_ _)); exact BK162.out)) : gb183 ≠ gb162))
                            have n9_ := Aside0.mk ((by rw [hg]; exact Nat.ne_of_lt (blk_lt (g := gb164) (o := .cells #[.string x165000_1, .bool x165001_1] 28 (0, 0)) (by (with_reducible repeat (first | refine blk_drewN ?_ _ | refine blk_drew ?_ | refine blk_alloc ?_ _)); exact BK164.out)) : gb164 ≠ gb183))
                            have n10_ := Aside0.mk ((by rw [hg]; exact Nat.ne_of_gt (blk_lt (g := gb164) (o := .cells #[.string x165000_1, .bool x165001_1] 28 (0, 0)) (by (with_reducible repeat (first | refine blk_drewN ?_ _ | refine blk_drew ?_ | refine blk_alloc ?_ _)); exact BK164.out)) : gb183 ≠ gb164))
                            have n11_ := Aside0.mk ((by rw [hg]; exact Nat.ne_of_lt (blk_lt (g := gb178) (o := .cells #[.string t176, .bool t177] 23 (0, 0)) (by (with_reducible repeat (first | refine blk_drewN ?_ _ | refine blk_drew ?_ | refine blk_alloc ?_ _)); exact BK178.out)) : gb178 ≠ gb183))
                            have n12_ := Aside0.mk ((by rw [hg]; exact Nat.ne_of_gt (blk_lt (g := gb178) (o := .cells #[.string t176, .bool t177] 23 (0, 0)) (by (with_reducible repeat (first | refine blk_drewN ?_ _ | refine blk_drew ?_ | refine blk_alloc ?_ _)); exact BK178.out)) : gb183 ≠ gb178))
                            clear BK162
                            clear BK164
                            clear BK178
                            clear HB
                            have BK162 := n0_
                            have BK164 := n1_
                            have BK178 := n2_
                            have HB := n3_
                            have BK183 := n4_
                            have GW183 := n5_
                            have GE183 := n6_
                            have NB162_183 := n7_
                            have NB183_162 := n8_
                            have NB164_183 := n9_
                            have NB183_164 := n10_
                            have NB178_183 := n11_
                            have NB183_178 := n12_
                            clear n0_ n1_ n2_ n3_ n4_ n5_ n6_ n7_ n8_ n9_ n10_ n11_ n12_
                            clear hb hbox hg
                            refine hK.out _ _ ⟨(blk_cell BK164.out 0).trans rfl, (blk_cell BK164.out 1).trans rfl, ((HB.out.cell (World.block_lt_of_cell? w _ hw179_0)).trans hw179_0), ((HB.out.cell (World.block_lt_of_cell? w _ hw179_1)).trans hw179_1)⟩ (fun hHeld => ?_)
                            clear hK K
                            refine norm_ (a' := ?_) ?_ ?_
                            rotate_left
                            · show Act.put _ (some 23) _ = _
                              simp only [Act.put, List.setIfInBounds_toArray, List.set_cons_zero, List.set_cons_succ, i64_w, i32_w]
                              rfl
                            refine one_ (i := 7) (N := some 94) #[true, true, true, true, true, true, true, true, false, false, false, true, false, false] rfl rfl (one_of HT_.out (by kernel_rfl)) (by decide) (fun K hK => ?_)
                            refine goes_ Try.func12 (by kernel_rfl) rfl #[.agg #[.string x165000_1, .bool x165001_1], .int .i64 (Int.tmod ((rd_T30 l1 x15_1).f1) 11)] (by rfl) rfl rfl (by (try simp only [List.map_toArray, List.map_cons, List.map_nil]); first | done | rfl | (simp only [List.length_drop, List.length_take]; rfl)) ?_
                            with_reducible refine (scuttlebuttref02_Reader_Number.calls kj14 x165000_1 x165001_1 (Int.tmod ((rd_T30 l1 x15_1).f1) 11) t180 t181 t182 _ A44.out).mono ?_
                            rintro e w55 ⟨rfl, hb⟩
                            refine ⟨_, rfl, ?_⟩
                            have n0_ := Aside0.mk (blk_below (g := gb162) (o := .cells #[.string x163000_1, .bool x163001_1] 23 (0, 0)) (by (with_reducible repeat (first | refine blk_drewN ?_ _ | refine blk_drew ?_ | refine blk_alloc ?_ _)); exact BK162.out) hb)
                            have n1_ := Aside0.mk (blk_below (g := gb164) (o := .cells #[.string x165000_1, .bool x165001_1] 28 (0, 0)) (by (with_reducible repeat (first | refine blk_drewN ?_ _ | refine blk_drew ?_ | refine blk_alloc ?_ _)); exact BK164.out) hb)
                            have n2_ := Aside0.mk (blk_below (g := gb178) (o := .cells #[.string t176, .bool t177] 23 (0, 0)) (by (with_reducible repeat (first | refine blk_drewN ?_ _ | refine blk_drew ?_ | refine blk_alloc ?_ _)); exact BK178.out) hb)
                            have n3_ := Aside0.mk (blk_below (g := gb183) (o := .cells #[.string (⟨#[]⟩ : ByteArray), .bool false] 28 (0, 0)) (by (with_reducible repeat (first | refine blk_drewN ?_ _ | refine blk_drew ?_ | refine blk_alloc ?_ _)); exact BK183.out) hb)
                            have n4_ := Aside0.mk (below_step (by repeat (first | (with_reducible first | exact HB.out | apply below_alloc | apply pw_below_drewN | apply below_drew1 | refine below_set ?_ GE162.out | refine below_set ?_ GE164.out | refine below_set ?_ GE178.out | refine below_set ?_ GE183.out) | exact HB.out)) hb)
                            clear BK162
                            clear BK164
                            clear BK178
                            clear BK183
                            clear HB
                            have BK162 := n0_
                            have BK164 := n1_
                            have BK178 := n2_
                            have BK183 := n3_
                            have HB := n4_
                            clear n0_ n1_ n2_ n3_ n4_
                            (try clear hb)
                            (try clear hb2)
                            (try clear hk)
                            (try clear hi)
                            refine hK.out _ _ ⟨(blk_cell BK164.out 0).trans rfl, (blk_cell BK164.out 1).trans rfl, ((HB.out.cell (World.block_lt_of_cell? w _ hw179_0)).trans hw179_0), ((HB.out.cell (World.block_lt_of_cell? w _ hw179_1)).trans hw179_1)⟩ (fun hHeld => ?_)
                            clear hK K
                            refine norm_ (a' := ?_) ?_ ?_
                            rotate_left
                            · show Act.put _ (some 94) _ = _
                              simp only [Act.put, List.setIfInBounds_toArray, List.set_cons_zero, List.set_cons_succ, i64_w, i32_w]
                              rfl
                            refine pure_ (i := 8) (N := some 86) (v := ?_) (a' := ?_) #[true, true, true, true, true, true, true, true, true, false, false, true, false, false] rfl rfl (any_of HT_.out (by kernel_rfl)) (fun _ _ _ h => h) (Or.inl ⟨by first | rfl | (simp only [c45b0]; rfl), ?_⟩) ?_ ?_
                            rotate_left
                            · intro w'
                              go_simp
                              with_reducible rfl
                            rotate_left
                            · simp only [Act.put, List.setIfInBounds_toArray, List.set_cons_zero, List.set_cons_succ, i64_w, i32_w]
                              rfl
                            refine pure_ (i := 9) (N := some 95) (v := ?_) (a' := ?_) #[true, true, true, true, true, true, true, true, true, true, false, true, false, false] rfl rfl (any_of HT_.out (by kernel_rfl)) (fun _ _ _ h => h) (Or.inl ⟨by first | rfl | (simp only [c45b0]; rfl), ?_⟩) ?_ ?_
                            rotate_left
                            · intro w'
                              go_simp
                              with_reducible rfl
                            rotate_left
                            · simp only [Act.put, List.setIfInBounds_toArray, List.set_cons_zero, List.set_cons_succ, i64_w, i32_w]
                              rfl
                            refine pure_ (i := 10) (N := some 96) (v := ?_) (a' := ?_) #[true, true, true, true, true, true, true, true, true, true, true, true, false, false] rfl rfl (any_of HT_.out (by kernel_rfl)) (fun _ _ _ h => h) (Or.inl ⟨by first | rfl | (simp only [c45b0]; rfl), ?_⟩) ?_ ?_
                            rotate_left
                            · intro w'
                              go_simp
                              with_reducible rfl
                            rotate_left
                            · simp only [Act.put, List.setIfInBounds_toArray, List.set_cons_zero, List.set_cons_succ, i64_w, i32_w]
                              rfl
                            exact norm_ (by simp only [putAll, Act.put, List.setIfInBounds_toArray, List.set_cons_zero, List.set_cons_succ]) (hCont (gb183) _ ⟨hHeld, (by (with_reducible repeat (first | refine blk_drewN ?_ _ | refine blk_drew ?_ | refine blk_alloc ?_ _)); exact BK162.out), (by (with_reducible repeat (first | refine blk_drewN ?_ _ | refine blk_drew ?_ | refine blk_alloc ?_ _)); exact BK164.out), (by (with_reducible repeat (first | refine blk_drewN ?_ _ | refine blk_drew ?_ | refine blk_alloc ?_ _)); exact BK178.out), (by (with_reducible repeat (first | refine blk_drewN ?_ _ | refine blk_drew ?_ | refine blk_alloc ?_ _)); exact BK183.out), GW183.out, GE183.out, NB162_183.out, NB183_162.out, NB164_183.out, NB183_164.out, NB178_183.out, NB183_178.out, (by repeat (first | (with_reducible first | exact HB.out | apply below_alloc | apply pw_below_drewN | apply below_drew1 | refine below_set ?_ GE162.out | refine below_set ?_ GE164.out | refine below_set ?_ GE178.out | refine below_set ?_ GE183.out) | exact HB.out))⟩)
                        rintro gb183 w56 ⟨hS_, h0_, h1_, h2_, h3_, h4_, h5_, h6_, h7_, h8_, h9_, h10_, h11_, h12_⟩
                        have n0_ : Aside0 (w56.heap[gb162]? = some (.cells #[.string x163000_1, .bool x163001_1] 23 (0, 0))) := ⟨h0_⟩
                        have n1_ : Aside0 (w56.heap[gb164]? = some (.cells #[.string x165000_1, .bool x165001_1] 28 (0, 0))) := ⟨h1_⟩
                        have n2_ : Aside0 (w56.heap[gb178]? = some (.cells #[.string t176, .bool t177] 23 (0, 0))) := ⟨h2_⟩
                        have n3_ : Aside0 (w56.heap[gb183]? = some (.cells #[.string (⟨#[]⟩ : ByteArray), .bool false] 28 (0, 0))) := ⟨h3_⟩
                        have n4_ : Aside0 (w.heap.size ≤ gb183) := ⟨h4_⟩
                        have n5_ : Aside0 (w.heap.size ≤ gb183) := ⟨h5_⟩
                        have n6_ : Aside0 (gb162 ≠ gb183) := ⟨h6_⟩
                        have n7_ : Aside0 (gb183 ≠ gb162) := ⟨h7_⟩
                        have n8_ : Aside0 (gb164 ≠ gb183) := ⟨h8_⟩
                        have n9_ : Aside0 (gb183 ≠ gb164) := ⟨h9_⟩
                        have n10_ : Aside0 (gb178 ≠ gb183) := ⟨h10_⟩
                        have n11_ : Aside0 (gb183 ≠ gb178) := ⟨h11_⟩
                        have n12_ : Aside0 (Below w.heap.size w w56) := ⟨h12_⟩
                        clear BK162
                        clear BK164
                        clear BK178
                        clear HB
                        clear h0_ h1_ h2_ h3_ h4_ h5_ h6_ h7_ h8_ h9_ h10_ h11_ h12_
                        have BK162 := n0_
                        have BK164 := n1_
                        have BK178 := n2_
                        have BK183 := n3_
                        have GW183 := n4_
                        have GE183 := n5_
                        have NB162_183 := n6_
                        have NB183_162 := n7_
                        have NB164_183 := n8_
                        have NB183_164 := n9_
                        have NB178_183 := n10_
                        have NB183_178 := n11_
                        have HB := n12_
                        clear n0_ n1_ n2_ n3_ n4_ n5_ n6_ n7_ n8_ n9_ n10_ n11_ n12_
                        have hHeld : w56.cell? ⟨gb164, 0, none⟩ = some (.string x165000_1) ∧ w56.cell? ⟨gb164, 1, none⟩ = some (.bool x165001_1) ∧ w56.cell? (ad165.add ((x15_1).toNat * 2)) = some (.bool (false)) ∧ w56.cell? ⟨(ad165.add ((x15_1).toNat * 2)).block, (ad165.add ((x15_1).toNat * 2)).off + 1, none⟩ = some (.int .i64 ((rd_T30 l1 x15_1).f1)) := hS_
                        refine norm_ (a' := ?_) ?_ ?_
                        rotate_left
                        · simp only [putAll, Act.put, List.setIfInBounds_toArray, List.set_cons_zero, List.set_cons_succ]
                          rfl
                        refine pure_ (i := 12) (N := some 22) (v := ?_) (a' := ?_) #[true, true, true, true, true, true, true, true, true, true, true, true, true, false] rfl rfl (any_of HT_.out (by kernel_rfl)) (fun _ _ _ h => h) (Or.inl ⟨by first | rfl | (simp only [c45b0]; rfl), ?_⟩) ?_ ?_
                        rotate_left
                        · intro w'
                          go_simp
                          with_reducible rfl
                        rotate_left
                        · simp only [Act.put, List.setIfInBounds_toArray, List.set_cons_zero, List.set_cons_succ, i64_w, i32_w]
                          rfl
                        refine one_ (i := 13) (N := none) #[true, true, true, true, true, true, true, true, true, true, true, true, true, true] rfl rfl (one_of HT_.out (by kernel_rfl)) (by decide) (fun K hK => ?_)
                        have hs57 : w56.cell? ⟨gb183, 0, none⟩ = some (.string (⟨#[]⟩ : ByteArray)) := (blk_cell BK183.out 0).trans rfl
                        have hfs57 := blk_frozen BK183.out 0
                        have hns57_0 := NB162_183.out
                        have hns57_1 := NB164_183.out
                        have hns57_2 := NB178_183.out
                        have hms57_0 := NB183_162.out
                        have hms57_1 := NB183_164.out
                        have hms57_2 := NB183_178.out
                        have hs58 : w56.cell? ⟨gb183, 1, none⟩ = some (.bool false) := (blk_cell BK183.out 1).trans rfl
                        have hfs58 := blk_frozen BK183.out 1
                        have hns58_0 := NB162_183.out
                        have hns58_1 := NB164_183.out
                        have hns58_2 := NB178_183.out
                        have hms58_0 := NB183_162.out
                        have hms58_1 := NB183_164.out
                        have hms58_2 := NB183_178.out
                        refine skip_ (w1 := ?_) (by rfl) rfl ?_ ?_
                        rotate_left
                        · go_simp
                          rfl
                        refine hK.out _ _ ⟨((cell_far (p := ⟨gb183, _, none⟩) NB164_183.out _).trans (((cell_far (p := ⟨gb183, _, none⟩) NB164_183.out _).trans (hHeld.1)))), ((cell_far (p := ⟨gb183, _, none⟩) NB164_183.out _).trans (((cell_far (p := ⟨gb183, _, none⟩) NB164_183.out _).trans (hHeld.2.1)))), ((cell_far (p := ⟨gb183, _, none⟩) (by first | exact Nat.ne_of_lt (Nat.lt_of_lt_of_le (by have := World.block_lt_of_cell? _ _ hw179_0; first | rwa [add_block] at this | exact this) GW183.out) | (rw [add_block]; exact Nat.ne_of_lt (Nat.lt_of_lt_of_le (by have := World.block_lt_of_cell? _ _ hw179_0; first | rwa [add_block] at this | exact this) GW183.out)) | (show (Addr.add _ _).block ≠ _; rw [add_block]; exact Nat.ne_of_lt (Nat.lt_of_lt_of_le (by have := World.block_lt_of_cell? _ _ hw179_0; first | rwa [add_block] at this | exact this) GW183.out)) | (dsimp only; exact Nat.ne_of_lt (Nat.lt_of_lt_of_le (by have := World.block_lt_of_cell? _ _ hw179_0; first | rwa [add_block] at this | exact this) GW183.out))) _).trans (((cell_far (p := ⟨gb183, _, none⟩) (by first | exact Nat.ne_of_lt (Nat.lt_of_lt_of_le (by have := World.block_lt_of_cell? _ _ hw179_0; first | rwa [add_block] at this | exact this) GW183.out) | (rw [add_block]; exact Nat.ne_of_lt (Nat.lt_of_lt_of_le (by have := World.block_lt_of_cell? _ _ hw179_0; first | rwa [add_block] at this | exact this) GW183.out)) | (show (Addr.add _ _).block ≠ _; rw [add_block]; exact Nat.ne_of_lt (Nat.lt_of_lt_of_le (by have := World.block_lt_of_cell? _ _ hw179_0; first | rwa [add_block] at this | exact this) GW183.out)) | (dsimp only; exact Nat.ne_of_lt (Nat.lt_of_lt_of_le (by have := World.block_lt_of_cell? _ _ hw179_0; first | rwa [add_block] at this | exact this) GW183.out))) _).trans (hHeld.2.2.1)))), ((cell_far (p := ⟨gb183, _, none⟩) (by first | exact Nat.ne_of_lt (Nat.lt_of_lt_of_le (by have := World.block_lt_of_cell? _ _ hw179_1; first | rwa [add_block] at this | exact this) GW183.out) | (rw [add_block]; exact Nat.ne_of_lt (Nat.lt_of_lt_of_le (by have := World.block_lt_of_cell? _ _ hw179_1; first | rwa [add_block] at this | exact this) GW183.out)) | (show (Addr.add _ _).block ≠ _; rw [add_block]; exact Nat.ne_of_lt (Nat.lt_of_lt_of_le (by have := World.block_lt_of_cell? _ _ hw179_1; first | rwa [add_block] at this | exact this) GW183.out)) | (dsimp only; exact Nat.ne_of_lt (Nat.lt_of_lt_of_le (by have := World.block_lt_of_cell? _ _ hw179_1; first | rwa [add_block] at this | exact this) GW183.out))) _).trans (((cell_far (p := ⟨gb183, _, none⟩) (by first | exact Nat.ne_of_lt (Nat.lt_of_lt_of_le (by have := World.block_lt_of_cell? _ _ hw179_1; first | rwa [add_block] at this | exact this) GW183.out) | (rw [add_block]; exact Nat.ne_of_lt (Nat.lt_of_lt_of_le (by have := World.block_lt_of_cell? _ _ hw179_1; first | rwa [add_block] at this | exact this) GW183.out)) | (show (Addr.add _ _).block ≠ _; rw [add_block]; exact Nat.ne_of_lt (Nat.lt_of_lt_of_le (by have := World.block_lt_of_cell? _ _ hw179_1; first | rwa [add_block] at this | exact this) GW183.out)) | (dsimp only; exact Nat.ne_of_lt (Nat.lt_of_lt_of_le (by have := World.block_lt_of_cell? _ _ hw179_1; first | rwa [add_block] at this | exact this) GW183.out))) _).trans (hHeld.2.2.2))))⟩ (fun hHeld => ?_)
                        clear hK K
                        refine done_ (done_of HT_.out (by kernel_rfl)) ?_
                        have hnb59 := NB178_162.out
                        have hnc59 := NB162_178.out
                        have hnb60 := NB178_164.out
                        have hnc60 := NB164_178.out
                        have hnb61 := NB178_183.out
                        have hnc61 := NB183_178.out
                        have hcz62_0 : w56.cell? ⟨gb178, 0, none⟩ = some (.string t176) := (blk_cell BK178.out 0).trans rfl
                        have hcz62_1 : w56.cell? ⟨gb178, 1, none⟩ = some (.bool t177) := (blk_cell BK178.out 1).trans rfl
                        have hfz62_0 := blk_frozen BK178.out 0
                        have hfz62_1 := blk_frozen BK178.out 1
                        have hnb63 := NB162_164.out
                        have hnc63 := NB164_162.out
                        have hnb64 := NB162_183.out
                        have hnc64 := NB183_162.out
                        have hcz65_0 : w56.cell? ⟨gb162, 0, none⟩ = some (.string x163000_1) := (blk_cell BK162.out 0).trans rfl
                        have hcz65_1 : w56.cell? ⟨gb162, 1, none⟩ = some (.bool x163001_1) := (blk_cell BK162.out 1).trans rfl
                        have hfz65_0 := blk_frozen BK162.out 0
                        have hfz65_1 := blk_frozen BK162.out 1
                        have hnb66 := NB183_164.out
                        have hnc66 := NB164_183.out
                        have hcz67_0 : w56.cell? ⟨gb183, 0, none⟩ = some (.string (⟨#[]⟩ : ByteArray)) := (blk_cell BK183.out 0).trans rfl
                        have hcz67_1 : w56.cell? ⟨gb183, 1, none⟩ = some (.bool false) := (blk_cell BK183.out 1).trans rfl
                        have hfz67_0 := blk_frozen BK183.out 0
                        have hfz67_1 := blk_frozen BK183.out 1
                        have hcz68_0 : w56.cell? ⟨gb164, 0, none⟩ = some (.string x165000_1) := (blk_cell BK164.out 0).trans rfl
                        have hcz68_1 : w56.cell? ⟨gb164, 1, none⟩ = some (.bool x165001_1) := (blk_cell BK164.out 1).trans rfl
                        have hfz68_0 := blk_frozen BK164.out 0
                        have hfz68_1 := blk_frozen BK164.out 1
                        try go_wp2
                        go_meet
                        case rel => exact ⟨_, (t176), (t177), (t181), (t182), H', ⟨by have := HK1.out; have := HJ14.out; first | omega | exact Nat.le_refl _⟩, ⟨by (with_reducible repeat (first | refine blk_drewN ?_ _ | refine blk_drew ?_ | refine blk_alloc ?_ _)); refine blk_far ?_ NB162_164.out _; (with_reducible repeat (first | refine blk_drewN ?_ _ | refine blk_drew ?_ | refine blk_alloc ?_ _)); refine blk_far ?_ NB162_164.out _; (with_reducible repeat (first | refine blk_drewN ?_ _ | refine blk_drew ?_ | refine blk_alloc ?_ _)); refine blk_put (cs := #[.string t176, .bool x163001_1]) ?_ 1 _ rfl; (with_reducible repeat (first | refine blk_drewN ?_ _ | refine blk_drew ?_ | refine blk_alloc ?_ _)); refine blk_put (cs := #[.string x163000_1, .bool x163001_1]) ?_ 0 _ rfl; (with_reducible repeat (first | refine blk_drewN ?_ _ | refine blk_drew ?_ | refine blk_alloc ?_ _)); refine blk_far ?_ NB162_183.out _; (with_reducible repeat (first | refine blk_drewN ?_ _ | refine blk_drew ?_ | refine blk_alloc ?_ _)); refine blk_far ?_ NB162_183.out _; (with_reducible repeat (first | refine blk_drewN ?_ _ | refine blk_drew ?_ | refine blk_alloc ?_ _)); exact BK162.out⟩, ⟨by (with_reducible repeat (first | refine blk_drewN ?_ _ | refine blk_drew ?_ | refine blk_alloc ?_ _)); refine blk_put (cs := #[.string t181, .bool x165001_1]) ?_ 1 _ rfl; (with_reducible repeat (first | refine blk_drewN ?_ _ | refine blk_drew ?_ | refine blk_alloc ?_ _)); refine blk_put (cs := #[.string x165000_1, .bool x165001_1]) ?_ 0 _ rfl; (with_reducible repeat (first | refine blk_drewN ?_ _ | refine blk_drew ?_ | refine blk_alloc ?_ _)); refine blk_far ?_ NB164_162.out _; (with_reducible repeat (first | refine blk_drewN ?_ _ | refine blk_drew ?_ | refine blk_alloc ?_ _)); refine blk_far ?_ NB164_162.out _; (with_reducible repeat (first | refine blk_drewN ?_ _ | refine blk_drew ?_ | refine blk_alloc ?_ _)); refine blk_far ?_ NB164_183.out _; (with_reducible repeat (first | refine blk_drewN ?_ _ | refine blk_drew ?_ | refine blk_alloc ?_ _)); refine blk_far ?_ NB164_183.out _; (with_reducible repeat (first | refine blk_drewN ?_ _ | refine blk_drew ?_ | refine blk_alloc ?_ _)); exact BK164.out⟩, ⟨by repeat (first | (with_reducible first | exact HB.out | apply below_alloc | apply pw_below_drewN | apply below_drew1 | refine below_set ?_ GE162.out | refine below_set ?_ GE164.out | refine below_set ?_ GE178.out | refine below_set ?_ GE183.out) | exact HB.out)⟩⟩
                      · (first | rw [if_neg c45] at H | exact absurd rfl c45)
                        exact absurd H (by simp)
                  case rest =>
                    clear HC20
                    try clear c1
                    try clear p1
                    try clear q1
                    try clear hx1
                    try clear p2
                    try clear q2
                    try clear c4
                    try clear c5
                    try clear c6
                    try clear c11
                    try clear c12
                    try clear p17
                    try clear q17
                    try clear hx17
                    try clear q21
                    try clear c45
                    try clear c59
                    try clear c60
                    try clear c61
                    try clear c63
                    try clear c64
                    try clear c66
                    try clear hcz62_0
                    try clear hcz62_1
                    try clear hcz65_0
                    try clear hcz65_1
                    try clear hcz67_0
                    try clear hcz67_1
                    try clear hcz68_0
                    try clear hcz68_1
                    try clear hfz62_0
                    try clear hfz62_1
                    try clear hfz65_0
                    try clear hfz65_1
                    try clear hfz67_0
                    try clear hfz67_1
                    try clear hfz68_0
                    try clear hfz68_1
                    try clear hx179_0
                    try clear hx179_1
                    try clear p179
                    try clear q179
                    obtain ⟨kq, x163000_19, x163001_19, x165000_19, x165001_19, HA, HJ19, BK162, BK164, HB⟩ := hcut
                    cases kq with
                    | zero => exact absurd HA.out (by simp [scuttlebuttlaw02_PackPlays.j2])
                    | succ kj19 =>
                      have H := HA.out
                      clear HA
                      simp only [scuttlebuttlaw02_PackPlays.j2] at H
                      replace H := Option.bind_eq_some_iff.mp H
                      obtain ⟨t184, A690, H⟩ := H
                      replace H : (if t184 = true then ((pack_Reader_Done.f x163000_19 x163001_19).bind fun t185 => ((scuttlebuttref02_Reader_Done.f x165000_19 x165001_19).bind fun t186 => (if (t185 != t186) = true then (none) else (scuttlebuttlaw02_PackPlays.l0 kj19 l1 a2 a3 a4 a5 (wrap64 (x15_1 + 1)) x163000_19 x163001_19 x165000_19 x165001_19)))) else (none)) = some r := H
                      have A69 := Aside0.mk A690
                      clear A690
                      by_cases c70 : t184 = true
                      · (first | subst c70 | clear c70)
                        have H1 : ((pack_Reader_Done.f x163000_19 x163001_19).bind fun t185 => ((scuttlebuttref02_Reader_Done.f x165000_19 x165001_19).bind fun t186 => (if (t185 != t186) = true then (none) else (scuttlebuttlaw02_PackPlays.l0 kj19 l1 a2 a3 a4 a5 (wrap64 (x15_1 + 1)) x163000_19 x163001_19 x165000_19 x165001_19)))) = some r := by first | (rw [if_pos rfl] at H; exact H) | (rw [if_pos trivial] at H; exact H)
                        clear H
                        have H := H1
                        clear H1
                        replace H := Option.bind_eq_some_iff.mp H
                        obtain ⟨t185, A710, H⟩ := H
                        replace H : ((scuttlebuttref02_Reader_Done.f x165000_19 x165001_19).bind fun t186 => (if (t185 != t186) = true then (none) else (scuttlebuttlaw02_PackPlays.l0 kj19 l1 a2 a3 a4 a5 (wrap64 (x15_1 + 1)) x163000_19 x163001_19 x165000_19 x165001_19))) = some r := H
                        have A71 := Aside0.mk A710
                        clear A710
                        replace H := Option.bind_eq_some_iff.mp H
                        obtain ⟨t186, A720, H⟩ := H
                        replace H : (if (t185 != t186) = true then (none) else (scuttlebuttlaw02_PackPlays.l0 kj19 l1 a2 a3 a4 a5 (wrap64 (x15_1 + 1)) x163000_19 x163001_19 x165000_19 x165001_19)) = some r := H
                        have A72 := Aside0.mk A720
                        clear A720
                        by_cases c73 : (t185 != t186) = true
                        · rw [if_pos c73] at H
                          exact absurd H (by simp)
                        · (first | rw [if_neg c73] at H | exact absurd rfl c73)
                          have c73b0 : (t185 != t186) = false := by simpa using c73
                          (try (have c73b1 : decide (t185 = t186) = true := by simpa using c73))
                          (try (have c73b2 : (t185 == t186) = true := by simpa using c73))
                          clear c73
                          have H' := Aside0.mk H
                          clear H
                          have hnb74 := NB162_164.out
                          have hnc74 := NB164_162.out
                          have hcz75_0 : wc.cell? ⟨gb162, 0, none⟩ = some (.string x163000_19) := (blk_cell BK162.out 0).trans rfl
                          have hcz75_1 : wc.cell? ⟨gb162, 1, none⟩ = some (.bool x163001_19) := (blk_cell BK162.out 1).trans rfl
                          have hfz75_0 := blk_frozen BK162.out 0
                          have hfz75_1 := blk_frozen BK162.out 1
                          have hcz76_0 : wc.cell? ⟨gb164, 0, none⟩ = some (.string x165000_19) := (blk_cell BK164.out 0).trans rfl
                          have hcz76_1 : wc.cell? ⟨gb164, 1, none⟩ = some (.bool x165001_19) := (blk_cell BK164.out 1).trans rfl
                          have hfz76_0 := blk_frozen BK164.out 0
                          have hfz76_1 := blk_frozen BK164.out 1
                          try go_wp2_with (first | ((with_reducible refine gate_callee (f := 13) rfl ?_); refine goesL_ (some 104) rfl rfl Try.func13 (by kernel_rfl) rfl #[.agg #[.string x163000_19, .bool x163001_19], .agg #[.string x165000_19, .bool x165001_19]] rfl (by (try simp only [List.map_toArray, List.map_cons, List.map_nil]); first | done | rfl | (simp only [List.length_drop, List.length_take]; rfl)) ?_; (with_reducible refine (scuttlebuttlaw02_same.calls x163000_19 x163001_19 x165000_19 x165001_19 true _ A69.out).mono ?_); rintro e w77 ⟨rfl, hb⟩; refine ⟨_, rfl, ?_⟩; have n0_ := Aside0.mk (blk_below (g := gb162) (o := .cells #[.string x163000_19, .bool x163001_19] 23 (0, 0)) (by (with_reducible repeat (first | refine blk_drewN ?_ _ | refine blk_drew ?_ | refine blk_alloc ?_ _)); exact BK162.out) hb); have n1_ := Aside0.mk (blk_below (g := gb164) (o := .cells #[.string x165000_19, .bool x165001_19] 28 (0, 0)) (by (with_reducible repeat (first | refine blk_drewN ?_ _ | refine blk_drew ?_ | refine blk_alloc ?_ _)); exact BK164.out) hb); have n2_ := Aside0.mk (below_step (by repeat (first | (with_reducible first | exact HB.out | apply below_alloc | apply pw_below_drewN | apply below_drew1 | refine below_set ?_ GE162.out | refine below_set ?_ GE164.out) | exact HB.out)) hb); clear BK162; clear BK164; clear HB; have BK162 := n0_; have BK164 := n1_; have HB := n2_; clear n0_ n1_ n2_; (try clear hb); (try clear hb2); (try clear hk); (try clear hi)))
                          have n0_ := Aside0.mk (blk_drew BK162.out)
                          have n1_ := Aside0.mk (blk_drew BK164.out)
                          have n2_ := Aside0.mk (below_drew1 HB.out)
                          clear BK162
                          clear BK164
                          clear HB
                          have BK162 := n0_
                          have BK164 := n1_
                          have HB := n2_
                          clear n0_ n1_ n2_
                          refine start_ (n := 9) (S := fun w' => w'.cell? ⟨gb162, 0, none⟩ = some (.string x163000_19) ∧ w'.cell? ⟨gb162, 1, none⟩ = some (.bool x163001_19) ∧ w'.cell? ⟨gb164, 0, none⟩ = some (.string x165000_19) ∧ w'.cell? ⟨gb164, 1, none⟩ = some (.bool x165001_19)) (ds := []) #[false, false, false, false, false, false, false, false, false] (by kernel_rfl) rfl rfl ⟨(blk_cell BK162.out 0).trans rfl, (blk_cell BK162.out 1).trans rfl, (blk_cell BK164.out 0).trans rfl, (blk_cell BK164.out 1).trans rfl⟩ (fun hHeld => ?_); refine with_tabW scuttlebuttlaw02_PackPlays.tab22 scuttlebuttlaw02_PackPlays.bits22 (fun HT_ HW_ => ?_)
                          generalize w77.drew = w78 at BK162 BK164 HB hHeld ⊢
                          refine pure_ (i := 0) (N := some 105) (v := ?_) (a' := ?_) #[true, false, false, false, false, false, false, false, false] rfl rfl (any_of HT_.out (by kernel_rfl)) (fun _ _ _ h => h) (Or.inl ⟨by rfl, ?_⟩) ?_ ?_
                          rotate_left
                          · intro w'
                            go_simp
                            with_reducible rfl
                          rotate_left
                          · simp only [Act.put, List.setIfInBounds_toArray, List.set_cons_zero, List.set_cons_succ, i64_w, i32_w]
                            rfl
                          refine pure_ (i := 1) (N := some 106) (v := ?_) (a' := ?_) #[true, true, false, false, false, false, false, false, false] rfl rfl (any_of HT_.out (by kernel_rfl)) (fun _ _ _ h => h) (Or.inl ⟨by rfl, ?_⟩) ?_ ?_
                          rotate_left
                          · intro w'
                            go_simp
                            with_reducible rfl
                          rotate_left
                          · simp only [Act.put, List.setIfInBounds_toArray, List.set_cons_zero, List.set_cons_succ, i64_w, i32_w]
                            rfl
                          refine pure_ (i := 2) (N := some 107) (v := ?_) (a' := ?_) #[true, true, true, false, false, false, false, false, false] rfl rfl (any_of HT_.out (by kernel_rfl)) (fun _ _ _ h => h) (Or.inl ⟨by rfl, ?_⟩) ?_ ?_
                          rotate_left
                          · intro w'
                            go_simp
                            with_reducible rfl
                          rotate_left
                          · simp only [Act.put, List.setIfInBounds_toArray, List.set_cons_zero, List.set_cons_succ, i64_w, i32_w]
                            rfl
                          refine take_ (i := 3) (N := some 108) (v := ?_) (a' := ?_) #[true, true, true, true, false, false, false, false, false] rfl rfl (take_ofW HT_.out HW_.out (by kernel_rfl)) (fun _ _ _ h => h) (Or.inl ⟨by rfl, ?_⟩) hHeld ?_ ?_
                          rotate_left
                          · rintro w' ⟨s0, s1, s2, s3⟩
                            go_simp
                            with_reducible rfl
                          rotate_left
                          · simp only [Act.put, List.setIfInBounds_toArray, List.set_cons_zero, List.set_cons_succ, i64_w, i32_w]
                            rfl
                          refine take_ (i := 5) (N := some 110) (v := ?_) (a' := ?_) #[true, true, true, true, false, true, false, false, false] rfl rfl (take_ofW HT_.out HW_.out (by kernel_rfl)) (fun _ _ _ h => h) (Or.inl ⟨by rfl, ?_⟩) hHeld ?_ ?_
                          rotate_left
                          · rintro w' ⟨s0, s1, s2, s3⟩
                            go_simp
                            with_reducible rfl
                          rotate_left
                          · simp only [Act.put, List.setIfInBounds_toArray, List.set_cons_zero, List.set_cons_succ, i64_w, i32_w]
                            rfl
                          refine one_ (i := 4) (N := some 109) #[true, true, true, true, true, true, false, false, false] rfl rfl (one_of HT_.out (by kernel_rfl)) (by decide) (fun K hK => ?_)
                          refine goes_ Try.func14 (by kernel_rfl) rfl #[.agg #[.string x163000_19, .bool x163001_19]] (by rfl) rfl rfl (by (try simp only [List.map_toArray, List.map_cons, List.map_nil]); first | done | rfl | (simp only [List.length_drop, List.length_take]; rfl)) ?_
                          with_reducible refine (pack_Reader_Done.calls x163000_19 x163001_19 t185 _ A71.out).mono ?_
                          rintro e w79 ⟨rfl, hb⟩
                          refine ⟨_, rfl, ?_⟩
                          have n0_ := Aside0.mk (blk_below (g := gb162) (o := .cells #[.string x163000_19, .bool x163001_19] 23 (0, 0)) (by (with_reducible repeat (first | refine blk_drewN ?_ _ | refine blk_drew ?_ | refine blk_alloc ?_ _)); exact BK162.out) hb)
                          have n1_ := Aside0.mk (blk_below (g := gb164) (o := .cells #[.string x165000_19, .bool x165001_19] 28 (0, 0)) (by (with_reducible repeat (first | refine blk_drewN ?_ _ | refine blk_drew ?_ | refine blk_alloc ?_ _)); exact BK164.out) hb)
                          have n2_ := Aside0.mk (below_step (by repeat (first | (with_reducible first | exact HB.out | apply below_alloc | apply pw_below_drewN | apply below_drew1 | refine below_set ?_ GE162.out | refine below_set ?_ GE164.out) | exact HB.out)) hb)
                          clear BK162
                          clear BK164
                          clear HB
                          have BK162 := n0_
                          have BK164 := n1_
                          have HB := n2_
                          clear n0_ n1_ n2_
                          (try clear hb)
                          (try clear hb2)
                          (try clear hk)
                          (try clear hi)
                          refine hK.out _ _ ⟨(blk_cell BK162.out 0).trans rfl, (blk_cell BK162.out 1).trans rfl, (blk_cell BK164.out 0).trans rfl, (blk_cell BK164.out 1).trans rfl⟩ (fun hHeld => ?_)
                          clear hK K
                          refine norm_ (a' := ?_) ?_ ?_
                          rotate_left
                          · show Act.put _ (some 109) _ = _
                            simp only [Act.put, List.setIfInBounds_toArray, List.set_cons_zero, List.set_cons_succ, i64_w, i32_w]
                            rfl
                          refine one_ (i := 6) (N := some 111) #[true, true, true, true, true, true, true, false, false] rfl rfl (one_of HT_.out (by kernel_rfl)) (by decide) (fun K hK => ?_)
                          refine goes_ Try.func15 (by kernel_rfl) rfl #[.agg #[.string x165000_19, .bool x165001_19]] (by rfl) rfl rfl (by (try simp only [List.map_toArray, List.map_cons, List.map_nil]); first | done | rfl | (simp only [List.length_drop, List.length_take]; rfl)) ?_
                          with_reducible refine (scuttlebuttref02_Reader_Done.calls x165000_19 x165001_19 t186 _ A72.out).mono ?_
                          rintro e w80 ⟨rfl, hb⟩
                          refine ⟨_, rfl, ?_⟩
                          have n0_ := Aside0.mk (blk_below (g := gb162) (o := .cells #[.string x163000_19, .bool x163001_19] 23 (0, 0)) (by (with_reducible repeat (first | refine blk_drewN ?_ _ | refine blk_drew ?_ | refine blk_alloc ?_ _)); exact BK162.out) hb)
                          have n1_ := Aside0.mk (blk_below (g := gb164) (o := .cells #[.string x165000_19, .bool x165001_19] 28 (0, 0)) (by (with_reducible repeat (first | refine blk_drewN ?_ _ | refine blk_drew ?_ | refine blk_alloc ?_ _)); exact BK164.out) hb)
                          have n2_ := Aside0.mk (below_step (by repeat (first | (with_reducible first | exact HB.out | apply below_alloc | apply pw_below_drewN | apply below_drew1 | refine below_set ?_ GE162.out | refine below_set ?_ GE164.out) | exact HB.out)) hb)
                          clear BK162
                          clear BK164
                          clear HB
                          have BK162 := n0_
                          have BK164 := n1_
                          have HB := n2_
                          clear n0_ n1_ n2_
                          (try clear hb)
                          (try clear hb2)
                          (try clear hk)
                          (try clear hi)
                          refine hK.out _ _ ⟨(blk_cell BK162.out 0).trans rfl, (blk_cell BK162.out 1).trans rfl, (blk_cell BK164.out 0).trans rfl, (blk_cell BK164.out 1).trans rfl⟩ (fun hHeld => ?_)
                          clear hK K
                          refine norm_ (a' := ?_) ?_ ?_
                          rotate_left
                          · show Act.put _ (some 111) _ = _
                            simp only [Act.put, List.setIfInBounds_toArray, List.set_cons_zero, List.set_cons_succ, i64_w, i32_w]
                            rfl
                          refine pure_ (i := 7) (N := some 112) (v := ?_) (a' := ?_) #[true, true, true, true, true, true, true, true, false] rfl rfl (any_of HT_.out (by kernel_rfl)) (fun _ _ _ h => h) (Or.inl ⟨by rfl, ?_⟩) ?_ ?_
                          rotate_left
                          · intro w'
                            go_simp
                            with_reducible rfl
                          rotate_left
                          · simp only [Act.put, List.setIfInBounds_toArray, List.set_cons_zero, List.set_cons_succ, i64_w, i32_w]
                            rfl
                          refine pure_ (i := 8) (N := some 113) (v := ?_) (a' := ?_) #[true, true, true, true, true, true, true, true, true] rfl rfl (any_of HT_.out (by kernel_rfl)) (fun _ _ _ h => h) (Or.inl ⟨by rfl, ?_⟩) ?_ ?_
                          rotate_left
                          · intro w'
                            go_simp
                            with_reducible rfl
                          rotate_left
                          · simp only [Act.put, List.setIfInBounds_toArray, List.set_cons_zero, List.set_cons_succ, i64_w, i32_w]
                            rfl
                          refine done_ (done_of HT_.out (by kernel_rfl)) ?_
                          try go_wp2
                          go_roundg kj19
                          case measure => have := HK1.out; have := HJ14.out; have := HJ19.out; omega
                          case rel => exact ⟨(wrap64 (x15_1 + 1)), (x163000_19), (x163001_19), (x165000_19), (x165001_19), (by first | rfl | (simp; done) | (simp [*]; done)), H', ⟨by have := HK1.out; have := HJ14.out; have := HJ19.out; omega⟩, ⟨by (with_reducible repeat (first | refine blk_drewN ?_ _ | refine blk_drew ?_ | refine blk_alloc ?_ _)); exact BK162.out⟩, ⟨by (with_reducible repeat (first | refine blk_drewN ?_ _ | refine blk_drew ?_ | refine blk_alloc ?_ _)); exact BK164.out⟩, ⟨by repeat (first | (with_reducible first | exact HB.out | apply below_alloc | apply pw_below_drewN | apply below_drew1 | refine below_set ?_ GE162.out | refine below_set ?_ GE164.out) | exact HB.out)⟩⟩
                      · replace c70 := Bool.eq_false_iff.mpr c70
                        (first | subst c70 | clear c70)
                        have H1 : (none) = some r := by rw [if_neg (show ¬ (false = true) by decide)] at H; exact H
                        clear H
                        have H := H1
                        clear H1
                        exact absurd H (by simp)
                · (first | rw [if_neg c19] at H | exact absurd rfl c19)
                  exact absurd H (by simp)
              · (first | rw [if_neg c18] at H | exact absurd rfl c18)
                exact absurd H (by simp)
            · replace c17 := Bool.eq_false_iff.mpr c17
              (first | subst c17 | clear c17)
              have H1 : (if 0 ≤ (wrap64 (Int.tmod a5 300)) then (if (wrap64 (Int.tmod a5 300) : Int).toNat ≤ 281474976710656 then ((some (List.replicate (wrap64 (Int.tmod a5 300) : Int).toNat 0 : List Int)).bind fun y187 => (if a4.size + (strOfNums y187).size ≤ 9223372036854775807 then ((pack_Text.f (a4 ++ (strOfNums y187))).bind fun bt190 => ((scuttlebuttref02_Text.f (a4 ++ (strOfNums y187))).bind fun bt192 => ((pack_Number.f a2 a3).bind fun t194 => ((pack_Number.f a2 (Int.tmod a3 10)).bind fun t195 => ((pack_Read.f x163000_1).bind fun bt196 => ((pack_Reader_Number.f kj14 bt196.1 bt196.2 a3).bind fun bt198 => ((scuttlebuttref02_Reader_Number.f kj14 x165000_1 false a3).bind fun bt202 => ((scuttlebuttlaw02_same.f bt198.2.1 bt198.2.2 bt202.2.1 bt202.2.2).bind fun t206 => (if bt190.1.toList = bt192.1.toList then (if (bt190.2 == bt192.2) = true then ((scuttlebuttref02_Number.f kj14 a2 a3).bind fun t207 => (if t194.toList = t207.toList then ((scuttlebuttref02_Number.f kj14 a2 (Int.tmod a3 10)).bind fun t208 => (if t195.toList = t208.toList then (some t206) else (none))) else (none))) else (none)) else (none)))))))))) else (none))) else (none)) else (none)) = some r := by rw [if_neg (show ¬ (false = true) by decide)] at H; exact H
              clear H
              have H := H1
              clear H1
              obtain ⟨ji81, hji81⟩ : ∃ j_ : Int, (wrap64 (Int.tmod a5 300)) = j_ := ⟨_, rfl⟩
              replace H : (if 0 ≤ (ji81) then (if (ji81 : Int).toNat ≤ 281474976710656 then ((some (List.replicate (ji81 : Int).toNat 0 : List Int)).bind fun y187 => (if a4.size + (strOfNums y187).size ≤ 9223372036854775807 then ((pack_Text.f (a4 ++ (strOfNums y187))).bind fun bt190 => ((scuttlebuttref02_Text.f (a4 ++ (strOfNums y187))).bind fun bt192 => ((pack_Number.f a2 a3).bind fun t194 => ((pack_Number.f a2 (Int.tmod a3 10)).bind fun t195 => ((pack_Read.f x163000_1).bind fun bt196 => ((pack_Reader_Number.f kj14 bt196.1 bt196.2 a3).bind fun bt198 => ((scuttlebuttref02_Reader_Number.f kj14 x165000_1 false a3).bind fun bt202 => ((scuttlebuttlaw02_same.f bt198.2.1 bt198.2.2 bt202.2.1 bt202.2.2).bind fun t206 => (if bt190.1.toList = bt192.1.toList then (if (bt190.2 == bt192.2) = true then ((scuttlebuttref02_Number.f kj14 a2 a3).bind fun t207 => (if t194.toList = t207.toList then ((scuttlebuttref02_Number.f kj14 a2 (Int.tmod a3 10)).bind fun t208 => (if t195.toList = t208.toList then (some t206) else (none))) else (none))) else (none)) else (none)))))))))) else (none))) else (none)) else (none)) = some r := by first | (rw [hji81] at H; exact H) | (simp only [hji81] at H ⊢; exact H)
              have hji81w : (IntKind.i64.wrap (Int.tmod a5 300)) = ji81 := (i64_w _).trans hji81
              by_cases c82 : 0 ≤ (ji81)
              · rw [if_pos c82] at H
                have c82b0 := eq_true c82
                have c82b1 : decide (0 ≤ (ji81)) = true := decide_eq_true c82
                clear c82
                by_cases c83 : (ji81 : Int).toNat ≤ 281474976710656
                · rw [if_pos c83] at H
                  have c83b0 := eq_true c83
                  have c83b1 : decide ((ji81 : Int).toNat ≤ 281474976710656) = true := decide_eq_true c83
                  clear c83
                  obtain ⟨y187, hy187⟩ : ∃ y_ : List Int, y_ = (List.replicate (ji81 : Int).toNat 0) := ⟨_, rfl⟩
                  replace H : (if a4.size + (strOfNums y187).size ≤ 9223372036854775807 then ((pack_Text.f (a4 ++ (strOfNums y187))).bind fun bt190 => ((scuttlebuttref02_Text.f (a4 ++ (strOfNums y187))).bind fun bt192 => ((pack_Number.f a2 a3).bind fun t194 => ((pack_Number.f a2 (Int.tmod a3 10)).bind fun t195 => ((pack_Read.f x163000_1).bind fun bt196 => ((pack_Reader_Number.f kj14 bt196.1 bt196.2 a3).bind fun bt198 => ((scuttlebuttref02_Reader_Number.f kj14 x165000_1 false a3).bind fun bt202 => ((scuttlebuttlaw02_same.f bt198.2.1 bt198.2.2 bt202.2.1 bt202.2.2).bind fun t206 => (if bt190.1.toList = bt192.1.toList then (if (bt190.2 == bt192.2) = true then ((scuttlebuttref02_Number.f kj14 a2 a3).bind fun t207 => (if t194.toList = t207.toList then ((scuttlebuttref02_Number.f kj14 a2 (Int.tmod a3 10)).bind fun t208 => (if t195.toList = t208.toList then (some t206) else (none))) else (none))) else (none)) else (none)))))))))) else (none)) = some r := by first | (rw [hy187]; with_reducible exact H) | (have H2_ := (Option.bind_some _ _).symm.trans H; rw [hy187]; with_reducible exact H2_) | (have H2_ := (Option.bind_some _ _).symm.trans H; with_reducible exact H2_) | with_reducible exact H | (rw [hy187]; exact H) | exact H
                  have Ny187 := Aside0.mk hy187
                  clear hy187
                  by_cases c84 : a4.size + (strOfNums y187).size ≤ 9223372036854775807
                  · rw [if_pos c84] at H
                    have c84b0 := eq_true c84
                    have c84b1 : decide (a4.size + (strOfNums y187).size ≤ 9223372036854775807) = true := decide_eq_true c84
                    try have c84b2 : (9223372036854775807 < a4.size + (strOfNums y187).size) = False := eq_false (Nat.not_lt.2 c84)
                    replace H := Option.bind_eq_some_iff.mp H
                    obtain ⟨⟨t190, t191⟩, A850, H⟩ := H
                    replace H : ((scuttlebuttref02_Text.f (a4 ++ (strOfNums y187))).bind fun bt192 => ((pack_Number.f a2 a3).bind fun t194 => ((pack_Number.f a2 (Int.tmod a3 10)).bind fun t195 => ((pack_Read.f x163000_1).bind fun bt196 => ((pack_Reader_Number.f kj14 bt196.1 bt196.2 a3).bind fun bt198 => ((scuttlebuttref02_Reader_Number.f kj14 x165000_1 false a3).bind fun bt202 => ((scuttlebuttlaw02_same.f bt198.2.1 bt198.2.2 bt202.2.1 bt202.2.2).bind fun t206 => (if t190.toList = bt192.1.toList then (if (t191 == bt192.2) = true then ((scuttlebuttref02_Number.f kj14 a2 a3).bind fun t207 => (if t194.toList = t207.toList then ((scuttlebuttref02_Number.f kj14 a2 (Int.tmod a3 10)).bind fun t208 => (if t195.toList = t208.toList then (some t206) else (none))) else (none))) else (none)) else (none))))))))) = some r := H
                    have A85 := Aside0.mk A850
                    clear A850
                    replace H := Option.bind_eq_some_iff.mp H
                    obtain ⟨⟨t192, t193⟩, A860, H⟩ := H
                    replace H : ((pack_Number.f a2 a3).bind fun t194 => ((pack_Number.f a2 (Int.tmod a3 10)).bind fun t195 => ((pack_Read.f x163000_1).bind fun bt196 => ((pack_Reader_Number.f kj14 bt196.1 bt196.2 a3).bind fun bt198 => ((scuttlebuttref02_Reader_Number.f kj14 x165000_1 false a3).bind fun bt202 => ((scuttlebuttlaw02_same.f bt198.2.1 bt198.2.2 bt202.2.1 bt202.2.2).bind fun t206 => (if t190.toList = t192.toList then (if (t191 == t193) = true then ((scuttlebuttref02_Number.f kj14 a2 a3).bind fun t207 => (if t194.toList = t207.toList then ((scuttlebuttref02_Number.f kj14 a2 (Int.tmod a3 10)).bind fun t208 => (if t195.toList = t208.toList then (some t206) else (none))) else (none))) else (none)) else (none)))))))) = some r := H
                    have A86 := Aside0.mk A860
                    clear A860
                    replace H := Option.bind_eq_some_iff.mp H
                    obtain ⟨t194, A870, H⟩ := H
                    replace H : ((pack_Number.f a2 (Int.tmod a3 10)).bind fun t195 => ((pack_Read.f x163000_1).bind fun bt196 => ((pack_Reader_Number.f kj14 bt196.1 bt196.2 a3).bind fun bt198 => ((scuttlebuttref02_Reader_Number.f kj14 x165000_1 false a3).bind fun bt202 => ((scuttlebuttlaw02_same.f bt198.2.1 bt198.2.2 bt202.2.1 bt202.2.2).bind fun t206 => (if t190.toList = t192.toList then (if (t191 == t193) = true then ((scuttlebuttref02_Number.f kj14 a2 a3).bind fun t207 => (if t194.toList = t207.toList then ((scuttlebuttref02_Number.f kj14 a2 (Int.tmod a3 10)).bind fun t208 => (if t195.toList = t208.toList then (some t206) else (none))) else (none))) else (none)) else (none))))))) = some r := H
                    have A87 := Aside0.mk A870
                    clear A870
                    replace H := Option.bind_eq_some_iff.mp H
                    obtain ⟨t195, A880, H⟩ := H
                    replace H : ((pack_Read.f x163000_1).bind fun bt196 => ((pack_Reader_Number.f kj14 bt196.1 bt196.2 a3).bind fun bt198 => ((scuttlebuttref02_Reader_Number.f kj14 x165000_1 false a3).bind fun bt202 => ((scuttlebuttlaw02_same.f bt198.2.1 bt198.2.2 bt202.2.1 bt202.2.2).bind fun t206 => (if t190.toList = t192.toList then (if (t191 == t193) = true then ((scuttlebuttref02_Number.f kj14 a2 a3).bind fun t207 => (if t194.toList = t207.toList then ((scuttlebuttref02_Number.f kj14 a2 (Int.tmod a3 10)).bind fun t208 => (if t195.toList = t208.toList then (some t206) else (none))) else (none))) else (none)) else (none)))))) = some r := H
                    have A88 := Aside0.mk A880
                    clear A880
                    replace H := Option.bind_eq_some_iff.mp H
                    obtain ⟨⟨t196, t197⟩, A890, H⟩ := H
                    replace H : ((pack_Reader_Number.f kj14 t196 t197 a3).bind fun bt198 => ((scuttlebuttref02_Reader_Number.f kj14 x165000_1 false a3).bind fun bt202 => ((scuttlebuttlaw02_same.f bt198.2.1 bt198.2.2 bt202.2.1 bt202.2.2).bind fun t206 => (if t190.toList = t192.toList then (if (t191 == t193) = true then ((scuttlebuttref02_Number.f kj14 a2 a3).bind fun t207 => (if t194.toList = t207.toList then ((scuttlebuttref02_Number.f kj14 a2 (Int.tmod a3 10)).bind fun t208 => (if t195.toList = t208.toList then (some t206) else (none))) else (none))) else (none)) else (none))))) = some r := H
                    have A89 := Aside0.mk A890
                    clear A890
                    replace H := Option.bind_eq_some_iff.mp H
                    obtain ⟨⟨t198, t199, t200⟩, A900, H⟩ := H
                    replace H : ((scuttlebuttref02_Reader_Number.f kj14 x165000_1 false a3).bind fun bt202 => ((scuttlebuttlaw02_same.f t199 t200 bt202.2.1 bt202.2.2).bind fun t206 => (if t190.toList = t192.toList then (if (t191 == t193) = true then ((scuttlebuttref02_Number.f kj14 a2 a3).bind fun t207 => (if t194.toList = t207.toList then ((scuttlebuttref02_Number.f kj14 a2 (Int.tmod a3 10)).bind fun t208 => (if t195.toList = t208.toList then (some t206) else (none))) else (none))) else (none)) else (none)))) = some r := H
                    have A90 := Aside0.mk A900
                    clear A900
                    replace H := Option.bind_eq_some_iff.mp H
                    obtain ⟨⟨t202, t203, t204⟩, A910, H⟩ := H
                    replace H : ((scuttlebuttlaw02_same.f t199 t200 t203 t204).bind fun t206 => (if t190.toList = t192.toList then (if (t191 == t193) = true then ((scuttlebuttref02_Number.f kj14 a2 a3).bind fun t207 => (if t194.toList = t207.toList then ((scuttlebuttref02_Number.f kj14 a2 (Int.tmod a3 10)).bind fun t208 => (if t195.toList = t208.toList then (some t206) else (none))) else (none))) else (none)) else (none))) = some r := H
                    have A91 := Aside0.mk A910
                    clear A910
                    replace H := Option.bind_eq_some_iff.mp H
                    obtain ⟨t206, A920, H⟩ := H
                    replace H : (if t190.toList = t192.toList then (if (t191 == t193) = true then ((scuttlebuttref02_Number.f kj14 a2 a3).bind fun t207 => (if t194.toList = t207.toList then ((scuttlebuttref02_Number.f kj14 a2 (Int.tmod a3 10)).bind fun t208 => (if t195.toList = t208.toList then (some t206) else (none))) else (none))) else (none)) else (none)) = some r := H
                    have A92 := Aside0.mk A920
                    clear A920
                    by_cases c93 : t190.toList = t192.toList
                    · rw [if_pos c93] at H
                      have c93b0 : (t190.toList == t192.toList) = true := beq_iff_eq.mpr c93
                      have c93b1 : (t190.toList != t192.toList) = false := bne_eq_false_iff_eq.mpr c93
                      clear c93
                      by_cases c94 : (t191 == t193) = true
                      · rw [if_pos c94] at H
                        have c94b0 : (t191 == t193) = true := c94
                        (try (have c94b1 : decide (t191 = t193) = true := by simpa using c94))
                        (try (have c94b2 : (t191 == t193) = true := by simpa using c94))
                        clear c94
                        replace H := Option.bind_eq_some_iff.mp H
                        obtain ⟨t207, A950, H⟩ := H
                        replace H : (if t194.toList = t207.toList then ((scuttlebuttref02_Number.f kj14 a2 (Int.tmod a3 10)).bind fun t208 => (if t195.toList = t208.toList then (some t206) else (none))) else (none)) = some r := H
                        have A95 := Aside0.mk A950
                        clear A950
                        by_cases c96 : t194.toList = t207.toList
                        · rw [if_pos c96] at H
                          have c96b0 : (t194.toList == t207.toList) = true := beq_iff_eq.mpr c96
                          have c96b1 : (t194.toList != t207.toList) = false := bne_eq_false_iff_eq.mpr c96
                          clear c96
                          replace H := Option.bind_eq_some_iff.mp H
                          obtain ⟨t208, A970, H⟩ := H
                          replace H : (if t195.toList = t208.toList then (some t206) else (none)) = some r := H
                          have A97 := Aside0.mk A970
                          clear A970
                          by_cases c98 : t195.toList = t208.toList
                          · rw [if_pos c98] at H
                            have c98b0 : (t195.toList == t208.toList) = true := beq_iff_eq.mpr c98
                            have c98b1 : (t195.toList != t208.toList) = false := bne_eq_false_iff_eq.mpr c98
                            clear c98
                            obtain rfl := Option.some.inj H
                            go_wp2_with (first | ((with_reducible refine gate_dst (N := 118) rfl ?_); refine Kd.R_make (Kd.int .u8) _ 5 rfl (N := 118) rfl 40 _ _ rfl ji81 rfl rfl Try.underlying40 (.int .u8 0) 1 info5 rfl (by decide) (by omega) 0 (ok := fun _ => True) (okp := fun _ => True) rfl (fun _ hk => hk) trivial (of_decide_eq_true (by first | (with_reducible assumption) | assumption)) (Nat.le_trans (Nat.mul_le_mul_right _ (of_decide_eq_true (by first | (with_reducible assumption) | assumption) : ji81.toNat ≤ 281474976710656)) (by omega)) (Below.refl _ _) (Nat.le_refl _) ?_; intro v188 w99 ho100 hb hg_ hnew_; clear hg_ hnew_; (first | rw [← Ny187.out] at ho100 | (simp only [Int.reduceToNat] at ho100; rw [← Ny187.out] at ho100)); have n0_ := Aside0.mk (Kd.R_lower ho100 (below_size (by repeat (first | (with_reducible first | exact HB.out | apply below_alloc | apply pw_below_drewN | apply below_drew1 | refine below_set ?_ GE162.out | refine below_set ?_ GE164.out) | exact HB.out)))); have n1_ := Aside0.mk (blk_below (g := gb162) (o := .cells #[.string x163000_1, .bool x163001_1] 23 (0, 0)) (by (with_reducible repeat (first | refine blk_drewN ?_ _ | refine blk_drew ?_ | refine blk_alloc ?_ _)); exact BK162.out) hb); have n2_ := Aside0.mk (blk_below (g := gb164) (o := .cells #[.string x165000_1, .bool x165001_1] 28 (0, 0)) (by (with_reducible repeat (first | refine blk_drewN ?_ _ | refine blk_drew ?_ | refine blk_alloc ?_ _)); exact BK164.out) hb); have n3_ := Aside0.mk (below_step (by repeat (first | (with_reducible first | exact HB.out | apply below_alloc | apply pw_below_drewN | apply below_drew1 | refine below_set ?_ GE162.out | refine below_set ?_ GE164.out) | exact HB.out)) hb); clear BK162; clear BK164; clear HB; have HO189 := n0_; have BK162 := n1_; have BK164 := n2_; have HB := n3_; clear n0_ n1_ n2_ n3_; clear hb ho100; have hcv101 := own_string (P := Try.prog) Try.underlying40 Try.underlying5 Try.underlying9 (Kd.own_of_R HO189.out)) | ((with_reducible refine gate_callee (f := 16) rfl ?_); refine goesL_ (some 123) rfl rfl Try.func16 (by kernel_rfl) rfl #[.string (a4 ++ (strOfNums y187))] rfl (by (try simp only [List.map_toArray, List.map_cons, List.map_nil]); first | done | rfl | (simp only [List.length_drop, List.length_take]; rfl)) ?_; (with_reducible refine (pack_Text.calls (a4 ++ (strOfNums y187)) t190 t191 _ A85.out).mono ?_); rintro e w102 ⟨rfl, hb⟩; refine ⟨_, rfl, ?_⟩; have n0_ := Aside0.mk (Kd.R_below (by (with_reducible repeat (first | apply Kd.R_alloc | apply Kd.R_drewN | apply Kd.R_drew)); exact HO189.out) hb); have n1_ := Aside0.mk (blk_below (g := gb162) (o := .cells #[.string x163000_1, .bool x163001_1] 23 (0, 0)) (by (with_reducible repeat (first | refine blk_drewN ?_ _ | refine blk_drew ?_ | refine blk_alloc ?_ _)); exact BK162.out) hb); have n2_ := Aside0.mk (blk_below (g := gb164) (o := .cells #[.string x165000_1, .bool x165001_1] 28 (0, 0)) (by (with_reducible repeat (first | refine blk_drewN ?_ _ | refine blk_drew ?_ | refine blk_alloc ?_ _)); exact BK164.out) hb); have n3_ := Aside0.mk (below_step (by repeat (first | (with_reducible first | exact HB.out | apply below_alloc | apply pw_below_drewN | apply below_drew1 | refine below_set ?_ GE162.out | refine below_set ?_ GE164.out) | exact HB.out)) hb); clear HO189; clear BK162; clear BK164; clear HB; have HO189 := n0_; have BK162 := n1_; have BK164 := n2_; have HB := n3_; clear n0_ n1_ n2_ n3_; (try clear hb); (try clear hb2); (try clear hk); (try clear hi)) | ((with_reducible refine gate_callee (f := 17) rfl ?_); refine goesL_ (some 128) rfl rfl Try.func17 (by kernel_rfl) rfl #[.string (a4 ++ (strOfNums y187))] rfl (by (try simp only [List.map_toArray, List.map_cons, List.map_nil]); first | done | rfl | (simp only [List.length_drop, List.length_take]; rfl)) ?_; (with_reducible refine (scuttlebuttref02_Text.calls (a4 ++ (strOfNums y187)) t192 t193 _ A86.out).mono ?_); rintro e w103 ⟨rfl, hb⟩; refine ⟨_, rfl, ?_⟩; have n0_ := Aside0.mk (Kd.R_below (by (with_reducible repeat (first | apply Kd.R_alloc | apply Kd.R_drewN | apply Kd.R_drew)); exact HO189.out) hb); have n1_ := Aside0.mk (blk_below (g := gb162) (o := .cells #[.string x163000_1, .bool x163001_1] 23 (0, 0)) (by (with_reducible repeat (first | refine blk_drewN ?_ _ | refine blk_drew ?_ | refine blk_alloc ?_ _)); exact BK162.out) hb); have n2_ := Aside0.mk (blk_below (g := gb164) (o := .cells #[.string x165000_1, .bool x165001_1] 28 (0, 0)) (by (with_reducible repeat (first | refine blk_drewN ?_ _ | refine blk_drew ?_ | refine blk_alloc ?_ _)); exact BK164.out) hb); have n3_ := Aside0.mk (below_step (by repeat (first | (with_reducible first | exact HB.out | apply below_alloc | apply pw_below_drewN | apply below_drew1 | refine below_set ?_ GE162.out | refine below_set ?_ GE164.out) | exact HB.out)) hb); clear HO189; clear BK162; clear BK164; clear HB; have HO189 := n0_; have BK162 := n1_; have BK164 := n2_; have HB := n3_; clear n0_ n1_ n2_ n3_; (try clear hb); (try clear hb2); (try clear hk); (try clear hi)) | ((with_reducible refine gate_callee (f := 18) rfl ?_); refine goesL_ (some 133) rfl rfl Try.func18 (by kernel_rfl) rfl #[.int .u64 a2, .int .i64 a3] rfl (by (try simp only [List.map_toArray, List.map_cons, List.map_nil]); first | done | rfl | (simp only [List.length_drop, List.length_take]; rfl)) ?_; (with_reducible refine (pack_Number.calls a2 a3 t194 _ A87.out).mono ?_); rintro e w104 ⟨rfl, hb⟩; refine ⟨_, rfl, ?_⟩; have n0_ := Aside0.mk (Kd.R_below (by (with_reducible repeat (first | apply Kd.R_alloc | apply Kd.R_drewN | apply Kd.R_drew)); exact HO189.out) hb); have n1_ := Aside0.mk (blk_below (g := gb162) (o := .cells #[.string x163000_1, .bool x163001_1] 23 (0, 0)) (by (with_reducible repeat (first | refine blk_drewN ?_ _ | refine blk_drew ?_ | refine blk_alloc ?_ _)); exact BK162.out) hb); have n2_ := Aside0.mk (blk_below (g := gb164) (o := .cells #[.string x165000_1, .bool x165001_1] 28 (0, 0)) (by (with_reducible repeat (first | refine blk_drewN ?_ _ | refine blk_drew ?_ | refine blk_alloc ?_ _)); exact BK164.out) hb); have n3_ := Aside0.mk (below_step (by repeat (first | (with_reducible first | exact HB.out | apply below_alloc | apply pw_below_drewN | apply below_drew1 | refine below_set ?_ GE162.out | refine below_set ?_ GE164.out) | exact HB.out)) hb); clear HO189; clear BK162; clear BK164; clear HB; have HO189 := n0_; have BK162 := n1_; have BK164 := n2_; have HB := n3_; clear n0_ n1_ n2_ n3_; (try clear hb); (try clear hb2); (try clear hk); (try clear hi)) | ((with_reducible refine gate_callee (f := 18) rfl ?_); refine goesL_ (some 137) rfl rfl Try.func18 (by kernel_rfl) rfl #[.int .u64 a2, .int .i64 (Int.tmod a3 10)] rfl (by (try simp only [List.map_toArray, List.map_cons, List.map_nil]); first | done | rfl | (simp only [List.length_drop, List.length_take]; rfl)) ?_; (with_reducible refine (pack_Number.calls a2 (Int.tmod a3 10) t195 _ A88.out).mono ?_); rintro e w105 ⟨rfl, hb⟩; refine ⟨_, rfl, ?_⟩; have n0_ := Aside0.mk (Kd.R_below (by (with_reducible repeat (first | apply Kd.R_alloc | apply Kd.R_drewN | apply Kd.R_drew)); exact HO189.out) hb); have n1_ := Aside0.mk (blk_below (g := gb162) (o := .cells #[.string x163000_1, .bool x163001_1] 23 (0, 0)) (by (with_reducible repeat (first | refine blk_drewN ?_ _ | refine blk_drew ?_ | refine blk_alloc ?_ _)); exact BK162.out) hb); have n2_ := Aside0.mk (blk_below (g := gb164) (o := .cells #[.string x165000_1, .bool x165001_1] 28 (0, 0)) (by (with_reducible repeat (first | refine blk_drewN ?_ _ | refine blk_drew ?_ | refine blk_alloc ?_ _)); exact BK164.out) hb); have n3_ := Aside0.mk (below_step (by repeat (first | (with_reducible first | exact HB.out | apply below_alloc | apply pw_below_drewN | apply below_drew1 | refine below_set ?_ GE162.out | refine below_set ?_ GE164.out) | exact HB.out)) hb); clear HO189; clear BK162; clear BK164; clear HB; have HO189 := n0_; have BK162 := n1_; have BK164 := n2_; have HB := n3_; clear n0_ n1_ n2_ n3_; (try clear hb); (try clear hb2); (try clear hk); (try clear hi); have hnb106 := NB162_164.out; have hnc106 := NB164_162.out; have hcz107_0 : w105.cell? ⟨gb162, 0, none⟩ = some (.string x163000_1) := (blk_cell BK162.out 0).trans rfl; have hcz107_1 : w105.cell? ⟨gb162, 1, none⟩ = some (.bool x163001_1) := (blk_cell BK162.out 1).trans rfl; have hfz107_0 := blk_frozen BK162.out 0; have hfz107_1 := blk_frozen BK162.out 1) | ((with_reducible refine gate_callee (f := 19) rfl ?_); refine goesL_ (some 141) rfl rfl Try.func19 (by kernel_rfl) rfl #[.string x163000_1] rfl (by (try simp only [List.map_toArray, List.map_cons, List.map_nil]); first | done | rfl | (simp only [List.length_drop, List.length_take]; rfl)) ?_; (with_reducible refine (pack_Read.calls x163000_1 t196 t197 _ A89.out).mono ?_); rintro e w108 ⟨rfl, hb⟩; refine ⟨_, rfl, ?_⟩; have n0_ := Aside0.mk (Kd.R_below (by (with_reducible repeat (first | apply Kd.R_alloc | apply Kd.R_drewN | apply Kd.R_drew)); exact HO189.out) hb); have n1_ := Aside0.mk (blk_below (g := gb162) (o := .cells #[.string x163000_1, .bool x163001_1] 23 (0, 0)) (by (with_reducible repeat (first | refine blk_drewN ?_ _ | refine blk_drew ?_ | refine blk_alloc ?_ _)); exact BK162.out) hb); have n2_ := Aside0.mk (blk_below (g := gb164) (o := .cells #[.string x165000_1, .bool x165001_1] 28 (0, 0)) (by (with_reducible repeat (first | refine blk_drewN ?_ _ | refine blk_drew ?_ | refine blk_alloc ?_ _)); exact BK164.out) hb); have n3_ := Aside0.mk (below_step (by repeat (first | (with_reducible first | exact HB.out | apply below_alloc | apply pw_below_drewN | apply below_drew1 | refine below_set ?_ GE162.out | refine below_set ?_ GE164.out) | exact HB.out)) hb); clear HO189; clear BK162; clear BK164; clear HB; have HO189 := n0_; have BK162 := n1_; have BK164 := n2_; have HB := n3_; clear n0_ n1_ n2_ n3_; (try clear hb); (try clear hb2); (try clear hk); (try clear hi)) | ((with_reducible refine gate_callee (f := 11) rfl ?_); refine goesL_ (some 143) rfl rfl Try.func11 (by kernel_rfl) rfl #[.agg #[.string t196, .bool t197], .int .i64 a3] rfl (by (try simp only [List.map_toArray, List.map_cons, List.map_nil]); first | done | rfl | (simp only [List.length_drop, List.length_take]; rfl)) ?_; (with_reducible refine (pack_Reader_Number.calls kj14 t196 t197 a3 t198 t199 t200 _ A90.out).mono ?_); rintro e w109 ⟨rfl, hb⟩; refine ⟨_, rfl, ?_⟩; have n0_ := Aside0.mk (Kd.R_below (by (with_reducible repeat (first | apply Kd.R_alloc | apply Kd.R_drewN | apply Kd.R_drew)); exact HO189.out) hb); have n1_ := Aside0.mk (blk_below (g := gb162) (o := .cells #[.string x163000_1, .bool x163001_1] 23 (0, 0)) (by (with_reducible repeat (first | refine blk_drewN ?_ _ | refine blk_drew ?_ | refine blk_alloc ?_ _)); exact BK162.out) hb); have n2_ := Aside0.mk (blk_below (g := gb164) (o := .cells #[.string x165000_1, .bool x165001_1] 28 (0, 0)) (by (with_reducible repeat (first | refine blk_drewN ?_ _ | refine blk_drew ?_ | refine blk_alloc ?_ _)); exact BK164.out) hb); have n3_ := Aside0.mk (below_step (by repeat (first | (with_reducible first | exact HB.out | apply below_alloc | apply pw_below_drewN | apply below_drew1 | refine below_set ?_ GE162.out | refine below_set ?_ GE164.out) | exact HB.out)) hb); clear HO189; clear BK162; clear BK164; clear HB; have HO189 := n0_; have BK162 := n1_; have BK164 := n2_; have HB := n3_; clear n0_ n1_ n2_ n3_; (try clear hb); (try clear hb2); (try clear hk); (try clear hi)) | ((with_reducible refine gate_dst (N := 33) rfl ?_); refine box_event ?hg (N := 33) ?hd (cs := #[.string (⟨#[]⟩ : ByteArray), .bool false]) (t := 23) ?hr ?_; (case hd => rfl); (case hg => rfl); (case hr => first | (go_simp; done) | (go_simp; rfl)); intro gb201 hg w110 hbox hb; have n0_ := Aside0.mk (Kd.R_below (by (with_reducible repeat (first | apply Kd.R_alloc | apply Kd.R_drewN | apply Kd.R_drew)); exact HO189.out) hb); have n1_ := Aside0.mk (blk_below (g := gb162) (o := .cells #[.string x163000_1, .bool x163001_1] 23 (0, 0)) (by (with_reducible repeat (first | refine blk_drewN ?_ _ | refine blk_drew ?_ | refine blk_alloc ?_ _)); exact BK162.out) hb); have n2_ := Aside0.mk (blk_below (g := gb164) (o := .cells #[.string x165000_1, .bool x165001_1] 28 (0, 0)) (by (with_reducible repeat (first | refine blk_drewN ?_ _ | refine blk_drew ?_ | refine blk_alloc ?_ _)); exact BK164.out) hb); have n3_ := Aside0.mk (below_step (by repeat (first | (with_reducible first | exact HB.out | apply below_alloc | apply pw_below_drewN | apply below_drew1 | refine below_set ?_ GE162.out | refine below_set ?_ GE164.out) | exact HB.out)) hb); have n4_ := Aside0.mk (hbox); have n5_ := Aside0.mk ((by rw [hg]; exact (below_size (by repeat (first | (with_reducible first | exact HB.out | apply below_alloc | apply pw_below_drewN | apply below_drew1 | refine below_set ?_ GE162.out | refine below_set ?_ GE164.out) | exact HB.out))) : w.heap.size ≤ gb201)); have n6_ := Aside0.mk ((by rw [hg]; exact (below_size (by repeat (first | (with_reducible first | exact HB.out | apply below_alloc | apply pw_below_drewN | apply below_drew1 | refine below_set ?_ GE162.out | refine below_set ?_ GE164.out) | exact HB.out))) : w.heap.size ≤ gb201)); have n7_ := Aside0.mk ((by rw [hg]; exact Nat.ne_of_lt (blk_lt (g := gb162) (o := .cells #[.string x163000_1, .bool x163001_1] 23 (0, 0)) (by (with_reducible repeat (first | refine blk_drewN ?_ _ | refine blk_drew ?_ | refine blk_alloc ?_ _)); exact BK162.out)) : gb162 ≠ gb201)); have n8_ := Aside0.mk ((by rw [hg]; exact Nat.ne_of_gt (blk_lt (g := gb162) (o := .cells #[.string x163000_1, .bool x163001_1] 23 (0, 0)) (by (with_reducible repeat (first | refine blk_drewN ?_ _ | refine blk_drew ?_ | refine blk_alloc ?_ _)); exact BK162.out)) : gb201 ≠ gb162)); have n9_ := Aside0.mk ((by rw [hg]; exact Nat.ne_of_lt (blk_lt (g := gb164) (o := .cells #[.string x165000_1, .bool x165001_1] 28 (0, 0)) (by (with_reducible repeat (first | refine blk_drewN ?_ _ | refine blk_drew ?_ | refine blk_alloc ?_ _)); exact BK164.out)) : gb164 ≠ gb201)); have n10_ := Aside0.mk ((by rw [hg]; exact Nat.ne_of_gt (blk_lt (g := gb164) (o := .cells #[.string x165000_1, .bool x165001_1] 28 (0, 0)) (by (with_reducible repeat (first | refine blk_drewN ?_ _ | refine blk_drew ?_ | refine blk_alloc ?_ _)); exact BK164.out)) : gb201 ≠ gb164)); clear HO189; clear BK162; clear BK164; clear HB; have HO189 := n0_; have BK162 := n1_; have BK164 := n2_; have HB := n3_; have BK201 := n4_; have GW201 := n5_; have GE201 := n6_; have NB162_201 := n7_; have NB201_162 := n8_; have NB164_201 := n9_; have NB201_164 := n10_; clear n0_ n1_ n2_ n3_ n4_ n5_ n6_ n7_ n8_ n9_ n10_; clear hb hbox hg; have hnb111 := NB201_162.out; have hnc111 := NB162_201.out; have hnb112 := NB201_164.out; have hnc112 := NB164_201.out; have hcz113_0 : w110.cell? ⟨gb201, 0, none⟩ = some (.string (⟨#[]⟩ : ByteArray)) := (blk_cell BK201.out 0).trans rfl; have hcz113_1 : w110.cell? ⟨gb201, 1, none⟩ = some (.bool false) := (blk_cell BK201.out 1).trans rfl; have hfz113_0 := blk_frozen BK201.out 0; have hfz113_1 := blk_frozen BK201.out 1; have hcz114_0 : w110.cell? ⟨gb164, 0, none⟩ = some (.string x165000_1) := (blk_cell BK164.out 0).trans rfl; have hcz114_1 : w110.cell? ⟨gb164, 1, none⟩ = some (.bool x165001_1) := (blk_cell BK164.out 1).trans rfl; have hfz114_0 := blk_frozen BK164.out 0; have hfz114_1 := blk_frozen BK164.out 1) | ((with_reducible refine gate_callee (f := 12) rfl ?_); refine goesL_ (some 151) rfl rfl Try.func12 (by kernel_rfl) rfl #[.agg #[.string x165000_1, .bool false], .int .i64 a3] rfl (by (try simp only [List.map_toArray, List.map_cons, List.map_nil]); first | done | rfl | (simp only [List.length_drop, List.length_take]; rfl)) ?_; (with_reducible refine (scuttlebuttref02_Reader_Number.calls kj14 x165000_1 false a3 t202 t203 t204 _ A91.out).mono ?_); rintro e w115 ⟨rfl, hb⟩; refine ⟨_, rfl, ?_⟩; have n0_ := Aside0.mk (Kd.R_below (by (with_reducible repeat (first | apply Kd.R_alloc | apply Kd.R_drewN | apply Kd.R_drew)); exact (Kd.R_mono (Kd.R_far (p := ⟨gb201, 1, none⟩) (Kd.R_far (p := ⟨gb201, 0, none⟩) (Kd.R_types HO189.out BK201.out (by decide)) (fun _ hk => hk.2) (.string t199)) (fun _ hk => hk.2) (.bool t200)) (fun _ h_ => h_.1))) hb); have n1_ := Aside0.mk (blk_below (g := gb162) (o := .cells #[.string x163000_1, .bool x163001_1] 23 (0, 0)) (by (with_reducible repeat (first | refine blk_drewN ?_ _ | refine blk_drew ?_ | refine blk_alloc ?_ _)); refine blk_far ?_ NB162_201.out _; (with_reducible repeat (first | refine blk_drewN ?_ _ | refine blk_drew ?_ | refine blk_alloc ?_ _)); refine blk_far ?_ NB162_201.out _; (with_reducible repeat (first | refine blk_drewN ?_ _ | refine blk_drew ?_ | refine blk_alloc ?_ _)); exact BK162.out) hb); have n2_ := Aside0.mk (blk_below (g := gb164) (o := .cells #[.string x165000_1, .bool x165001_1] 28 (0, 0)) (by (with_reducible repeat (first | refine blk_drewN ?_ _ | refine blk_drew ?_ | refine blk_alloc ?_ _)); refine blk_far ?_ NB164_201.out _; (with_reducible repeat (first | refine blk_drewN ?_ _ | refine blk_drew ?_ | refine blk_alloc ?_ _)); refine blk_far ?_ NB164_201.out _; (with_reducible repeat (first | refine blk_drewN ?_ _ | refine blk_drew ?_ | refine blk_alloc ?_ _)); exact BK164.out) hb); have n3_ := Aside0.mk (blk_below (g := gb201) (o := .cells #[.string t199, .bool t200] 23 (0, 0)) (by (with_reducible repeat (first | refine blk_drewN ?_ _ | refine blk_drew ?_ | refine blk_alloc ?_ _)); refine blk_put (cs := #[.string t199, .bool false]) ?_ 1 _ rfl; (with_reducible repeat (first | refine blk_drewN ?_ _ | refine blk_drew ?_ | refine blk_alloc ?_ _)); refine blk_put (cs := #[.string (⟨#[]⟩ : ByteArray), .bool false]) ?_ 0 _ rfl; (with_reducible repeat (first | refine blk_drewN ?_ _ | refine blk_drew ?_ | refine blk_alloc ?_ _)); exact BK201.out) hb); have n4_ := Aside0.mk (below_step (by repeat (first | (with_reducible first | exact HB.out | apply below_alloc | apply pw_below_drewN | apply below_drew1 | refine below_set ?_ GE162.out | refine below_set ?_ GE164.out | refine below_set ?_ GE201.out) | exact HB.out)) hb); clear HO189; clear BK162; clear BK164; clear BK201; clear HB; have HO189 := n0_; have BK162 := n1_; have BK164 := n2_; have BK201 := n3_; have HB := n4_; clear n0_ n1_ n2_ n3_ n4_; (try clear hb); (try clear hb2); (try clear hk); (try clear hi)) | ((with_reducible refine gate_dst (N := 35) rfl ?_); refine box_event ?hg (N := 35) ?hd (cs := #[.string (⟨#[]⟩ : ByteArray), .bool false]) (t := 28) ?hr ?_; (case hd => rfl); (case hg => rfl); (case hr => first | (go_simp; done) | (go_simp; rfl)); intro gb205 hg w116 hbox hb; have n0_ := Aside0.mk (Kd.R_below (by (with_reducible repeat (first | apply Kd.R_alloc | apply Kd.R_drewN | apply Kd.R_drew)); exact HO189.out) hb); have n1_ := Aside0.mk (blk_below (g := gb162) (o := .cells #[.string x163000_1, .bool x163001_1] 23 (0, 0)) (by (with_reducible repeat (first | refine blk_drewN ?_ _ | refine blk_drew ?_ | refine blk_alloc ?_ _)); exact BK162.out) hb); have n2_ := Aside0.mk (blk_below (g := gb164) (o := .cells #[.string x165000_1, .bool x165001_1] 28 (0, 0)) (by (with_reducible repeat (first | refine blk_drewN ?_ _ | refine blk_drew ?_ | refine blk_alloc ?_ _)); exact BK164.out) hb); have n3_ := Aside0.mk (blk_below (g := gb201) (o := .cells #[.string t199, .bool t200] 23 (0, 0)) (by (with_reducible repeat (first | refine blk_drewN ?_ _ | refine blk_drew ?_ | refine blk_alloc ?_ _)); exact BK201.out) hb); have n4_ := Aside0.mk (below_step (by repeat (first | (with_reducible first | exact HB.out | apply below_alloc | apply pw_below_drewN | apply below_drew1 | refine below_set ?_ GE162.out | refine below_set ?_ GE164.out | refine below_set ?_ GE201.out) | exact HB.out)) hb); have n5_ := Aside0.mk (hbox); have n6_ := Aside0.mk ((by rw [hg]; exact (below_size (by repeat (first | (with_reducible first | exact HB.out | apply below_alloc | apply pw_below_drewN | apply below_drew1 | refine below_set ?_ GE162.out | refine below_set ?_ GE164.out | refine below_set ?_ GE201.out) | exact HB.out))) : w.heap.size ≤ gb205)); have n7_ := Aside0.mk ((by rw [hg]; exact (below_size (by repeat (first | (with_reducible first | exact HB.out | apply below_alloc | apply pw_below_drewN | apply below_drew1 | refine below_set ?_ GE162.out | refine below_set ?_ GE164.out | refine below_set ?_ GE201.out) | exact HB.out))) : w.heap.size ≤ gb205)); have n8_ := Aside0.mk ((by rw [hg]; exact Nat.ne_of_lt (blk_lt (g := gb162) (o := .cells #[.string x163000_1, .bool x163001_1] 23 (0, 0)) (by (with_reducible repeat (first | refine blk_drewN ?_ _ | refine blk_drew ?_ | refine blk_alloc ?_ _)); exact BK162.out)) : gb162 ≠ gb205)); have n9_ := Aside0.mk ((by rw [hg]; exact Nat.ne_of_gt (blk_lt (g := gb162) (o := .cells #[.string x163000_1, .bool x163001_1] 23 (0, 0)) (by (with_reducible repeat (first | refine blk_drewN ?_ _ | refine blk_drew ?_ | refine blk_alloc ?_ _)); exact BK162.out)) : gb205 ≠ gb162)); have n10_ := Aside0.mk ((by rw [hg]; exact Nat.ne_of_lt (blk_lt (g := gb164) (o := .cells #[.string x165000_1, .bool x165001_1] 28 (0, 0)) (by (with_reducible repeat (first | refine blk_drewN ?_ _ | refine blk_drew ?_ | refine blk_alloc ?_ _)); exact BK164.out)) : gb164 ≠ gb205)); have n11_ := Aside0.mk ((by rw [hg]; exact Nat.ne_of_gt (blk_lt (g := gb164) (o := .cells #[.string x165000_1, .bool x165001_1] 28 (0, 0)) (by (with_reducible repeat (first | refine blk_drewN ?_ _ | refine blk_drew ?_ | refine blk_alloc ?_ _)); exact BK164.out)) : gb205 ≠ gb164)); have n12_ := Aside0.mk ((by rw [hg]; exact Nat.ne_of_lt (blk_lt (g := gb201) (o := .cells #[.string t199, .bool t200] 23 (0, 0)) (by (with_reducible repeat (first | refine blk_drewN ?_ _ | refine blk_drew ?_ | refine blk_alloc ?_ _)); exact BK201.out)) : gb201 ≠ gb205)); have n13_ := Aside0.mk ((by rw [hg]; exact Nat.ne_of_gt (blk_lt (g := gb201) (o := .cells #[.string t199, .bool t200] 23 (0, 0)) (by (with_reducible repeat (first | refine blk_drewN ?_ _ | refine blk_drew ?_ | refine blk_alloc ?_ _)); exact BK201.out)) : gb205 ≠ gb201)); clear HO189; clear BK162; clear BK164; clear BK201; clear HB; have HO189 := n0_; have BK162 := n1_; have BK164 := n2_; have BK201 := n3_; have HB := n4_; have BK205 := n5_; have GW205 := n6_; have GE205 := n7_; have NB162_205 := n8_; have NB205_162 := n9_; have NB164_205 := n10_; have NB205_164 := n11_; have NB201_205 := n12_; have NB205_201 := n13_; clear n0_ n1_ n2_ n3_ n4_ n5_ n6_ n7_ n8_ n9_ n10_ n11_ n12_ n13_; clear hb hbox hg; have hnb117 := NB205_162.out; have hnc117 := NB162_205.out; have hnb118 := NB205_164.out; have hnc118 := NB164_205.out; have hnb119 := NB205_201.out; have hnc119 := NB201_205.out; have hcz120_0 : w116.cell? ⟨gb205, 0, none⟩ = some (.string (⟨#[]⟩ : ByteArray)) := (blk_cell BK205.out 0).trans rfl; have hcz120_1 : w116.cell? ⟨gb205, 1, none⟩ = some (.bool false) := (blk_cell BK205.out 1).trans rfl; have hfz120_0 := blk_frozen BK205.out 0; have hfz120_1 := blk_frozen BK205.out 1; have hcz121_0 : w116.cell? ⟨gb201, 0, none⟩ = some (.string t199) := (blk_cell BK201.out 0).trans rfl; have hcz121_1 : w116.cell? ⟨gb201, 1, none⟩ = some (.bool t200) := (blk_cell BK201.out 1).trans rfl; have hfz121_0 := blk_frozen BK201.out 0; have hfz121_1 := blk_frozen BK201.out 1) | ((with_reducible refine gate_callee (f := 13) rfl ?_); refine goesL_ (some 156) rfl rfl Try.func13 (by kernel_rfl) rfl #[.agg #[.string t199, .bool t200], .agg #[.string t203, .bool t204]] rfl (by (try simp only [List.map_toArray, List.map_cons, List.map_nil]); first | done | rfl | (simp only [List.length_drop, List.length_take]; rfl)) ?_; (with_reducible refine (scuttlebuttlaw02_same.calls t199 t200 t203 t204 t206 _ A92.out).mono ?_); rintro e w122 ⟨rfl, hb⟩; refine ⟨_, rfl, ?_⟩; have n0_ := Aside0.mk (Kd.R_below (by (with_reducible repeat (first | apply Kd.R_alloc | apply Kd.R_drewN | apply Kd.R_drew)); exact (Kd.R_mono (Kd.R_far (p := ⟨gb205, 1, none⟩) (Kd.R_far (p := ⟨gb205, 0, none⟩) (Kd.R_types HO189.out BK205.out (by decide)) (fun _ hk => hk.2) (.string t203)) (fun _ hk => hk.2) (.bool t204)) (fun _ h_ => h_.1))) hb); have n1_ := Aside0.mk (blk_below (g := gb162) (o := .cells #[.string x163000_1, .bool x163001_1] 23 (0, 0)) (by (with_reducible repeat (first | refine blk_drewN ?_ _ | refine blk_drew ?_ | refine blk_alloc ?_ _)); refine blk_far ?_ NB162_205.out _; (with_reducible repeat (first | refine blk_drewN ?_ _ | refine blk_drew ?_ | refine blk_alloc ?_ _)); refine blk_far ?_ NB162_205.out _; (with_reducible repeat (first | refine blk_drewN ?_ _ | refine blk_drew ?_ | refine blk_alloc ?_ _)); exact BK162.out) hb); have n2_ := Aside0.mk (blk_below (g := gb164) (o := .cells #[.string x165000_1, .bool x165001_1] 28 (0, 0)) (by (with_reducible repeat (first | refine blk_drewN ?_ _ | refine blk_drew ?_ | refine blk_alloc ?_ _)); refine blk_far ?_ NB164_205.out _; (with_reducible repeat (first | refine blk_drewN ?_ _ | refine blk_drew ?_ | refine blk_alloc ?_ _)); refine blk_far ?_ NB164_205.out _; (with_reducible repeat (first | refine blk_drewN ?_ _ | refine blk_drew ?_ | refine blk_alloc ?_ _)); exact BK164.out) hb); have n3_ := Aside0.mk (blk_below (g := gb201) (o := .cells #[.string t199, .bool t200] 23 (0, 0)) (by (with_reducible repeat (first | refine blk_drewN ?_ _ | refine blk_drew ?_ | refine blk_alloc ?_ _)); refine blk_far ?_ NB201_205.out _; (with_reducible repeat (first | refine blk_drewN ?_ _ | refine blk_drew ?_ | refine blk_alloc ?_ _)); refine blk_far ?_ NB201_205.out _; (with_reducible repeat (first | refine blk_drewN ?_ _ | refine blk_drew ?_ | refine blk_alloc ?_ _)); exact BK201.out) hb); have n4_ := Aside0.mk (blk_below (g := gb205) (o := .cells #[.string t203, .bool t204] 28 (0, 0)) (by (with_reducible repeat (first | refine blk_drewN ?_ _ | refine blk_drew ?_ | refine blk_alloc ?_ _)); refine blk_put (cs := #[.string t203, .bool false]) ?_ 1 _ rfl; (with_reducible repeat (first | refine blk_drewN ?_ _ | refine blk_drew ?_ | refine blk_alloc ?_ _)); refine blk_put (cs := #[.string (⟨#[]⟩ : ByteArray), .bool false]) ?_ 0 _ rfl; (with_reducible repeat (first | refine blk_drewN ?_ _ | refine blk_drew ?_ | refine blk_alloc ?_ _)); exact BK205.out) hb); have n5_ := Aside0.mk (below_step (by repeat (first | (with_reducible first | exact HB.out | apply below_alloc | apply pw_below_drewN | apply below_drew1 | refine below_set ?_ GE162.out | refine below_set ?_ GE164.out | refine below_set ?_ GE201.out | refine below_set ?_ GE205.out) | exact HB.out)) hb); clear HO189; clear BK162; clear BK164; clear BK201; clear BK205; clear HB; have HO189 := n0_; have BK162 := n1_; have BK164 := n2_; have BK201 := n3_; have BK205 := n4_; have HB := n5_; clear n0_ n1_ n2_ n3_ n4_ n5_; (try clear hb); (try clear hb2); (try clear hk); (try clear hi)) | (go_at_call 20; (with_reducible refine (scuttlebuttref02_Number.calls kj14 a2 a3 t207 _ A95.out).mono ?_); rintro e w123 ⟨rfl, hb⟩; have n0_ := Aside0.mk (Kd.R_below (by (with_reducible repeat (first | apply Kd.R_alloc | apply Kd.R_drewN | apply Kd.R_drew)); exact HO189.out) hb); have n1_ := Aside0.mk (blk_below (g := gb162) (o := .cells #[.string x163000_1, .bool x163001_1] 23 (0, 0)) (by (with_reducible repeat (first | refine blk_drewN ?_ _ | refine blk_drew ?_ | refine blk_alloc ?_ _)); exact BK162.out) hb); have n2_ := Aside0.mk (blk_below (g := gb164) (o := .cells #[.string x165000_1, .bool x165001_1] 28 (0, 0)) (by (with_reducible repeat (first | refine blk_drewN ?_ _ | refine blk_drew ?_ | refine blk_alloc ?_ _)); exact BK164.out) hb); have n3_ := Aside0.mk (blk_below (g := gb201) (o := .cells #[.string t199, .bool t200] 23 (0, 0)) (by (with_reducible repeat (first | refine blk_drewN ?_ _ | refine blk_drew ?_ | refine blk_alloc ?_ _)); exact BK201.out) hb); have n4_ := Aside0.mk (blk_below (g := gb205) (o := .cells #[.string t203, .bool t204] 28 (0, 0)) (by (with_reducible repeat (first | refine blk_drewN ?_ _ | refine blk_drew ?_ | refine blk_alloc ?_ _)); exact BK205.out) hb); have n5_ := Aside0.mk (below_step (by repeat (first | (with_reducible first | exact HB.out | apply below_alloc | apply pw_below_drewN | apply below_drew1 | refine below_set ?_ GE162.out | refine below_set ?_ GE164.out | refine below_set ?_ GE201.out | refine below_set ?_ GE205.out) | exact HB.out)) hb); clear HO189; clear BK162; clear BK164; clear BK201; clear BK205; clear HB; have HO189 := n0_; have BK162 := n1_; have BK164 := n2_; have BK201 := n3_; have BK205 := n4_; have HB := n5_; clear n0_ n1_ n2_ n3_ n4_ n5_; (try clear hb); (try clear hb2); (try clear hk); (try clear hi)) | (go_at_call 20; (with_reducible refine (scuttlebuttref02_Number.calls kj14 a2 (Int.tmod a3 10) t208 _ A97.out).mono ?_); rintro e w124 ⟨rfl, hb⟩; have n0_ := Aside0.mk (Kd.R_below (by (with_reducible repeat (first | apply Kd.R_alloc | apply Kd.R_drewN | apply Kd.R_drew)); exact HO189.out) hb); have n1_ := Aside0.mk (blk_below (g := gb162) (o := .cells #[.string x163000_1, .bool x163001_1] 23 (0, 0)) (by (with_reducible repeat (first | refine blk_drewN ?_ _ | refine blk_drew ?_ | refine blk_alloc ?_ _)); exact BK162.out) hb); have n2_ := Aside0.mk (blk_below (g := gb164) (o := .cells #[.string x165000_1, .bool x165001_1] 28 (0, 0)) (by (with_reducible repeat (first | refine blk_drewN ?_ _ | refine blk_drew ?_ | refine blk_alloc ?_ _)); exact BK164.out) hb); have n3_ := Aside0.mk (blk_below (g := gb201) (o := .cells #[.string t199, .bool t200] 23 (0, 0)) (by (with_reducible repeat (first | refine blk_drewN ?_ _ | refine blk_drew ?_ | refine blk_alloc ?_ _)); exact BK201.out) hb); have n4_ := Aside0.mk (blk_below (g := gb205) (o := .cells #[.string t203, .bool t204] 28 (0, 0)) (by (with_reducible repeat (first | refine blk_drewN ?_ _ | refine blk_drew ?_ | refine blk_alloc ?_ _)); exact BK205.out) hb); have n5_ := Aside0.mk (below_step (by repeat (first | (with_reducible first | exact HB.out | apply below_alloc | apply pw_below_drewN | apply below_drew1 | refine below_set ?_ GE162.out | refine below_set ?_ GE164.out | refine below_set ?_ GE201.out | refine below_set ?_ GE205.out) | exact HB.out)) hb); clear HO189; clear BK162; clear BK164; clear BK201; clear BK205; clear HB; have HO189 := n0_; have BK162 := n1_; have BK164 := n2_; have BK201 := n3_; have BK205 := n4_; have HB := n5_; clear n0_ n1_ n2_ n3_ n4_ n5_; (try clear hb); (try clear hb2); (try clear hk); (try clear hi)))
                            go_ret
                            exact ⟨by first | rfl | (simp [errW_none, errW_some] <;> rfl) | (simp only [← hji81]; first | rfl | (simp [errW_none, errW_some] <;> rfl)) | (simp [*, errW_none, errW_some] <;> rfl), by repeat (first | (with_reducible first | exact HB.out | apply below_alloc | apply pw_below_drewN | apply below_drew1 | refine below_set ?_ GE162.out | refine below_set ?_ GE164.out | refine below_set ?_ GE201.out | refine below_set ?_ GE205.out) | exact HB.out)⟩
                          · (first | rw [if_neg c98] at H | exact absurd rfl c98)
                            exact absurd H (by simp)
                        · (first | rw [if_neg c96] at H | exact absurd rfl c96)
                          exact absurd H (by simp)
                      · (first | rw [if_neg c94] at H | exact absurd rfl c94)
                        exact absurd H (by simp)
                    · (first | rw [if_neg c93] at H | exact absurd rfl c93)
                      exact absurd H (by simp)
                  · (first | rw [if_neg c84] at H | exact absurd rfl c84)
                    exact absurd H (by simp)
                · (first | rw [if_neg c83] at H | exact absurd rfl c83)
                  exact absurd H (by simp)
              · (first | rw [if_neg c82] at H | exact absurd rfl c82)
                exact absurd H (by simp)
  · replace c8 := Bool.eq_false_iff.mpr c8
    (first | subst c8 | clear c8)
    have H1 : (none) = some r := by rw [if_neg (show ¬ (false = true) by decide)] at H; exact H
    clear H
    have H := H1
    clear H1
    exact absurd H (by simp)

/-- THE ONE PURE STATEMENT of scuttlebuttlaw02_PackPlays: yours. -/
def scuttlebuttlaw02_PackPlays.Pure : Prop := ∀ (a0_0 : ByteArray) (a0_1 : Bool) (l1 : List (S30)) (a2 : Int) (a3 : Int) (a4 : ByteArray) (a5 : Int), a0_0.size ≤ 140737488351232 → l1.length ≤ maxLen → l1.length * 16 ≤ 140737488351232 → (∀ x ∈ l1, True ∧ (Lit.int .i64 x.f1).wf = true) → (Lit.int .u64 a2).wf = true → (Lit.int .i64 a3).wf = true → a4.size ≤ 140737488351232 → (Lit.int .u16 a5).wf = true → ∃ k, scuttlebuttlaw02_PackPlays.f k a0_0 a0_1 l1 a2 a3 a4 a5 = some true
theorem scuttlebuttlaw02_PackPlays.walk (P : scuttlebuttlaw02_PackPlays.Pure) (a0_0 : ByteArray) (a0_1 : Bool) (a1 : Option Addr) (cap1 : Nat) (l1 : List S30) (a2 : Int) (a3 : Int) (a4 : ByteArray) (a5 : Int) (w : World) (w0_0 : a0_0.size ≤ 140737488351232) (hr1 : Kd.C k30 w a1 l1.length l1) (hm1 : l1.length ≤ maxLen) (hc1 : l1.length ≤ cap1) (y1 : l1.length * 16 ≤ 140737488351232) (hw1 : (∀ x ∈ l1, True ∧ (Lit.int .i64 x.f1).wf = true)) (w2 : (Lit.int .u64 a2).wf = true) (w3 : (Lit.int .i64 a3).wf = true) (w4 : a4.size ≤ 140737488351232) (w5 : (Lit.int .u16 a5).wf = true) :
    Calls Try.prog 3 #[.agg #[.string a0_0, .bool a0_1], .slice a1 l1.length cap1, .int .u64 a2, .int .i64 a3, .string a4, .int .u16 a5] w fun e w' => e = .returned (.bool true) ∧ Below w.heap.size w w' := by
  obtain ⟨k, h⟩ := P a0_0 a0_1 l1 a2 a3 a4 a5 w0_0 hm1 y1 hw1 w2 w3 w4 w5
  refine (scuttlebuttlaw02_PackPlays.calls k a0_0 a0_1 _ _ l1 a2 a3 a4 a5 true w hr1 hc1 h).mono ?_
  rintro e w' ⟨rfl, hd⟩
  exact ⟨rfl, hd⟩

end Go.Proofs.Ytanjoflhpnephaa.PA
