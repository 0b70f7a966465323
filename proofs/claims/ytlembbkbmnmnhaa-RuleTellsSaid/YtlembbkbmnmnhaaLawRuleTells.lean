/- The law scuttlebuttlaw07_RuleTells, for every input: true, and each argument reads as it did. No condition. (The row: by xprint.py, out of the Pure, which is this session's, and the printed walk.) -/
import Derived.Test.YtlembbkbmnmnhaaXRow
import Derived.Test.YtlembbkbmnmnhaaRows
import Derived.Test.YtlembbkbmnmnhaaPAx8
import Derived.Test.YtlembbkbmnmnhaaPureRuleTells
import Derived.WalkKit
import Derived.ProofKit
import Derived.OpenShut
import Derived.ShutString
import Derived.ChangeOld
import Derived.Below
import Derived.SizedLaws
import Derived.ChangeArms
import Derived.WideShapes
import Derived.Test.YtlembbkbmnmnhaaWSized
namespace Go.Proofs.Ytlembbkbmnmnhaa.ruleTells
open Go.ChangeShapes Go.WideShapes Go.ChangeAt Go.RowKit
open Go.ChangeMaps (open_string shut_string)
set_option linter.unusedVariables false
set_option linter.unusedSimpArgs false
theorem own : ownKnob Try.prog.godebug = none := by kernel_rfl
theorem laidOut : laidOutB Try.prog = true := by kernel_rfl
def IsRow (k : IntKind) (w : World) (a : Option Addr) (len cap : Nat) (zs : List Int) : Prop :=
  (a = none ∧ len = 0 ∧ cap = 0 ∧ zs = []) ∨
  ∃ x, a = some x ∧ len ≤ cap ∧ cap ≤ maxLen ∧ zs.length = cap ∧ (∀ i, i < zs.length → w.cell? (x.add i) = some (.int k (zs.getD i 0))) ∧ ∀ n ∈ zs, (Lit.int k n).wf = true
theorem arr2 {α : Type} {cs : Array α} (h : cs.size = 2) : ∃ c0 c1, cs = #[c0, c1] := by
  obtain ⟨l⟩ := cs
  match l, h with
  | [c0, c1], _ => exact ⟨c0, c1, rfl⟩
set_option maxRecDepth 100000 in
theorem lifted (os : Os) (started : os.Started) (H : Type) (enc : TypeId × Value → H) :
    ReturnsInHanded {} Try.checked os 3 .any (Rows.ruleTellsSpec.pre6 enc Try.prog Try.f3 Rows.ruleTellsRow.domain false) (Rows.ruleTellsSpec.post enc Try.prog Try.f3 false true false false) := by
  refine returnsInHanded_of_change_sized (C := Try.checked) own started (by kernel_rfl) Try.func3
    (ChangeSpec.witness6 (enc := enc) (C := Try.checked) false ⟨#[], #[.agg #[.int .i64 0, .int .i64 0], .agg #[.int .i64 0, .int .i64 0], .bool false, .slice none 0 0, .agg #[.int .u32 0, .int .u16 0], .int .u8 0], []⟩ 8 (by kernel_rfl) (by kernel_rfl) (by kernel_rfl) (by kernel_rfl)) ?_
  intro W base args ds gs before hval0 hW hcnd hsz0 _
  have hsz : (DataW.weightsEach Try.prog (Try.f3.params.toList ++ Rows.ruleTellsSpec.plain.varTypes Try.prog) (ds ++ gs)).all (· ≤ reachBytes) = true := hsz0
  have hval : ∀ (j : Nat) t v, Try.f3.params[j]? = some t → args[j]? = some v → Value.okWide Try.prog W .any base t v := hval0
  have hW' := hW
  obtain ⟨p, q, hA0, hV, rfl, hfz, hnd⟩ := hW
  have hA : DataW.TrodAll enc Try.prog W 0 (fun _ => true) true Try.f3.params.toList args.toList ds p := hA0
  rw [Try.params3] at hA hval hsz
  obtain ⟨v0, vs0, d0, ds0, p0, q0, hargs, rfl, rfl, h0, r0⟩ := trodAll_cons hA
  obtain ⟨v1, vs1, d1, ds1, p1, q1, rfl, rfl, rfl, h1, r1⟩ := trodAll_cons r0
  obtain ⟨v2, vs2, d2, ds2, p2, q2, rfl, rfl, rfl, h2, r2⟩ := trodAll_cons r1
  obtain ⟨v3, vs3, d3, ds3, p3, q3, rfl, rfl, rfl, h3, r3⟩ := trodAll_cons r2
  obtain ⟨v4, vs4, d4, ds4, p4, q4, rfl, rfl, rfl, h4, r4⟩ := trodAll_cons r3
  obtain ⟨v5, vs5, d5, ds5, p5, q5, rfl, rfl, rfl, h5, r5⟩ := trodAll_cons r4
  obtain ⟨rfl, rfl, rfl⟩ := trodAll_nil r5
  obtain rfl : args = #[v0, v1, v2, v3, v4, v5] := by cases args; simp_all
  obtain ⟨rfl, rfl⟩ := trodVars_none hV
  have k0 := h0
  have lt0 : ∀ x ∈ p0, x.block < W.heap.size := by obtain ⟨m, hm⟩ := k0; exact DataW.trod_lt m _ _ _ hm
  obtain ⟨cs0, rfl, hs0⟩ := okWide_struct Try.underlying23 (hval 0 23 v0 rfl rfl)
  obtain ⟨c0_0, c0_1, rfl⟩ := arr2 (hs0.trans (show Try.prog.cellsOf 23 = 2 by kernel_rfl))
  obtain ⟨fu0, hf0⟩ := h0
  obtain ⟨X0, n0, _, _, _, L0, F0⟩ := DataW.trod_struct Try.underlying23 hf0
  obtain ⟨y0_0, e0_0⟩ : ∃ y, X0[0]? = some y := ⟨_, List.getElem?_eq_getElem (by rw [L0]; exact (by decide : 0 < 2))⟩
  have g0_0 : DataW.trod enc Try.prog W 0 (fun _ => true) true n0 3 [c0_0] = some y0_0 := (show DataW.trod enc Try.prog W 0 (fun _ => true) true n0 3 _ = X0[0]? from F0 0 _ rfl).trans e0_0
  obtain ⟨b0_0, hb0_0, _, w0_0⟩ := DataW.trod_int Try.underlying3 g0_0
  obtain rfl : c0_0 = .int .i64 b0_0 := by simpa using hb0_0
  obtain ⟨y0_1, e0_1⟩ : ∃ y, X0[1]? = some y := ⟨_, List.getElem?_eq_getElem (by rw [L0]; exact (by decide : 1 < 2))⟩
  have g0_1 : DataW.trod enc Try.prog W 0 (fun _ => true) true n0 3 [c0_1] = some y0_1 := (show DataW.trod enc Try.prog W 0 (fun _ => true) true n0 3 _ = X0[1]? from F0 1 _ rfl).trans e0_1
  obtain ⟨b0_1, hb0_1, _, w0_1⟩ := DataW.trod_int Try.underlying3 g0_1
  obtain rfl : c0_1 = .int .i64 b0_1 := by simpa using hb0_1
  have k1 := h1
  have lt1 : ∀ x ∈ p1, x.block < W.heap.size := by obtain ⟨m, hm⟩ := k1; exact DataW.trod_lt m _ _ _ hm
  obtain ⟨cs1, rfl, hs1⟩ := okWide_struct Try.underlying23 (hval 1 23 v1 rfl rfl)
  obtain ⟨c1_0, c1_1, rfl⟩ := arr2 (hs1.trans (show Try.prog.cellsOf 23 = 2 by kernel_rfl))
  obtain ⟨fu1, hf1⟩ := h1
  obtain ⟨X1, n1, _, _, _, L1, F1⟩ := DataW.trod_struct Try.underlying23 hf1
  obtain ⟨y1_0, e1_0⟩ : ∃ y, X1[0]? = some y := ⟨_, List.getElem?_eq_getElem (by rw [L1]; exact (by decide : 0 < 2))⟩
  have g1_0 : DataW.trod enc Try.prog W 0 (fun _ => true) true n1 3 [c1_0] = some y1_0 := (show DataW.trod enc Try.prog W 0 (fun _ => true) true n1 3 _ = X1[0]? from F1 0 _ rfl).trans e1_0
  obtain ⟨b1_0, hb1_0, _, w1_0⟩ := DataW.trod_int Try.underlying3 g1_0
  obtain rfl : c1_0 = .int .i64 b1_0 := by simpa using hb1_0
  obtain ⟨y1_1, e1_1⟩ : ∃ y, X1[1]? = some y := ⟨_, List.getElem?_eq_getElem (by rw [L1]; exact (by decide : 1 < 2))⟩
  have g1_1 : DataW.trod enc Try.prog W 0 (fun _ => true) true n1 3 [c1_1] = some y1_1 := (show DataW.trod enc Try.prog W 0 (fun _ => true) true n1 3 _ = X1[1]? from F1 1 _ rfl).trans e1_1
  obtain ⟨b1_1, hb1_1, _, w1_1⟩ := DataW.trod_int Try.underlying3 g1_1
  obtain rfl : c1_1 = .int .i64 b1_1 := by simpa using hb1_1
  obtain ⟨a2, rfl, rfl, rfl⟩ := open_bool Try.underlying4 (hval 2 4 v2 rfl rfl) h2
  obtain ⟨a3, len3, cap3, rfl⟩ := okWide_slice Try.underlying24 (hval 3 24 v3 rfl rfl)
  have k3 := h3
  have lt3 : ∀ x ∈ p3, x.block < W.heap.size := by obtain ⟨m, hm⟩ := k3; exact DataW.trod_lt m _ _ _ hm
  obtain ⟨l3, rfl, hr3, hm3, hw3, hc3, y3⟩ := Go.Proofs.YtlembbkbmnmnhaaX.open_pairs (mk := fun x y => (⟨x, y⟩ : PA.S28)) (f := fun x => (x.f0, x.f1)) (fun _ _ => rfl) hsz (j := 3) (t := 24) rfl rfl Try.underlying24 Try.underlying28 (by kernel_rfl) rfl rfl (by kernel_rfl) (by kernel_rfl) Try.underlying25 Try.underlying26 (by kernel_rfl) h3
  have k4 := h4
  have lt4 : ∀ x ∈ p4, x.block < W.heap.size := by obtain ⟨m, hm⟩ := k4; exact DataW.trod_lt m _ _ _ hm
  obtain ⟨cs4, rfl, hs4⟩ := okWide_struct Try.underlying28 (hval 4 28 v4 rfl rfl)
  obtain ⟨c4_0, c4_1, rfl⟩ := arr2 (hs4.trans (show Try.prog.cellsOf 28 = 2 by kernel_rfl))
  obtain ⟨fu4, hf4⟩ := h4
  obtain ⟨X4, n4, _, _, _, L4, F4⟩ := DataW.trod_struct Try.underlying28 hf4
  obtain ⟨y4_0, e4_0⟩ : ∃ y, X4[0]? = some y := ⟨_, List.getElem?_eq_getElem (by rw [L4]; exact (by decide : 0 < 2))⟩
  have g4_0 : DataW.trod enc Try.prog W 0 (fun _ => true) true n4 25 [c4_0] = some y4_0 := (show DataW.trod enc Try.prog W 0 (fun _ => true) true n4 25 _ = X4[0]? from F4 0 _ rfl).trans e4_0
  obtain ⟨b4_0, hb4_0, _, w4_0⟩ := DataW.trod_int Try.underlying25 g4_0
  obtain rfl : c4_0 = .int .u32 b4_0 := by simpa using hb4_0
  obtain ⟨y4_1, e4_1⟩ : ∃ y, X4[1]? = some y := ⟨_, List.getElem?_eq_getElem (by rw [L4]; exact (by decide : 1 < 2))⟩
  have g4_1 : DataW.trod enc Try.prog W 0 (fun _ => true) true n4 26 [c4_1] = some y4_1 := (show DataW.trod enc Try.prog W 0 (fun _ => true) true n4 26 _ = X4[1]? from F4 1 _ rfl).trans e4_1
  obtain ⟨b4_1, hb4_1, _, w4_1⟩ := DataW.trod_int Try.underlying26 g4_1
  obtain rfl : c4_1 = .int .u16 b4_1 := by simpa using hb4_1
  obtain ⟨a5, rfl, rfl, rfl, w5⟩ := open_int Try.underlying5 (hval 5 5 v5 rfl rfl) h5
  (try clear hA0 hval0 hsz0 hsz)
  refine (PA.scuttlebuttlaw07_RuleTells.walk Pure.RuleTells b0_0 b0_1 b1_0 b1_1 a2 a3 cap3 l3 b4_0 b4_1 a5 W w0_0 w0_1 w1_0 w1_1 hr3 hm3 hc3 y3 hw3 w4_0 w4_1 w5).mono fun e W' ⟨he, bel⟩ => ?_
  subst he
  exact ⟨_, rfl, _, _, _, [], _, [], hW', trodAll_mk1 (shut_bool Try.underlying4 _), (trodAll_cons_mk (Below.trod laidOut (by kernel_rfl) (of_decide_eq_true (by kernel_rfl)) k0 bel lt0) (trodAll_cons_mk (Below.trod laidOut (by kernel_rfl) (of_decide_eq_true (by kernel_rfl)) k1 bel lt1) (trodAll_cons_mk (shut_bool Try.underlying4 _) (trodAll_cons_mk (Below.trod laidOut (by kernel_rfl) (of_decide_eq_true (by kernel_rfl)) k3 bel lt3) (trodAll_cons_mk (Below.trod laidOut (by kernel_rfl) (of_decide_eq_true (by kernel_rfl)) k4 bel lt4) (trodAll_cons_mk (shut_int Try.underlying5 w5) trodAll_mk0)))))), rfl, bel.frame _, fun h => by cases h⟩
theorem over : Rows.ruleTellsRow.holds Try.pinned (OpenSpec.ofChange Rows.ruleTellsSpec) :=
  OpenClaim.holds_of_wide 3 Try.f3 rfl rfl rfl rfl rfl rfl rfl ⟨rfl, rfl, rfl, rfl, rfl⟩ rfl rfl rfl rfl rfl (by kernel_rfl) Try.func3 (by kernel_rfl)
    (of_decide_eq_true (by kernel_rfl)) (by unfold Func.isWrapper; first | (rw [if_pos (by decide +kernel)]; kernel_rfl) | (rw [if_neg (by decide +kernel)]; exact ⟨rfl, rfl⟩))
    (fun os started H enc _ => lifted os started H enc)
theorem proved : Rows.RuleTellsSaid := over
#print axioms proved
end Go.Proofs.Ytlembbkbmnmnhaa.ruleTells
namespace Go.Proofs.Ytlembbkbmnmnhaa
/-- The row, under a short name, for the claim. -/
theorem ruleTells_holds : Rows.RuleTellsSaid := ruleTells.proved
end Go.Proofs.Ytlembbkbmnmnhaa
