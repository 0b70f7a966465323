/- The law law04_RecordGets, for every input: true, and each argument reads as it did. No condition. (The row: by xprint.py, out of the Pure, which is this session's, and the printed walk.) -/
import Derived.Test.YtalibiaplhmfhaaRows
import Derived.Test.YtalibiaplhmfhaaPAx20
import Derived.Test.YtalibiaplhmfhaaPureRecordGets
import Derived.WalkKit
import Derived.ProofKit
import Derived.OpenShut
import Derived.ShutString
import Derived.ChangeOld
import Derived.Below
import Derived.SizedLaws
import Derived.ChangeArms
import Derived.WideShapes
import Derived.Test.YtalibiaplhmfhaaWSized
namespace Go.Proofs.Ytalibiaplhmfhaa.recordGets
open Go.ChangeShapes Go.WideShapes Go.ChangeAt Go.RowKit
open Go.ChangeMaps (open_string shut_string)
set_option linter.unusedVariables false
set_option linter.unusedSimpArgs false
theorem own : ownKnob Try.prog.godebug = none := by kernel_rfl
theorem laidOut : laidOutB Try.prog = true := by kernel_rfl
def IsRow (k : IntKind) (w : World) (a : Option Addr) (len cap : Nat) (zs : List Int) : Prop :=
  (a = none ∧ len = 0 ∧ cap = 0 ∧ zs = []) ∨
  ∃ x, a = some x ∧ len ≤ cap ∧ cap ≤ maxLen ∧ zs.length = cap ∧ (∀ i, i < zs.length → w.cell? (x.add i) = some (.int k (zs.getD i 0))) ∧ ∀ n ∈ zs, (Lit.int k n).wf = true
theorem arr6 {α : Type} {cs : Array α} (h : cs.size = 6) : ∃ c0 c1 c2 c3 c4 c5, cs = #[c0, c1, c2, c3, c4, c5] := by
  obtain ⟨l⟩ := cs
  match l, h with
  | [c0, c1, c2, c3, c4, c5], _ => exact ⟨c0, c1, c2, c3, c4, c5, rfl⟩
set_option maxRecDepth 100000 in
theorem lifted (os : Os) (started : os.Started) (H : Type) (enc : TypeId × Value → H) :
    ReturnsInHanded {} Try.checked os 4 .any (Rows.recordGetsSpec.pre6 enc Try.prog Try.f4 Rows.recordGetsRow.domain false) (Rows.recordGetsSpec.post enc Try.prog Try.f4 false true false false) := by
  refine returnsInHanded_of_change_sized (C := Try.checked) own started (by kernel_rfl) Try.func4
    (ChangeSpec.witness6 (enc := enc) (C := Try.checked) false ⟨#[], #[.agg #[.int .i64 0, .int .i64 0, .int .u32 0, .int .u32 0, .int .u16 0, .bool false], .string ByteArray.empty, .bool false, .int .i64 0, .int .u8 0], []⟩ 8 (by kernel_rfl) (by kernel_rfl) (by kernel_rfl) (by kernel_rfl)) ?_
  intro W base args ds gs before hval0 hW hcnd hsz0 _
  have hsz : (DataW.weightsEach Try.prog (Try.f4.params.toList ++ Rows.recordGetsSpec.plain.varTypes Try.prog) (ds ++ gs)).all (· ≤ reachBytes) = true := hsz0
  have hval : ∀ (j : Nat) t v, Try.f4.params[j]? = some t → args[j]? = some v → Value.okWide Try.prog W .any base t v := hval0
  have hW' := hW
  obtain ⟨p, q, hA0, hV, rfl, hfz, hnd⟩ := hW
  have hA : DataW.TrodAll enc Try.prog W 0 (fun _ => true) true Try.f4.params.toList args.toList ds p := hA0
  rw [Try.params4] at hA hval hsz
  obtain ⟨v0, vs0, d0, ds0, p0, q0, hargs, rfl, rfl, h0, r0⟩ := trodAll_cons hA
  obtain ⟨v1, vs1, d1, ds1, p1, q1, rfl, rfl, rfl, h1, r1⟩ := trodAll_cons r0
  obtain ⟨v2, vs2, d2, ds2, p2, q2, rfl, rfl, rfl, h2, r2⟩ := trodAll_cons r1
  obtain ⟨v3, vs3, d3, ds3, p3, q3, rfl, rfl, rfl, h3, r3⟩ := trodAll_cons r2
  obtain ⟨v4, vs4, d4, ds4, p4, q4, rfl, rfl, rfl, h4, r4⟩ := trodAll_cons r3
  obtain ⟨rfl, rfl, rfl⟩ := trodAll_nil r4
  obtain rfl : args = #[v0, v1, v2, v3, v4] := by cases args; simp_all
  obtain ⟨rfl, rfl⟩ := trodVars_none hV
  have k0 := h0
  have lt0 : ∀ x ∈ p0, x.block < W.heap.size := by obtain ⟨m, hm⟩ := k0; exact DataW.trod_lt m _ _ _ hm
  obtain ⟨cs0, rfl, hs0⟩ := okWide_struct Try.underlying29 (hval 0 29 v0 rfl rfl)
  obtain ⟨c0_0, c0_1, c0_2, c0_3, c0_4, c0_5, rfl⟩ := arr6 (hs0.trans (show Try.prog.cellsOf 29 = 6 by kernel_rfl))
  obtain ⟨fu0, hf0⟩ := h0
  obtain ⟨X0, n0, _, hE0, _, L0, F0⟩ := DataW.trod_struct Try.underlying29 hf0
  obtain ⟨y0_0, e0_0⟩ : ∃ y, X0[0]? = some y := ⟨_, List.getElem?_eq_getElem (by rw [L0]; exact (by decide : 0 < 2))⟩
  have g0_0 : DataW.trod enc Try.prog W 0 (fun _ => true) true n0 27 [c0_0, c0_1, c0_2, c0_3, c0_4] = some y0_0 := (show DataW.trod enc Try.prog W 0 (fun _ => true) true n0 27 _ = X0[0]? from F0 0 _ rfl).trans e0_0
  obtain ⟨X0_0, n0_0, _, hE0_0, _, L0_0, F0_0⟩ := DataW.trod_struct Try.underlying27 g0_0
  obtain ⟨y0_0_0, e0_0_0⟩ : ∃ y, X0_0[0]? = some y := ⟨_, List.getElem?_eq_getElem (by rw [L0_0]; exact (by decide : 0 < 4))⟩
  have g0_0_0 : DataW.trod enc Try.prog W 0 (fun _ => true) true n0_0 3 [c0_0] = some y0_0_0 := (show DataW.trod enc Try.prog W 0 (fun _ => true) true n0_0 3 _ = X0_0[0]? from F0_0 0 _ rfl).trans e0_0_0
  obtain ⟨b0_0_0, hb0_0_0, _, w0_0_0⟩ := DataW.trod_int Try.underlying3 g0_0_0
  obtain rfl : c0_0 = .int .i64 b0_0_0 := by simpa using hb0_0_0
  obtain ⟨y0_0_1, e0_0_1⟩ : ∃ y, X0_0[1]? = some y := ⟨_, List.getElem?_eq_getElem (by rw [L0_0]; exact (by decide : 1 < 4))⟩
  have g0_0_1 : DataW.trod enc Try.prog W 0 (fun _ => true) true n0_0 3 [c0_1] = some y0_0_1 := (show DataW.trod enc Try.prog W 0 (fun _ => true) true n0_0 3 _ = X0_0[1]? from F0_0 1 _ rfl).trans e0_0_1
  obtain ⟨b0_0_1, hb0_0_1, _, w0_0_1⟩ := DataW.trod_int Try.underlying3 g0_0_1
  obtain rfl : c0_1 = .int .i64 b0_0_1 := by simpa using hb0_0_1
  obtain ⟨y0_0_2, e0_0_2⟩ : ∃ y, X0_0[2]? = some y := ⟨_, List.getElem?_eq_getElem (by rw [L0_0]; exact (by decide : 2 < 4))⟩
  have g0_0_2 : DataW.trod enc Try.prog W 0 (fun _ => true) true n0_0 22 [c0_2] = some y0_0_2 := (show DataW.trod enc Try.prog W 0 (fun _ => true) true n0_0 22 _ = X0_0[2]? from F0_0 2 _ rfl).trans e0_0_2
  obtain ⟨b0_0_2, hb0_0_2, _, w0_0_2⟩ := DataW.trod_int Try.underlying22 g0_0_2
  obtain rfl : c0_2 = .int .u32 b0_0_2 := by simpa using hb0_0_2
  obtain ⟨y0_0_3, e0_0_3⟩ : ∃ y, X0_0[3]? = some y := ⟨_, List.getElem?_eq_getElem (by rw [L0_0]; exact (by decide : 3 < 4))⟩
  have g0_0_3 : DataW.trod enc Try.prog W 0 (fun _ => true) true n0_0 25 [c0_3, c0_4] = some y0_0_3 := (show DataW.trod enc Try.prog W 0 (fun _ => true) true n0_0 25 _ = X0_0[3]? from F0_0 3 _ rfl).trans e0_0_3
  obtain ⟨X0_0_3, n0_0_3, _, hE0_0_3, _, L0_0_3, F0_0_3⟩ := DataW.trod_struct Try.underlying25 g0_0_3
  obtain ⟨y0_0_3_0, e0_0_3_0⟩ : ∃ y, X0_0_3[0]? = some y := ⟨_, List.getElem?_eq_getElem (by rw [L0_0_3]; exact (by decide : 0 < 2))⟩
  have g0_0_3_0 : DataW.trod enc Try.prog W 0 (fun _ => true) true n0_0_3 22 [c0_3] = some y0_0_3_0 := (show DataW.trod enc Try.prog W 0 (fun _ => true) true n0_0_3 22 _ = X0_0_3[0]? from F0_0_3 0 _ rfl).trans e0_0_3_0
  obtain ⟨b0_0_3_0, hb0_0_3_0, _, w0_0_3_0⟩ := DataW.trod_int Try.underlying22 g0_0_3_0
  obtain rfl : c0_3 = .int .u32 b0_0_3_0 := by simpa using hb0_0_3_0
  obtain ⟨y0_0_3_1, e0_0_3_1⟩ : ∃ y, X0_0_3[1]? = some y := ⟨_, List.getElem?_eq_getElem (by rw [L0_0_3]; exact (by decide : 1 < 2))⟩
  have g0_0_3_1 : DataW.trod enc Try.prog W 0 (fun _ => true) true n0_0_3 23 [c0_4] = some y0_0_3_1 := (show DataW.trod enc Try.prog W 0 (fun _ => true) true n0_0_3 23 _ = X0_0_3[1]? from F0_0_3 1 _ rfl).trans e0_0_3_1
  obtain ⟨b0_0_3_1, hb0_0_3_1, _, w0_0_3_1⟩ := DataW.trod_int Try.underlying23 g0_0_3_1
  obtain rfl : c0_4 = .int .u16 b0_0_3_1 := by simpa using hb0_0_3_1
  obtain ⟨y0_1, e0_1⟩ : ∃ y, X0[1]? = some y := ⟨_, List.getElem?_eq_getElem (by rw [L0]; exact (by decide : 1 < 2))⟩
  have g0_1 : DataW.trod enc Try.prog W 0 (fun _ => true) true n0 4 [c0_5] = some y0_1 := (show DataW.trod enc Try.prog W 0 (fun _ => true) true n0 4 _ = X0[1]? from F0 1 _ rfl).trans e0_1
  obtain ⟨b0_1, hb0_1, _⟩ := DataW.trod_bool Try.underlying4 g0_1
  obtain rfl : c0_5 = .bool b0_1 := by simpa using hb0_1
  obtain ⟨a1, rfl, rfl, rfl, y1⟩ := open_string Try.underlying9 (hval 1 9 v1 rfl rfl) h1
  have w1 : a1.size ≤ 140737488351232 := by
    have z := sized_string hsz (j := 1) (t := 9) rfl rfl
    rw [Array.length_toList] at z
    exact z
  obtain ⟨a2, rfl, rfl, rfl⟩ := open_bool Try.underlying4 (hval 2 4 v2 rfl rfl) h2
  obtain ⟨a3, rfl, rfl, rfl, w3⟩ := open_int Try.underlying3 (hval 3 3 v3 rfl rfl) h3
  obtain ⟨a4, rfl, rfl, rfl, w4⟩ := open_int Try.underlying5 (hval 4 5 v4 rfl rfl) h4
  (try clear hA0 hval0 hsz0 hsz)
  refine (PA.law04_RecordGets.walk Pure.RecordGets b0_0_0 b0_0_1 b0_0_2 b0_0_3_0 b0_0_3_1 b0_1 a1 a2 a3 a4 W w0_0_0 w0_0_1 w0_0_2 w0_0_3_0 w0_0_3_1 w1 w3 w4).mono fun e W' ⟨he, bel⟩ => ?_
  subst he
  exact ⟨_, rfl, _, _, _, [], _, [], hW', trodAll_mk1 (shut_bool Try.underlying4 _), (trodAll_cons_mk (Below.trod laidOut (by kernel_rfl) (of_decide_eq_true (by kernel_rfl)) k0 bel lt0) (trodAll_cons_mk (shut_string Try.underlying9 y1) (trodAll_cons_mk (shut_bool Try.underlying4 _) (trodAll_cons_mk (shut_int Try.underlying3 w3) (trodAll_cons_mk (shut_int Try.underlying5 w4) trodAll_mk0))))), rfl, bel.frame _, fun h => by cases h⟩
theorem over : Rows.recordGetsRow.holds Try.pinned (OpenSpec.ofChange Rows.recordGetsSpec) :=
  OpenClaim.holds_of_wide 4 Try.f4 rfl rfl rfl rfl rfl rfl rfl ⟨rfl, rfl, rfl, rfl, rfl⟩ rfl rfl rfl rfl rfl (by kernel_rfl) Try.func4 (by kernel_rfl)
    (of_decide_eq_true (by kernel_rfl)) (by unfold Func.isWrapper; first | (rw [if_pos (by decide +kernel)]; kernel_rfl) | (rw [if_neg (by decide +kernel)]; exact ⟨rfl, rfl⟩))
    (fun os started H enc _ => lifted os started H enc)
theorem proved : Rows.RecordGetsSaid := over
#print axioms proved
end Go.Proofs.Ytalibiaplhmfhaa.recordGets
namespace Go.Proofs.Ytalibiaplhmfhaa
/-- The row, under a short name, for the claim. -/
theorem recordGets_holds : Rows.RecordGetsSaid := recordGets.proved
end Go.Proofs.Ytalibiaplhmfhaa
