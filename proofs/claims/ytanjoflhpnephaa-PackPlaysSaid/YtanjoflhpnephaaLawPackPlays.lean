/- The law scuttlebuttlaw02_PackPlays, for every input: true, and each argument reads as it did. No condition. (The row: by xprint.py, out of the Pure, which is this session's, and the printed walk.) -/
import Derived.Test.YtanjoflhpnephaaXRow
import Derived.Test.YtanjoflhpnephaaRows
import Derived.Test.YtanjoflhpnephaaPAx6
import Derived.Test.YtanjoflhpnephaaPurePackPlays
import Derived.WalkKit
import Derived.ProofKit
import Derived.OpenShut
import Derived.ShutString
import Derived.ChangeOld
import Derived.Below
import Derived.SizedLaws
import Derived.ChangeArms
import Derived.WideShapes
import Derived.Test.YtanjoflhpnephaaWSized
namespace Go.Proofs.Ytanjoflhpnephaa.packPlays
open Go.ChangeShapes Go.WideShapes Go.ChangeAt Go.RowKit
open Go.ChangeMaps (open_string shut_string)
set_option linter.unusedVariables false
set_option linter.unusedSimpArgs false
theorem own : ownKnob Try.prog.godebug = none := by kernel_rfl
theorem laidOut : laidOutB Try.prog = true := by kernel_rfl
def IsRow (k : IntKind) (w : World) (a : Option Addr) (len cap : Nat) (zs : List Int) : Prop :=
  (a = none ∧ len = 0 ∧ cap = 0 ∧ zs = []) ∨
  ∃ x, a = some x ∧ len ≤ cap ∧ cap ≤ maxLen ∧ zs.length = cap ∧ (∀ i, i < zs.length → w.cell? (x.add i) = some (.int k (zs.getD i 0))) ∧ ∀ n ∈ zs, (Lit.int k n).wf = true
theorem arr2 {α : Type} {cs : Array α} (h : cs.size = 2) : ∃ c0 c1, cs = #[c0, c1] := by
  obtain ⟨l⟩ := cs
  match l, h with
  | [c0, c1], _ => exact ⟨c0, c1, rfl⟩
set_option maxRecDepth 100000 in
theorem lifted (os : Os) (started : os.Started) (H : Type) (enc : TypeId × Value → H) :
    ReturnsInHanded {} Try.checked os 3 .any (Rows.packPlaysSpec.pre6 enc Try.prog Try.f3 Rows.packPlaysRow.domain false) (Rows.packPlaysSpec.post enc Try.prog Try.f3 false true false false) := by
  refine returnsInHanded_of_change_sized (C := Try.checked) own started (by kernel_rfl) Try.func3
    (ChangeSpec.witness6 (enc := enc) (C := Try.checked) false ⟨#[], #[.agg #[.string ByteArray.empty, .bool false], .slice none 0 0, .int .u64 0, .int .i64 0, .string ByteArray.empty, .int .u16 0], []⟩ 8 (by kernel_rfl) (by kernel_rfl) (by kernel_rfl) (by kernel_rfl)) ?_
  intro W base args ds gs before hval0 hW hcnd hsz0 _
  have hsz : (DataW.weightsEach Try.prog (Try.f3.params.toList ++ Rows.packPlaysSpec.plain.varTypes Try.prog) (ds ++ gs)).all (· ≤ reachBytes) = true := hsz0
  have hval : ∀ (j : Nat) t v, Try.f3.params[j]? = some t → args[j]? = some v → Value.okWide Try.prog W .any base t v := hval0
  have hW' := hW
  obtain ⟨p, q, hA0, hV, rfl, hfz, hnd⟩ := hW
  have hA : DataW.TrodAll enc Try.prog W 0 (fun _ => true) true Try.f3.params.toList args.toList ds p := hA0
  rw [Try.params3] at hA hval hsz
  obtain ⟨v0, vs0, d0, ds0, p0, q0, hargs, rfl, rfl, h0, r0⟩ := trodAll_cons hA
  obtain ⟨v1, vs1, d1, ds1, p1, q1, rfl, rfl, rfl, h1, r1⟩ := trodAll_cons r0
  obtain ⟨v2, vs2, d2, ds2, p2, q2, rfl, rfl, rfl, h2, r2⟩ := trodAll_cons r1
  obtain ⟨v3, vs3, d3, ds3, p3, q3, rfl, rfl, rfl, h3, r3⟩ := trodAll_cons r2
  obtain ⟨v4, vs4, d4, ds4, p4, q4, rfl, rfl, rfl, h4, r4⟩ := trodAll_cons r3
  obtain ⟨v5, vs5, d5, ds5, p5, q5, rfl, rfl, rfl, h5, r5⟩ := trodAll_cons r4
  obtain ⟨rfl, rfl, rfl⟩ := trodAll_nil r5
  obtain rfl : args = #[v0, v1, v2, v3, v4, v5] := by cases args; simp_all
  obtain ⟨rfl, rfl⟩ := trodVars_none hV
  have k0 := h0
  have lt0 : ∀ x ∈ p0, x.block < W.heap.size := by obtain ⟨m, hm⟩ := k0; exact DataW.trod_lt m _ _ _ hm
  obtain ⟨cs0, rfl, hs0⟩ := okWide_struct Try.underlying23 (hval 0 23 v0 rfl rfl)
  obtain ⟨c0_0, c0_1, rfl⟩ := arr2 (hs0.trans (show Try.prog.cellsOf 23 = 2 by kernel_rfl))
  obtain ⟨fu0, hf0⟩ := h0
  obtain ⟨X0, n0, _, hE0, _, L0, F0⟩ := DataW.trod_struct Try.underlying23 hf0
  have Z0 := Go.Proofs.YtanjoflhpnephaaX.sized_in hsz (j := 0) (t := 23) rfl ((show _ = some d0 from rfl).trans (congrArg some (Prod.mk.inj hE0).1)) Try.underlying23
  obtain ⟨y0_0, e0_0⟩ : ∃ y, X0[0]? = some y := ⟨_, List.getElem?_eq_getElem (by rw [L0]; exact (by decide : 0 < 2))⟩
  have g0_0 : DataW.trod enc Try.prog W 0 (fun _ => true) true n0 9 [c0_0] = some y0_0 := (show DataW.trod enc Try.prog W 0 (fun _ => true) true n0 9 _ = X0[0]? from F0 0 _ rfl).trans e0_0
  obtain ⟨b0_0, hb0_0, hy0_0, _⟩ := DataW.trod_string Try.underlying9 g0_0
  obtain rfl : c0_0 = .string b0_0 := by simpa using hb0_0
  have w0_0 : b0_0.size ≤ 140737488351232 := by
    have z := sized_string Z0 (j := 0) (t := 9) (bytes := b0_0.data.toList) rfl (by rw [List.getElem?_map, e0_0, hy0_0]; rfl)
    rw [Array.length_toList] at z
    exact z
  obtain ⟨y0_1, e0_1⟩ : ∃ y, X0[1]? = some y := ⟨_, List.getElem?_eq_getElem (by rw [L0]; exact (by decide : 1 < 2))⟩
  have g0_1 : DataW.trod enc Try.prog W 0 (fun _ => true) true n0 4 [c0_1] = some y0_1 := (show DataW.trod enc Try.prog W 0 (fun _ => true) true n0 4 _ = X0[1]? from F0 1 _ rfl).trans e0_1
  obtain ⟨b0_1, hb0_1, _⟩ := DataW.trod_bool Try.underlying4 g0_1
  obtain rfl : c0_1 = .bool b0_1 := by simpa using hb0_1
  obtain ⟨a1, len1, cap1, rfl⟩ := okWide_slice Try.underlying24 (hval 1 24 v1 rfl rfl)
  have k1 := h1
  have lt1 : ∀ x ∈ p1, x.block < W.heap.size := by obtain ⟨m, hm⟩ := k1; exact DataW.trod_lt m _ _ _ hm
  obtain ⟨l1, rfl, hr1, hm1, hw1, hc1, y1⟩ := Go.Proofs.YtanjoflhpnephaaX.open_pairs_of (mk := fun x y => (⟨x, y⟩ : PA.S30)) (f := fun x => (x.f0, x.f1)) (fun _ _ => rfl) Value.bool (Value.int .i64) (fun _ => rfl) (fun _ => rfl) (fun _ => True) (fun n => (Lit.int .i64 n).wf = true) hsz (j := 1) (t := 24) rfl rfl Try.underlying24 Try.underlying30 (by kernel_rfl) rfl rfl (by kernel_rfl) (by kernel_rfl) (fun _ _ _ h => by obtain ⟨b, h1, _⟩ := DataW.trod_bool Try.underlying4 h; exact ⟨b, h1, trivial⟩) (fun _ _ _ h => by obtain ⟨n, h1, _, h3⟩ := DataW.trod_int Try.underlying3 h; exact ⟨n, h1, h3⟩) (by kernel_rfl) h1
  obtain ⟨a2, rfl, rfl, rfl, w2⟩ := open_int Try.underlying25 (hval 2 25 v2 rfl rfl) h2
  obtain ⟨a3, rfl, rfl, rfl, w3⟩ := open_int Try.underlying3 (hval 3 3 v3 rfl rfl) h3
  obtain ⟨a4, rfl, rfl, rfl, y4⟩ := open_string Try.underlying9 (hval 4 9 v4 rfl rfl) h4
  have w4 : a4.size ≤ 140737488351232 := by
    have z := sized_string hsz (j := 4) (t := 9) rfl rfl
    rw [Array.length_toList] at z
    exact z
  obtain ⟨a5, rfl, rfl, rfl, w5⟩ := open_int Try.underlying26 (hval 5 26 v5 rfl rfl) h5
  (try clear hA0 hval0 hsz0 hsz)
  refine (PA.scuttlebuttlaw02_PackPlays.walk Pure.PackPlays b0_0 b0_1 a1 cap1 l1 a2 a3 a4 a5 W w0_0 hr1 hm1 hc1 y1 hw1 w2 w3 w4 w5).mono fun e W' ⟨he, bel⟩ => ?_
  subst he
  exact ⟨_, rfl, _, _, _, [], _, [], hW', trodAll_mk1 (shut_bool Try.underlying4 _), (trodAll_cons_mk (Below.trod laidOut (by kernel_rfl) (of_decide_eq_true (by kernel_rfl)) k0 bel lt0) (trodAll_cons_mk (Below.trod laidOut (by kernel_rfl) (of_decide_eq_true (by kernel_rfl)) k1 bel lt1) (trodAll_cons_mk (shut_int Try.underlying25 w2) (trodAll_cons_mk (shut_int Try.underlying3 w3) (trodAll_cons_mk (shut_string Try.underlying9 y4) (trodAll_cons_mk (shut_int Try.underlying26 w5) trodAll_mk0)))))), rfl, bel.frame _, fun h => by cases h⟩
theorem over : Rows.packPlaysRow.holds Try.pinned (OpenSpec.ofChange Rows.packPlaysSpec) :=
  OpenClaim.holds_of_wide 3 Try.f3 rfl rfl rfl rfl rfl rfl rfl ⟨rfl, rfl, rfl, rfl, rfl⟩ rfl rfl rfl rfl rfl (by kernel_rfl) Try.func3 (by kernel_rfl)
    (of_decide_eq_true (by kernel_rfl)) (by unfold Func.isWrapper; first | (rw [if_pos (by decide +kernel)]; kernel_rfl) | (rw [if_neg (by decide +kernel)]; exact ⟨rfl, rfl⟩))
    (fun os started H enc _ => lifted os started H enc)
theorem proved : Rows.PackPlaysSaid := over
#print axioms proved
end Go.Proofs.Ytanjoflhpnephaa.packPlays
namespace Go.Proofs.Ytanjoflhpnephaa
/-- The row, under a short name, for the claim. -/
theorem packPlays_holds : Rows.PackPlaysSaid := packPlays.proved
end Go.Proofs.Ytanjoflhpnephaa
