/- The law law03_AddrTells, for every input: true, and each argument reads as it did. No condition. (The row: by xprint.py, out of the Pure, which is this session's, and the printed walk.) -/
import Derived.Test.YtjlpfmiipicnoaaDoorRows
import Derived.Test.YtjlpfmiipicnoaaDoorPAx13
import Derived.Test.YtjlpfmiipicnoaaDoorPureAddrTells
import Derived.Lib.LaidIn
import Derived.Deep.DeepHandedRow
import Derived.Deep.DeepWitnessRowRef
import Derived.WalkKit
import Derived.ProofKit
import Derived.OpenShut
import Derived.ShutString
import Derived.ChangeOld
import Derived.Below
import Derived.SizedLaws
import Derived.ChangeArms
import Derived.WideShapes
import Derived.Test.YtjlpfmiipicnoaaDoorWSized
namespace Go.Proofs.YtjlpfmiipicnoaaDoor.addrTells
open Go.ChangeShapes Go.WideShapes Go.ChangeAt Go.RowKit
open Go.ChangeMaps (open_string shut_string)
set_option linter.unusedVariables false
set_option linter.unusedSimpArgs false
theorem own : ownKnob Tryd.prog.godebug = none := by kernel_rfl
theorem laidOut : laidOutB Tryd.prog = true := by kernel_rfl
def IsRow (k : IntKind) (w : World) (a : Option Addr) (len cap : Nat) (zs : List Int) : Prop :=
  (a = none ∧ len = 0 ∧ cap = 0 ∧ zs = []) ∨
  ∃ x, a = some x ∧ len ≤ cap ∧ cap ≤ maxLen ∧ zs.length = cap ∧ (∀ i, i < zs.length → w.cell? (x.add i) = some (.int k (zs.getD i 0))) ∧ ∀ n ∈ zs, (Lit.int k n).wf = true
theorem arr2 {α : Type} {cs : Array α} (h : cs.size = 2) : ∃ c0 c1, cs = #[c0, c1] := by
  obtain ⟨l⟩ := cs
  match l, h with
  | [c0, c1], _ => exact ⟨c0, c1, rfl⟩
noncomputable def laidWorld (os : Os) : World :=
  let w0 := World.holding Tryd.prog os ⟨#[], #[], []⟩
  let put (h : Array Obj) (g : Nat) (cs : Array Value) : Array Obj := h.modify g fun
    | .cells _ t frozen => .cells cs t frozen
    | o => o
  let h0 := w0.heap
  let h1 := put h0 0 #[.int .u64 1, .int .u64 10, .int .u64 100, .int .u64 1000, .int .u64 10000, .int .u64 100000, .int .u64 1000000, .int .u64 10000000, .int .u64 100000000, .int .u64 1000000000, .int .u64 10000000000, .int .u64 100000000000, .int .u64 1000000000000, .int .u64 10000000000000, .int .u64 100000000000000, .int .u64 1000000000000000, .int .u64 10000000000000000, .int .u64 100000000000000000, .int .u64 1000000000000000000, .int .u64 10000000000000000000]
  let h2 := put h1 1 #[.int .u8 0, .int .u8 1, .int .u8 28, .int .u8 2, .int .u8 29, .int .u8 14, .int .u8 24, .int .u8 3, .int .u8 30, .int .u8 22, .int .u8 20, .int .u8 15, .int .u8 25, .int .u8 17, .int .u8 4, .int .u8 8, .int .u8 31, .int .u8 27, .int .u8 13, .int .u8 23, .int .u8 21, .int .u8 19, .int .u8 16, .int .u8 7, .int .u8 26, .int .u8 12, .int .u8 18, .int .u8 6, .int .u8 11, .int .u8 5, .int .u8 10, .int .u8 9]
  let h3 := put h2 2 #[.int .u8 0, .int .u8 1, .int .u8 56, .int .u8 2, .int .u8 57, .int .u8 49, .int .u8 28, .int .u8 3, .int .u8 61, .int .u8 58, .int .u8 42, .int .u8 50, .int .u8 38, .int .u8 29, .int .u8 17, .int .u8 4, .int .u8 62, .int .u8 47, .int .u8 59, .int .u8 36, .int .u8 45, .int .u8 43, .int .u8 51, .int .u8 22, .int .u8 53, .int .u8 39, .int .u8 33, .int .u8 30, .int .u8 24, .int .u8 18, .int .u8 12, .int .u8 5, .int .u8 63, .int .u8 55, .int .u8 48, .int .u8 27, .int .u8 60, .int .u8 41, .int .u8 37, .int .u8 16, .int .u8 46, .int .u8 35, .int .u8 44, .int .u8 21, .int .u8 52, .int .u8 32, .int .u8 23, .int .u8 11, .int .u8 54, .int .u8 26, .int .u8 40, .int .u8 15, .int .u8 34, .int .u8 20, .int .u8 31, .int .u8 10, .int .u8 25, .int .u8 14, .int .u8 19, .int .u8 9, .int .u8 13, .int .u8 8, .int .u8 7, .int .u8 6]
  { w0 with heap := h3 }
set_option maxRecDepth 100000 in
theorem laid_met (os : Os) (args : Array Value) : laidMet Tryd.prog Rows.addrTellsRow.laid ((laidWorld os).forCall (fun _ _ => 0) ⟨#[], args, []⟩).memory :=
  (LaidIn.of_run (l := Rows.addrTellsRow.laid) [0, 1, 2] 8 (by kernel_rfl) (by kernel_rfl) (by kernel_rfl) (by kernel_rfl)).met
set_option maxRecDepth 100000 in
theorem witness_row (os : Os) {H : Type} (enc : TypeId × Value → H) :
    (OpenSpec.ofChange Rows.addrTellsSpec).preRow enc Tryd.prog Tryd.f3 Rows.addrTellsRow.domain false Rows.addrTellsRow.laid ((laidWorld os).forCall (fun _ _ => 0) ⟨#[], #[.agg #[.int .u32 0, .int .u16 0], .agg #[.int .u32 0, .int .u16 0]], []⟩).memory #[.agg #[.int .u32 0, .int .u16 0], .agg #[.int .u32 0, .int .u16 0]] := by
  have hw : (DataW.whole enc Tryd.prog ((laidWorld os).forCall (fun _ _ => 0) ⟨#[], #[.agg #[.int .u32 0, .int .u16 0], .agg #[.int .u32 0, .int .u16 0]], []⟩).memory Tryd.f3.params.toList (OpenSpec.ofChange Rows.addrTellsSpec).vars false (#[.agg #[.int .u32 0, .int .u16 0], .agg #[.int .u32 0, .int .u16 0]] : Array Value).toList 8).map (fun x => (x.1, x.2.1)) =
      some ([.agg [.lit (.int .u32 0), .lit (.int .u16 0)], .agg [.lit (.int .u32 0), .lit (.int .u16 0)]], []) := by kernel_rfl
  obtain ⟨⟨x1, x2, x3⟩, hx, hx1⟩ := Option.map_eq_some_iff.1 hw
  simp only [Prod.mk.injEq] at hx1
  obtain ⟨rfl, rfl⟩ := hx1
  exact OpenSpec.preRow_of_cond 8 hx (by kernel_rfl) (fun k hk => by cases hk) (by kernel_rfl) (laid_met os _)
set_option maxRecDepth 100000 in
set_option maxHeartbeats 2000000 in
theorem lifted (os : Os) (started : os.Started) (H : Type) (enc : TypeId × Value → H) (F : Stop.Interp) :
    ReturnsInHanded {} Tryd.checked os 3 .any ((OpenSpec.ofChange Rows.addrTellsSpec).preRow enc Tryd.prog Tryd.f3 Rows.addrTellsRow.domain false Rows.addrTellsRow.laid) (((OpenSpec.ofChange Rows.addrTellsSpec).at F).post enc Tryd.prog Tryd.f3 false true false false) := by
  refine returnsInHanded_of_row (C := Tryd.checked) (s := OpenSpec.ofChange Rows.addrTellsSpec) own started (by kernel_rfl) Tryd.func3
    (witness_row_atRef (enc := enc) (C := Tryd.checked) false (laidWorld os) #[.agg #[.int .u32 0, .int .u16 0], .agg #[.int .u32 0, .int .u16 0]] rfl (by kernel_rfl) (by kernel_rfl) (by kernel_rfl) (witness_row os enc)) ?_
  intro W base args ds gs before hval0 hW hcnd _ hsz0 hL _ _
  have hsz : (DataW.weightsEach Tryd.prog (Tryd.f3.params.toList ++ Rows.addrTellsSpec.plain.varTypes Tryd.prog) (ds ++ gs)).all (· ≤ reachBytes) = true := hsz0
  have hval : ∀ (j : Nat) t v, Tryd.f3.params[j]? = some t → args[j]? = some v → Value.okWide Tryd.prog W .any base t v := hval0
  have hW' := hW
  obtain ⟨p, q, hA0, hV, rfl, hfz, hnd⟩ := hW
  have hA : DataW.TrodAll enc Tryd.prog W 0 (fun _ => true) true Tryd.f3.params.toList args.toList ds p := hA0
  rw [Tryd.params3] at hA hval hsz
  obtain ⟨v0, vs0, d0, ds0, p0, q0, hargs, rfl, rfl, h0, r0⟩ := trodAll_cons hA
  obtain ⟨v1, vs1, d1, ds1, p1, q1, rfl, rfl, rfl, h1, r1⟩ := trodAll_cons r0
  obtain ⟨rfl, rfl, rfl⟩ := trodAll_nil r1
  obtain rfl : args = #[v0, v1] := by cases args; simp_all
  obtain ⟨rfl, rfl⟩ := trodVars_none hV
  have k0 := h0
  have lt0 : ∀ x ∈ p0, x.block < W.heap.size := by obtain ⟨m, hm⟩ := k0; exact DataW.trod_lt m _ _ _ hm
  obtain ⟨cs0, rfl, hs0⟩ := okWide_struct Tryd.underlying25 (hval 0 25 v0 rfl rfl)
  obtain ⟨c0_0, c0_1, rfl⟩ := arr2 (hs0.trans (show Tryd.prog.cellsOf 25 = 2 by kernel_rfl))
  obtain ⟨fu0, hf0⟩ := h0
  obtain ⟨X0, n0, _, hE0, _, L0, F0⟩ := DataW.trod_struct Tryd.underlying25 hf0
  obtain ⟨y0_0, e0_0⟩ : ∃ y, X0[0]? = some y := ⟨_, List.getElem?_eq_getElem (by rw [L0]; exact (by decide : 0 < 2))⟩
  have g0_0 : DataW.trod enc Tryd.prog W 0 (fun _ => true) true n0 22 [c0_0] = some y0_0 := (show DataW.trod enc Tryd.prog W 0 (fun _ => true) true n0 22 _ = X0[0]? from F0 0 _ rfl).trans e0_0
  obtain ⟨b0_0, hb0_0, _, w0_0⟩ := DataW.trod_int Tryd.underlying22 g0_0
  obtain rfl : c0_0 = .int .u32 b0_0 := by simpa using hb0_0
  obtain ⟨y0_1, e0_1⟩ : ∃ y, X0[1]? = some y := ⟨_, List.getElem?_eq_getElem (by rw [L0]; exact (by decide : 1 < 2))⟩
  have g0_1 : DataW.trod enc Tryd.prog W 0 (fun _ => true) true n0 23 [c0_1] = some y0_1 := (show DataW.trod enc Tryd.prog W 0 (fun _ => true) true n0 23 _ = X0[1]? from F0 1 _ rfl).trans e0_1
  obtain ⟨b0_1, hb0_1, _, w0_1⟩ := DataW.trod_int Tryd.underlying23 g0_1
  obtain rfl : c0_1 = .int .u16 b0_1 := by simpa using hb0_1
  have k1 := h1
  have lt1 : ∀ x ∈ p1, x.block < W.heap.size := by obtain ⟨m, hm⟩ := k1; exact DataW.trod_lt m _ _ _ hm
  obtain ⟨cs1, rfl, hs1⟩ := okWide_struct Tryd.underlying25 (hval 1 25 v1 rfl rfl)
  obtain ⟨c1_0, c1_1, rfl⟩ := arr2 (hs1.trans (show Tryd.prog.cellsOf 25 = 2 by kernel_rfl))
  obtain ⟨fu1, hf1⟩ := h1
  obtain ⟨X1, n1, _, hE1, _, L1, F1⟩ := DataW.trod_struct Tryd.underlying25 hf1
  obtain ⟨y1_0, e1_0⟩ : ∃ y, X1[0]? = some y := ⟨_, List.getElem?_eq_getElem (by rw [L1]; exact (by decide : 0 < 2))⟩
  have g1_0 : DataW.trod enc Tryd.prog W 0 (fun _ => true) true n1 22 [c1_0] = some y1_0 := (show DataW.trod enc Tryd.prog W 0 (fun _ => true) true n1 22 _ = X1[0]? from F1 0 _ rfl).trans e1_0
  obtain ⟨b1_0, hb1_0, _, w1_0⟩ := DataW.trod_int Tryd.underlying22 g1_0
  obtain rfl : c1_0 = .int .u32 b1_0 := by simpa using hb1_0
  obtain ⟨y1_1, e1_1⟩ : ∃ y, X1[1]? = some y := ⟨_, List.getElem?_eq_getElem (by rw [L1]; exact (by decide : 1 < 2))⟩
  have g1_1 : DataW.trod enc Tryd.prog W 0 (fun _ => true) true n1 23 [c1_1] = some y1_1 := (show DataW.trod enc Tryd.prog W 0 (fun _ => true) true n1 23 _ = X1[1]? from F1 1 _ rfl).trans e1_1
  obtain ⟨b1_1, hb1_1, _, w1_1⟩ := DataW.trod_int Tryd.underlying23 g1_1
  obtain rfl : c1_1 = .int .u16 b1_1 := by simpa using hb1_1
  (try clear hA0 hval0 hsz0 hsz)
  refine (PA.law03_AddrTells.walk Pure.AddrTells b0_0 b0_1 b1_0 b1_1 W w0_0 w0_1 w1_0 w1_1 ⟨IT.tab_of_laid hL⟩).mono fun e W' ⟨he, bel⟩ => ?_
  subst he
  exact ⟨_, rfl, _, _, _, [], _, [], hW', trodAll_mk1 (shut_bool Tryd.underlying4 _), (trodAll_cons_mk (Below.trod laidOut (by kernel_rfl) (of_decide_eq_true (by kernel_rfl)) k0 bel lt0) (trodAll_cons_mk (Below.trod laidOut (by kernel_rfl) (of_decide_eq_true (by kernel_rfl)) k1 bel lt1) trodAll_mk0)), rfl, bel.frame _, fun h => by cases h⟩
theorem over : Rows.addrTellsRow.holds Tryd.pinned (OpenSpec.ofChange Rows.addrTellsSpec) :=
  OpenClaim.holds_of_cond 3 Tryd.f3 rfl rfl rfl rfl rfl rfl rfl ⟨rfl, rfl, rfl, rfl, rfl⟩ rfl rfl rfl rfl rfl (by kernel_rfl) Tryd.func3 (by kernel_rfl)
    (of_decide_eq_true (by kernel_rfl)) (by unfold Func.isWrapper; first | (rw [if_pos (by decide +kernel)]; kernel_rfl) | (rw [if_neg (by decide +kernel)]; exact ⟨rfl, rfl⟩))
    (fun os started H enc _ F0 => by rw [OpenClaim.pre_eq_preRow]; exact lifted os started H enc F0)
theorem proved : Rows.AddrTellsSaid := over
#print axioms proved
end Go.Proofs.YtjlpfmiipicnoaaDoor.addrTells
namespace Go.Proofs.YtjlpfmiipicnoaaDoor
/-- The row, under a short name, for the claim. -/
theorem addrTells_holds : Rows.AddrTellsSaid := addrTells.proved
end Go.Proofs.YtjlpfmiipicnoaaDoor
