/- A plan by its parts, opened; New with no room. Conditions: those that each theorem names. -/
import Derived.Test.YtobfabfoenldfaaPW3
import Derived.Deep.Slices
import Derived.ChangeArms
import Derived.OpenShut
import Derived.WalkKit
import Derived.ProofKit
namespace Go.Proofs.Ytobfabfoenldfaa.NW
set_option linter.unusedVariables false
set_option linter.unusedSimpArgs false
open Go Go.RowKit Go.Proofs.YtobfabfoenldfaaS Go.Proofs.YtobfabfoenldfaaS.Asn Go.Proofs.Ytobfabfoenldfaa.PA Go.Proofs.YtobfabfoenldfaaW.PrintWords Go.Proofs.YtobfabfoenldfaaW.PrintLast Go.Proofs.YtobfabfoenldfaaW.PrintMore Go.Deep Go.ChangeShapes Go.WideShapes


open Go.Proofs.Ytobfabfoenldfaa.BG
section
variable {H : Type} {enc : TypeId × Value → H} {P : Program} {W : World} {base fuel n : Nat} {spare : Nat → Bool} {held : Bool} {cs : List Value} {x : DataW H × List MemPlace}
theorem fld {fs : Array Field} {xs : List (DataW H × List MemPlace)} (hf : ∀ (i : Nat) (f : Field), fs[i]? = some f → DataW.trod enc P W base spare held n f.type ((cs.drop f.offset).take (P.cellsOf f.type)) = xs[i]?) (i : Nat) (f : Field) (hi : fs[i]? = some f) {t o c : Nat} {ys : List Value} {y : DataW H × List MemPlace} (ht : f.type = t) (ho : f.offset = o) (hc : P.cellsOf t = c) (hy : (cs.drop o).take c = ys) (hx : xs[i]? = some y) :
    DataW.trod enc P W base spare held n t ys = some y := by
  subst ht ho hc hy
  rw [hf i f hi, hx]
theorem open_bytes (h : DataW.trod enc Try.prog W base spare held fuel 47 cs = some x) :
    ∃ (a : Option Addr) (cap : Nat) (l : List Int), cs = [.slice a l.length cap] ∧ (Kd.int .u8).C W a l.length l ∧ ∀ x ∈ l, 0 ≤ x ∧ x < 256 := by
  rcases open_ints Try.underlying47 Try.underlying5 (by kernel_rfl) h with ⟨hcs, _⟩ | ⟨x, l, c, zs, hcs, _, hl, hm, hz, _, hcell, hwz⟩
  · exact ⟨none, 0, [], hcs, ⟨rfl, by simp, fun hn => absurd hn (by simp)⟩, by simp⟩
  · have hz' : l ≤ zs.length := by rw [hz]; split <;> omega
    have hlen : (zs.take l).length = l := by rw [List.length_take]; omega
    refine ⟨some x, c, zs.take l, by rw [hlen]; exact hcs, ?_, fun y hy => ?_⟩
    · rw [hlen]
      refine ⟨hlen, by unfold maxLen at hm; omega, fun hn => ⟨x, rfl, fun j p hjp => ?_⟩⟩
      have hj : j < l := by rw [← hlen]; exact (List.getElem?_eq_some_iff.1 hjp).1
      rw [List.getElem?_take_of_lt hj] at hjp
      refine ⟨[.int .u8 p], rfl, rfl, fun i u hu => ?_⟩
      have h0 := hcell j (by omega)
      rw [List.getD_eq_getElem?_getD, hjp, Option.getD_some] at h0
      cases i with
      | zero =>
        cases hu
        rw [show j * (Kd.int .u8).sz + 0 = j from Nat.mul_one j]
        exact h0
      | succ i => simp at hu
    · have h0 := hwz y (List.mem_of_mem_take hy)
      simp [Lit.wf, IntKind.min, IntKind.max, IntKind.signed, IntKind.bits] at h0
      omega
theorem open_any {t e : TypeId} (ht : P.underlying t = some (.slice e)) (h : DataW.trod enc P W base spare held fuel t cs = some x) : ∃ (a : Option Addr) (len cap : Nat), cs = [.slice a len cap] := by
  rcases open_slice ht h with ⟨hcs, -⟩ | ⟨ad, l, c, m, n, D, Pl, hcs, -⟩
  · exact ⟨none, 0, 0, hcs⟩
  · exact ⟨some ad, l, c, hcs⟩
set_option maxRecDepth 100000 in
theorem open_plan (h : DataW.trod enc Try.prog W base spare held fuel 49 cs = some x) : ∃ (A1 A2 A : Option Addr) (n1 c1 n2 c2 c : Nat) (own : Bool) (l : List Int), cs = [.slice A1 n1 c1, .slice A2 n2 c2, .bool own, .slice A l.length c] ∧ (Kd.int .u8).C W A l.length l ∧ ∀ x ∈ l, 0 ≤ x ∧ x < 256 := by
  obtain ⟨xs, k, hk, hxy, hl, hxl, hf⟩ := DataW.trod_struct Try.underlying49 h
  have hl2 : cs.length = 4 := by rw [hl]; kernel_rfl
  match xs, hxl, cs, hl2 with
  | [y0, y1, y2, y3], _, [v0, v1, v2, v3], _ =>
    obtain ⟨A1, n1, c1, h0⟩ := open_any Try.underlying35 (fld hf 0 _ rfl rfl rfl (by kernel_rfl : Try.prog.cellsOf 35 = 1) rfl rfl)
    obtain ⟨A2, n2, c2, h1⟩ := open_any Try.underlying39 (fld hf 1 _ rfl rfl rfl (by kernel_rfl : Try.prog.cellsOf 39 = 1) rfl rfl)
    obtain ⟨b, h2, _⟩ := DataW.trod_bool Try.underlying4 (fld hf 2 _ rfl rfl rfl (by kernel_rfl : Try.prog.cellsOf 4 = 1) rfl rfl)
    obtain ⟨A, c, l, h3, hC, hb⟩ := open_bytes (fld hf 3 _ rfl rfl rfl (by kernel_rfl : Try.prog.cellsOf 47 = 1) rfl rfl)
    simp at h0 h1 h2 h3
    subst h0 h1 h2 h3
    exact ⟨A1, A2, A, n1, c1, n2, c2, c, b, l, rfl, hC, hb⟩
end
/-! ## no room -/
set_option maxHeartbeats 1000000 in
set_option maxRecDepth 100000 in
theorem net_New_room (A A2 : Option Addr) (c c2 n m : Nat) (w : World) (h1 : 1 ≤ n ∧ n ≤ 32) (h2 : m ≤ 16) :
    Calls Try.prog 10 #[.slice A n c, .slice A2 m c2, .int .i64 0] w fun e w' => e = .returned (.tuple #[.pointer none, .int .i64 1]) ∧ Below w.heap.size w w' := by
  have HS := Aside0.mk (sep_start w)
  have e1 : decide ((n : Int) < 1) = false := decide_eq_false (by omega)
  have e2 : ((n : Int) < 1) = False := eq_false (by omega)
  have e3 : decide (32 < (n : Int)) = false := decide_eq_false (by omega)
  have e4 : (32 < (n : Int)) = False := eq_false (by omega)
  have e5 : decide (16 < (m : Int)) = false := decide_eq_false (by omega)
  have e6 : (16 < (m : Int)) = False := eq_false (by omega)
  have e7 : decide (32 < n) = false := decide_eq_false (by omega)
  have e8 : decide (16 < m) = false := decide_eq_false (by omega)
  clear h1 h2
  go_enter Try.func10, Try.ntmps10
  go_upto_region 3 with (refine Go.Proofs.YtobfabfoenldfaaX.wp_scope_k ?_; intro J hJ; have HJ := Aside0.mk hJ; clear hJ)
  have n_ := sep_allocg HS.out #[.slice none 0 0, .slice none 0 0, .pointer none] 67 _ rfl
  have n0_ := Aside0.mk n_; clear HS n_; have HS := n0_; clear n0_
  generalize hw_ : World.alloc _ _ = wa at HS ⊢
  clear hw_
  generalize hp_ : Array.size (World.heap _) = p at HS ⊢
  clear hp_
  go_upto_region 4 with (fail)
  have z2 := sep_cell HS.out 2
  have f2 := sep_frozen HS.out 2
  go_upto_region 5 with (go_at_call 23; (with_reducible refine Calls.mono (bag_New_none 0 _ (.inl (by decide))) ?_); rintro e w1 ⟨rfl, hb_⟩; have n_ := sep_below HS.out hb_; clear hb_ z2 f2; have n0_ := Aside0.mk n_; clear HS n_; have HS := n0_; clear n0_; have z2 := sep_cell HS.out 2; have f2 := sep_frozen HS.out 2)
  have n_ := sep_set HS.out 2 (.pointer none)
  clear z2 f2 e1 e2 e3 e4 e5 e6 e7 e8
  have n0_ := Aside0.mk n_; clear HS n_; have HS := n0_; clear n0_
  generalize World.setCell _ _ _ = wb at HS ⊢
  go_wp2
  refine wp_goto ?_
  refine HJ.out 0 _ _ _ rfl ?_
  go_wp2
  rw [Go.Proofs.YtobfabfoenldfaaX.jumps_ret]
  go_ret2
  exact ⟨rfl, sep_below_of HS.out⟩
end Go.Proofs.Ytobfabfoenldfaa.NW
