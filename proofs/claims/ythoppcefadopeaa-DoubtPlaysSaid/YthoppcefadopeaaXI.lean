/- A slice of bytes as numbers, opened: what the rows of the laws over such lists need. No condition but those that the theorem names. -/
import Derived.Test.YthoppcefadopeaaSepA
import Derived.Test.YthoppcefadopeaaProg
import Derived.Deep.Slices
import Derived.ChangeArms
import Derived.OpenShut
import Derived.WalkKit
import Derived.ProofKit
namespace Go.Proofs.Ythoppcefadopeaa.DW
set_option linter.unusedVariables false
open Go Go.RowKit Go.Proofs.YthoppcefadopeaaW.PrintWords Go.Deep Go.ChangeShapes Go.WideShapes
theorem open_u8s {H : Type} {enc : TypeId × Value → H} {W : World} {base : Nat} {spare : Nat → Bool} {held : Bool} {a : Option Addr} {len cap : Nat} {d : DataW H} {ps : List MemPlace}
    (h : DataW.Trod enc Try.prog W base spare held 50 (.slice a len cap) d ps) :
    ∃ l : List Int, len = l.length ∧ (Kd.int .u8).C W a l.length l ∧ l.length ≤ cap ∧ ∀ x ∈ l, 0 ≤ x ∧ x < 256 := by
  obtain ⟨fuel, hf⟩ := h
  rcases open_ints Try.underlying50 Try.underlying5 (by kernel_rfl) hf with ⟨hcs, _⟩ | ⟨x, l, c, zs, hcs, _, hl, hm, hz, _, hcell, hwz⟩
  · simp [Value.cells] at hcs
    obtain ⟨rfl, rfl, rfl⟩ := hcs
    exact ⟨[], rfl, ⟨rfl, by simp, fun hn => absurd hn (by simp)⟩, by simp, by simp⟩
  · simp [Value.cells] at hcs
    obtain ⟨rfl, rfl, rfl⟩ := hcs
    have hz' : len ≤ zs.length := by rw [hz]; split <;> omega
    have hlen : (zs.take len).length = len := by rw [List.length_take]; omega
    refine ⟨zs.take len, hlen.symm, ?_, by rw [hlen]; exact hl, fun y hy => ?_⟩
    · rw [hlen]
      refine ⟨hlen, by unfold maxLen at hm; omega, fun hn => ⟨x, rfl, fun j p hjp => ?_⟩⟩
      have hj : j < len := by rw [← hlen]; exact (List.getElem?_eq_some_iff.1 hjp).1
      rw [List.getElem?_take_of_lt hj] at hjp
      refine ⟨[.int .u8 p], rfl, rfl, fun i u hu => ?_⟩
      have h0 := hcell j (by omega)
      rw [List.getD_eq_getElem?_getD, hjp, Option.getD_some] at h0
      cases i with
      | zero =>
        cases hu
        rw [show j * (Kd.int .u8).sz + 0 = j from Nat.mul_one j]
        exact h0
      | succ i => simp at hu
    · have h0 := hwz y (List.mem_of_mem_take hy)
      simp [Lit.wf, IntKind.min, IntKind.max, IntKind.signed, IntKind.bits] at h0
      omega
end Go.Proofs.Ythoppcefadopeaa.DW
