/- What the bag answers for the few items of the laws. Conditions: those that each theorem names. -/
import Derived.Test.YtlpiodcklacdpaaBM
namespace Go.Proofs.Ytlpiodcklacdpaa.BG
set_option linter.unusedVariables false
set_option linter.unusedSimpArgs false
open Go Go.RowKit Go.Proofs.YtlpiodcklacdpaaS Go.Proofs.YtlpiodcklacdpaaS.Asn Go.Proofs.Ytlpiodcklacdpaa.PA Go.Proofs.YtlpiodcklacdpaaW.PrintWords Go.Proofs.YtlpiodcklacdpaaW.PrintLast Go.Proofs.YtlpiodcklacdpaaW.PrintMore
/-- The item of the laws. -/
def im (b : ByteArray) (t : Int) : It := ⟨1, 1, 2, 2, b, t⟩
def bm : ByteArray := ⟨#[109]⟩
theorem find_one {l : List It} {u : Int} {pick : Int} (h : 0 ≤ pick) (h0 : 0 < rdy l u) : findE l u pick = (((pos u l (pick.toNat % rdy l u) : Nat) : Int), 0) := by
  unfold findE
  rw [if_neg (by omega), if_neg (by omega)]
theorem rdy1 {x : It} {u : Int} (h : x.t ≤ u) : rdy [x] u = 1 := by rw [rdy_cons, if_pos h]; rfl
theorem rdy2 {x y : It} {u : Int} (h : x.t ≤ u) (h' : y.t ≤ u) : rdy [x, y] u = 2 := by rw [rdy_cons, if_pos h, rdy1 h']
theorem rdy21 {x y : It} {u : Int} (h : x.t ≤ u) (h' : ¬ y.t ≤ u) : rdy [x, y] u = 1 := by rw [rdy_cons, if_pos h, rdy_cons, if_neg h']; rfl
theorem pos0 {x : It} {l : List It} {u : Int} (h : x.t ≤ u) : pos u (x :: l) 0 = 0 := by simp [pos, h]
theorem pos1 {x y : It} {l : List It} {u : Int} (h : x.t ≤ u) (h' : y.t ≤ u) : pos u (x :: y :: l) 1 = 1 := by simp [pos, h, h']
theorem put_ok {room : Int} {l : List It} {b : ByteArray} {t : Int} (hb : b.size ≠ 0) (hb' : b.size ≤ 1024) (hl : (l.length : Int) < room) : putE room l (im b t) = 0 ∧ putL room l (im b t) = l ++ [im b t] := by
  have h1 : putE room l (im b t) = 0 := by
    unfold putE im
    rw [if_neg (show ¬ (noneB 1 1 = true ∨ noneB 2 2 = true) by decide), if_neg (by show ¬ (b.size = 0 ∨ 1024 < b.size); omega), if_neg (by omega)]
  exact ⟨h1, by unfold putL; rw [if_pos h1]⟩
theorem bm_val (t : Int) : (im bm t).val = .agg #[.int .u32 1, .int .u16 1, .int .u32 2, .int .u16 2, .string ⟨#[109]⟩, .int .u64 t] := rfl
theorem im_val (b : ByteArray) (t : Int) : (im b t).val = .agg #[.int .u32 1, .int .u16 1, .int .u32 2, .int .u16 2, .string b, .int .u64 t] := rfl
theorem bm_size : bm.size = 1 := rfl
end Go.Proofs.Ytlpiodcklacdpaa.BG
