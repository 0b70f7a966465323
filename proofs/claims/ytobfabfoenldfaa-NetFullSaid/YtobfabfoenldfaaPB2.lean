/- Plain laws of a net's bag: many of one kind. Conditions: those that each theorem names. -/
import Derived.Test.YtobfabfoenldfaaNX
namespace Go.Proofs.Ytobfabfoenldfaa.NW
set_option linter.unusedVariables false
set_option linter.unusedSimpArgs false
open Go Go.RowKit Go.Proofs.YtobfabfoenldfaaS Go.Proofs.YtobfabfoenldfaaS.Asn Go.Proofs.Ytobfabfoenldfaa.PA Go.Proofs.YtobfabfoenldfaaW.PrintWords Go.Proofs.YtobfabfoenldfaaW.PrintLast Go.Proofs.YtobfabfoenldfaaW.PrintMore
open Go.Proofs.Ytobfabfoenldfaa.BG
theorem rdy_rep (n : Nat) (x : It) (u : Int) (h : u < x.t) : rdy (List.replicate n x) u = 0 := by
  induction n with
  | zero => rfl
  | succ n ih => rw [List.replicate_succ, rdy_cons, if_neg (by omega), ih]
theorem find_head (x : It) (l : List It) (u : Int) (h : x.t ≤ u) : findE (x :: l) u 0 = (0, 0) := by
  have h1 : rdy (x :: l) u ≠ 0 := by rw [rdy_cons, if_pos h]; omega
  unfold findE
  rw [if_neg (by decide), if_neg h1]
  rw [show (0 : Int).toNat = 0 from rfl, Nat.zero_mod]
  simp [pos, h]
theorem away_head (x : It) (l : List It) (u : Int) (h : x.t ≤ u) : awayE (x :: l) u 0 = (x, 0, l) := by
  unfold awayE
  rw [find_head x l u h]
  rfl
theorem away_none (l : List It) (u : Int) (h : rdy l u = 0) : awayE l u 0 = (It.zero, 5, l) := by
  have : findE l u 0 = (0, 5) := by unfold findE; rw [if_neg (by decide), if_pos h]
  unfold awayE
  rw [this]
  rfl
def eh : List Hs := [⟨1, 7, 0⟩, ⟨2, 7, 0⟩]
/-! ## delays -/
def dx (t : Int) : It := ⟨1, 7, 2, 7, ⟨#[120]⟩, t⟩
theorem dx_put (t : Int) : putE 4 [] (dx t) = 0 := rfl
theorem dx_delay (t b : Int) (ht : 0 ≤ t ∧ t ≤ 65536) (hb : 0 ≤ b ∧ b ≤ 255) : delayE [dx t] 0 = 0 ∧ delayL [dx t] 0 b = [dx (t + b)] := by
  have hf := find_head (dx t) [] 18446744073709551615 (show t ≤ 18446744073709551615 by omega)
  unfold delayE delayL
  rw [hf]
  refine ⟨rfl, ?_⟩
  show [({ dx t with t := BG.later t b } : It)] = _
  have : BG.later t b = t + b := by unfold BG.later latest; omega
  rw [this]
  rfl
theorem dx_twice (t : Int) (ht : t ≤ 100000) : twiceE 4 [dx t] 0 = 0 ∧ twiceL 4 [dx t] 0 = [dx t, dx t] := by
  have hf := find_head (dx t) [] 18446744073709551615 (show t ≤ 18446744073709551615 by omega)
  have hp : putE 4 [dx t] (dx t) = 0 := rfl
  unfold twiceE twiceL
  rw [hf]
  exact ⟨hp, putL_ok hp⟩
theorem d_arr (p pb : Nat) (X : Asn) (u t : Int) : ArrIs p pb eh [] X X u (dx t) 2 := by
  have := arr_host p pb eh [] X u (dx t) rfl (Nat.le_of_ble_eq_true rfl)
  rwa [show idx (hostH ⟨(dx t).ti, (dx t).tp, 0⟩) eh + 1 = 2 by exact show idx (hostH ⟨2, 7, 0⟩) eh + 1 = 2 by decide +kernel] at this
/-! ## full -/
def fy : It := ⟨2, 7, 1, 7, ⟨#[121]⟩, 1⟩
theorem fx_ok {k i : Nat} (h : i < k) : putE (k : Int) (List.replicate i (dx 1)) (dx 1) = 0 ∧ putL (k : Int) (List.replicate i (dx 1)) (dx 1) = List.replicate (i + 1) (dx 1) := by
  have h1 : putE (k : Int) (List.replicate i (dx 1)) (dx 1) = 0 := by
    unfold putE
    rw [if_neg (by decide), if_neg (by decide), if_neg (by rw [List.length_replicate]; omega)]
  exact ⟨h1, by rw [putL_ok h1, List.replicate_succ']⟩
theorem fx_full {k i : Nat} (h : k ≤ i) : putE (k : Int) (List.replicate i (dx 1)) (dx 1) = 4 ∧ putL (k : Int) (List.replicate i (dx 1)) (dx 1) = List.replicate i (dx 1) := by
  have h1 : putE (k : Int) (List.replicate i (dx 1)) (dx 1) = 4 := by
    unfold putE
    rw [if_neg (by decide), if_neg (by decide), if_pos (by rw [List.length_replicate]; omega)]
  exact ⟨h1, putL_no (by rw [h1]; decide)⟩
theorem fy_ok {k i : Nat} (h : i < k) : putE (k : Int) (List.replicate i (dx 1)) fy = 0 ∧ putL (k : Int) (List.replicate i (dx 1)) fy = List.replicate i (dx 1) ++ [fy] := by
  have h1 : putE (k : Int) (List.replicate i (dx 1)) fy = 0 := by
    unfold putE
    rw [if_neg (by decide), if_neg (by decide), if_neg (by rw [List.length_replicate]; omega)]
  exact ⟨h1, putL_ok h1⟩
theorem f_early (i : Nat) : awayE (List.replicate i (dx 1) ++ [fy]) 0 0 = (It.zero, 5, List.replicate i (dx 1) ++ [fy]) := by
  refine away_none _ _ ?_
  rw [rdy_append, rdy_rep _ _ _ (show (0 : Int) < 1 by decide)]
  rfl
theorem f_drop (i : Nat) : awayE (List.replicate (i + 1) (dx 1)) 18446744073709551615 0 = (dx 1, 0, List.replicate i (dx 1)) := by
  rw [List.replicate_succ]
  exact away_head _ _ _ (by decide)
/-! ## anew -/
theorem ips_two (q r : Nat) (B C : Bx) : IpsAre (boxA q B ⋆ boxA r C) [q, r] [B.ip, C.ip] := by
  intro W ok_ h j q' hq
  match j, hq with
  | 0, hq =>
    obtain rfl : q = q' := by simpa using hq
    exact (box_cells (sep_flat (sep_begin h))).2.2.1
  | 1, hq =>
    obtain rfl : r = q' := by simpa using hq
    exact (box_cells (sep_l1 (sep_flat (sep_begin h)))).2.2.1
  | j + 2, hq => simp at hq
theorem ips_two' (q r : Nat) (B C : Bx) : IpsAre (boxA r C ⋆ boxA q B) [q, r] [B.ip, C.ip] := by
  intro W ok_ h j q' hq
  match j, hq with
  | 0, hq =>
    obtain rfl : q = q' := by simpa using hq
    exact (box_cells (sep_l1 (sep_flat (sep_begin h)))).2.2.1
  | 1, hq =>
    obtain rfl : r = q' := by simpa using hq
    exact (box_cells (sep_flat (sep_begin h))).2.2.1
  | j + 2, hq => simp at hq
end Go.Proofs.Ytobfabfoenldfaa.NW
