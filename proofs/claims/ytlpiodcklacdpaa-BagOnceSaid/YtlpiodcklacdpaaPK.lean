/- What the bag answers where items of one byte were put: plain. Conditions: those that each theorem names. -/
import Derived.Test.YtlpiodcklacdpaaLX
namespace Go.Proofs.Ytlpiodcklacdpaa.BG
set_option linter.unusedVariables false
set_option linter.unusedSimpArgs false
open Go Go.RowKit Go.Proofs.YtlpiodcklacdpaaS Go.Proofs.YtlpiodcklacdpaaS.Asn Go.Proofs.Ytlpiodcklacdpaa.PA Go.Proofs.YtlpiodcklacdpaaW.PrintWords Go.Proofs.YtlpiodcklacdpaaW.PrintLast Go.Proofs.YtlpiodcklacdpaaW.PrintMore
def tm (m : Nat) (l : List Int) (j : Nat) : Nat := (l.getD j 0).toNat % m
def bs (j : Nat) : ByteArray := strOfNums [(j : Int)]
def its (m : Nat) (l : List Int) (n : Nat) : List It := (List.range n).map (fun j => im (bs j) (tm m l j))
def rs (m : Nat) (l : List Int) (t : Int) (n : Nat) : List Int := ((List.range n).filter (fun j => decide ((tm m l j : Int) ≤ t))).map (fun j : Nat => (j : Int))
theorem its_len (m : Nat) (l : List Int) (n : Nat) : (its m l n).length = n := by simp [its]
theorem its_succ (m : Nat) (l : List Int) (n : Nat) : its m l (n + 1) = its m l n ++ [im (bs n) (tm m l n)] := by simp [its, List.range_succ]
theorem rs_len (m : Nat) (l : List Int) (t : Int) (n : Nat) : (rs m l t n).length ≤ n := by
  unfold rs
  rw [List.length_map]
  exact Nat.le_trans (List.length_filter_le _ _) (by rw [List.length_range]; exact Nat.le_refl _)
theorem rs_yes {m : Nat} {l : List Int} {t : Int} {n : Nat} (h : (tm m l n : Int) ≤ t) : rs m l t (n + 1) = rs m l t n ++ [(n : Int)] := by
  simp [rs, List.range_succ, List.filter_append, List.filter_cons, h]
theorem rs_no {m : Nat} {l : List Int} {t : Int} {n : Nat} (h : ¬ (tm m l n : Int) ≤ t) : rs m l t (n + 1) = rs m l t n := by
  simp [rs, List.range_succ, List.filter_append, List.filter_cons, h]
theorem its_filter (m : Nat) (l : List Int) (t : Int) (n : Nat) : (its m l n).filter (fun x => decide (x.t ≤ t)) = ((List.range n).filter (fun j => decide ((tm m l j : Int) ≤ t))).map (fun j => im (bs j) (tm m l j)) := by
  unfold its
  rw [List.filter_map]
  rfl
theorem rdy_its (m : Nat) (l : List Int) (t : Int) (n : Nat) : rdy (its m l n) t = (rs m l t n).length := by
  unfold rdy rs
  rw [its_filter, List.length_map, List.length_map]
theorem bs_size (j : Nat) : (bs j).size = 1 := by unfold bs; rw [strOfNums_size]; rfl
theorem put_its {m : Nat} {l : List Int} {n : Nat} {r : Int} (h : (n : Int) < r) : putE r (its m l n) (im (bs n) (tm m l n)) = 0 ∧ putL r (its m l n) (im (bs n) (tm m l n)) = its m l (n + 1) := by
  obtain ⟨h1, h2⟩ := put_ok (room := r) (l := its m l n) (b := bs n) (t := tm m l n) (by rw [bs_size]; decide) (by rw [bs_size]; decide) (by rw [its_len]; exact h)
  exact ⟨h1, by rw [h2, its_succ]⟩
theorem take_neg {l : List It} {u pick : Int} (h : pick < 0) : awayE l u pick = (It.zero, 1, l) := by
  unfold awayE findE
  rw [if_pos h]
  rfl
theorem take_none {l : List It} {u pick : Int} (h : 0 ≤ pick) (h0 : rdy l u = 0) : awayE l u pick = (It.zero, 5, l) := by
  have hf : findE l u pick = (0, 5) := by unfold findE; rw [if_neg (show ¬ pick < 0 by omega), if_pos h0]
  unfold awayE
  rw [hf]
  rfl
/-- One that is ready is taken. -/
theorem take_one {l : List It} {u pick : Int} (h : 0 ≤ pick) (h0 : 0 < rdy l u) : ∃ i x, l[i]? = some x ∧ x.t ≤ u ∧ (l.filter (fun x => decide (x.t ≤ u)))[pick.toNat % rdy l u]? = some x ∧ awayE l u pick = (x, 0, l.eraseIdx i) ∧ rdy (l.eraseIdx i) u + 1 = rdy l u := by
  have hk := Nat.mod_lt pick.toNat h0
  obtain ⟨h1, h2⟩ := pos_lt hk
  have h3 := pos_get hk
  obtain ⟨x, hx⟩ : ∃ x, l[pos u l (pick.toNat % rdy l u)]? = some x := ⟨_, List.getElem?_eq_getElem h1⟩
  refine ⟨pos u l (pick.toNat % rdy l u), x, hx, h2 x hx, by rw [← h3, hx], ?_, rdy_erase hx (h2 x hx)⟩
  unfold awayE
  rw [find_one h h0, if_pos rfl]
  show (l.getD (Int.toNat ((pos u l (pick.toNat % rdy l u) : Nat) : Int)) It.zero, 0, l.eraseIdx (Int.toNat ((pos u l (pick.toNat % rdy l u) : Nat) : Int))) = _
  rw [Int.toNat_natCast, List.getD_eq_getElem?_getD, hx, Option.getD_some]
theorem take_its {m : Nat} {l : List Int} {t : Int} {n k : Nat} (h0 : 0 < (rs m l t n).length) : ∃ j L, j < n ∧ (rs m l t n)[k % (rs m l t n).length]? = some (j : Int) ∧ awayE (its m l n) t (k : Int) = (im (bs j) (tm m l j), 0, L) ∧ rdy L t + 1 = (rs m l t n).length := by
  rw [← rdy_its] at h0 ⊢
  obtain ⟨i, x, hx, hxt, hf, ha, hr⟩ := take_one (pick := (k : Int)) (Int.natCast_nonneg k) h0
  rw [its_filter, List.getElem?_map] at hf
  obtain ⟨j, hj, hjx⟩ := Option.map_eq_some_iff.1 hf
  subst hjx
  have hm := List.mem_of_getElem? hj
  rw [List.mem_filter, List.mem_range] at hm
  refine ⟨j, _, hm.1, ?_, ha, hr⟩
  unfold rs
  rw [List.getElem?_map]
  rw [Int.toNat_natCast] at hj
  rw [hj]
  rfl
end Go.Proofs.Ytlpiodcklacdpaa.BG
