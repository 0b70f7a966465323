/- RecordBounds: for every record, near to the bounds or not, the law answers true: it is right just if its ID and its state are in their bounds and it has an address, and then alone it is put. No condition. -/
import Derived.Test.YtalibiaplhmfhaaMQ
namespace Go.Proofs.Ytalibiaplhmfhaa.Pure
open Go Go.RowKit Go.Proofs.Ytalibiaplhmfhaa.PA Go.Proofs.Ytalibiaplhmfhaa.MA Go.Proofs.Ytalibiaplhmfhaa.MP Go.Proofs.Ytalibiaplhmfhaa.MQ Go.Proofs.YtalibiaplhmfhaaW.PrintWords Go.Proofs.YtalibiaplhmfhaaW.PrintLast

theorem bounds_word (z : Int) : ∃ w, record_Word.f z = some w ∧ (w.toList != ([] : List UInt8)) = decide (0 ≤ z ∧ z ≤ 3) := by
  unfold record_Word.f
  by_cases h0 : z < 0
  · rw [if_pos h0, decide_eq_false (by omega)]
    exact ⟨_, rfl, by decide +kernel⟩
  · rw [if_neg h0]
    by_cases h4 : z ≥ 4
    · rw [if_pos h4, decide_eq_false (by omega)]
      exact ⟨_, rfl, by decide +kernel⟩
    · rw [if_neg h4, decide_eq_true (by omega)]
      refine ⟨_, rfl, ?_⟩
      have : z = 0 ∨ z = 1 ∨ z = 2 ∨ z = 3 := by omega
      rcases this with rfl | rfl | rfl | rfl <;> decide +kernel

theorem bounds_tail (z : Int) : ∃ w, record_Word.f z = some w ∧ (if z ≥ 0 then (some ((w.toList != ([] : List UInt8)) == (decide (z ≤ 3)))) else (some ((w.toList != ([] : List UInt8)) == false))) = some true := by
  obtain ⟨w, e, h⟩ := bounds_word z
  refine ⟨w, e, ?_⟩
  rw [h]
  by_cases h0 : z ≥ 0
  · rw [if_pos h0]
    by_cases h3 : z ≤ 3
    · rw [decide_eq_true h3, decide_eq_true ⟨h0, h3⟩]; rfl
    · rw [decide_eq_false h3, decide_eq_false (fun g => h3 g.2)]; rfl
  · rw [if_neg h0, decide_eq_false (fun g => h0 g.1)]; rfl

theorem bounds_j1 (k : Nat) (a0 a1 a2 a3 a4 : Int) : law04_RecordBounds.j1 (k + 1) (rightB a0 a1 a3 a4) a0 a1 a2 a3 a4 = some true := by
  simp only [law04_RecordBounds.j1]
  obtain ⟨w, e, hw⟩ := bounds_tail a1
  have hput : ∃ s, record_Record_Put.f a0 a1 a2 a3 a4 = some (s, rightB a0 a1 a3 a4) ∧ (((s.size : Int) == 12) == rightB a0 a1 a3 a4) = true ∧ ((s.toList != ([] : List UInt8)) == rightB a0 a1 a3 a4) = true := by
    rw [put_eq]
    by_cases h : rightB a0 a1 a3 a4 = true
    · rw [if_pos h, h]
      have hz : (putR a0 a1 a2 a3 a4).size = 12 := by
        unfold putR
        rw [cat_size, cat_size, cat_size, numB_size, numB_size, numB_size, putA_size]
      have hne : ((putR a0 a1 a2 a3 a4).toList != ([] : List UInt8)) = true := by
        rw [bne_iff_ne]
        intro e
        rw [size_data, ← toList_data, e] at hz
        simp at hz
      exact ⟨_, rfl, by rw [hz]; rfl, by rw [hne]; rfl⟩
    · have h' : rightB a0 a1 a3 a4 = false := by simpa using h
      rw [if_neg h, h']
      exact ⟨_, rfl, by decide +kernel, by decide +kernel⟩
  obtain ⟨s, e1, e2, e3⟩ := hput
  rw [e1, Option.bind_some, right_eq, Option.bind_some]
  dsimp only
  rw [if_pos (by simp), if_pos (by simp), if_pos e2, if_pos e3]
  unfold record_Record_Live.f
  by_cases h0 : a1 = 0
  · rw [if_pos h0, Option.bind_some, if_pos h0, if_pos (by simp), e, Option.bind_some]
    exact hw
  · rw [if_neg h0, Option.bind_some, if_neg h0, if_pos (by simp), e, Option.bind_some]
    exact hw

theorem bounds_j0 (k : Nat) (a0 a1 a2 a3 a4 : Int) : law04_RecordBounds.j0 (k + 2) a0 a1 a2 a3 a4 = some true := by
  show law04_RecordBounds.j0 (k + 1 + 1) a0 a1 a2 a3 a4 = some true
  simp only [law04_RecordBounds.j0]
  have h := bounds_j1 k a0 a1 a2 a3 a4
  have hf : rightB a0 a1 a3 a4 = false → law04_RecordBounds.j1 (k + 1) false a0 a1 a2 a3 a4 = some true := fun e => by rw [e] at h; exact h
  by_cases h1 : a0 ≥ 1
  · rw [if_pos h1]
    by_cases h2 : a0 ≤ 32
    · rw [if_pos h2]
      by_cases h3 : a1 ≥ 0
      · rw [if_pos h3]
        by_cases h4 : a1 ≤ 3
        · rw [if_pos h4]
          by_cases h5 : a3 = 0
          · rw [if_pos h5]
            exact hf (decide_eq_false (by omega))
          · rw [if_neg h5]
            by_cases h6 : a4 = 0
            · rw [show (a4 != 0) = false by simp [h6]]
              exact hf (decide_eq_false (by omega))
            · rw [show (a4 != 0) = true by simp [h6]]
              rw [show rightB a0 a1 a3 a4 = true from decide_eq_true (by omega)] at h
              exact h
        · rw [if_neg h4]
          exact hf (decide_eq_false (by omega))
      · rw [if_neg h3]
        exact hf (decide_eq_false (by omega))
    · rw [if_neg h2]
      exact hf (decide_eq_false (by omega))
  · rw [if_neg h1]
    exact hf (decide_eq_false (by omega))

theorem RecordBounds : law04_RecordBounds.Pure := by
  intro a0 a1 a2 a3 a4 own id st near _ _ _ _ _ _ _
  refine ⟨20, ?_⟩
  unfold law04_RecordBounds.f
  obtain ⟨r0, r1, r2, r3, r4, e⟩ := thing_some a0 a1 a2 a3 a4 own
  rw [examples_true 20 (by omega), Option.bind_some, if_pos rfl, e, Option.bind_some]
  dsimp only
  split
  · exact bounds_j0 18 _ _ _ _ _
  · exact bounds_j0 18 _ _ _ _ _

end Go.Proofs.Ytalibiaplhmfhaa.Pure
