/- RecordOrder: for every two records the law answers true: what has a greater Inc is over whatever has a less one; of the same Inc the greater state is over; the order does not go both ways. No condition. -/
import Derived.Test.YtalibiaplhmfhaaMA
namespace Go.Proofs.Ytalibiaplhmfhaa.Pure
open Go Go.RowKit Go.Proofs.Ytalibiaplhmfhaa.PA Go.Proofs.Ytalibiaplhmfhaa.MP Go.Proofs.Ytalibiaplhmfhaa.MA Go.Proofs.YtalibiaplhmfhaaW.PrintWords Go.Proofs.YtalibiaplhmfhaaW.PrintLast Go.Proofs.YtalibiaplhmfhaaW.PrintMore

theorem tail (k : Nat) (a0 a1 a2 a3 a4 b0 b1 b2 b3 b4 : Int) (hk : 5 ≤ k) :
    ((record_Order.f k a0 a1 a2 a3 a4 b0 b1 b2 b3 b4).bind fun t => (record_Order.f k b0 b1 b2 b3 b4 a0 a1 a2 a3 a4).bind fun u =>
      (if t = (wrap64 (-u)) then ((record_Over.f k a0 a1 a2 a3 a4 a0 a1 a2 a3 a4).bind fun v => (some (!v))) else (none))) = some true := by
  have hr := ordR_rng a1 a2 a3 a4 b1 b2 b3 b4
  rw [record_order k _ _ _ _ _ _ _ _ _ _ hk, Option.bind_some, record_order k _ _ _ _ _ _ _ _ _ _ hk, Option.bind_some, ordR_anti a1 a2 a3 a4 b1 b2 b3 b4, Int.neg_neg, wrap64_id (by omega) (by omega), if_pos rfl, record_over k _ _ _ _ _ _ _ _ _ _ hk, ordR_self, Option.bind_some]
  rfl

theorem RecordOrder : scuttlebuttlaw04_RecordOrder.Pure := by
  intro x0 x1 x2 x3 x4 x5 y0 y1 y2 y3 y4 y5 _ _ _ _ _ _ _ _ _ _
  refine ⟨18, ?_⟩
  unfold scuttlebuttlaw04_RecordOrder.f
  obtain ⟨a0, a1, a2, a3, a4, ha⟩ := thing_some x0 x1 x2 x3 x4 x5
  obtain ⟨b0, b1, b2, b3, b4, hb⟩ := thing_some y0 y1 y2 y3 y4 y5
  rw [examples_true 18 (by omega), Option.bind_some, if_pos rfl, ha, Option.bind_some, hb, Option.bind_some]
  dsimp only
  have j1 : ∀ (o : Bool), o = decide (ordR a1 a2 a3 a4 b1 b2 b3 b4 > 0) → scuttlebuttlaw04_RecordOrder.j1 17 o false a0 a1 a2 a3 a4 b0 b1 b2 b3 b4 = some true := by
    intro o ho
    show scuttlebuttlaw04_RecordOrder.j1 (16 + 1) _ _ _ _ _ _ _ _ _ _ _ _ = _
    simp only [scuttlebuttlaw04_RecordOrder.j1]
    rw [if_neg (by decide), record_over 16 _ _ _ _ _ _ _ _ _ _ (by omega), Option.bind_some, if_pos (by rw [ho]; simp)]
    exact tail 16 _ _ _ _ _ _ _ _ _ _ (by omega)
  have j1' : ∀ (o : Bool), scuttlebuttlaw04_RecordOrder.j1 17 o true a0 a1 a2 a3 a4 b0 b1 b2 b3 b4 = some true := by
    intro o
    show scuttlebuttlaw04_RecordOrder.j1 (16 + 1) _ _ _ _ _ _ _ _ _ _ _ _ = _
    simp only [scuttlebuttlaw04_RecordOrder.j1]
    rw [if_pos trivial]
    exact tail 16 _ _ _ _ _ _ _ _ _ _ (by omega)
  have j0 : ∀ (o : Bool), (a2 = b2 ∧ a1 = b1) ∨ o = decide (ordR a1 a2 a3 a4 b1 b2 b3 b4 > 0) → scuttlebuttlaw04_RecordOrder.j0 18 o a0 a1 a2 a3 a4 b0 b1 b2 b3 b4 = some true := by
    intro o ho
    show scuttlebuttlaw04_RecordOrder.j0 (17 + 1) _ _ _ _ _ _ _ _ _ _ _ = _
    simp only [scuttlebuttlaw04_RecordOrder.j0]
    by_cases h2 : a2 = b2
    · rw [if_pos h2]
      by_cases h1 : a1 = b1
      · rw [show (a1 == b1) = true by simpa using h1]
        exact j1' o
      · rw [show (a1 == b1) = false by simpa using h1]
        exact j1 o (ho.resolve_left fun h => h1 h.2)
    · rw [if_neg h2]
      exact j1 o (ho.resolve_left fun h => h2 h.1)
  have e : ∀ c1 c2 c3 : Int, c1 ≠ 0 → or2 c1 (or2 c2 c3) = c1 := fun c1 c2 c3 h => by unfold or2; rw [if_neg h]
  have e' : ∀ c1 c2 c3 : Int, c1 = 0 → c2 ≠ 0 → or2 c1 (or2 c2 c3) = c2 := fun c1 c2 c3 h h' => by unfold or2; rw [if_pos h, if_neg h']
  rcases cmpI_cases a2 b2 with ⟨h, c⟩ | ⟨h, c⟩ | ⟨h, c⟩
  · rw [if_neg (by omega), if_neg (by omega)]
    refine j0 false (.inr ?_)
    unfold ordR
    rw [e _ _ _ (by omega), c]
    rfl
  · rw [if_neg (by omega), if_pos h]
    refine j0 _ ?_
    rcases cmpI_cases a1 b1 with ⟨h1, c1⟩ | ⟨h1, c1⟩ | ⟨h1, c1⟩
    · refine .inr ?_
      unfold ordR
      rw [e' _ _ _ c (by omega), c1, decide_eq_false (by omega)]
      rfl
    · exact .inl ⟨h, h1⟩
    · refine .inr ?_
      unfold ordR
      rw [e' _ _ _ c (by omega), c1, decide_eq_true (by omega)]
      rfl
  · rw [if_pos (by omega)]
    refine j0 true (.inr ?_)
    unfold ordR
    rw [e _ _ _ (by omega), c]
    rfl

end Go.Proofs.Ytalibiaplhmfhaa.Pure
