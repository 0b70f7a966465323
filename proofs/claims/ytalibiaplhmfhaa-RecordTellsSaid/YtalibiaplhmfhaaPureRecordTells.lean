/- RecordTells: for every two records and number the law answers true: whether they are right, how they stand, their join, their bytes, and the states' words are the document's. No condition. -/
import Derived.Test.YtalibiaplhmfhaaMR
namespace Go.Proofs.Ytalibiaplhmfhaa.Pure
open Go Go.RowKit Go.Proofs.Ytalibiaplhmfhaa.PA Go.Proofs.Ytalibiaplhmfhaa.MP Go.Proofs.Ytalibiaplhmfhaa.MA Go.Proofs.Ytalibiaplhmfhaa.MQ Go.Proofs.Ytalibiaplhmfhaa.MR Go.Proofs.YtalibiaplhmfhaaW.PrintWords Go.Proofs.YtalibiaplhmfhaaW.PrintLast Go.Proofs.YtalibiaplhmfhaaW.PrintMore

theorem RecordTells : law04_RecordTells.Pure := by
  intro x0 x1 x2 x3 x4 x5 y0 y1 y2 y3 y4 y5 z hx0 hx1 hx2 hx3 hx4 hy0 hy1 hy2 hy3 hy4 hz
  refine ⟨20, ?_⟩
  unfold law04_RecordTells.f
  obtain ⟨a0, a1, a2, a3, a4, ha⟩ := thing_some x0 x1 x2 x3 x4 x5
  obtain ⟨b0, b1, b2, b3, b4, hb⟩ := thing_some y0 y1 y2 y3 y4 y5
  rw [examples_true 20 (by omega), Option.bind_some, if_pos rfl, ha, Option.bind_some, hb, Option.bind_some]
  unfold law04_refRecord.f
  dsimp only
  rw [Option.bind_some, Option.bind_some]
  dsimp only
  obtain ⟨s, ok, hp⟩ := put_some a0 a1 a2 a3 a4
  obtain ⟨t, hr⟩ := right_some a0 a1 a2 a3 a4
  obtain ⟨c0, c1, c2, c3, c4, hj⟩ := join_some 20 a0 a1 a2 a3 a4 b0 b1 b2 b3 b4 (by omega)
  rw [hp, Option.bind_some, put_ref 20 _ _ _ _ _ (by omega), hp, Option.bind_some, hr, Option.bind_some, right_ref, hr, Option.bind_some, if_pos (by simp)]
  rw [record_order 20 _ _ _ _ _ _ _ _ _ _ (by omega), Option.bind_some, order_ref 20 _ _ _ _ _ _ _ _ _ _ (by omega), Option.bind_some, if_pos rfl]
  rw [record_over 20 _ _ _ _ _ _ _ _ _ _ (by omega), Option.bind_some, over_ref 20 _ _ _ _ _ _ _ _ _ _ (by omega), Option.bind_some, if_pos (by simp)]
  rw [hj, Option.bind_some, Option.bind_some, join_ref 20 _ _ _ _ _ _ _ _ _ _ (by omega), hj, Option.bind_some]
  dsimp only
  rw [if_pos (by simp), if_pos rfl, if_pos (by simp)]
  unfold record_Record_Live.f ref04_Record_Live.f
  obtain ⟨l, hl⟩ : ∃ l : Bool, (if a1 = 0 then some true else some (a1 == 1)) = some l := by split <;> exact ⟨_, rfl⟩
  obtain ⟨w, hw⟩ := word_some z
  obtain ⟨w', hw'⟩ := word_some (Int.tmod z 6)
  rw [hl, Option.bind_some, Option.bind_some, if_pos (by simp), hw, Option.bind_some, word_ref, hw, Option.bind_some, if_pos rfl, hw', Option.bind_some, word_ref, hw', Option.bind_some]
  simp

end Go.Proofs.Ytalibiaplhmfhaa.Pure
