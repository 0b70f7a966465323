/- RecordGets: for every record, bytes, place and byte the law answers true: any bytes, and those of a record with a byte another one, are the record, or none, that the document's answer gets. No condition. -/
import Derived.Test.YtalibiaplhmfhaaMG
namespace Go.Proofs.Ytalibiaplhmfhaa.Pure
open Go Go.RowKit Go.Proofs.Ytalibiaplhmfhaa.PA Go.Proofs.Ytalibiaplhmfhaa.MA Go.Proofs.Ytalibiaplhmfhaa.MP Go.Proofs.Ytalibiaplhmfhaa.MQ Go.Proofs.Ytalibiaplhmfhaa.MS Go.Proofs.Ytalibiaplhmfhaa.MG Go.Proofs.YtalibiaplhmfhaaW.PrintWords Go.Proofs.YtalibiaplhmfhaaW.PrintLast Go.Proofs.YtalibiaplhmfhaaW.PrintMore

theorem bend_some (s : ByteArray) (at_ by_ : Int) (h0 : -9223372036854775808 ≤ at_) (h1 : at_ < 9223372036854775808) : ∃ t, law04_bend.f s at_ by_ = some t := by
  unfold law04_bend.f
  by_cases hz : s.size = 0
  · rw [if_pos hz]
    exact ⟨_, rfl⟩
  · rw [if_neg hz]
    have hx : 0 ≤ (if at_ < 0 then wrap64 (-(wrap64 (at_ + 1))) else at_) := by
      by_cases hn : at_ < 0
      · rw [if_pos hn, wrap64_id (n := at_ + 1) (by omega) (by omega), wrap64_id (by omega) (by omega)]
        omega
      · rw [if_neg hn]
        omega
    have hb : 0 ≤ bendAt at_ (s.size : Int) ∧ bendAt at_ (s.size : Int) < (s.size : Int) := by
      unfold bendAt
      exact ⟨Int.tmod_nonneg _ hx, Int.tmod_lt_of_pos _ (by omega)⟩
    rw [if_pos hb]
    exact ⟨_, rfl⟩

theorem RecordGets : law04_RecordGets.Pure := by
  intro a0 a1 a2 a3 a4 own s near at_ by_ _ _ _ _ _ hs hat _
  have hat' := wf_i64 hat
  refine ⟨20, ?_⟩
  unfold law04_RecordGets.f
  rw [examples_true 20 (by omega), Option.bind_some, if_pos rfl]
  unfold law04_refRecord.f
  cases near with
  | false =>
    rw [if_neg (by decide)]
    obtain ⟨b0, b1, b2, b3, b4, t, ok, e1, e2⟩ := get_same 20 s (by omega)
    rw [e1, Option.bind_some, e2, Option.bind_some, Option.bind_some]
    dsimp only
    rw [if_pos (by simp), if_pos rfl]
    simp
  | true =>
    rw [if_pos rfl]
    obtain ⟨r0, r1, r2, r3, r4, e⟩ := thing_some a0 a1 a2 a3 a4 own
    rw [e, Option.bind_some, Option.bind_some]
    dsimp only
    rw [put_ref 20 _ _ _ _ _ (by omega)]
    have hp : ∃ p ok, record_Record_Put.f r0 r1 r2 r3 r4 = some (p, ok) ∧ p.size ≤ 12 := by
      rw [put_eq]
      by_cases h : rightB r0 r1 r3 r4 = true
      · rw [if_pos h]
        refine ⟨_, _, rfl, ?_⟩
        unfold putR
        rw [cat_size, cat_size, cat_size, numB_size, numB_size, numB_size, putA_size]
        omega
      · rw [if_neg h]
        exact ⟨_, _, rfl, by decide⟩
    obtain ⟨p, ok, ep, hp⟩ := hp
    rw [ep, Option.bind_some]
    dsimp only
    rw [if_pos (by omega)]
    obtain ⟨z, ez⟩ := bend_some (p ++ s) at_ by_ hat'.1 hat'.2
    rw [ez, Option.bind_some]
    obtain ⟨b0, b1, b2, b3, b4, t, ok', e1, e2⟩ := get_same 20 z (by omega)
    rw [e1, Option.bind_some, e2, Option.bind_some, Option.bind_some]
    dsimp only
    rw [if_pos (by simp), if_pos rfl]
    simp

end Go.Proofs.Ytalibiaplhmfhaa.Pure
