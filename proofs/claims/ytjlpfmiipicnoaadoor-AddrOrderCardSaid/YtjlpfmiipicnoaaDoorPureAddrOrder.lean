/- AddrOrder: for every three addresses the law answers true: they stand in one order, of two that are not the same one is ahead, it does not go round, and bytes that were put stand in it, too. No condition. -/
import Derived.Test.YtjlpfmiipicnoaaDoorMA
namespace Go.Proofs.YtjlpfmiipicnoaaDoor.Pure
open Go Go.RowKit Go.Proofs.YtjlpfmiipicnoaaDoor.PA Go.Proofs.YtjlpfmiipicnoaaDoor.MA Go.Proofs.YtjlpfmiipicnoaaDoor.MP Go.Proofs.YtjlpfmiipicnoaaDoorW.PrintWords Go.Proofs.YtjlpfmiipicnoaaDoorW.PrintLast Go.Proofs.YtjlpfmiipicnoaaDoorW.PrintMore

theorem AddrOrder : scuttlebuttlaw03_AddrOrder.Pure := by
  intro a0 a1 b0 b1 c0 c1 wa0 wa1 wb0 wb1 wc0 wc1
  have ra0 := wf_u32 wa0
  have ra1 := wf_u16 wa1
  have rb0 := wf_u32 wb0
  have rb1 := wf_u16 wb1
  have hab := ordA_spec a0 a1 b0 b1
  have hba := ordA_anti a0 a1 b0 b1
  have hbc := ordA_spec b0 b1 c0 c1
  have hac := ordA_spec a0 a1 c0 c1
  refine ⟨40, ?_⟩
  unfold scuttlebuttlaw03_AddrOrder.f
  rw [examples_true 40 (by omega), Option.bind_some, if_pos rfl, addr_order 40 a0 a1 b0 b1 (by omega), Option.bind_some, addr_order 40 b0 b1 a0 a1 (by omega), Option.bind_some, if_pos (by rw [hba, wrap64_id (by omega) (by omega)]; omega)]
  have he : ((ordA a0 a1 b0 b1 == 0) == (a0 == b0 && (a1 == b1))) = true := by
    by_cases h : ordA a0 a1 b0 b1 = 0
    · have h0 : a0 = b0 := by omega
      have h1 : a1 = b1 := by omega
      rw [h, h0, h1]
      simp
    · have hne : ¬ (a0 = b0 ∧ a1 = b1) := by omega
      rw [show (ordA a0 a1 b0 b1 == 0) = false by simpa using h, show (a0 == b0 && (a1 == b1)) = false by simpa using hne]
      rfl
  have hend : ((addr_Addr_Put.f a0 a1).bind fun t => ((addr_Addr_Put.f b0 b1).bind fun u => (some ((decide (ordA a0 a1 b0 b1 < 0)) == (Op.bytesLess t.toList u.toList))))) = some true := by
    rw [putA_eq, Option.bind_some, putA_eq, Option.bind_some, putA_less a0 a1 b0 b1 ra0 ra1 rb0 rb1]
    simp
  rw [if_pos he]
  by_cases h1 : ordA a0 a1 b0 b1 > 0
  · rw [if_pos h1]
    exact hend
  · rw [if_neg h1, addr_order 40 b0 b1 c0 c1 (by omega), Option.bind_some]
    by_cases h2 : ordA b0 b1 c0 c1 > 0
    · rw [if_pos h2]
      exact hend
    · rw [if_neg h2, addr_order 40 a0 a1 c0 c1 (by omega), Option.bind_some, if_pos (by omega)]
      exact hend

end Go.Proofs.YtjlpfmiipicnoaaDoor.Pure
