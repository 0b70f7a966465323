/- JudgeWrong: the tied card, over the row that YthncipgafdfnfaaDoorLawJudgeWrong.lean proves. No condition. -/
import Derived.Test.YthncipgafdfnfaaDoorLawJudgeWrong
import Derived.Test.YthncipgafdfnfaaDoorCards
import Derived.Test.YthncipgafdfnfaaDoorTie
import Derived.SevenTiedAt
namespace Go.Proofs.YthncipgafdfnfaaDoor
open Go
theorem judgeWrongCard_holds : Rows.JudgeWrongCardSaid :=
  Claim7.holds_tied_plain_at .later [] [.data, .data, .data] true (true, "2783ffdd1e6ce7141f5dbd124af3a240209000ec90643962a4a7f51013c31a10") false
    judgeWrong_holds (fun _ h => by cases h) (by kernel_rfl) (fun _ h => by cases h) judgeWrong_row_tie rfl ⟨rfl, rfl⟩ (by kernel_rfl) rfl
    (fun f fn hf hfn => by
      obtain rfl : f = 4 := Option.some.inj ((show Tryd.prog.funcNamed "scuttlebutt/scuttlebuttlaw22.JudgeWrong" = some 4 by kernel_rfl).symm.trans hf) |>.symm
      obtain rfl : fn = Tryd.f4 := (Option.some.inj (Tryd.func4.symm.trans hfn)).symm
      exact ⟨by kernel_rfl, fun j t ht => by
        rw [Tryd.params4] at ht
        have hm : t ∈ [5, 5, 5] := by simpa using Array.mem_of_getElem? ht
        have hall : ([5, 5, 5].all fun u => !Tryd.prog.wantsStandIn u) = true := by kernel_rfl
        exact (show Tryd.prog.wantsStandIn t = false by simpa using List.all_eq_true.1 hall t hm)⟩)
    (by kernel_rfl)
#print axioms judgeWrongCard_holds
end Go.Proofs.YthncipgafdfnfaaDoor
