/- AddrTexts: the tied card, over the row that YtjlpfmiipicnoaaDoorLawAddrTexts.lean proves. No condition. -/
import Derived.Test.YtjlpfmiipicnoaaDoorLawAddrTexts
import Derived.Test.YtjlpfmiipicnoaaDoorCards
import Derived.Test.YtjlpfmiipicnoaaDoorTie
import Derived.SevenTiedAt
namespace Go.Proofs.YtjlpfmiipicnoaaDoor
open Go
theorem addrTextsCard_holds : Rows.AddrTextsCardSaid :=
  Claim7.holds_tied_plain_at .later [] [.data, .data, .data] true (true, "9572707f46b385abccaf09758cae8d59971bc2c9c3c1c19d6b6a32ec60b7d333") false
    addrTexts_holds (fun _ h => by cases h) (by kernel_rfl) (fun _ h => by cases h) addrTexts_row_tie rfl ⟨rfl, rfl⟩ (by kernel_rfl) rfl
    (fun f fn hf hfn => by
      obtain rfl : f = 8 := Option.some.inj ((show Tryd.prog.funcNamed "scuttlebutt/scuttlebuttlaw03.AddrTexts" = some 8 by kernel_rfl).symm.trans hf) |>.symm
      obtain rfl : fn = Tryd.f8 := (Option.some.inj (Tryd.func8.symm.trans hfn)).symm
      exact ⟨by kernel_rfl, fun j t ht => by
        rw [Tryd.params8] at ht
        have hm : t ∈ [5, 25] := by simpa using Array.mem_of_getElem? ht
        have hall : ([5, 25].all fun u => !Tryd.prog.wantsStandIn u) = true := by kernel_rfl
        exact (show Tryd.prog.wantsStandIn t = false by simpa using List.all_eq_true.1 hall t hm)⟩)
    (by kernel_rfl)
#print axioms addrTextsCard_holds
end Go.Proofs.YtjlpfmiipicnoaaDoor
