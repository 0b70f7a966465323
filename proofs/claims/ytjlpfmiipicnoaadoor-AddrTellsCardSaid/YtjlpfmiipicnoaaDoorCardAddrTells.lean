/- AddrTells: the tied card, over the row that YtjlpfmiipicnoaaDoorLawAddrTells.lean proves. No condition. -/
import Derived.Test.YtjlpfmiipicnoaaDoorLawAddrTells
import Derived.Test.YtjlpfmiipicnoaaDoorCards
import Derived.Test.YtjlpfmiipicnoaaDoorTie
import Derived.SevenTiedAt
namespace Go.Proofs.YtjlpfmiipicnoaaDoor
open Go
theorem addrTellsCard_holds : Rows.AddrTellsCardSaid :=
  Claim7.holds_tied_plain_at .later [] [.data, .data, .data] true (true, "9572707f46b385abccaf09758cae8d59971bc2c9c3c1c19d6b6a32ec60b7d333") false
    addrTells_holds (fun _ h => by cases h) (by kernel_rfl) (fun _ h => by cases h) addrTells_row_tie rfl ⟨rfl, rfl⟩ (by kernel_rfl) rfl
    (fun f fn hf hfn => by
      obtain rfl : f = 3 := Option.some.inj ((show Tryd.prog.funcNamed "scuttlebutt/scuttlebuttlaw03.AddrTells" = some 3 by kernel_rfl).symm.trans hf) |>.symm
      obtain rfl : fn = Tryd.f3 := (Option.some.inj (Tryd.func3.symm.trans hfn)).symm
      exact ⟨by kernel_rfl, fun j t ht => by
        rw [Tryd.params3] at ht
        have hm : t ∈ [25, 25] := by simpa using Array.mem_of_getElem? ht
        have hall : ([25, 25].all fun u => !Tryd.prog.wantsStandIn u) = true := by kernel_rfl
        exact (show Tryd.prog.wantsStandIn t = false by simpa using List.all_eq_true.1 hall t hm)⟩)
    (by kernel_rfl)
#print axioms addrTellsCard_holds
end Go.Proofs.YtjlpfmiipicnoaaDoor
