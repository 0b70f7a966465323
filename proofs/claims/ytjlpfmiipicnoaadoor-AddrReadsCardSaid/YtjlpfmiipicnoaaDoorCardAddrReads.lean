/- AddrReads: the tied card, over the row that YtjlpfmiipicnoaaDoorLawAddrReads.lean proves. No condition. -/
import Derived.Test.YtjlpfmiipicnoaaDoorLawAddrReads
import Derived.Test.YtjlpfmiipicnoaaDoorCards
import Derived.Test.YtjlpfmiipicnoaaDoorTie
import Derived.SevenTiedAt
namespace Go.Proofs.YtjlpfmiipicnoaaDoor
open Go
theorem addrReadsCard_holds : Rows.AddrReadsCardSaid :=
  Claim7.holds_tied_plain_at .later [] [.data, .data, .data] true (true, "9572707f46b385abccaf09758cae8d59971bc2c9c3c1c19d6b6a32ec60b7d333") false
    addrReads_holds (fun _ h => by cases h) (by kernel_rfl) (fun _ h => by cases h) addrReads_row_tie rfl ⟨rfl, rfl⟩ (by kernel_rfl) rfl
    (fun f fn hf hfn => by
      obtain rfl : f = 4 := Option.some.inj ((show Tryd.prog.funcNamed "scuttlebutt/scuttlebuttlaw03.AddrReads" = some 4 by kernel_rfl).symm.trans hf) |>.symm
      obtain rfl : fn = Tryd.f4 := (Option.some.inj (Tryd.func4.symm.trans hfn)).symm
      exact ⟨by kernel_rfl, fun j t ht => by
        rw [Tryd.params4] at ht
        have hm : t ∈ [25, 9, 5, 3, 5, 9] := by simpa using Array.mem_of_getElem? ht
        have hall : ([25, 9, 5, 3, 5, 9].all fun u => !Tryd.prog.wantsStandIn u) = true := by kernel_rfl
        exact (show Tryd.prog.wantsStandIn t = false by simpa using List.all_eq_true.1 hall t hm)⟩)
    (by kernel_rfl)
#print axioms addrReadsCard_holds
end Go.Proofs.YtjlpfmiipicnoaaDoor
