/-
  No cell of these rows narrows 'for every input' (looked for: loops, veiled, ifaces, maps, wideKeys, modest, calm, conditions, laid).
  DERIVED. THE GIVEN ROWS OF THIS SEAT. 6 by the template 'for every input the law returns true; each argument reads behind the call as it read before'; 0 by the template 'total and deterministic' (their statements: YthpmlnnjfmcglaaTotals.lean).
  GIVEN WITH THE SEED: the statements are not yours to turn. If you find one false, say at which input.
  Laid BY PROGRAM, IN A SANDBOX (cutbox-rows.mjs): the forced cells as the released guide's own fill.sh prints them over the translation c573d034a2510261… (all of the seat's roots in one cut). By AI agents, Wed Nov 11 2026. No macro, syntax, notation, axiom, sorry.
-/
import Derived.Test.YthpmlnnjfmcglaaChecked
import GoSem.Claim
import GoSem.ClaimJoined
import GoSem.ClaimMapViews
import Derived.JoinedTies
import Derived.KernelRfl
namespace Go.Proofs.Ythpmlnnjfmcglaa
/- THE CELL 'sum', in the pinned program and in every row, IS THE sha256 OF THE DUMP (.gsa) THAT YthpmlnnjfmcglaaProg.lean LOADS. Nothing in Lean hashes anything: it is a label: what it is worth is what the hold of that sum in a sandbox is worth. -/
noncomputable def Try.pinned : Pinned := { name := "ythpmlnnjfmcglaa", sum := "c573d034a2510261f66d3d8795e9cb443250188fca46d66b8463b845eb6629b9", checked := Try.checked }
namespace Rows
def none {H : Type} : Left H := { results := [], args := [] }

/-- 'scuttlebuttlaw11.ViewRises': WHATEVER THE INPUT: true; the input reads as it did. -/
def viewRisesSpec : ChangeSpec := { name := "viewRises", fn := fun _ => fun
  | [d] => { results := [.lit (.bool true)], args := [d] }
  | _ => none }
def viewRisesRow : OpenClaim := { program := "ythpmlnnjfmcglaa", sum := "c573d034a2510261f66d3d8795e9cb443250188fca46d66b8463b845eb6629b9", func := "scuttlebutt/scuttlebuttlaw11.ViewRises", spec := "viewRises", apart := false }
def ViewRisesSaid : Prop := viewRisesRow.holds Try.pinned (OpenSpec.ofChange viewRisesSpec)

/-- ITS FALSE NEIGHBOUR: 'it returns false'. Refute it at one input. -/
def viewRisesWrong : ChangeSpec := { name := "viewRises", fn := fun _ => fun
  | [d] => { results := [.lit (.bool false)], args := [d] }
  | _ => none }
def ViewRisesWrongFalsely : Prop := viewRisesRow.holds Try.pinned (OpenSpec.ofChange viewRisesWrong)

/-- 'scuttlebuttlaw11.ViewEvents': WHATEVER THE INPUT: true; the input reads as it did. -/
def viewEventsSpec : ChangeSpec := { name := "viewEvents", fn := fun _ => fun
  | [d] => { results := [.lit (.bool true)], args := [d] }
  | _ => none }
def viewEventsRow : OpenClaim := { program := "ythpmlnnjfmcglaa", sum := "c573d034a2510261f66d3d8795e9cb443250188fca46d66b8463b845eb6629b9", func := "scuttlebutt/scuttlebuttlaw11.ViewEvents", spec := "viewEvents", apart := false }
def ViewEventsSaid : Prop := viewEventsRow.holds Try.pinned (OpenSpec.ofChange viewEventsSpec)

/-- ITS FALSE NEIGHBOUR: 'it returns false'. Refute it at one input. -/
def viewEventsWrong : ChangeSpec := { name := "viewEvents", fn := fun _ => fun
  | [d] => { results := [.lit (.bool false)], args := [d] }
  | _ => none }
def ViewEventsWrongFalsely : Prop := viewEventsRow.holds Try.pinned (OpenSpec.ofChange viewEventsWrong)

/-- 'scuttlebuttlaw11.ViewLive': WHATEVER THE INPUT: true; the input reads as it did. -/
def viewLiveSpec : ChangeSpec := { name := "viewLive", fn := fun _ => fun
  | [d] => { results := [.lit (.bool true)], args := [d] }
  | _ => none }
def viewLiveRow : OpenClaim := { program := "ythpmlnnjfmcglaa", sum := "c573d034a2510261f66d3d8795e9cb443250188fca46d66b8463b845eb6629b9", func := "scuttlebutt/scuttlebuttlaw11.ViewLive", spec := "viewLive", apart := false }
def ViewLiveSaid : Prop := viewLiveRow.holds Try.pinned (OpenSpec.ofChange viewLiveSpec)

/-- ITS FALSE NEIGHBOUR: 'it returns false'. Refute it at one input. -/
def viewLiveWrong : ChangeSpec := { name := "viewLive", fn := fun _ => fun
  | [d] => { results := [.lit (.bool false)], args := [d] }
  | _ => none }
def ViewLiveWrongFalsely : Prop := viewLiveRow.holds Try.pinned (OpenSpec.ofChange viewLiveWrong)

/-- 'scuttlebuttlaw11.ViewPlays': WHATEVER THE INPUT: true; the input reads as it did. -/
def viewPlaysSpec : ChangeSpec := { name := "viewPlays", fn := fun _ => fun
  | [d1, d2] => { results := [.lit (.bool true)], args := [d1, d2] }
  | _ => none }
def viewPlaysRow : OpenClaim := { program := "ythpmlnnjfmcglaa", sum := "c573d034a2510261f66d3d8795e9cb443250188fca46d66b8463b845eb6629b9", func := "scuttlebutt/scuttlebuttlaw11.ViewPlays", spec := "viewPlays", unfollowed := true, recurses := true, apart := false }
def ViewPlaysSaid : Prop := viewPlaysRow.holds Try.pinned (OpenSpec.ofChange viewPlaysSpec)

/-- ITS FALSE NEIGHBOUR: 'it returns false'. Refute it at one input. -/
def viewPlaysWrong : ChangeSpec := { name := "viewPlays", fn := fun _ => fun
  | [d1, d2] => { results := [.lit (.bool false)], args := [d1, d2] }
  | _ => none }
def ViewPlaysWrongFalsely : Prop := viewPlaysRow.holds Try.pinned (OpenSpec.ofChange viewPlaysWrong)

/-- 'scuttlebuttlaw11.ViewOrder': WHATEVER THE INPUT: true; the input reads as it did. -/
def viewOrderSpec : ChangeSpec := { name := "viewOrder", fn := fun _ => fun
  | [d] => { results := [.lit (.bool true)], args := [d] }
  | _ => none }
def viewOrderRow : OpenClaim := { program := "ythpmlnnjfmcglaa", sum := "c573d034a2510261f66d3d8795e9cb443250188fca46d66b8463b845eb6629b9", func := "scuttlebutt/scuttlebuttlaw11.ViewOrder", spec := "viewOrder", unfollowed := true, recurses := true, apart := false }
def ViewOrderSaid : Prop := viewOrderRow.holds Try.pinned (OpenSpec.ofChange viewOrderSpec)

/-- ITS FALSE NEIGHBOUR: 'it returns false'. Refute it at one input. -/
def viewOrderWrong : ChangeSpec := { name := "viewOrder", fn := fun _ => fun
  | [d] => { results := [.lit (.bool false)], args := [d] }
  | _ => none }
def ViewOrderWrongFalsely : Prop := viewOrderRow.holds Try.pinned (OpenSpec.ofChange viewOrderWrong)

/-- 'scuttlebuttlaw11.ViewMerge': WHATEVER THE INPUT: true; the input reads as it did. -/
def viewMergeSpec : ChangeSpec := { name := "viewMerge", fn := fun _ => fun
  | [d1, d2, d3] => { results := [.lit (.bool true)], args := [d1, d2, d3] }
  | _ => none }
def viewMergeRow : OpenClaim := { program := "ythpmlnnjfmcglaa", sum := "c573d034a2510261f66d3d8795e9cb443250188fca46d66b8463b845eb6629b9", func := "scuttlebutt/scuttlebuttlaw11.ViewMerge", spec := "viewMerge", unfollowed := true, recurses := true, apart := false }
def ViewMergeSaid : Prop := viewMergeRow.holds Try.pinned (OpenSpec.ofChange viewMergeSpec)

/-- ITS FALSE NEIGHBOUR: 'it returns false'. Refute it at one input. -/
def viewMergeWrong : ChangeSpec := { name := "viewMerge", fn := fun _ => fun
  | [d1, d2, d3] => { results := [.lit (.bool false)], args := [d1, d2, d3] }
  | _ => none }
def ViewMergeWrongFalsely : Prop := viewMergeRow.holds Try.pinned (OpenSpec.ofChange viewMergeWrong)

/- THE SECOND FORM. 'bulk': how many values and letters a reading holds, each counted each time it is reached (what is shared counts as often as it is met; a slice's spare places count too). A statement '..UptoSaid' is the law's where the arguments, and the package variables that the reading takes, are together of bulk at most 1048576: NARROWER than '..Said'. Prove '..Said' where nothing that the law and all that it calls make is longer than what came in: it says more and counts as full. Else prove '..UptoSaid'. A law counts once. -/
mutual
def uptoBulk {H : Type} : DataW H → Nat
  | .lit (.string bytes) => bytes.length + 1
  | .lit _ => 1
  | .nil => 1
  | .ptr d => uptoBulk d + 1
  | .slice elems spare => uptoBulkAll elems + uptoBulkAll spare + 1
  | .agg parts => uptoBulkAll parts + 1
  | .iface _ d => uptoBulk d + 1
  | .map entries => uptoBulkEntries entries + 1
  | .held _ => 1
def uptoBulkAll {H : Type} : List (DataW H) → Nat
  | [] => 0
  | d :: r => uptoBulk d + uptoBulkAll r
def uptoBulkEntries {H : Type} : List (Lit × DataW H) → Nat
  | [] => 0
  | x :: r => uptoBulkEntry x + uptoBulkEntries r
def uptoBulkEntry {H : Type} : Lit × DataW H → Nat
  | (.string bytes, d) => bytes.length + uptoBulk d + 1
  | (_, d) => uptoBulk d + 1
 end
def uptoSmall : (H : Type) → List (DataW H) → Bool := fun _ ds => decide (uptoBulkAll ds ≤ 1048576)
def OpenSpec.upto (s : _root_.Go.ChangeSpec) : _root_.Go.OpenSpec := { _root_.Go.OpenSpec.ofChange s with cond := some uptoSmall }

/-- 'scuttlebuttlaw11.ViewRises', WHERE WHAT IT READS IS OF BULK AT MOST 1048576: true; the input reads as it did. -/
def viewRisesUptoRow : OpenClaim := { program := "ythpmlnnjfmcglaa", sum := "c573d034a2510261f66d3d8795e9cb443250188fca46d66b8463b845eb6629b9", func := "scuttlebutt/scuttlebuttlaw11.ViewRises", spec := "viewRises", apart := false, narrowed := true }
def ViewRisesUptoSaid : Prop := viewRisesUptoRow.holds Try.pinned (OpenSpec.upto viewRisesSpec)

/-- 'scuttlebuttlaw11.ViewEvents', WHERE WHAT IT READS IS OF BULK AT MOST 1048576: true; the input reads as it did. -/
def viewEventsUptoRow : OpenClaim := { program := "ythpmlnnjfmcglaa", sum := "c573d034a2510261f66d3d8795e9cb443250188fca46d66b8463b845eb6629b9", func := "scuttlebutt/scuttlebuttlaw11.ViewEvents", spec := "viewEvents", apart := false, narrowed := true }
def ViewEventsUptoSaid : Prop := viewEventsUptoRow.holds Try.pinned (OpenSpec.upto viewEventsSpec)

/-- 'scuttlebuttlaw11.ViewLive', WHERE WHAT IT READS IS OF BULK AT MOST 1048576: true; the input reads as it did. -/
def viewLiveUptoRow : OpenClaim := { program := "ythpmlnnjfmcglaa", sum := "c573d034a2510261f66d3d8795e9cb443250188fca46d66b8463b845eb6629b9", func := "scuttlebutt/scuttlebuttlaw11.ViewLive", spec := "viewLive", apart := false, narrowed := true }
def ViewLiveUptoSaid : Prop := viewLiveUptoRow.holds Try.pinned (OpenSpec.upto viewLiveSpec)

/-- 'scuttlebuttlaw11.ViewPlays', WHERE WHAT IT READS IS OF BULK AT MOST 1048576: true; the input reads as it did. -/
def viewPlaysUptoRow : OpenClaim := { program := "ythpmlnnjfmcglaa", sum := "c573d034a2510261f66d3d8795e9cb443250188fca46d66b8463b845eb6629b9", func := "scuttlebutt/scuttlebuttlaw11.ViewPlays", spec := "viewPlays", unfollowed := true, recurses := true, apart := false, narrowed := true }
def ViewPlaysUptoSaid : Prop := viewPlaysUptoRow.holds Try.pinned (OpenSpec.upto viewPlaysSpec)

/-- 'scuttlebuttlaw11.ViewOrder', WHERE WHAT IT READS IS OF BULK AT MOST 1048576: true; the input reads as it did. -/
def viewOrderUptoRow : OpenClaim := { program := "ythpmlnnjfmcglaa", sum := "c573d034a2510261f66d3d8795e9cb443250188fca46d66b8463b845eb6629b9", func := "scuttlebutt/scuttlebuttlaw11.ViewOrder", spec := "viewOrder", unfollowed := true, recurses := true, apart := false, narrowed := true }
def ViewOrderUptoSaid : Prop := viewOrderUptoRow.holds Try.pinned (OpenSpec.upto viewOrderSpec)

/-- 'scuttlebuttlaw11.ViewMerge', WHERE WHAT IT READS IS OF BULK AT MOST 1048576: true; the input reads as it did. -/
def viewMergeUptoRow : OpenClaim := { program := "ythpmlnnjfmcglaa", sum := "c573d034a2510261f66d3d8795e9cb443250188fca46d66b8463b845eb6629b9", func := "scuttlebutt/scuttlebuttlaw11.ViewMerge", spec := "viewMerge", unfollowed := true, recurses := true, apart := false, narrowed := true }
def ViewMergeUptoSaid : Prop := viewMergeUptoRow.holds Try.pinned (OpenSpec.upto viewMergeSpec)

end Rows
end Go.Proofs.Ythpmlnnjfmcglaa
