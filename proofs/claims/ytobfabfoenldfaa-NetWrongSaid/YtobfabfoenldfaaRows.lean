/-
  No cell of these rows narrows 'for every input' (looked for: loops, veiled, ifaces, maps, wideKeys, modest, calm, conditions, laid).
  DERIVED. THE GIVEN ROWS OF THIS SEAT. 6 by the template 'for every input the law returns true; each argument reads behind the call as it read before'; 0 by the template 'total and deterministic' (their statements: YtobfabfoenldfaaTotals.lean).
  GIVEN WITH THE SEED: the statements are not yours to turn. If you find one false, say at which input.
  Laid BY PROGRAM, IN A SANDBOX (cutbox-rows.mjs): the forced cells as the released guide's own fill.sh prints them over the translation fbaae2ea3f5c41be… (all of the seat's roots in one cut). By AI agents, Wed Nov 11 2026. No macro, syntax, notation, axiom, sorry.
-/
import Derived.Test.YtobfabfoenldfaaChecked
import GoSem.Claim
import GoSem.ClaimJoined
import GoSem.ClaimMapViews
import Derived.JoinedTies
import Derived.KernelRfl
namespace Go.Proofs.Ytobfabfoenldfaa
/- THE CELL 'sum', in the pinned program and in every row, IS THE sha256 OF THE DUMP (.gsa) THAT YtobfabfoenldfaaProg.lean LOADS. Nothing in Lean hashes anything: it is a label: what it is worth is what the hold of that sum in a sandbox is worth. -/
noncomputable def Try.pinned : Pinned := { name := "ytobfabfoenldfaa", sum := "fbaae2ea3f5c41bea3f5ff0d40063f4048f3fe0f5c88daa3aaadc3fd29c558bc", checked := Try.checked }
namespace Rows
def none {H : Type} : Left H := { results := [], args := [] }

/-- 'scuttlebuttlaw20.NetBack': WHATEVER THE INPUT: true; the input reads as it did. -/
def netBackSpec : ChangeSpec := { name := "netBack", fn := fun _ => fun
  | [d1, d2, d3] => { results := [.lit (.bool true)], args := [d1, d2, d3] }
  | _ => none }
def netBackRow : OpenClaim := { program := "ytobfabfoenldfaa", sum := "fbaae2ea3f5c41bea3f5ff0d40063f4048f3fe0f5c88daa3aaadc3fd29c558bc", func := "scuttlebutt/scuttlebuttlaw20.NetBack", spec := "netBack", unfollowed := true, recurses := true, apart := false }
def NetBackSaid : Prop := netBackRow.holds Try.pinned (OpenSpec.ofChange netBackSpec)

/-- ITS FALSE NEIGHBOUR: 'it returns false'. Refute it at one input. -/
def netBackWrong : ChangeSpec := { name := "netBack", fn := fun _ => fun
  | [d1, d2, d3] => { results := [.lit (.bool false)], args := [d1, d2, d3] }
  | _ => none }
def NetBackWrongFalsely : Prop := netBackRow.holds Try.pinned (OpenSpec.ofChange netBackWrong)

/-- 'scuttlebuttlaw20.NetWrong': WHATEVER THE INPUT: true; the input reads as it did. -/
def netWrongSpec : ChangeSpec := { name := "netWrong", fn := fun _ => fun
  | [d1, d2] => { results := [.lit (.bool true)], args := [d1, d2] }
  | _ => none }
def netWrongRow : OpenClaim := { program := "ytobfabfoenldfaa", sum := "fbaae2ea3f5c41bea3f5ff0d40063f4048f3fe0f5c88daa3aaadc3fd29c558bc", func := "scuttlebutt/scuttlebuttlaw20.NetWrong", spec := "netWrong", unfollowed := true, recurses := true, apart := false }
def NetWrongSaid : Prop := netWrongRow.holds Try.pinned (OpenSpec.ofChange netWrongSpec)

/-- ITS FALSE NEIGHBOUR: 'it returns false'. Refute it at one input. -/
def netWrongWrong : ChangeSpec := { name := "netWrong", fn := fun _ => fun
  | [d1, d2] => { results := [.lit (.bool false)], args := [d1, d2] }
  | _ => none }
def NetWrongWrongFalsely : Prop := netWrongRow.holds Try.pinned (OpenSpec.ofChange netWrongWrong)

/-- 'scuttlebuttlaw20.NetAnew': WHATEVER THE INPUT: true; the input reads as it did. -/
def netAnewSpec : ChangeSpec := { name := "netAnew", fn := fun _ => fun
  | [d1, d2] => { results := [.lit (.bool true)], args := [d1, d2] }
  | _ => none }
def netAnewRow : OpenClaim := { program := "ytobfabfoenldfaa", sum := "fbaae2ea3f5c41bea3f5ff0d40063f4048f3fe0f5c88daa3aaadc3fd29c558bc", func := "scuttlebutt/scuttlebuttlaw20.NetAnew", spec := "netAnew", unfollowed := true, recurses := true, apart := false }
def NetAnewSaid : Prop := netAnewRow.holds Try.pinned (OpenSpec.ofChange netAnewSpec)

/-- ITS FALSE NEIGHBOUR: 'it returns false'. Refute it at one input. -/
def netAnewWrong : ChangeSpec := { name := "netAnew", fn := fun _ => fun
  | [d1, d2] => { results := [.lit (.bool false)], args := [d1, d2] }
  | _ => none }
def NetAnewWrongFalsely : Prop := netAnewRow.holds Try.pinned (OpenSpec.ofChange netAnewWrong)

/-- 'scuttlebuttlaw20.NetArrives': WHATEVER THE INPUT: true; the input reads as it did. -/
def netArrivesSpec : ChangeSpec := { name := "netArrives", fn := fun _ => fun
  | [d1, d2, d3, d4] => { results := [.lit (.bool true)], args := [d1, d2, d3, d4] }
  | _ => none }
def netArrivesRow : OpenClaim := { program := "ytobfabfoenldfaa", sum := "fbaae2ea3f5c41bea3f5ff0d40063f4048f3fe0f5c88daa3aaadc3fd29c558bc", func := "scuttlebutt/scuttlebuttlaw20.NetArrives", spec := "netArrives", unfollowed := true, recurses := true, apart := false }
def NetArrivesSaid : Prop := netArrivesRow.holds Try.pinned (OpenSpec.ofChange netArrivesSpec)

/-- ITS FALSE NEIGHBOUR: 'it returns false'. Refute it at one input. -/
def netArrivesWrong : ChangeSpec := { name := "netArrives", fn := fun _ => fun
  | [d1, d2, d3, d4] => { results := [.lit (.bool false)], args := [d1, d2, d3, d4] }
  | _ => none }
def NetArrivesWrongFalsely : Prop := netArrivesRow.holds Try.pinned (OpenSpec.ofChange netArrivesWrong)

/-- 'scuttlebuttlaw20.NetFull': WHATEVER THE INPUT: true; the input reads as it did. -/
def netFullSpec : ChangeSpec := { name := "netFull", fn := fun _ => fun
  | [d1, d2] => { results := [.lit (.bool true)], args := [d1, d2] }
  | _ => none }
def netFullRow : OpenClaim := { program := "ytobfabfoenldfaa", sum := "fbaae2ea3f5c41bea3f5ff0d40063f4048f3fe0f5c88daa3aaadc3fd29c558bc", func := "scuttlebutt/scuttlebuttlaw20.NetFull", spec := "netFull", unfollowed := true, recurses := true, apart := false }
def NetFullSaid : Prop := netFullRow.holds Try.pinned (OpenSpec.ofChange netFullSpec)

/-- ITS FALSE NEIGHBOUR: 'it returns false'. Refute it at one input. -/
def netFullWrong : ChangeSpec := { name := "netFull", fn := fun _ => fun
  | [d1, d2] => { results := [.lit (.bool false)], args := [d1, d2] }
  | _ => none }
def NetFullWrongFalsely : Prop := netFullRow.holds Try.pinned (OpenSpec.ofChange netFullWrong)

/-- 'scuttlebuttlaw20.NetDelays': WHATEVER THE INPUT: true; the input reads as it did. -/
def netDelaysSpec : ChangeSpec := { name := "netDelays", fn := fun _ => fun
  | [d1, d2, d3] => { results := [.lit (.bool true)], args := [d1, d2, d3] }
  | _ => none }
def netDelaysRow : OpenClaim := { program := "ytobfabfoenldfaa", sum := "fbaae2ea3f5c41bea3f5ff0d40063f4048f3fe0f5c88daa3aaadc3fd29c558bc", func := "scuttlebutt/scuttlebuttlaw20.NetDelays", spec := "netDelays", unfollowed := true, recurses := true, apart := false }
def NetDelaysSaid : Prop := netDelaysRow.holds Try.pinned (OpenSpec.ofChange netDelaysSpec)

/-- ITS FALSE NEIGHBOUR: 'it returns false'. Refute it at one input. -/
def netDelaysWrong : ChangeSpec := { name := "netDelays", fn := fun _ => fun
  | [d1, d2, d3] => { results := [.lit (.bool false)], args := [d1, d2, d3] }
  | _ => none }
def NetDelaysWrongFalsely : Prop := netDelaysRow.holds Try.pinned (OpenSpec.ofChange netDelaysWrong)

/- THE SECOND FORM. 'bulk': how many values and letters a reading holds, each counted each time it is reached (what is shared counts as often as it is met; a slice's spare places count too). A statement '..UptoSaid' is the law's where the arguments, and the package variables that the reading takes, are together of bulk at most 1048576: NARROWER than '..Said'. Prove '..Said' where nothing that the law and all that it calls make is longer than what came in: it says more and counts as full. Else prove '..UptoSaid'. A law counts once. -/
mutual
def uptoBulk {H : Type} : DataW H → Nat
  | .lit (.string bytes) => bytes.length + 1
  | .lit _ => 1
  | .nil => 1
  | .ptr d => uptoBulk d + 1
  | .slice elems spare => uptoBulkAll elems + uptoBulkAll spare + 1
  | .agg parts => uptoBulkAll parts + 1
  | .iface _ d => uptoBulk d + 1
  | .map entries => uptoBulkEntries entries + 1
  | .held _ => 1
def uptoBulkAll {H : Type} : List (DataW H) → Nat
  | [] => 0
  | d :: r => uptoBulk d + uptoBulkAll r
def uptoBulkEntries {H : Type} : List (Lit × DataW H) → Nat
  | [] => 0
  | x :: r => uptoBulkEntry x + uptoBulkEntries r
def uptoBulkEntry {H : Type} : Lit × DataW H → Nat
  | (.string bytes, d) => bytes.length + uptoBulk d + 1
  | (_, d) => uptoBulk d + 1
 end
def uptoSmall : (H : Type) → List (DataW H) → Bool := fun _ ds => decide (uptoBulkAll ds ≤ 1048576)
def OpenSpec.upto (s : _root_.Go.ChangeSpec) : _root_.Go.OpenSpec := { _root_.Go.OpenSpec.ofChange s with cond := some uptoSmall }

/-- 'scuttlebuttlaw20.NetBack', WHERE WHAT IT READS IS OF BULK AT MOST 1048576: true; the input reads as it did. -/
def netBackUptoRow : OpenClaim := { program := "ytobfabfoenldfaa", sum := "fbaae2ea3f5c41bea3f5ff0d40063f4048f3fe0f5c88daa3aaadc3fd29c558bc", func := "scuttlebutt/scuttlebuttlaw20.NetBack", spec := "netBack", unfollowed := true, recurses := true, apart := false, narrowed := true }
def NetBackUptoSaid : Prop := netBackUptoRow.holds Try.pinned (OpenSpec.upto netBackSpec)

/-- 'scuttlebuttlaw20.NetWrong', WHERE WHAT IT READS IS OF BULK AT MOST 1048576: true; the input reads as it did. -/
def netWrongUptoRow : OpenClaim := { program := "ytobfabfoenldfaa", sum := "fbaae2ea3f5c41bea3f5ff0d40063f4048f3fe0f5c88daa3aaadc3fd29c558bc", func := "scuttlebutt/scuttlebuttlaw20.NetWrong", spec := "netWrong", unfollowed := true, recurses := true, apart := false, narrowed := true }
def NetWrongUptoSaid : Prop := netWrongUptoRow.holds Try.pinned (OpenSpec.upto netWrongSpec)

/-- 'scuttlebuttlaw20.NetAnew', WHERE WHAT IT READS IS OF BULK AT MOST 1048576: true; the input reads as it did. -/
def netAnewUptoRow : OpenClaim := { program := "ytobfabfoenldfaa", sum := "fbaae2ea3f5c41bea3f5ff0d40063f4048f3fe0f5c88daa3aaadc3fd29c558bc", func := "scuttlebutt/scuttlebuttlaw20.NetAnew", spec := "netAnew", unfollowed := true, recurses := true, apart := false, narrowed := true }
def NetAnewUptoSaid : Prop := netAnewUptoRow.holds Try.pinned (OpenSpec.upto netAnewSpec)

/-- 'scuttlebuttlaw20.NetArrives', WHERE WHAT IT READS IS OF BULK AT MOST 1048576: true; the input reads as it did. -/
def netArrivesUptoRow : OpenClaim := { program := "ytobfabfoenldfaa", sum := "fbaae2ea3f5c41bea3f5ff0d40063f4048f3fe0f5c88daa3aaadc3fd29c558bc", func := "scuttlebutt/scuttlebuttlaw20.NetArrives", spec := "netArrives", unfollowed := true, recurses := true, apart := false, narrowed := true }
def NetArrivesUptoSaid : Prop := netArrivesUptoRow.holds Try.pinned (OpenSpec.upto netArrivesSpec)

/-- 'scuttlebuttlaw20.NetFull', WHERE WHAT IT READS IS OF BULK AT MOST 1048576: true; the input reads as it did. -/
def netFullUptoRow : OpenClaim := { program := "ytobfabfoenldfaa", sum := "fbaae2ea3f5c41bea3f5ff0d40063f4048f3fe0f5c88daa3aaadc3fd29c558bc", func := "scuttlebutt/scuttlebuttlaw20.NetFull", spec := "netFull", unfollowed := true, recurses := true, apart := false, narrowed := true }
def NetFullUptoSaid : Prop := netFullUptoRow.holds Try.pinned (OpenSpec.upto netFullSpec)

/-- 'scuttlebuttlaw20.NetDelays', WHERE WHAT IT READS IS OF BULK AT MOST 1048576: true; the input reads as it did. -/
def netDelaysUptoRow : OpenClaim := { program := "ytobfabfoenldfaa", sum := "fbaae2ea3f5c41bea3f5ff0d40063f4048f3fe0f5c88daa3aaadc3fd29c558bc", func := "scuttlebutt/scuttlebuttlaw20.NetDelays", spec := "netDelays", unfollowed := true, recurses := true, apart := false, narrowed := true }
def NetDelaysUptoSaid : Prop := netDelaysUptoRow.holds Try.pinned (OpenSpec.upto netDelaysSpec)

end Rows
end Go.Proofs.Ytobfabfoenldfaa
