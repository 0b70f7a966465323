/-
  No cell of these rows narrows 'for every input' (looked for: loops, veiled, ifaces, maps, wideKeys, modest, calm, conditions, laid).
  DERIVED. THE GIVEN ROWS OF THIS SEAT. 6 by the template 'for every input the law returns true; each argument reads behind the call as it read before'; 0 by the template 'total and deterministic' (their statements: YthoppcefadopeaaTotals.lean).
  GIVEN WITH THE SEED: the statements are not yours to turn. If you find one false, say at which input.
  Laid BY PROGRAM, IN A SANDBOX (cutbox-rows.mjs): the forced cells as the released guide's own fill.sh prints them over the translation 61626fdb017bfb02… (all of the seat's roots in one cut). By AI agents, Wed Nov 11 2026. No macro, syntax, notation, axiom, sorry.
-/
import Derived.Test.YthoppcefadopeaaChecked
import GoSem.Claim
import GoSem.ClaimJoined
import GoSem.ClaimMapViews
import Derived.JoinedTies
import Derived.KernelRfl
namespace Go.Proofs.Ythoppcefadopeaa
/- THE CELL 'sum', in the pinned program and in every row, IS THE sha256 OF THE DUMP (.gsa) THAT YthoppcefadopeaaProg.lean LOADS. Nothing in Lean hashes anything: it is a label: what it is worth is what the hold of that sum in a sandbox is worth. -/
noncomputable def Try.pinned : Pinned := { name := "ythoppcefadopeaa", sum := "61626fdb017bfb02d52068a9322350b045d40306b83fe501dc4333666bfe63b8", checked := Try.checked }
namespace Rows
def none {H : Type} : Left H := { results := [], args := [] }

/-- 'scuttlebuttlaw15.DoubtPlays': WHATEVER THE INPUT: true; the input reads as it did. -/
def doubtPlaysSpec : ChangeSpec := { name := "doubtPlays", fn := fun _ => fun
  | [d] => { results := [.lit (.bool true)], args := [d] }
  | _ => none }
def doubtPlaysRow : OpenClaim := { program := "ythoppcefadopeaa", sum := "61626fdb017bfb02d52068a9322350b045d40306b83fe501dc4333666bfe63b8", func := "scuttlebutt/scuttlebuttlaw15.DoubtPlays", spec := "doubtPlays", inPlace := ["slices.overlaps[int]"], unfollowed := true, recurses := true, apart := false }
def DoubtPlaysSaid : Prop := doubtPlaysRow.holds Try.pinned (OpenSpec.ofChange doubtPlaysSpec)

/-- ITS FALSE NEIGHBOUR: 'it returns false'. Refute it at one input. -/
def doubtPlaysWrong : ChangeSpec := { name := "doubtPlays", fn := fun _ => fun
  | [d] => { results := [.lit (.bool false)], args := [d] }
  | _ => none }
def DoubtPlaysWrongFalsely : Prop := doubtPlaysRow.holds Try.pinned (OpenSpec.ofChange doubtPlaysWrong)

/-- 'scuttlebuttlaw15.DoubtDue': WHATEVER THE INPUT: true; the input reads as it did. -/
def doubtDueSpec : ChangeSpec := { name := "doubtDue", fn := fun _ => fun
  | [d1, d2, d3] => { results := [.lit (.bool true)], args := [d1, d2, d3] }
  | _ => none }
def doubtDueRow : OpenClaim := { program := "ythoppcefadopeaa", sum := "61626fdb017bfb02d52068a9322350b045d40306b83fe501dc4333666bfe63b8", func := "scuttlebutt/scuttlebuttlaw15.DoubtDue", spec := "doubtDue", inPlace := ["slices.overlaps[int]"], unfollowed := true, recurses := true, apart := false }
def DoubtDueSaid : Prop := doubtDueRow.holds Try.pinned (OpenSpec.ofChange doubtDueSpec)

/-- ITS FALSE NEIGHBOUR: 'it returns false'. Refute it at one input. -/
def doubtDueWrong : ChangeSpec := { name := "doubtDue", fn := fun _ => fun
  | [d1, d2, d3] => { results := [.lit (.bool false)], args := [d1, d2, d3] }
  | _ => none }
def DoubtDueWrongFalsely : Prop := doubtDueRow.holds Try.pinned (OpenSpec.ofChange doubtDueWrong)

/-- 'scuttlebuttlaw15.DoubtClear': WHATEVER THE INPUT: true; the input reads as it did. -/
def doubtClearSpec : ChangeSpec := { name := "doubtClear", fn := fun _ => fun
  | [d1, d2, d3] => { results := [.lit (.bool true)], args := [d1, d2, d3] }
  | _ => none }
def doubtClearRow : OpenClaim := { program := "ythoppcefadopeaa", sum := "61626fdb017bfb02d52068a9322350b045d40306b83fe501dc4333666bfe63b8", func := "scuttlebutt/scuttlebuttlaw15.DoubtClear", spec := "doubtClear", inPlace := ["slices.overlaps[int]"], unfollowed := true, recurses := true, apart := false }
def DoubtClearSaid : Prop := doubtClearRow.holds Try.pinned (OpenSpec.ofChange doubtClearSpec)

/-- ITS FALSE NEIGHBOUR: 'it returns false'. Refute it at one input. -/
def doubtClearWrong : ChangeSpec := { name := "doubtClear", fn := fun _ => fun
  | [d1, d2, d3] => { results := [.lit (.bool false)], args := [d1, d2, d3] }
  | _ => none }
def DoubtClearWrongFalsely : Prop := doubtClearRow.holds Try.pinned (OpenSpec.ofChange doubtClearWrong)

/-- 'scuttlebuttlaw15.DoubtMany': WHATEVER THE INPUT: true; the input reads as it did. -/
def doubtManySpec : ChangeSpec := { name := "doubtMany", fn := fun _ => fun
  | [d] => { results := [.lit (.bool true)], args := [d] }
  | _ => none }
def doubtManyRow : OpenClaim := { program := "ythoppcefadopeaa", sum := "61626fdb017bfb02d52068a9322350b045d40306b83fe501dc4333666bfe63b8", func := "scuttlebutt/scuttlebuttlaw15.DoubtMany", spec := "doubtMany", inPlace := ["slices.overlaps[int]"], unfollowed := true, recurses := true, apart := false }
def DoubtManySaid : Prop := doubtManyRow.holds Try.pinned (OpenSpec.ofChange doubtManySpec)

/-- ITS FALSE NEIGHBOUR: 'it returns false'. Refute it at one input. -/
def doubtManyWrong : ChangeSpec := { name := "doubtMany", fn := fun _ => fun
  | [d] => { results := [.lit (.bool false)], args := [d] }
  | _ => none }
def DoubtManyWrongFalsely : Prop := doubtManyRow.holds Try.pinned (OpenSpec.ofChange doubtManyWrong)

/-- 'scuttlebuttlaw15.DoubtWrong': WHATEVER THE INPUT: true; the input reads as it did. -/
def doubtWrongSpec : ChangeSpec := { name := "doubtWrong", fn := fun _ => fun
  | [d1, d2, d3, d4] => { results := [.lit (.bool true)], args := [d1, d2, d3, d4] }
  | _ => none }
def doubtWrongRow : OpenClaim := { program := "ythoppcefadopeaa", sum := "61626fdb017bfb02d52068a9322350b045d40306b83fe501dc4333666bfe63b8", func := "scuttlebutt/scuttlebuttlaw15.DoubtWrong", spec := "doubtWrong", inPlace := ["slices.overlaps[int]"], unfollowed := true, recurses := true, apart := false }
def DoubtWrongSaid : Prop := doubtWrongRow.holds Try.pinned (OpenSpec.ofChange doubtWrongSpec)

/-- ITS FALSE NEIGHBOUR: 'it returns false'. Refute it at one input. -/
def doubtWrongWrong : ChangeSpec := { name := "doubtWrong", fn := fun _ => fun
  | [d1, d2, d3, d4] => { results := [.lit (.bool false)], args := [d1, d2, d3, d4] }
  | _ => none }
def DoubtWrongWrongFalsely : Prop := doubtWrongRow.holds Try.pinned (OpenSpec.ofChange doubtWrongWrong)

/-- 'scuttlebuttlaw15.DoubtLonger': WHATEVER THE INPUT: true; the input reads as it did. -/
def doubtLongerSpec : ChangeSpec := { name := "doubtLonger", fn := fun _ => fun
  | [d] => { results := [.lit (.bool true)], args := [d] }
  | _ => none }
def doubtLongerRow : OpenClaim := { program := "ythoppcefadopeaa", sum := "61626fdb017bfb02d52068a9322350b045d40306b83fe501dc4333666bfe63b8", func := "scuttlebutt/scuttlebuttlaw15.DoubtLonger", spec := "doubtLonger", inPlace := ["slices.overlaps[int]"], unfollowed := true, recurses := true, apart := false }
def DoubtLongerSaid : Prop := doubtLongerRow.holds Try.pinned (OpenSpec.ofChange doubtLongerSpec)

/-- ITS FALSE NEIGHBOUR: 'it returns false'. Refute it at one input. -/
def doubtLongerWrong : ChangeSpec := { name := "doubtLonger", fn := fun _ => fun
  | [d] => { results := [.lit (.bool false)], args := [d] }
  | _ => none }
def DoubtLongerWrongFalsely : Prop := doubtLongerRow.holds Try.pinned (OpenSpec.ofChange doubtLongerWrong)

/- THE SECOND FORM. 'bulk': how many values and letters a reading holds, each counted each time it is reached (what is shared counts as often as it is met; a slice's spare places count too). A statement '..UptoSaid' is the law's where the arguments, and the package variables that the reading takes, are together of bulk at most 1048576: NARROWER than '..Said'. Prove '..Said' where nothing that the law and all that it calls make is longer than what came in: it says more and counts as full. Else prove '..UptoSaid'. A law counts once. -/
mutual
def uptoBulk {H : Type} : DataW H → Nat
  | .lit (.string bytes) => bytes.length + 1
  | .lit _ => 1
  | .nil => 1
  | .ptr d => uptoBulk d + 1
  | .slice elems spare => uptoBulkAll elems + uptoBulkAll spare + 1
  | .agg parts => uptoBulkAll parts + 1
  | .iface _ d => uptoBulk d + 1
  | .map entries => uptoBulkEntries entries + 1
  | .held _ => 1
def uptoBulkAll {H : Type} : List (DataW H) → Nat
  | [] => 0
  | d :: r => uptoBulk d + uptoBulkAll r
def uptoBulkEntries {H : Type} : List (Lit × DataW H) → Nat
  | [] => 0
  | x :: r => uptoBulkEntry x + uptoBulkEntries r
def uptoBulkEntry {H : Type} : Lit × DataW H → Nat
  | (.string bytes, d) => bytes.length + uptoBulk d + 1
  | (_, d) => uptoBulk d + 1
 end
def uptoSmall : (H : Type) → List (DataW H) → Bool := fun _ ds => decide (uptoBulkAll ds ≤ 1048576)
def OpenSpec.upto (s : _root_.Go.ChangeSpec) : _root_.Go.OpenSpec := { _root_.Go.OpenSpec.ofChange s with cond := some uptoSmall }

/-- 'scuttlebuttlaw15.DoubtPlays', WHERE WHAT IT READS IS OF BULK AT MOST 1048576: true; the input reads as it did. -/
def doubtPlaysUptoRow : OpenClaim := { program := "ythoppcefadopeaa", sum := "61626fdb017bfb02d52068a9322350b045d40306b83fe501dc4333666bfe63b8", func := "scuttlebutt/scuttlebuttlaw15.DoubtPlays", spec := "doubtPlays", inPlace := ["slices.overlaps[int]"], unfollowed := true, recurses := true, apart := false, narrowed := true }
def DoubtPlaysUptoSaid : Prop := doubtPlaysUptoRow.holds Try.pinned (OpenSpec.upto doubtPlaysSpec)

/-- 'scuttlebuttlaw15.DoubtDue', WHERE WHAT IT READS IS OF BULK AT MOST 1048576: true; the input reads as it did. -/
def doubtDueUptoRow : OpenClaim := { program := "ythoppcefadopeaa", sum := "61626fdb017bfb02d52068a9322350b045d40306b83fe501dc4333666bfe63b8", func := "scuttlebutt/scuttlebuttlaw15.DoubtDue", spec := "doubtDue", inPlace := ["slices.overlaps[int]"], unfollowed := true, recurses := true, apart := false, narrowed := true }
def DoubtDueUptoSaid : Prop := doubtDueUptoRow.holds Try.pinned (OpenSpec.upto doubtDueSpec)

/-- 'scuttlebuttlaw15.DoubtClear', WHERE WHAT IT READS IS OF BULK AT MOST 1048576: true; the input reads as it did. -/
def doubtClearUptoRow : OpenClaim := { program := "ythoppcefadopeaa", sum := "61626fdb017bfb02d52068a9322350b045d40306b83fe501dc4333666bfe63b8", func := "scuttlebutt/scuttlebuttlaw15.DoubtClear", spec := "doubtClear", inPlace := ["slices.overlaps[int]"], unfollowed := true, recurses := true, apart := false, narrowed := true }
def DoubtClearUptoSaid : Prop := doubtClearUptoRow.holds Try.pinned (OpenSpec.upto doubtClearSpec)

/-- 'scuttlebuttlaw15.DoubtMany', WHERE WHAT IT READS IS OF BULK AT MOST 1048576: true; the input reads as it did. -/
def doubtManyUptoRow : OpenClaim := { program := "ythoppcefadopeaa", sum := "61626fdb017bfb02d52068a9322350b045d40306b83fe501dc4333666bfe63b8", func := "scuttlebutt/scuttlebuttlaw15.DoubtMany", spec := "doubtMany", inPlace := ["slices.overlaps[int]"], unfollowed := true, recurses := true, apart := false, narrowed := true }
def DoubtManyUptoSaid : Prop := doubtManyUptoRow.holds Try.pinned (OpenSpec.upto doubtManySpec)

/-- 'scuttlebuttlaw15.DoubtWrong', WHERE WHAT IT READS IS OF BULK AT MOST 1048576: true; the input reads as it did. -/
def doubtWrongUptoRow : OpenClaim := { program := "ythoppcefadopeaa", sum := "61626fdb017bfb02d52068a9322350b045d40306b83fe501dc4333666bfe63b8", func := "scuttlebutt/scuttlebuttlaw15.DoubtWrong", spec := "doubtWrong", inPlace := ["slices.overlaps[int]"], unfollowed := true, recurses := true, apart := false, narrowed := true }
def DoubtWrongUptoSaid : Prop := doubtWrongUptoRow.holds Try.pinned (OpenSpec.upto doubtWrongSpec)

/-- 'scuttlebuttlaw15.DoubtLonger', WHERE WHAT IT READS IS OF BULK AT MOST 1048576: true; the input reads as it did. -/
def doubtLongerUptoRow : OpenClaim := { program := "ythoppcefadopeaa", sum := "61626fdb017bfb02d52068a9322350b045d40306b83fe501dc4333666bfe63b8", func := "scuttlebutt/scuttlebuttlaw15.DoubtLonger", spec := "doubtLonger", inPlace := ["slices.overlaps[int]"], unfollowed := true, recurses := true, apart := false, narrowed := true }
def DoubtLongerUptoSaid : Prop := doubtLongerUptoRow.holds Try.pinned (OpenSpec.upto doubtLongerSpec)

end Rows
end Go.Proofs.Ythoppcefadopeaa
