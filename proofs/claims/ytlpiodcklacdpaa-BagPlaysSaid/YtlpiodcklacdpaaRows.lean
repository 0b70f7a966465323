/-
  No cell of these rows narrows 'for every input' (looked for: loops, veiled, ifaces, maps, wideKeys, modest, calm, conditions, laid).
  DERIVED. THE GIVEN ROWS OF THIS SEAT. 6 by the template 'for every input the law returns true; each argument reads behind the call as it read before'; 0 by the template 'total and deterministic' (their statements: YtlpiodcklacdpaaTotals.lean).
  GIVEN WITH THE SEED: the statements are not yours to turn. If you find one false, say at which input.
  Laid BY PROGRAM, IN A SANDBOX (cutbox-rows.mjs): the forced cells as the released guide's own fill.sh prints them over the translation f1da6268841a114f… (all of the seat's roots in one cut). By AI agents, Wed Nov 11 2026. No macro, syntax, notation, axiom, sorry.
-/
import Derived.Test.YtlpiodcklacdpaaChecked
import GoSem.Claim
import GoSem.ClaimJoined
import GoSem.ClaimMapViews
import Derived.JoinedTies
import Derived.KernelRfl
namespace Go.Proofs.Ytlpiodcklacdpaa
/- THE CELL 'sum', in the pinned program and in every row, IS THE sha256 OF THE DUMP (.gsa) THAT YtlpiodcklacdpaaProg.lean LOADS. Nothing in Lean hashes anything: it is a label: what it is worth is what the hold of that sum in a sandbox is worth. -/
noncomputable def Try.pinned : Pinned := { name := "ytlpiodcklacdpaa", sum := "f1da6268841a114f712809e938b05cdcc0597a0c9898fc9499d9f539342cbbf6", checked := Try.checked }
namespace Rows
def none {H : Type} : Left H := { results := [], args := [] }

/-- 'scuttlebuttlaw09.BagOnce': WHATEVER THE INPUT: true; the input reads as it did. -/
def bagOnceSpec : ChangeSpec := { name := "bagOnce", fn := fun _ => fun
  | [d1, d2] => { results := [.lit (.bool true)], args := [d1, d2] }
  | _ => none }
def bagOnceRow : OpenClaim := { program := "ytlpiodcklacdpaa", sum := "f1da6268841a114f712809e938b05cdcc0597a0c9898fc9499d9f539342cbbf6", func := "scuttlebutt/scuttlebuttlaw09.BagOnce", spec := "bagOnce", apart := false }
def BagOnceSaid : Prop := bagOnceRow.holds Try.pinned (OpenSpec.ofChange bagOnceSpec)

/-- ITS FALSE NEIGHBOUR: 'it returns false'. Refute it at one input. -/
def bagOnceWrong : ChangeSpec := { name := "bagOnce", fn := fun _ => fun
  | [d1, d2] => { results := [.lit (.bool false)], args := [d1, d2] }
  | _ => none }
def BagOnceWrongFalsely : Prop := bagOnceRow.holds Try.pinned (OpenSpec.ofChange bagOnceWrong)

/-- 'scuttlebuttlaw09.BagPicks': WHATEVER THE INPUT: true; the input reads as it did. -/
def bagPicksSpec : ChangeSpec := { name := "bagPicks", fn := fun _ => fun
  | [d1, d2, d3] => { results := [.lit (.bool true)], args := [d1, d2, d3] }
  | _ => none }
def bagPicksRow : OpenClaim := { program := "ytlpiodcklacdpaa", sum := "f1da6268841a114f712809e938b05cdcc0597a0c9898fc9499d9f539342cbbf6", func := "scuttlebutt/scuttlebuttlaw09.BagPicks", spec := "bagPicks", apart := false }
def BagPicksSaid : Prop := bagPicksRow.holds Try.pinned (OpenSpec.ofChange bagPicksSpec)

/-- ITS FALSE NEIGHBOUR: 'it returns false'. Refute it at one input. -/
def bagPicksWrong : ChangeSpec := { name := "bagPicks", fn := fun _ => fun
  | [d1, d2, d3] => { results := [.lit (.bool false)], args := [d1, d2, d3] }
  | _ => none }
def BagPicksWrongFalsely : Prop := bagPicksRow.holds Try.pinned (OpenSpec.ofChange bagPicksWrong)

/-- 'scuttlebuttlaw09.BagLater': WHATEVER THE INPUT: true; the input reads as it did. -/
def bagLaterSpec : ChangeSpec := { name := "bagLater", fn := fun _ => fun
  | [d1, d2, d3] => { results := [.lit (.bool true)], args := [d1, d2, d3] }
  | _ => none }
def bagLaterRow : OpenClaim := { program := "ytlpiodcklacdpaa", sum := "f1da6268841a114f712809e938b05cdcc0597a0c9898fc9499d9f539342cbbf6", func := "scuttlebutt/scuttlebuttlaw09.BagLater", spec := "bagLater", apart := false }
def BagLaterSaid : Prop := bagLaterRow.holds Try.pinned (OpenSpec.ofChange bagLaterSpec)

/-- ITS FALSE NEIGHBOUR: 'it returns false'. Refute it at one input. -/
def bagLaterWrong : ChangeSpec := { name := "bagLater", fn := fun _ => fun
  | [d1, d2, d3] => { results := [.lit (.bool false)], args := [d1, d2, d3] }
  | _ => none }
def BagLaterWrongFalsely : Prop := bagLaterRow.holds Try.pinned (OpenSpec.ofChange bagLaterWrong)

/-- 'scuttlebuttlaw09.BagPlays': WHATEVER THE INPUT: true; the input reads as it did. -/
def bagPlaysSpec : ChangeSpec := { name := "bagPlays", fn := fun _ => fun
  | [d1, d2, d3] => { results := [.lit (.bool true)], args := [d1, d2, d3] }
  | _ => none }
def bagPlaysRow : OpenClaim := { program := "ytlpiodcklacdpaa", sum := "f1da6268841a114f712809e938b05cdcc0597a0c9898fc9499d9f539342cbbf6", func := "scuttlebutt/scuttlebuttlaw09.BagPlays", spec := "bagPlays", apart := false }
def BagPlaysSaid : Prop := bagPlaysRow.holds Try.pinned (OpenSpec.ofChange bagPlaysSpec)

/-- ITS FALSE NEIGHBOUR: 'it returns false'. Refute it at one input. -/
def bagPlaysWrong : ChangeSpec := { name := "bagPlays", fn := fun _ => fun
  | [d1, d2, d3] => { results := [.lit (.bool false)], args := [d1, d2, d3] }
  | _ => none }
def BagPlaysWrongFalsely : Prop := bagPlaysRow.holds Try.pinned (OpenSpec.ofChange bagPlaysWrong)

/-- 'scuttlebuttlaw09.BagTwice': WHATEVER THE INPUT: true; the input reads as it did. -/
def bagTwiceSpec : ChangeSpec := { name := "bagTwice", fn := fun _ => fun
  | [d1, d2, d3] => { results := [.lit (.bool true)], args := [d1, d2, d3] }
  | _ => none }
def bagTwiceRow : OpenClaim := { program := "ytlpiodcklacdpaa", sum := "f1da6268841a114f712809e938b05cdcc0597a0c9898fc9499d9f539342cbbf6", func := "scuttlebutt/scuttlebuttlaw09.BagTwice", spec := "bagTwice", apart := false }
def BagTwiceSaid : Prop := bagTwiceRow.holds Try.pinned (OpenSpec.ofChange bagTwiceSpec)

/-- ITS FALSE NEIGHBOUR: 'it returns false'. Refute it at one input. -/
def bagTwiceWrong : ChangeSpec := { name := "bagTwice", fn := fun _ => fun
  | [d1, d2, d3] => { results := [.lit (.bool false)], args := [d1, d2, d3] }
  | _ => none }
def BagTwiceWrongFalsely : Prop := bagTwiceRow.holds Try.pinned (OpenSpec.ofChange bagTwiceWrong)

/-- 'scuttlebuttlaw09.BagRoom': WHATEVER THE INPUT: true; the input reads as it did. -/
def bagRoomSpec : ChangeSpec := { name := "bagRoom", fn := fun _ => fun
  | [d1, d2, d3] => { results := [.lit (.bool true)], args := [d1, d2, d3] }
  | _ => none }
def bagRoomRow : OpenClaim := { program := "ytlpiodcklacdpaa", sum := "f1da6268841a114f712809e938b05cdcc0597a0c9898fc9499d9f539342cbbf6", func := "scuttlebutt/scuttlebuttlaw09.BagRoom", spec := "bagRoom", apart := false }
def BagRoomSaid : Prop := bagRoomRow.holds Try.pinned (OpenSpec.ofChange bagRoomSpec)

/-- ITS FALSE NEIGHBOUR: 'it returns false'. Refute it at one input. -/
def bagRoomWrong : ChangeSpec := { name := "bagRoom", fn := fun _ => fun
  | [d1, d2, d3] => { results := [.lit (.bool false)], args := [d1, d2, d3] }
  | _ => none }
def BagRoomWrongFalsely : Prop := bagRoomRow.holds Try.pinned (OpenSpec.ofChange bagRoomWrong)

/- THE SECOND FORM. 'bulk': how many values and letters a reading holds, each counted each time it is reached (what is shared counts as often as it is met; a slice's spare places count too). A statement '..UptoSaid' is the law's where the arguments, and the package variables that the reading takes, are together of bulk at most 1048576: NARROWER than '..Said'. Prove '..Said' where nothing that the law and all that it calls make is longer than what came in: it says more and counts as full. Else prove '..UptoSaid'. A law counts once. -/
mutual
def uptoBulk {H : Type} : DataW H → Nat
  | .lit (.string bytes) => bytes.length + 1
  | .lit _ => 1
  | .nil => 1
  | .ptr d => uptoBulk d + 1
  | .slice elems spare => uptoBulkAll elems + uptoBulkAll spare + 1
  | .agg parts => uptoBulkAll parts + 1
  | .iface _ d => uptoBulk d + 1
  | .map entries => uptoBulkEntries entries + 1
  | .held _ => 1
def uptoBulkAll {H : Type} : List (DataW H) → Nat
  | [] => 0
  | d :: r => uptoBulk d + uptoBulkAll r
def uptoBulkEntries {H : Type} : List (Lit × DataW H) → Nat
  | [] => 0
  | x :: r => uptoBulkEntry x + uptoBulkEntries r
def uptoBulkEntry {H : Type} : Lit × DataW H → Nat
  | (.string bytes, d) => bytes.length + uptoBulk d + 1
  | (_, d) => uptoBulk d + 1
 end
def uptoSmall : (H : Type) → List (DataW H) → Bool := fun _ ds => decide (uptoBulkAll ds ≤ 1048576)
def OpenSpec.upto (s : _root_.Go.ChangeSpec) : _root_.Go.OpenSpec := { _root_.Go.OpenSpec.ofChange s with cond := some uptoSmall }

/-- 'scuttlebuttlaw09.BagOnce', WHERE WHAT IT READS IS OF BULK AT MOST 1048576: true; the input reads as it did. -/
def bagOnceUptoRow : OpenClaim := { program := "ytlpiodcklacdpaa", sum := "f1da6268841a114f712809e938b05cdcc0597a0c9898fc9499d9f539342cbbf6", func := "scuttlebutt/scuttlebuttlaw09.BagOnce", spec := "bagOnce", apart := false, narrowed := true }
def BagOnceUptoSaid : Prop := bagOnceUptoRow.holds Try.pinned (OpenSpec.upto bagOnceSpec)

/-- 'scuttlebuttlaw09.BagPicks', WHERE WHAT IT READS IS OF BULK AT MOST 1048576: true; the input reads as it did. -/
def bagPicksUptoRow : OpenClaim := { program := "ytlpiodcklacdpaa", sum := "f1da6268841a114f712809e938b05cdcc0597a0c9898fc9499d9f539342cbbf6", func := "scuttlebutt/scuttlebuttlaw09.BagPicks", spec := "bagPicks", apart := false, narrowed := true }
def BagPicksUptoSaid : Prop := bagPicksUptoRow.holds Try.pinned (OpenSpec.upto bagPicksSpec)

/-- 'scuttlebuttlaw09.BagLater', WHERE WHAT IT READS IS OF BULK AT MOST 1048576: true; the input reads as it did. -/
def bagLaterUptoRow : OpenClaim := { program := "ytlpiodcklacdpaa", sum := "f1da6268841a114f712809e938b05cdcc0597a0c9898fc9499d9f539342cbbf6", func := "scuttlebutt/scuttlebuttlaw09.BagLater", spec := "bagLater", apart := false, narrowed := true }
def BagLaterUptoSaid : Prop := bagLaterUptoRow.holds Try.pinned (OpenSpec.upto bagLaterSpec)

/-- 'scuttlebuttlaw09.BagPlays', WHERE WHAT IT READS IS OF BULK AT MOST 1048576: true; the input reads as it did. -/
def bagPlaysUptoRow : OpenClaim := { program := "ytlpiodcklacdpaa", sum := "f1da6268841a114f712809e938b05cdcc0597a0c9898fc9499d9f539342cbbf6", func := "scuttlebutt/scuttlebuttlaw09.BagPlays", spec := "bagPlays", apart := false, narrowed := true }
def BagPlaysUptoSaid : Prop := bagPlaysUptoRow.holds Try.pinned (OpenSpec.upto bagPlaysSpec)

/-- 'scuttlebuttlaw09.BagTwice', WHERE WHAT IT READS IS OF BULK AT MOST 1048576: true; the input reads as it did. -/
def bagTwiceUptoRow : OpenClaim := { program := "ytlpiodcklacdpaa", sum := "f1da6268841a114f712809e938b05cdcc0597a0c9898fc9499d9f539342cbbf6", func := "scuttlebutt/scuttlebuttlaw09.BagTwice", spec := "bagTwice", apart := false, narrowed := true }
def BagTwiceUptoSaid : Prop := bagTwiceUptoRow.holds Try.pinned (OpenSpec.upto bagTwiceSpec)

/-- 'scuttlebuttlaw09.BagRoom', WHERE WHAT IT READS IS OF BULK AT MOST 1048576: true; the input reads as it did. -/
def bagRoomUptoRow : OpenClaim := { program := "ytlpiodcklacdpaa", sum := "f1da6268841a114f712809e938b05cdcc0597a0c9898fc9499d9f539342cbbf6", func := "scuttlebutt/scuttlebuttlaw09.BagRoom", spec := "bagRoom", apart := false, narrowed := true }
def BagRoomUptoSaid : Prop := bagRoomUptoRow.holds Try.pinned (OpenSpec.upto bagRoomSpec)

end Rows
end Go.Proofs.Ytlpiodcklacdpaa
