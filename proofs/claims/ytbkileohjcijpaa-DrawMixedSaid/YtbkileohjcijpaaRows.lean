/-
  No cell of these rows narrows 'for every input' (looked for: loops, veiled, ifaces, maps, wideKeys, modest, calm, conditions, laid).
  DERIVED. THE GIVEN ROWS OF THIS SEAT. 5 by the template 'for every input the law returns true; each argument reads behind the call as it read before'; 0 by the template 'total and deterministic' (their statements: YtbkileohjcijpaaTotals.lean).
  GIVEN WITH THE SEED: the statements are not yours to turn. If you find one false, say at which input.
  Laid BY PROGRAM, IN A SANDBOX (cutbox-rows.mjs): the forced cells as the released guide's own fill.sh prints them over the translation 21b0116bfc4753ac… (all of the seat's roots in one cut). By AI agents, Wed Nov 11 2026. No macro, syntax, notation, axiom, sorry.
-/
import Derived.Test.YtbkileohjcijpaaChecked
import GoSem.Claim
import GoSem.ClaimJoined
import GoSem.ClaimMapViews
import Derived.JoinedTies
import Derived.KernelRfl
namespace Go.Proofs.Ytbkileohjcijpaa
/- THE CELL 'sum', in the pinned program and in every row, IS THE sha256 OF THE DUMP (.gsa) THAT YtbkileohjcijpaaProg.lean LOADS. Nothing in Lean hashes anything: it is a label: what it is worth is what the hold of that sum in a sandbox is worth. -/
noncomputable def Try.pinned : Pinned := { name := "ytbkileohjcijpaa", sum := "21b0116bfc4753acfbc6b5e76fce83d9ad6c12ec91264858dd7979f3516b3da6", checked := Try.checked }
namespace Rows
def none {H : Type} : Left H := { results := [], args := [] }

/-- 'scuttlebuttlaw01.DrawPlays': WHATEVER THE INPUT: true; the input reads as it did. -/
def drawPlaysSpec : ChangeSpec := { name := "drawPlays", fn := fun _ => fun
  | [d1, d2, d3, d4, d5] => { results := [.lit (.bool true)], args := [d1, d2, d3, d4, d5] }
  | _ => none }
def drawPlaysRow : OpenClaim := { program := "ytbkileohjcijpaa", sum := "21b0116bfc4753acfbc6b5e76fce83d9ad6c12ec91264858dd7979f3516b3da6", func := "scuttlebutt/scuttlebuttlaw01.DrawPlays", spec := "drawPlays", apart := false }
def DrawPlaysSaid : Prop := drawPlaysRow.holds Try.pinned (OpenSpec.ofChange drawPlaysSpec)

/-- ITS FALSE NEIGHBOUR: 'it returns false'. Refute it at one input. -/
def drawPlaysWrong : ChangeSpec := { name := "drawPlays", fn := fun _ => fun
  | [d1, d2, d3, d4, d5] => { results := [.lit (.bool false)], args := [d1, d2, d3, d4, d5] }
  | _ => none }
def DrawPlaysWrongFalsely : Prop := drawPlaysRow.holds Try.pinned (OpenSpec.ofChange drawPlaysWrong)

/-- 'scuttlebuttlaw01.DrawMixed': WHATEVER THE INPUT: true; the input reads as it did. -/
def drawMixedSpec : ChangeSpec := { name := "drawMixed", fn := fun _ => fun
  | [d1, d2, d3] => { results := [.lit (.bool true)], args := [d1, d2, d3] }
  | _ => none }
def drawMixedRow : OpenClaim := { program := "ytbkileohjcijpaa", sum := "21b0116bfc4753acfbc6b5e76fce83d9ad6c12ec91264858dd7979f3516b3da6", func := "scuttlebutt/scuttlebuttlaw01.DrawMixed", spec := "drawMixed", apart := false }
def DrawMixedSaid : Prop := drawMixedRow.holds Try.pinned (OpenSpec.ofChange drawMixedSpec)

/-- ITS FALSE NEIGHBOUR: 'it returns false'. Refute it at one input. -/
def drawMixedWrong : ChangeSpec := { name := "drawMixed", fn := fun _ => fun
  | [d1, d2, d3] => { results := [.lit (.bool false)], args := [d1, d2, d3] }
  | _ => none }
def DrawMixedWrongFalsely : Prop := drawMixedRow.holds Try.pinned (OpenSpec.ofChange drawMixedWrong)

/-- 'scuttlebuttlaw01.DrawBelow': WHATEVER THE INPUT: true; the input reads as it did. -/
def drawBelowSpec : ChangeSpec := { name := "drawBelow", fn := fun _ => fun
  | [d1, d2] => { results := [.lit (.bool true)], args := [d1, d2] }
  | _ => none }
def drawBelowRow : OpenClaim := { program := "ytbkileohjcijpaa", sum := "21b0116bfc4753acfbc6b5e76fce83d9ad6c12ec91264858dd7979f3516b3da6", func := "scuttlebutt/scuttlebuttlaw01.DrawBelow", spec := "drawBelow", apart := false }
def DrawBelowSaid : Prop := drawBelowRow.holds Try.pinned (OpenSpec.ofChange drawBelowSpec)

/-- ITS FALSE NEIGHBOUR: 'it returns false'. Refute it at one input. -/
def drawBelowWrong : ChangeSpec := { name := "drawBelow", fn := fun _ => fun
  | [d1, d2] => { results := [.lit (.bool false)], args := [d1, d2] }
  | _ => none }
def DrawBelowWrongFalsely : Prop := drawBelowRow.holds Try.pinned (OpenSpec.ofChange drawBelowWrong)

/-- 'scuttlebuttlaw01.DrawSome': WHATEVER THE INPUT: true; the input reads as it did. -/
def drawSomeSpec : ChangeSpec := { name := "drawSome", fn := fun _ => fun
  | [d1, d2, d3] => { results := [.lit (.bool true)], args := [d1, d2, d3] }
  | _ => none }
def drawSomeRow : OpenClaim := { program := "ytbkileohjcijpaa", sum := "21b0116bfc4753acfbc6b5e76fce83d9ad6c12ec91264858dd7979f3516b3da6", func := "scuttlebutt/scuttlebuttlaw01.DrawSome", spec := "drawSome", apart := false }
def DrawSomeSaid : Prop := drawSomeRow.holds Try.pinned (OpenSpec.ofChange drawSomeSpec)

/-- ITS FALSE NEIGHBOUR: 'it returns false'. Refute it at one input. -/
def drawSomeWrong : ChangeSpec := { name := "drawSome", fn := fun _ => fun
  | [d1, d2, d3] => { results := [.lit (.bool false)], args := [d1, d2, d3] }
  | _ => none }
def DrawSomeWrongFalsely : Prop := drawSomeRow.holds Try.pinned (OpenSpec.ofChange drawSomeWrong)

/-- 'scuttlebuttlaw01.DrawSteps': WHATEVER THE INPUT: true; the input reads as it did. -/
def drawStepsSpec : ChangeSpec := { name := "drawSteps", fn := fun _ => fun
  | [d1, d2, d3] => { results := [.lit (.bool true)], args := [d1, d2, d3] }
  | _ => none }
def drawStepsRow : OpenClaim := { program := "ytbkileohjcijpaa", sum := "21b0116bfc4753acfbc6b5e76fce83d9ad6c12ec91264858dd7979f3516b3da6", func := "scuttlebutt/scuttlebuttlaw01.DrawSteps", spec := "drawSteps", apart := false }
def DrawStepsSaid : Prop := drawStepsRow.holds Try.pinned (OpenSpec.ofChange drawStepsSpec)

/-- ITS FALSE NEIGHBOUR: 'it returns false'. Refute it at one input. -/
def drawStepsWrong : ChangeSpec := { name := "drawSteps", fn := fun _ => fun
  | [d1, d2, d3] => { results := [.lit (.bool false)], args := [d1, d2, d3] }
  | _ => none }
def DrawStepsWrongFalsely : Prop := drawStepsRow.holds Try.pinned (OpenSpec.ofChange drawStepsWrong)

/- THE SECOND FORM. 'bulk': how many values and letters a reading holds, each counted each time it is reached (what is shared counts as often as it is met; a slice's spare places count too). A statement '..UptoSaid' is the law's where the arguments, and the package variables that the reading takes, are together of bulk at most 1048576: NARROWER than '..Said'. Prove '..Said' where nothing that the law and all that it calls make is longer than what came in: it says more and counts as full. Else prove '..UptoSaid'. A law counts once. -/
mutual
def uptoBulk {H : Type} : DataW H → Nat
  | .lit (.string bytes) => bytes.length + 1
  | .lit _ => 1
  | .nil => 1
  | .ptr d => uptoBulk d + 1
  | .slice elems spare => uptoBulkAll elems + uptoBulkAll spare + 1
  | .agg parts => uptoBulkAll parts + 1
  | .iface _ d => uptoBulk d + 1
  | .map entries => uptoBulkEntries entries + 1
  | .held _ => 1
def uptoBulkAll {H : Type} : List (DataW H) → Nat
  | [] => 0
  | d :: r => uptoBulk d + uptoBulkAll r
def uptoBulkEntries {H : Type} : List (Lit × DataW H) → Nat
  | [] => 0
  | x :: r => uptoBulkEntry x + uptoBulkEntries r
def uptoBulkEntry {H : Type} : Lit × DataW H → Nat
  | (.string bytes, d) => bytes.length + uptoBulk d + 1
  | (_, d) => uptoBulk d + 1
 end
def uptoSmall : (H : Type) → List (DataW H) → Bool := fun _ ds => decide (uptoBulkAll ds ≤ 1048576)
def OpenSpec.upto (s : _root_.Go.ChangeSpec) : _root_.Go.OpenSpec := { _root_.Go.OpenSpec.ofChange s with cond := some uptoSmall }

/-- 'scuttlebuttlaw01.DrawPlays', WHERE WHAT IT READS IS OF BULK AT MOST 1048576: true; the input reads as it did. -/
def drawPlaysUptoRow : OpenClaim := { program := "ytbkileohjcijpaa", sum := "21b0116bfc4753acfbc6b5e76fce83d9ad6c12ec91264858dd7979f3516b3da6", func := "scuttlebutt/scuttlebuttlaw01.DrawPlays", spec := "drawPlays", apart := false, narrowed := true }
def DrawPlaysUptoSaid : Prop := drawPlaysUptoRow.holds Try.pinned (OpenSpec.upto drawPlaysSpec)

/-- 'scuttlebuttlaw01.DrawMixed', WHERE WHAT IT READS IS OF BULK AT MOST 1048576: true; the input reads as it did. -/
def drawMixedUptoRow : OpenClaim := { program := "ytbkileohjcijpaa", sum := "21b0116bfc4753acfbc6b5e76fce83d9ad6c12ec91264858dd7979f3516b3da6", func := "scuttlebutt/scuttlebuttlaw01.DrawMixed", spec := "drawMixed", apart := false, narrowed := true }
def DrawMixedUptoSaid : Prop := drawMixedUptoRow.holds Try.pinned (OpenSpec.upto drawMixedSpec)

/-- 'scuttlebuttlaw01.DrawBelow', WHERE WHAT IT READS IS OF BULK AT MOST 1048576: true; the input reads as it did. -/
def drawBelowUptoRow : OpenClaim := { program := "ytbkileohjcijpaa", sum := "21b0116bfc4753acfbc6b5e76fce83d9ad6c12ec91264858dd7979f3516b3da6", func := "scuttlebutt/scuttlebuttlaw01.DrawBelow", spec := "drawBelow", apart := false, narrowed := true }
def DrawBelowUptoSaid : Prop := drawBelowUptoRow.holds Try.pinned (OpenSpec.upto drawBelowSpec)

/-- 'scuttlebuttlaw01.DrawSome', WHERE WHAT IT READS IS OF BULK AT MOST 1048576: true; the input reads as it did. -/
def drawSomeUptoRow : OpenClaim := { program := "ytbkileohjcijpaa", sum := "21b0116bfc4753acfbc6b5e76fce83d9ad6c12ec91264858dd7979f3516b3da6", func := "scuttlebutt/scuttlebuttlaw01.DrawSome", spec := "drawSome", apart := false, narrowed := true }
def DrawSomeUptoSaid : Prop := drawSomeUptoRow.holds Try.pinned (OpenSpec.upto drawSomeSpec)

/-- 'scuttlebuttlaw01.DrawSteps', WHERE WHAT IT READS IS OF BULK AT MOST 1048576: true; the input reads as it did. -/
def drawStepsUptoRow : OpenClaim := { program := "ytbkileohjcijpaa", sum := "21b0116bfc4753acfbc6b5e76fce83d9ad6c12ec91264858dd7979f3516b3da6", func := "scuttlebutt/scuttlebuttlaw01.DrawSteps", spec := "drawSteps", apart := false, narrowed := true }
def DrawStepsUptoSaid : Prop := drawStepsUptoRow.holds Try.pinned (OpenSpec.upto drawStepsSpec)

end Rows
end Go.Proofs.Ytbkileohjcijpaa
