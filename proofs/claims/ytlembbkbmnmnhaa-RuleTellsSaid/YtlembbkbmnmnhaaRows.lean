/-
  No cell of these rows narrows 'for every input' (looked for: loops, veiled, ifaces, maps, wideKeys, modest, calm, conditions, laid).
  DERIVED. THE GIVEN ROWS OF THIS SEAT. 5 by the template 'for every input the law returns true; each argument reads behind the call as it read before'; 0 by the template 'total and deterministic' (their statements: YtlembbkbmnmnhaaTotals.lean).
  GIVEN WITH THE SEED: the statements are not yours to turn. If you find one false, say at which input.
  Laid BY PROGRAM, IN A SANDBOX (cutbox-rows.mjs): the forced cells as the released guide's own fill.sh prints them over the translation c5b1a6b108ec14ac… (all of the seat's roots in one cut). By AI agents, Wed Nov 11 2026. No macro, syntax, notation, axiom, sorry.
-/
import Derived.Test.YtlembbkbmnmnhaaChecked
import GoSem.Claim
import GoSem.ClaimJoined
import GoSem.ClaimMapViews
import Derived.JoinedTies
import Derived.KernelRfl
namespace Go.Proofs.Ytlembbkbmnmnhaa
/- THE CELL 'sum', in the pinned program and in every row, IS THE sha256 OF THE DUMP (.gsa) THAT YtlembbkbmnmnhaaProg.lean LOADS. Nothing in Lean hashes anything: it is a label: what it is worth is what the hold of that sum in a sandbox is worth. -/
noncomputable def Try.pinned : Pinned := { name := "ytlembbkbmnmnhaa", sum := "c5b1a6b108ec14acddba1ced0e9e2967f9519a7d138d040ddaaa8c108711b596", checked := Try.checked }
namespace Rows
def none {H : Type} : Left H := { results := [], args := [] }

/-- 'scuttlebuttlaw07.RuleTells': WHATEVER THE INPUT: true; the input reads as it did. -/
def ruleTellsSpec : ChangeSpec := { name := "ruleTells", fn := fun _ => fun
  | [d1, d2, d3, d4, d5, d6] => { results := [.lit (.bool true)], args := [d1, d2, d3, d4, d5, d6] }
  | _ => none }
def ruleTellsRow : OpenClaim := { program := "ytlembbkbmnmnhaa", sum := "c5b1a6b108ec14acddba1ced0e9e2967f9519a7d138d040ddaaa8c108711b596", func := "scuttlebutt/scuttlebuttlaw07.RuleTells", spec := "ruleTells", unfollowed := true, recurses := true, apart := false }
def RuleTellsSaid : Prop := ruleTellsRow.holds Try.pinned (OpenSpec.ofChange ruleTellsSpec)

/-- ITS FALSE NEIGHBOUR: 'it returns false'. Refute it at one input. -/
def ruleTellsWrong : ChangeSpec := { name := "ruleTells", fn := fun _ => fun
  | [d1, d2, d3, d4, d5, d6] => { results := [.lit (.bool false)], args := [d1, d2, d3, d4, d5, d6] }
  | _ => none }
def RuleTellsWrongFalsely : Prop := ruleTellsRow.holds Try.pinned (OpenSpec.ofChange ruleTellsWrong)

/-- 'scuttlebuttlaw07.RulePunch': WHATEVER THE INPUT: true; the input reads as it did. -/
def rulePunchSpec : ChangeSpec := { name := "rulePunch", fn := fun _ => fun
  | [d1, d2] => { results := [.lit (.bool true)], args := [d1, d2] }
  | _ => none }
def rulePunchRow : OpenClaim := { program := "ytlembbkbmnmnhaa", sum := "c5b1a6b108ec14acddba1ced0e9e2967f9519a7d138d040ddaaa8c108711b596", func := "scuttlebutt/scuttlebuttlaw07.RulePunch", spec := "rulePunch", unfollowed := true, recurses := true, apart := false }
def RulePunchSaid : Prop := rulePunchRow.holds Try.pinned (OpenSpec.ofChange rulePunchSpec)

/-- ITS FALSE NEIGHBOUR: 'it returns false'. Refute it at one input. -/
def rulePunchWrong : ChangeSpec := { name := "rulePunch", fn := fun _ => fun
  | [d1, d2] => { results := [.lit (.bool false)], args := [d1, d2] }
  | _ => none }
def RulePunchWrongFalsely : Prop := rulePunchRow.holds Try.pinned (OpenSpec.ofChange rulePunchWrong)

/-- 'scuttlebuttlaw07.RuleKeys': WHATEVER THE INPUT: true; the input reads as it did. -/
def ruleKeysSpec : ChangeSpec := { name := "ruleKeys", fn := fun _ => fun
  | [d1, d2] => { results := [.lit (.bool true)], args := [d1, d2] }
  | _ => none }
def ruleKeysRow : OpenClaim := { program := "ytlembbkbmnmnhaa", sum := "c5b1a6b108ec14acddba1ced0e9e2967f9519a7d138d040ddaaa8c108711b596", func := "scuttlebutt/scuttlebuttlaw07.RuleKeys", spec := "ruleKeys", unfollowed := true, recurses := true, apart := false }
def RuleKeysSaid : Prop := ruleKeysRow.holds Try.pinned (OpenSpec.ofChange ruleKeysSpec)

/-- ITS FALSE NEIGHBOUR: 'it returns false'. Refute it at one input. -/
def ruleKeysWrong : ChangeSpec := { name := "ruleKeys", fn := fun _ => fun
  | [d1, d2] => { results := [.lit (.bool false)], args := [d1, d2] }
  | _ => none }
def RuleKeysWrongFalsely : Prop := ruleKeysRow.holds Try.pinned (OpenSpec.ofChange ruleKeysWrong)

/-- 'scuttlebuttlaw07.RuleFilters': WHATEVER THE INPUT: true; the input reads as it did. -/
def ruleFiltersSpec : ChangeSpec := { name := "ruleFilters", fn := fun _ => fun
  | [d1, d2, d3, d4] => { results := [.lit (.bool true)], args := [d1, d2, d3, d4] }
  | _ => none }
def ruleFiltersRow : OpenClaim := { program := "ytlembbkbmnmnhaa", sum := "c5b1a6b108ec14acddba1ced0e9e2967f9519a7d138d040ddaaa8c108711b596", func := "scuttlebutt/scuttlebuttlaw07.RuleFilters", spec := "ruleFilters", unfollowed := true, recurses := true, apart := false }
def RuleFiltersSaid : Prop := ruleFiltersRow.holds Try.pinned (OpenSpec.ofChange ruleFiltersSpec)

/-- ITS FALSE NEIGHBOUR: 'it returns false'. Refute it at one input. -/
def ruleFiltersWrong : ChangeSpec := { name := "ruleFilters", fn := fun _ => fun
  | [d1, d2, d3, d4] => { results := [.lit (.bool false)], args := [d1, d2, d3, d4] }
  | _ => none }
def RuleFiltersWrongFalsely : Prop := ruleFiltersRow.holds Try.pinned (OpenSpec.ofChange ruleFiltersWrong)

/-- 'scuttlebuttlaw07.RuleWords': WHATEVER THE INPUT: true; the input reads as it did. -/
def ruleWordsSpec : ChangeSpec := { name := "ruleWords", fn := fun _ => fun
  | [d1, d2, d3] => { results := [.lit (.bool true)], args := [d1, d2, d3] }
  | _ => none }
def ruleWordsRow : OpenClaim := { program := "ytlembbkbmnmnhaa", sum := "c5b1a6b108ec14acddba1ced0e9e2967f9519a7d138d040ddaaa8c108711b596", func := "scuttlebutt/scuttlebuttlaw07.RuleWords", spec := "ruleWords", unfollowed := true, recurses := true, apart := false }
def RuleWordsSaid : Prop := ruleWordsRow.holds Try.pinned (OpenSpec.ofChange ruleWordsSpec)

/-- ITS FALSE NEIGHBOUR: 'it returns false'. Refute it at one input. -/
def ruleWordsWrong : ChangeSpec := { name := "ruleWords", fn := fun _ => fun
  | [d1, d2, d3] => { results := [.lit (.bool false)], args := [d1, d2, d3] }
  | _ => none }
def RuleWordsWrongFalsely : Prop := ruleWordsRow.holds Try.pinned (OpenSpec.ofChange ruleWordsWrong)

/- THE SECOND FORM. 'bulk': how many values and letters a reading holds, each counted each time it is reached (what is shared counts as often as it is met; a slice's spare places count too). A statement '..UptoSaid' is the law's where the arguments, and the package variables that the reading takes, are together of bulk at most 1048576: NARROWER than '..Said'. Prove '..Said' where nothing that the law and all that it calls make is longer than what came in: it says more and counts as full. Else prove '..UptoSaid'. A law counts once. -/
mutual
def uptoBulk {H : Type} : DataW H → Nat
  | .lit (.string bytes) => bytes.length + 1
  | .lit _ => 1
  | .nil => 1
  | .ptr d => uptoBulk d + 1
  | .slice elems spare => uptoBulkAll elems + uptoBulkAll spare + 1
  | .agg parts => uptoBulkAll parts + 1
  | .iface _ d => uptoBulk d + 1
  | .map entries => uptoBulkEntries entries + 1
  | .held _ => 1
def uptoBulkAll {H : Type} : List (DataW H) → Nat
  | [] => 0
  | d :: r => uptoBulk d + uptoBulkAll r
def uptoBulkEntries {H : Type} : List (Lit × DataW H) → Nat
  | [] => 0
  | x :: r => uptoBulkEntry x + uptoBulkEntries r
def uptoBulkEntry {H : Type} : Lit × DataW H → Nat
  | (.string bytes, d) => bytes.length + uptoBulk d + 1
  | (_, d) => uptoBulk d + 1
 end
def uptoSmall : (H : Type) → List (DataW H) → Bool := fun _ ds => decide (uptoBulkAll ds ≤ 1048576)
def OpenSpec.upto (s : _root_.Go.ChangeSpec) : _root_.Go.OpenSpec := { _root_.Go.OpenSpec.ofChange s with cond := some uptoSmall }

/-- 'scuttlebuttlaw07.RuleTells', WHERE WHAT IT READS IS OF BULK AT MOST 1048576: true; the input reads as it did. -/
def ruleTellsUptoRow : OpenClaim := { program := "ytlembbkbmnmnhaa", sum := "c5b1a6b108ec14acddba1ced0e9e2967f9519a7d138d040ddaaa8c108711b596", func := "scuttlebutt/scuttlebuttlaw07.RuleTells", spec := "ruleTells", unfollowed := true, recurses := true, apart := false, narrowed := true }
def RuleTellsUptoSaid : Prop := ruleTellsUptoRow.holds Try.pinned (OpenSpec.upto ruleTellsSpec)

/-- 'scuttlebuttlaw07.RulePunch', WHERE WHAT IT READS IS OF BULK AT MOST 1048576: true; the input reads as it did. -/
def rulePunchUptoRow : OpenClaim := { program := "ytlembbkbmnmnhaa", sum := "c5b1a6b108ec14acddba1ced0e9e2967f9519a7d138d040ddaaa8c108711b596", func := "scuttlebutt/scuttlebuttlaw07.RulePunch", spec := "rulePunch", unfollowed := true, recurses := true, apart := false, narrowed := true }
def RulePunchUptoSaid : Prop := rulePunchUptoRow.holds Try.pinned (OpenSpec.upto rulePunchSpec)

/-- 'scuttlebuttlaw07.RuleKeys', WHERE WHAT IT READS IS OF BULK AT MOST 1048576: true; the input reads as it did. -/
def ruleKeysUptoRow : OpenClaim := { program := "ytlembbkbmnmnhaa", sum := "c5b1a6b108ec14acddba1ced0e9e2967f9519a7d138d040ddaaa8c108711b596", func := "scuttlebutt/scuttlebuttlaw07.RuleKeys", spec := "ruleKeys", unfollowed := true, recurses := true, apart := false, narrowed := true }
def RuleKeysUptoSaid : Prop := ruleKeysUptoRow.holds Try.pinned (OpenSpec.upto ruleKeysSpec)

/-- 'scuttlebuttlaw07.RuleFilters', WHERE WHAT IT READS IS OF BULK AT MOST 1048576: true; the input reads as it did. -/
def ruleFiltersUptoRow : OpenClaim := { program := "ytlembbkbmnmnhaa", sum := "c5b1a6b108ec14acddba1ced0e9e2967f9519a7d138d040ddaaa8c108711b596", func := "scuttlebutt/scuttlebuttlaw07.RuleFilters", spec := "ruleFilters", unfollowed := true, recurses := true, apart := false, narrowed := true }
def RuleFiltersUptoSaid : Prop := ruleFiltersUptoRow.holds Try.pinned (OpenSpec.upto ruleFiltersSpec)

/-- 'scuttlebuttlaw07.RuleWords', WHERE WHAT IT READS IS OF BULK AT MOST 1048576: true; the input reads as it did. -/
def ruleWordsUptoRow : OpenClaim := { program := "ytlembbkbmnmnhaa", sum := "c5b1a6b108ec14acddba1ced0e9e2967f9519a7d138d040ddaaa8c108711b596", func := "scuttlebutt/scuttlebuttlaw07.RuleWords", spec := "ruleWords", unfollowed := true, recurses := true, apart := false, narrowed := true }
def RuleWordsUptoSaid : Prop := ruleWordsUptoRow.holds Try.pinned (OpenSpec.upto ruleWordsSpec)

end Rows
end Go.Proofs.Ytlembbkbmnmnhaa
