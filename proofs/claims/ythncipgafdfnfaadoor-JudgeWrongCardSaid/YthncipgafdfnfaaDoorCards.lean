/-
  DERIVED. GIVEN WITH THE SEED: THE CARDS: each row of YthncipgafdfnfaaDoorRows.lean that lists a variable, with what it lists TIED to the program's text (the seventh form; the later family's looks); each row that meets fmt, with fmt's text TOLD by the authors' own Lean function (tested against real Go, not proved from fmt's source: count such statements apart). THE CARD IS WHAT COUNTS. Prove the row's statement (the work); the ties are given (YthncipgafdfnfaaDoorTie.lean); close each card by the builder's one call (the guide's Derived/Test/ToyasCard.lean, 'card_holds'). Laid BY PROGRAM, IN A SANDBOX (cutbox-door.mjs). By AI agents, Wed Nov 11 2026. No macro, syntax, notation, axiom, sorry.
-/
import Derived.Test.YthncipgafdfnfaaDoorRows
import GoSem.ClaimSeven
namespace Go.Proofs.YthncipgafdfnfaaDoor
namespace Rows

/-- THE TIED CARD OF 'scuttlebuttlaw22.JudgeRises'. -/
def judgeRisesCard : Claim7 := { stood := { row := judgeRisesRow, standIns := [], harness := (true, "2783ffdd1e6ce7141f5dbd124af3a240209000ec90643962a4a7f51013c31a10"), looks := false }, kinds := [], alts := [], laidByText := true, laidKinds := [.data, .data, .data], laidTests := true, laidLooks := .later }
def JudgeRisesCardSaid : Prop := Claim7.holds Tryd.pinned (.plain (OpenSpec.ofChange judgeRisesSpec)) judgeRisesCard

/-- THE TIED CARD OF 'scuttlebuttlaw22.JudgeWrong'. -/
def judgeWrongCard : Claim7 := { stood := { row := judgeWrongRow, standIns := [], harness := (true, "2783ffdd1e6ce7141f5dbd124af3a240209000ec90643962a4a7f51013c31a10"), looks := false }, kinds := [], alts := [], laidByText := true, laidKinds := [.data, .data, .data], laidTests := true, laidLooks := .later }
def JudgeWrongCardSaid : Prop := Claim7.holds Tryd.pinned (.plain (OpenSpec.ofChange judgeWrongSpec)) judgeWrongCard

/-- THE TIED CARD OF 'scuttlebuttlaw22.JudgeStrangers'. -/
def judgeStrangersCard : Claim7 := { stood := { row := judgeStrangersRow, standIns := [], harness := (true, "2783ffdd1e6ce7141f5dbd124af3a240209000ec90643962a4a7f51013c31a10"), looks := false }, kinds := [], alts := [], laidByText := true, laidKinds := [.data, .data, .data], laidTests := true, laidLooks := .later }
def JudgeStrangersCardSaid : Prop := Claim7.holds Tryd.pinned (.plain (OpenSpec.ofChange judgeStrangersSpec)) judgeStrangersCard

/-- THE TIED CARD OF 'scuttlebuttlaw22.JudgeTexts'. -/
def judgeTextsCard : Claim7 := { stood := { row := judgeTextsRow, standIns := [], harness := (true, "2783ffdd1e6ce7141f5dbd124af3a240209000ec90643962a4a7f51013c31a10"), looks := false }, kinds := [], alts := [], laidByText := true, laidKinds := [.data, .data, .data], laidTests := true, laidLooks := .later }
def JudgeTextsCardSaid : Prop := Claim7.holds Tryd.pinned (.plain (OpenSpec.ofChange judgeTextsSpec)) judgeTextsCard

/-- THE TIED CARD OF 'scuttlebuttlaw22.JudgeFirst'. -/
def judgeFirstCard : Claim7 := { stood := { row := judgeFirstRow, standIns := [], harness := (true, "2783ffdd1e6ce7141f5dbd124af3a240209000ec90643962a4a7f51013c31a10"), looks := false }, kinds := [], alts := [], laidByText := true, laidKinds := [.data, .data, .data], laidTests := true, laidLooks := .later }
def JudgeFirstCardSaid : Prop := Claim7.holds Tryd.pinned (.plain (OpenSpec.ofChange judgeFirstSpec)) judgeFirstCard

/-- THE SECOND FORM's CARD OF 'scuttlebuttlaw22.JudgeRises'. -/
def judgeRisesUptoCard : Claim7 := { stood := { row := judgeRisesUptoRow, standIns := [], harness := (true, "2783ffdd1e6ce7141f5dbd124af3a240209000ec90643962a4a7f51013c31a10"), looks := false }, kinds := [], alts := [], laidByText := true, laidKinds := [.data, .data, .data], laidTests := true, laidLooks := .later }
def JudgeRisesUptoCardSaid : Prop := Claim7.holds Tryd.pinned (.plain (OpenSpec.upto judgeRisesSpec)) judgeRisesUptoCard

/-- THE SECOND FORM's CARD OF 'scuttlebuttlaw22.JudgeWrong'. -/
def judgeWrongUptoCard : Claim7 := { stood := { row := judgeWrongUptoRow, standIns := [], harness := (true, "2783ffdd1e6ce7141f5dbd124af3a240209000ec90643962a4a7f51013c31a10"), looks := false }, kinds := [], alts := [], laidByText := true, laidKinds := [.data, .data, .data], laidTests := true, laidLooks := .later }
def JudgeWrongUptoCardSaid : Prop := Claim7.holds Tryd.pinned (.plain (OpenSpec.upto judgeWrongSpec)) judgeWrongUptoCard

/-- THE SECOND FORM's CARD OF 'scuttlebuttlaw22.JudgeStrangers'. -/
def judgeStrangersUptoCard : Claim7 := { stood := { row := judgeStrangersUptoRow, standIns := [], harness := (true, "2783ffdd1e6ce7141f5dbd124af3a240209000ec90643962a4a7f51013c31a10"), looks := false }, kinds := [], alts := [], laidByText := true, laidKinds := [.data, .data, .data], laidTests := true, laidLooks := .later }
def JudgeStrangersUptoCardSaid : Prop := Claim7.holds Tryd.pinned (.plain (OpenSpec.upto judgeStrangersSpec)) judgeStrangersUptoCard

/-- THE SECOND FORM's CARD OF 'scuttlebuttlaw22.JudgeTexts'. -/
def judgeTextsUptoCard : Claim7 := { stood := { row := judgeTextsUptoRow, standIns := [], harness := (true, "2783ffdd1e6ce7141f5dbd124af3a240209000ec90643962a4a7f51013c31a10"), looks := false }, kinds := [], alts := [], laidByText := true, laidKinds := [.data, .data, .data], laidTests := true, laidLooks := .later }
def JudgeTextsUptoCardSaid : Prop := Claim7.holds Tryd.pinned (.plain (OpenSpec.upto judgeTextsSpec)) judgeTextsUptoCard

/-- THE SECOND FORM's CARD OF 'scuttlebuttlaw22.JudgeFirst'. -/
def judgeFirstUptoCard : Claim7 := { stood := { row := judgeFirstUptoRow, standIns := [], harness := (true, "2783ffdd1e6ce7141f5dbd124af3a240209000ec90643962a4a7f51013c31a10"), looks := false }, kinds := [], alts := [], laidByText := true, laidKinds := [.data, .data, .data], laidTests := true, laidLooks := .later }
def JudgeFirstUptoCardSaid : Prop := Claim7.holds Tryd.pinned (.plain (OpenSpec.upto judgeFirstSpec)) judgeFirstUptoCard
end Rows
end Go.Proofs.YthncipgafdfnfaaDoor
