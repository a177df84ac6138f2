/-
  DERIVED. GIVEN WITH THE SEED: THE CARDS: each row of YtigefmobejclaaaDoorRows.lean that lists a variable, with what it lists TIED to the program's text (the seventh form; the later family's looks); each row that meets fmt, with fmt's text TOLD by the authors' own Lean function (tested against real Go, not proved from fmt's source: count such statements apart). THE CARD IS WHAT COUNTS. Prove the row's statement (the work); the ties are given (YtigefmobejclaaaDoorTie.lean); close each card by the builder's one call (the guide's Derived/Test/ToyasCard.lean, 'card_holds'). Laid BY PROGRAM, IN A SANDBOX (cutbox-door.mjs). By AI agents, Wed Nov 11 2026. No macro, syntax, notation, axiom, sorry.
-/
import Derived.Test.YtigefmobejclaaaDoorRows
import GoSem.ClaimSeven
namespace Go.Proofs.YtigefmobejclaaaDoor
namespace Rows

/-- THE TIED CARD OF 'laws.FnExactFormatStmt'. -/
def fnExactFormatStmtCard : Claim7 := { stood := { row := fnExactFormatStmtRow, standIns := [], harness := (true, "92fe8ebbc3b4b9b7c9ddcb93d45e86ff84d709edf887df51962e22d1dcf875f5"), looks := true }, kinds := [], alts := [], laidByText := true, laidKinds := [.data, .data, .data, .data], laidTests := true, laidLooks := .later }
def FnExactFormatStmtCardSaid : Prop := Claim7.holds Tryd.pinned (.plain (OpenSpec.ofChange fnExactFormatStmtSpec)) fnExactFormatStmtCard

/-- THE TIED CARD OF 'laws.FnExactFormatProgram'. -/
def fnExactFormatProgramCard : Claim7 := { stood := { row := fnExactFormatProgramRow, standIns := [], harness := (true, "92fe8ebbc3b4b9b7c9ddcb93d45e86ff84d709edf887df51962e22d1dcf875f5"), looks := true }, kinds := [], alts := [], laidByText := true, laidKinds := [.data, .data, .data, .data], laidTests := true, laidLooks := .later }
def FnExactFormatProgramCardSaid : Prop := Claim7.holds Tryd.pinned (.plain (OpenSpec.ofChange fnExactFormatProgramSpec)) fnExactFormatProgramCard

/-- THE TIED CARD OF 'laws.FnExactParseStmt'. -/
def fnExactParseStmtCard : Claim7 := { stood := { row := fnExactParseStmtRow, standIns := [], harness := (true, "92fe8ebbc3b4b9b7c9ddcb93d45e86ff84d709edf887df51962e22d1dcf875f5"), looks := true }, kinds := [], alts := [], laidByText := true, laidKinds := [.data, .data, .data, .data, .sentinel, .sentinel, .data, .pinned], laidTests := true, laidLooks := .later }
def FnExactParseStmtCardSaid : Prop := Claim7.holds Tryd.pinned (.plain (OpenSpec.ofChange fnExactParseStmtSpec)) fnExactParseStmtCard

/-- THE TIED CARD OF 'laws.FnExactParseProgram'. -/
def fnExactParseProgramCard : Claim7 := { stood := { row := fnExactParseProgramRow, standIns := [], harness := (true, "92fe8ebbc3b4b9b7c9ddcb93d45e86ff84d709edf887df51962e22d1dcf875f5"), looks := true }, kinds := [], alts := [], laidByText := true, laidKinds := [.data, .data, .data, .data, .sentinel, .sentinel, .data, .pinned], laidTests := true, laidLooks := .later }
def FnExactParseProgramCardSaid : Prop := Claim7.holds Tryd.pinned (.plain (OpenSpec.ofChange fnExactParseProgramSpec)) fnExactParseProgramCard

/-- THE TIED CARD OF 'laws.FnSources'. -/
def fnSourcesCard : Claim7 := { stood := { row := fnSourcesRow, standIns := [], harness := (true, "92fe8ebbc3b4b9b7c9ddcb93d45e86ff84d709edf887df51962e22d1dcf875f5"), looks := true }, kinds := [], alts := [], laidByText := true, laidKinds := [.data, .data, .data, .data, .sentinel, .sentinel, .data, .pinned], laidTests := true, laidLooks := .later }
def FnSourcesCardSaid : Prop := Claim7.holds Tryd.pinned (.plain (OpenSpec.ofChange fnSourcesSpec)) fnSourcesCard

/-- THE SECOND FORM's CARD OF 'laws.FnExactFormatStmt'. -/
def fnExactFormatStmtUptoCard : Claim7 := { stood := { row := fnExactFormatStmtUptoRow, standIns := [], harness := (true, "92fe8ebbc3b4b9b7c9ddcb93d45e86ff84d709edf887df51962e22d1dcf875f5"), looks := true }, kinds := [], alts := [], laidByText := true, laidKinds := [.data, .data, .data, .data], laidTests := true, laidLooks := .later }
def FnExactFormatStmtUptoCardSaid : Prop := Claim7.holds Tryd.pinned (.plain (OpenSpec.upto fnExactFormatStmtSpec)) fnExactFormatStmtUptoCard

/-- THE SECOND FORM's CARD OF 'laws.FnExactFormatProgram'. -/
def fnExactFormatProgramUptoCard : Claim7 := { stood := { row := fnExactFormatProgramUptoRow, standIns := [], harness := (true, "92fe8ebbc3b4b9b7c9ddcb93d45e86ff84d709edf887df51962e22d1dcf875f5"), looks := true }, kinds := [], alts := [], laidByText := true, laidKinds := [.data, .data, .data, .data], laidTests := true, laidLooks := .later }
def FnExactFormatProgramUptoCardSaid : Prop := Claim7.holds Tryd.pinned (.plain (OpenSpec.upto fnExactFormatProgramSpec)) fnExactFormatProgramUptoCard

/-- THE SECOND FORM's CARD OF 'laws.FnExactParseStmt'. -/
def fnExactParseStmtUptoCard : Claim7 := { stood := { row := fnExactParseStmtUptoRow, standIns := [], harness := (true, "92fe8ebbc3b4b9b7c9ddcb93d45e86ff84d709edf887df51962e22d1dcf875f5"), looks := true }, kinds := [], alts := [], laidByText := true, laidKinds := [.data, .data, .data, .data, .sentinel, .sentinel, .data, .pinned], laidTests := true, laidLooks := .later }
def FnExactParseStmtUptoCardSaid : Prop := Claim7.holds Tryd.pinned (.plain (OpenSpec.upto fnExactParseStmtSpec)) fnExactParseStmtUptoCard

/-- THE SECOND FORM's CARD OF 'laws.FnExactParseProgram'. -/
def fnExactParseProgramUptoCard : Claim7 := { stood := { row := fnExactParseProgramUptoRow, standIns := [], harness := (true, "92fe8ebbc3b4b9b7c9ddcb93d45e86ff84d709edf887df51962e22d1dcf875f5"), looks := true }, kinds := [], alts := [], laidByText := true, laidKinds := [.data, .data, .data, .data, .sentinel, .sentinel, .data, .pinned], laidTests := true, laidLooks := .later }
def FnExactParseProgramUptoCardSaid : Prop := Claim7.holds Tryd.pinned (.plain (OpenSpec.upto fnExactParseProgramSpec)) fnExactParseProgramUptoCard

/-- THE SECOND FORM's CARD OF 'laws.FnSources'. -/
def fnSourcesUptoCard : Claim7 := { stood := { row := fnSourcesUptoRow, standIns := [], harness := (true, "92fe8ebbc3b4b9b7c9ddcb93d45e86ff84d709edf887df51962e22d1dcf875f5"), looks := true }, kinds := [], alts := [], laidByText := true, laidKinds := [.data, .data, .data, .data, .sentinel, .sentinel, .data, .pinned], laidTests := true, laidLooks := .later }
def FnSourcesUptoCardSaid : Prop := Claim7.holds Tryd.pinned (.plain (OpenSpec.upto fnSourcesSpec)) fnSourcesUptoCard
end Rows
end Go.Proofs.YtigefmobejclaaaDoor
