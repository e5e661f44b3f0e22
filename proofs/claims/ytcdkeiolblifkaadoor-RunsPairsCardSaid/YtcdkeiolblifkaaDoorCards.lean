/-
  DERIVED. GIVEN WITH THE SEED: THE CARDS: each row of YtcdkeiolblifkaaDoorRows.lean that lists a variable, with what it lists TIED to the program's text (the seventh form; the later family's looks); each row that meets fmt, with fmt's text TOLD by the authors' own Lean function (tested against real Go, not proved from fmt's source: count such statements apart). THE CARD IS WHAT COUNTS. Prove the row's statement (the work); the ties are given (YtcdkeiolblifkaaDoorTie.lean); close each card by the builder's one call (the guide's Derived/Test/ToyasCard.lean, 'card_holds'). Laid BY PROGRAM, IN A SANDBOX (cutbox-door.mjs). By AI agents, Wed Nov 11 2026. No macro, syntax, notation, axiom, sorry.
-/
import Derived.Test.YtcdkeiolblifkaaDoorRows
import GoSem.ClaimSeven
namespace Go.Proofs.YtcdkeiolblifkaaDoor
namespace Rows

/-- THE TIED CARD OF 'circalaw09.RunsPlain'. -/
def runsPlainCard : Claim7 := { stood := { row := runsPlainRow, standIns := [], harness := (true, "464cf78cad9bb9a717c8f0546966dbc29f4aa70ef96206c4751b1c58b4f6d383"), looks := true }, kinds := [], alts := [], laidByText := true, laidKinds := [.data, .data, .data, .sentinel, .sentinel], laidTests := true, laidLooks := .later }
def RunsPlainCardSaid : Prop := Claim7.holds Tryd.pinned (.plain (OpenSpec.ofChange runsPlainSpec)) runsPlainCard

/-- THE TIED CARD OF 'circalaw09.RunsParse'. -/
def runsParseCard : Claim7 := { stood := { row := runsParseRow, standIns := [], harness := (true, "464cf78cad9bb9a717c8f0546966dbc29f4aa70ef96206c4751b1c58b4f6d383"), looks := true }, kinds := [], alts := [], laidByText := true, laidKinds := [.data, .data, .data, .sentinel, .sentinel], laidTests := true, laidLooks := .later }
def RunsParseCardSaid : Prop := Claim7.holds Tryd.pinned (.plain (OpenSpec.ofChange runsParseSpec)) runsParseCard

/-- THE TIED CARD OF 'circalaw09.RunsPairs'. -/
def runsPairsCard : Claim7 := { stood := { row := runsPairsRow, standIns := [], harness := (true, "464cf78cad9bb9a717c8f0546966dbc29f4aa70ef96206c4751b1c58b4f6d383"), looks := true }, kinds := [], alts := [], laidByText := true, laidKinds := [.data, .data, .data, .sentinel, .sentinel], laidTests := true, laidLooks := .later }
def RunsPairsCardSaid : Prop := Claim7.holds Tryd.pinned (.plain (OpenSpec.ofChange runsPairsSpec)) runsPairsCard

/-- THE TIED CARD OF 'circalaw09.RunsOne'. -/
def runsOneCard : Claim7 := { stood := { row := runsOneRow, standIns := [], harness := (true, "464cf78cad9bb9a717c8f0546966dbc29f4aa70ef96206c4751b1c58b4f6d383"), looks := true }, kinds := [], alts := [], laidByText := true, laidKinds := [.data, .data, .data, .sentinel, .sentinel], laidTests := true, laidLooks := .later }
def RunsOneCardSaid : Prop := Claim7.holds Tryd.pinned (.plain (OpenSpec.ofChange runsOneSpec)) runsOneCard

/-- THE TIED CARD OF 'circalaw09.RunsText'. -/
def runsTextCard : Claim7 := { stood := { row := runsTextRow, standIns := [], harness := (true, "464cf78cad9bb9a717c8f0546966dbc29f4aa70ef96206c4751b1c58b4f6d383"), looks := true }, kinds := [], alts := [], laidByText := true, laidKinds := [.data, .data, .data, .sentinel, .sentinel], laidTests := true, laidLooks := .later }
def RunsTextCardSaid : Prop := Claim7.holds Tryd.pinned (.plain (OpenSpec.ofChange runsTextSpec)) runsTextCard

/-- THE SECOND FORM's CARD OF 'circalaw09.RunsPlain'. -/
def runsPlainUptoCard : Claim7 := { stood := { row := runsPlainUptoRow, standIns := [], harness := (true, "464cf78cad9bb9a717c8f0546966dbc29f4aa70ef96206c4751b1c58b4f6d383"), looks := true }, kinds := [], alts := [], laidByText := true, laidKinds := [.data, .data, .data, .sentinel, .sentinel], laidTests := true, laidLooks := .later }
def RunsPlainUptoCardSaid : Prop := Claim7.holds Tryd.pinned (.plain (OpenSpec.upto runsPlainSpec)) runsPlainUptoCard

/-- THE SECOND FORM's CARD OF 'circalaw09.RunsParse'. -/
def runsParseUptoCard : Claim7 := { stood := { row := runsParseUptoRow, standIns := [], harness := (true, "464cf78cad9bb9a717c8f0546966dbc29f4aa70ef96206c4751b1c58b4f6d383"), looks := true }, kinds := [], alts := [], laidByText := true, laidKinds := [.data, .data, .data, .sentinel, .sentinel], laidTests := true, laidLooks := .later }
def RunsParseUptoCardSaid : Prop := Claim7.holds Tryd.pinned (.plain (OpenSpec.upto runsParseSpec)) runsParseUptoCard

/-- THE SECOND FORM's CARD OF 'circalaw09.RunsPairs'. -/
def runsPairsUptoCard : Claim7 := { stood := { row := runsPairsUptoRow, standIns := [], harness := (true, "464cf78cad9bb9a717c8f0546966dbc29f4aa70ef96206c4751b1c58b4f6d383"), looks := true }, kinds := [], alts := [], laidByText := true, laidKinds := [.data, .data, .data, .sentinel, .sentinel], laidTests := true, laidLooks := .later }
def RunsPairsUptoCardSaid : Prop := Claim7.holds Tryd.pinned (.plain (OpenSpec.upto runsPairsSpec)) runsPairsUptoCard

/-- THE SECOND FORM's CARD OF 'circalaw09.RunsOne'. -/
def runsOneUptoCard : Claim7 := { stood := { row := runsOneUptoRow, standIns := [], harness := (true, "464cf78cad9bb9a717c8f0546966dbc29f4aa70ef96206c4751b1c58b4f6d383"), looks := true }, kinds := [], alts := [], laidByText := true, laidKinds := [.data, .data, .data, .sentinel, .sentinel], laidTests := true, laidLooks := .later }
def RunsOneUptoCardSaid : Prop := Claim7.holds Tryd.pinned (.plain (OpenSpec.upto runsOneSpec)) runsOneUptoCard

/-- THE SECOND FORM's CARD OF 'circalaw09.RunsText'. -/
def runsTextUptoCard : Claim7 := { stood := { row := runsTextUptoRow, standIns := [], harness := (true, "464cf78cad9bb9a717c8f0546966dbc29f4aa70ef96206c4751b1c58b4f6d383"), looks := true }, kinds := [], alts := [], laidByText := true, laidKinds := [.data, .data, .data, .sentinel, .sentinel], laidTests := true, laidLooks := .later }
def RunsTextUptoCardSaid : Prop := Claim7.holds Tryd.pinned (.plain (OpenSpec.upto runsTextSpec)) runsTextUptoCard
end Rows
end Go.Proofs.YtcdkeiolblifkaaDoor
