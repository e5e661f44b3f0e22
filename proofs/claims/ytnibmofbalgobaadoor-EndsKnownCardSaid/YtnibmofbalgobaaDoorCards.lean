/-
  DERIVED. GIVEN WITH THE SEED: THE CARDS: each row of YtnibmofbalgobaaDoorRows.lean that lists a variable, with what it lists TIED to the program's text (the seventh form; the later family's looks); each row that meets fmt, with fmt's text TOLD by the authors' own Lean function (tested against real Go, not proved from fmt's source: count such statements apart). THE CARD IS WHAT COUNTS. Prove the row's statement (the work); the ties are given (YtnibmofbalgobaaDoorTie.lean); close each card by the builder's one call (the guide's Derived/Test/ToyasCard.lean, 'card_holds'). Laid BY PROGRAM, IN A SANDBOX (cutbox-door.mjs). By AI agents, Wed Nov 11 2026. No macro, syntax, notation, axiom, sorry.
-/
import Derived.Test.YtnibmofbalgobaaDoorRows
import GoSem.ClaimSeven
namespace Go.Proofs.YtnibmofbalgobaaDoor
namespace Rows

/-- THE TIED CARD OF 'circalaw01.IntsSums'. -/
def intsSumsCard : Claim7 := { stood := { row := intsSumsRow, standIns := [], harness := (true, "2ae4204da32c7cbc4b12fa41c09fc525314499fb071029ae6265fb8226cb8add"), looks := true }, kinds := [], alts := [], laidByText := true, laidKinds := [.data, .data, .data, .sentinel, .sentinel], laidTests := true, laidLooks := .later }
def IntsSumsCardSaid : Prop := Claim7.holds Tryd.pinned (.plain (OpenSpec.ofChange intsSumsSpec)) intsSumsCard

/-- THE TIED CARD OF 'circalaw01.IntsDivs'. -/
def intsDivsCard : Claim7 := { stood := { row := intsDivsRow, standIns := [], harness := (true, "2ae4204da32c7cbc4b12fa41c09fc525314499fb071029ae6265fb8226cb8add"), looks := true }, kinds := [], alts := [], laidByText := true, laidKinds := [.data, .data, .data, .sentinel, .sentinel], laidTests := true, laidLooks := .later }
def IntsDivsCardSaid : Prop := Claim7.holds Tryd.pinned (.plain (OpenSpec.ofChange intsDivsSpec)) intsDivsCard

/-- THE TIED CARD OF 'circalaw01.IntsGcd'. -/
def intsGcdCard : Claim7 := { stood := { row := intsGcdRow, standIns := [], harness := (true, "2ae4204da32c7cbc4b12fa41c09fc525314499fb071029ae6265fb8226cb8add"), looks := true }, kinds := [], alts := [], laidByText := true, laidKinds := [.data, .data, .data, .sentinel, .sentinel], laidTests := true, laidLooks := .later }
def IntsGcdCardSaid : Prop := Claim7.holds Tryd.pinned (.plain (OpenSpec.ofChange intsGcdSpec)) intsGcdCard

/-- THE TIED CARD OF 'circalaw01.IntsText'. -/
def intsTextCard : Claim7 := { stood := { row := intsTextRow, standIns := [], harness := (true, "2ae4204da32c7cbc4b12fa41c09fc525314499fb071029ae6265fb8226cb8add"), looks := true }, kinds := [], alts := [], laidByText := true, laidKinds := [.data, .data, .data, .sentinel, .sentinel], laidTests := true, laidLooks := .later }
def IntsTextCardSaid : Prop := Claim7.holds Tryd.pinned (.plain (OpenSpec.ofChange intsTextSpec)) intsTextCard

/-- THE TIED CARD OF 'circalaw01.IntsParse'. -/
def intsParseCard : Claim7 := { stood := { row := intsParseRow, standIns := [], harness := (true, "2ae4204da32c7cbc4b12fa41c09fc525314499fb071029ae6265fb8226cb8add"), looks := true }, kinds := [], alts := [], laidByText := true, laidKinds := [.data, .data, .data, .sentinel, .sentinel], laidTests := true, laidLooks := .later }
def IntsParseCardSaid : Prop := Claim7.holds Tryd.pinned (.plain (OpenSpec.ofChange intsParseSpec)) intsParseCard

/-- THE TIED CARD OF 'circalaw01.IntsKnown'. -/
def intsKnownCard : Claim7 := { stood := { row := intsKnownRow, standIns := [], harness := (true, "2ae4204da32c7cbc4b12fa41c09fc525314499fb071029ae6265fb8226cb8add"), looks := true }, kinds := [], alts := [], laidByText := true, laidKinds := [.data, .data, .data, .sentinel, .sentinel], laidTests := true, laidLooks := .later }
def IntsKnownCardSaid : Prop := Claim7.holds Tryd.pinned (.plain (OpenSpec.ofChange intsKnownSpec)) intsKnownCard

/-- THE TIED CARD OF 'circalaw08.EndsOrder'. -/
def endsOrderCard : Claim7 := { stood := { row := endsOrderRow, standIns := [], harness := (true, "2ae4204da32c7cbc4b12fa41c09fc525314499fb071029ae6265fb8226cb8add"), looks := true }, kinds := [], alts := [], laidByText := true, laidKinds := [.data, .data, .data, .sentinel, .sentinel], laidTests := true, laidLooks := .later }
def EndsOrderCardSaid : Prop := Claim7.holds Tryd.pinned (.plain (OpenSpec.ofChange endsOrderSpec)) endsOrderCard

/-- THE TIED CARD OF 'circalaw08.EndsNext'. -/
def endsNextCard : Claim7 := { stood := { row := endsNextRow, standIns := [], harness := (true, "2ae4204da32c7cbc4b12fa41c09fc525314499fb071029ae6265fb8226cb8add"), looks := true }, kinds := [], alts := [], laidByText := true, laidKinds := [.data, .data, .data, .sentinel, .sentinel], laidTests := true, laidLooks := .later }
def EndsNextCardSaid : Prop := Claim7.holds Tryd.pinned (.plain (OpenSpec.ofChange endsNextSpec)) endsNextCard

/-- THE TIED CARD OF 'circalaw08.EndsText'. -/
def endsTextCard : Claim7 := { stood := { row := endsTextRow, standIns := [], harness := (true, "2ae4204da32c7cbc4b12fa41c09fc525314499fb071029ae6265fb8226cb8add"), looks := true }, kinds := [], alts := [], laidByText := true, laidKinds := [.data, .data, .data, .sentinel, .sentinel], laidTests := true, laidLooks := .later }
def EndsTextCardSaid : Prop := Claim7.holds Tryd.pinned (.plain (OpenSpec.ofChange endsTextSpec)) endsTextCard

/-- THE TIED CARD OF 'circalaw08.EndsParse'. -/
def endsParseCard : Claim7 := { stood := { row := endsParseRow, standIns := [], harness := (true, "2ae4204da32c7cbc4b12fa41c09fc525314499fb071029ae6265fb8226cb8add"), looks := true }, kinds := [], alts := [], laidByText := true, laidKinds := [.data, .data, .data, .sentinel, .sentinel], laidTests := true, laidLooks := .later }
def EndsParseCardSaid : Prop := Claim7.holds Tryd.pinned (.plain (OpenSpec.ofChange endsParseSpec)) endsParseCard

/-- THE TIED CARD OF 'circalaw08.EndsKnown'. -/
def endsKnownCard : Claim7 := { stood := { row := endsKnownRow, standIns := [], harness := (true, "2ae4204da32c7cbc4b12fa41c09fc525314499fb071029ae6265fb8226cb8add"), looks := true }, kinds := [], alts := [], laidByText := true, laidKinds := [.data, .data, .data, .sentinel, .sentinel], laidTests := true, laidLooks := .later }
def EndsKnownCardSaid : Prop := Claim7.holds Tryd.pinned (.plain (OpenSpec.ofChange endsKnownSpec)) endsKnownCard

/-- THE TIED CARD OF 'circalaw09.RunsPlain'. -/
def runsPlainCard : Claim7 := { stood := { row := runsPlainRow, standIns := [], harness := (true, "2ae4204da32c7cbc4b12fa41c09fc525314499fb071029ae6265fb8226cb8add"), looks := true }, kinds := [], alts := [], laidByText := true, laidKinds := [.data, .data, .data, .sentinel, .sentinel], laidTests := true, laidLooks := .later }
def RunsPlainCardSaid : Prop := Claim7.holds Tryd.pinned (.plain (OpenSpec.ofChange runsPlainSpec)) runsPlainCard

/-- THE TIED CARD OF 'circalaw09.RunsParse'. -/
def runsParseCard : Claim7 := { stood := { row := runsParseRow, standIns := [], harness := (true, "2ae4204da32c7cbc4b12fa41c09fc525314499fb071029ae6265fb8226cb8add"), looks := true }, kinds := [], alts := [], laidByText := true, laidKinds := [.data, .data, .data, .sentinel, .sentinel], laidTests := true, laidLooks := .later }
def RunsParseCardSaid : Prop := Claim7.holds Tryd.pinned (.plain (OpenSpec.ofChange runsParseSpec)) runsParseCard

/-- THE TIED CARD OF 'circalaw09.RunsPairs'. -/
def runsPairsCard : Claim7 := { stood := { row := runsPairsRow, standIns := [], harness := (true, "2ae4204da32c7cbc4b12fa41c09fc525314499fb071029ae6265fb8226cb8add"), looks := true }, kinds := [], alts := [], laidByText := true, laidKinds := [.data, .data, .data, .sentinel, .sentinel], laidTests := true, laidLooks := .later }
def RunsPairsCardSaid : Prop := Claim7.holds Tryd.pinned (.plain (OpenSpec.ofChange runsPairsSpec)) runsPairsCard

/-- THE TIED CARD OF 'circalaw09.RunsOne'. -/
def runsOneCard : Claim7 := { stood := { row := runsOneRow, standIns := [], harness := (true, "2ae4204da32c7cbc4b12fa41c09fc525314499fb071029ae6265fb8226cb8add"), looks := true }, kinds := [], alts := [], laidByText := true, laidKinds := [.data, .data, .data, .sentinel, .sentinel], laidTests := true, laidLooks := .later }
def RunsOneCardSaid : Prop := Claim7.holds Tryd.pinned (.plain (OpenSpec.ofChange runsOneSpec)) runsOneCard

/-- THE TIED CARD OF 'circalaw09.RunsText'. -/
def runsTextCard : Claim7 := { stood := { row := runsTextRow, standIns := [], harness := (true, "2ae4204da32c7cbc4b12fa41c09fc525314499fb071029ae6265fb8226cb8add"), looks := true }, kinds := [], alts := [], laidByText := true, laidKinds := [.data, .data, .data, .sentinel, .sentinel], laidTests := true, laidLooks := .later }
def RunsTextCardSaid : Prop := Claim7.holds Tryd.pinned (.plain (OpenSpec.ofChange runsTextSpec)) runsTextCard

/-- THE SECOND FORM's CARD OF 'circalaw01.IntsSums'. -/
def intsSumsUptoCard : Claim7 := { stood := { row := intsSumsUptoRow, standIns := [], harness := (true, "2ae4204da32c7cbc4b12fa41c09fc525314499fb071029ae6265fb8226cb8add"), looks := true }, kinds := [], alts := [], laidByText := true, laidKinds := [.data, .data, .data, .sentinel, .sentinel], laidTests := true, laidLooks := .later }
def IntsSumsUptoCardSaid : Prop := Claim7.holds Tryd.pinned (.plain (OpenSpec.upto intsSumsSpec)) intsSumsUptoCard

/-- THE SECOND FORM's CARD OF 'circalaw01.IntsDivs'. -/
def intsDivsUptoCard : Claim7 := { stood := { row := intsDivsUptoRow, standIns := [], harness := (true, "2ae4204da32c7cbc4b12fa41c09fc525314499fb071029ae6265fb8226cb8add"), looks := true }, kinds := [], alts := [], laidByText := true, laidKinds := [.data, .data, .data, .sentinel, .sentinel], laidTests := true, laidLooks := .later }
def IntsDivsUptoCardSaid : Prop := Claim7.holds Tryd.pinned (.plain (OpenSpec.upto intsDivsSpec)) intsDivsUptoCard

/-- THE SECOND FORM's CARD OF 'circalaw01.IntsGcd'. -/
def intsGcdUptoCard : Claim7 := { stood := { row := intsGcdUptoRow, standIns := [], harness := (true, "2ae4204da32c7cbc4b12fa41c09fc525314499fb071029ae6265fb8226cb8add"), looks := true }, kinds := [], alts := [], laidByText := true, laidKinds := [.data, .data, .data, .sentinel, .sentinel], laidTests := true, laidLooks := .later }
def IntsGcdUptoCardSaid : Prop := Claim7.holds Tryd.pinned (.plain (OpenSpec.upto intsGcdSpec)) intsGcdUptoCard

/-- THE SECOND FORM's CARD OF 'circalaw01.IntsText'. -/
def intsTextUptoCard : Claim7 := { stood := { row := intsTextUptoRow, standIns := [], harness := (true, "2ae4204da32c7cbc4b12fa41c09fc525314499fb071029ae6265fb8226cb8add"), looks := true }, kinds := [], alts := [], laidByText := true, laidKinds := [.data, .data, .data, .sentinel, .sentinel], laidTests := true, laidLooks := .later }
def IntsTextUptoCardSaid : Prop := Claim7.holds Tryd.pinned (.plain (OpenSpec.upto intsTextSpec)) intsTextUptoCard

/-- THE SECOND FORM's CARD OF 'circalaw01.IntsParse'. -/
def intsParseUptoCard : Claim7 := { stood := { row := intsParseUptoRow, standIns := [], harness := (true, "2ae4204da32c7cbc4b12fa41c09fc525314499fb071029ae6265fb8226cb8add"), looks := true }, kinds := [], alts := [], laidByText := true, laidKinds := [.data, .data, .data, .sentinel, .sentinel], laidTests := true, laidLooks := .later }
def IntsParseUptoCardSaid : Prop := Claim7.holds Tryd.pinned (.plain (OpenSpec.upto intsParseSpec)) intsParseUptoCard

/-- THE SECOND FORM's CARD OF 'circalaw01.IntsKnown'. -/
def intsKnownUptoCard : Claim7 := { stood := { row := intsKnownUptoRow, standIns := [], harness := (true, "2ae4204da32c7cbc4b12fa41c09fc525314499fb071029ae6265fb8226cb8add"), looks := true }, kinds := [], alts := [], laidByText := true, laidKinds := [.data, .data, .data, .sentinel, .sentinel], laidTests := true, laidLooks := .later }
def IntsKnownUptoCardSaid : Prop := Claim7.holds Tryd.pinned (.plain (OpenSpec.upto intsKnownSpec)) intsKnownUptoCard

/-- THE SECOND FORM's CARD OF 'circalaw08.EndsOrder'. -/
def endsOrderUptoCard : Claim7 := { stood := { row := endsOrderUptoRow, standIns := [], harness := (true, "2ae4204da32c7cbc4b12fa41c09fc525314499fb071029ae6265fb8226cb8add"), looks := true }, kinds := [], alts := [], laidByText := true, laidKinds := [.data, .data, .data, .sentinel, .sentinel], laidTests := true, laidLooks := .later }
def EndsOrderUptoCardSaid : Prop := Claim7.holds Tryd.pinned (.plain (OpenSpec.upto endsOrderSpec)) endsOrderUptoCard

/-- THE SECOND FORM's CARD OF 'circalaw08.EndsNext'. -/
def endsNextUptoCard : Claim7 := { stood := { row := endsNextUptoRow, standIns := [], harness := (true, "2ae4204da32c7cbc4b12fa41c09fc525314499fb071029ae6265fb8226cb8add"), looks := true }, kinds := [], alts := [], laidByText := true, laidKinds := [.data, .data, .data, .sentinel, .sentinel], laidTests := true, laidLooks := .later }
def EndsNextUptoCardSaid : Prop := Claim7.holds Tryd.pinned (.plain (OpenSpec.upto endsNextSpec)) endsNextUptoCard

/-- THE SECOND FORM's CARD OF 'circalaw08.EndsText'. -/
def endsTextUptoCard : Claim7 := { stood := { row := endsTextUptoRow, standIns := [], harness := (true, "2ae4204da32c7cbc4b12fa41c09fc525314499fb071029ae6265fb8226cb8add"), looks := true }, kinds := [], alts := [], laidByText := true, laidKinds := [.data, .data, .data, .sentinel, .sentinel], laidTests := true, laidLooks := .later }
def EndsTextUptoCardSaid : Prop := Claim7.holds Tryd.pinned (.plain (OpenSpec.upto endsTextSpec)) endsTextUptoCard

/-- THE SECOND FORM's CARD OF 'circalaw08.EndsParse'. -/
def endsParseUptoCard : Claim7 := { stood := { row := endsParseUptoRow, standIns := [], harness := (true, "2ae4204da32c7cbc4b12fa41c09fc525314499fb071029ae6265fb8226cb8add"), looks := true }, kinds := [], alts := [], laidByText := true, laidKinds := [.data, .data, .data, .sentinel, .sentinel], laidTests := true, laidLooks := .later }
def EndsParseUptoCardSaid : Prop := Claim7.holds Tryd.pinned (.plain (OpenSpec.upto endsParseSpec)) endsParseUptoCard

/-- THE SECOND FORM's CARD OF 'circalaw08.EndsKnown'. -/
def endsKnownUptoCard : Claim7 := { stood := { row := endsKnownUptoRow, standIns := [], harness := (true, "2ae4204da32c7cbc4b12fa41c09fc525314499fb071029ae6265fb8226cb8add"), looks := true }, kinds := [], alts := [], laidByText := true, laidKinds := [.data, .data, .data, .sentinel, .sentinel], laidTests := true, laidLooks := .later }
def EndsKnownUptoCardSaid : Prop := Claim7.holds Tryd.pinned (.plain (OpenSpec.upto endsKnownSpec)) endsKnownUptoCard

/-- THE SECOND FORM's CARD OF 'circalaw09.RunsPlain'. -/
def runsPlainUptoCard : Claim7 := { stood := { row := runsPlainUptoRow, standIns := [], harness := (true, "2ae4204da32c7cbc4b12fa41c09fc525314499fb071029ae6265fb8226cb8add"), looks := true }, kinds := [], alts := [], laidByText := true, laidKinds := [.data, .data, .data, .sentinel, .sentinel], laidTests := true, laidLooks := .later }
def RunsPlainUptoCardSaid : Prop := Claim7.holds Tryd.pinned (.plain (OpenSpec.upto runsPlainSpec)) runsPlainUptoCard

/-- THE SECOND FORM's CARD OF 'circalaw09.RunsParse'. -/
def runsParseUptoCard : Claim7 := { stood := { row := runsParseUptoRow, standIns := [], harness := (true, "2ae4204da32c7cbc4b12fa41c09fc525314499fb071029ae6265fb8226cb8add"), looks := true }, kinds := [], alts := [], laidByText := true, laidKinds := [.data, .data, .data, .sentinel, .sentinel], laidTests := true, laidLooks := .later }
def RunsParseUptoCardSaid : Prop := Claim7.holds Tryd.pinned (.plain (OpenSpec.upto runsParseSpec)) runsParseUptoCard

/-- THE SECOND FORM's CARD OF 'circalaw09.RunsPairs'. -/
def runsPairsUptoCard : Claim7 := { stood := { row := runsPairsUptoRow, standIns := [], harness := (true, "2ae4204da32c7cbc4b12fa41c09fc525314499fb071029ae6265fb8226cb8add"), looks := true }, kinds := [], alts := [], laidByText := true, laidKinds := [.data, .data, .data, .sentinel, .sentinel], laidTests := true, laidLooks := .later }
def RunsPairsUptoCardSaid : Prop := Claim7.holds Tryd.pinned (.plain (OpenSpec.upto runsPairsSpec)) runsPairsUptoCard

/-- THE SECOND FORM's CARD OF 'circalaw09.RunsOne'. -/
def runsOneUptoCard : Claim7 := { stood := { row := runsOneUptoRow, standIns := [], harness := (true, "2ae4204da32c7cbc4b12fa41c09fc525314499fb071029ae6265fb8226cb8add"), looks := true }, kinds := [], alts := [], laidByText := true, laidKinds := [.data, .data, .data, .sentinel, .sentinel], laidTests := true, laidLooks := .later }
def RunsOneUptoCardSaid : Prop := Claim7.holds Tryd.pinned (.plain (OpenSpec.upto runsOneSpec)) runsOneUptoCard

/-- THE SECOND FORM's CARD OF 'circalaw09.RunsText'. -/
def runsTextUptoCard : Claim7 := { stood := { row := runsTextUptoRow, standIns := [], harness := (true, "2ae4204da32c7cbc4b12fa41c09fc525314499fb071029ae6265fb8226cb8add"), looks := true }, kinds := [], alts := [], laidByText := true, laidKinds := [.data, .data, .data, .sentinel, .sentinel], laidTests := true, laidLooks := .later }
def RunsTextUptoCardSaid : Prop := Claim7.holds Tryd.pinned (.plain (OpenSpec.upto runsTextSpec)) runsTextUptoCard
end Rows
end Go.Proofs.YtnibmofbalgobaaDoor
