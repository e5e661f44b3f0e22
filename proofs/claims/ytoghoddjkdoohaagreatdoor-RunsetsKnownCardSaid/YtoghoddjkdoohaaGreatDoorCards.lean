/-
  DERIVED. GIVEN WITH THE SEED: THE CARDS: each row of YtoghoddjkdoohaaGreatDoorRows.lean that lists a variable, with what it lists TIED to the program's text (the seventh form; the later family's looks); each row that meets fmt, with fmt's text TOLD by the authors' own Lean function (tested against real Go, not proved from fmt's source: count such statements apart). THE CARD IS WHAT COUNTS. Prove the row's statement (the work); the ties are given (YtoghoddjkdoohaaGreatDoorTie.lean); close each card by the builder's one call (the guide's Derived/Test/ToyasCard.lean, 'card_holds'). Laid BY PROGRAM, IN A SANDBOX (cutbox-door.mjs). By AI agents, Wed Nov 11 2026. No macro, syntax, notation, axiom, sorry.
-/
import Derived.Test.YtoghoddjkdoohaaGreatDoorRows
import GoSem.ClaimSeven
namespace Go.Proofs.YtoghoddjkdoohaaGreatDoor
namespace Rows

/-- THE TIED CARD OF 'circalaw10.RunsetsOf'. -/
def runsetsOfCard : Claim7 := { stood := { row := runsetsOfRow, standIns := [], harness := (true, "dc3f7a81e7ea8f3632c54e49b2534d30189606c436018f2699244fa225a11652"), looks := true }, kinds := [], alts := [], laidByText := true, laidKinds := [.data, .data, .data, .data, .sentinel, .sentinel, .pinned], laidTests := true, laidLooks := .later }
def RunsetsOfCardSaid : Prop := Claim7.holds Tryz.pinned (.plain (OpenSpec.ofChange runsetsOfSpec)) runsetsOfCard

/-- THE TIED CARD OF 'circalaw10.RunsetsOne'. -/
def runsetsOneCard : Claim7 := { stood := { row := runsetsOneRow, standIns := [], harness := (true, "dc3f7a81e7ea8f3632c54e49b2534d30189606c436018f2699244fa225a11652"), looks := true }, kinds := [], alts := [], laidByText := true, laidKinds := [.data, .data, .data, .data, .sentinel, .sentinel, .pinned], laidTests := true, laidLooks := .later }
def RunsetsOneCardSaid : Prop := Claim7.holds Tryz.pinned (.plain (OpenSpec.ofChange runsetsOneSpec)) runsetsOneCard

/-- THE TIED CARD OF 'circalaw10.RunsetsPlain'. -/
def runsetsPlainCard : Claim7 := { stood := { row := runsetsPlainRow, standIns := [], harness := (true, "dc3f7a81e7ea8f3632c54e49b2534d30189606c436018f2699244fa225a11652"), looks := true }, kinds := [], alts := [], laidByText := true, laidKinds := [.data, .data, .data, .data, .sentinel, .sentinel, .pinned], laidTests := true, laidLooks := .later }
def RunsetsPlainCardSaid : Prop := Claim7.holds Tryz.pinned (.plain (OpenSpec.ofChange runsetsPlainSpec)) runsetsPlainCard

/-- THE TIED CARD OF 'circalaw10.RunsetsPairs'. -/
def runsetsPairsCard : Claim7 := { stood := { row := runsetsPairsRow, standIns := [], harness := (true, "dc3f7a81e7ea8f3632c54e49b2534d30189606c436018f2699244fa225a11652"), looks := true }, kinds := [], alts := [], laidByText := true, laidKinds := [.data, .data, .data, .data, .sentinel, .sentinel, .pinned], laidTests := true, laidLooks := .later }
def RunsetsPairsCardSaid : Prop := Claim7.holds Tryz.pinned (.plain (OpenSpec.ofChange runsetsPairsSpec)) runsetsPairsCard

/-- THE TIED CARD OF 'circalaw10.RunsetsText'. -/
def runsetsTextCard : Claim7 := { stood := { row := runsetsTextRow, standIns := [], harness := (true, "dc3f7a81e7ea8f3632c54e49b2534d30189606c436018f2699244fa225a11652"), looks := true }, kinds := [], alts := [], laidByText := true, laidKinds := [.data, .data, .data, .data, .sentinel, .sentinel, .pinned], laidTests := true, laidLooks := .later }
def RunsetsTextCardSaid : Prop := Claim7.holds Tryz.pinned (.plain (OpenSpec.ofChange runsetsTextSpec)) runsetsTextCard

/-- THE TIED CARD OF 'circalaw10.RunsetsKnown'. -/
def runsetsKnownCard : Claim7 := { stood := { row := runsetsKnownRow, standIns := [], harness := (true, "dc3f7a81e7ea8f3632c54e49b2534d30189606c436018f2699244fa225a11652"), looks := true }, kinds := [], alts := [], laidByText := true, laidKinds := [.data, .data, .data, .data, .sentinel, .sentinel, .pinned], laidTests := true, laidLooks := .later }
def RunsetsKnownCardSaid : Prop := Claim7.holds Tryz.pinned (.plain (OpenSpec.ofChange runsetsKnownSpec)) runsetsKnownCard

/-- THE SECOND FORM's CARD OF 'circalaw10.RunsetsOf'. -/
def runsetsOfUptoCard : Claim7 := { stood := { row := runsetsOfUptoRow, standIns := [], harness := (true, "dc3f7a81e7ea8f3632c54e49b2534d30189606c436018f2699244fa225a11652"), looks := true }, kinds := [], alts := [], laidByText := true, laidKinds := [.data, .data, .data, .data, .sentinel, .sentinel, .pinned], laidTests := true, laidLooks := .later }
def RunsetsOfUptoCardSaid : Prop := Claim7.holds Tryz.pinned (.plain (OpenSpec.upto runsetsOfSpec)) runsetsOfUptoCard

/-- THE SECOND FORM's CARD OF 'circalaw10.RunsetsOne'. -/
def runsetsOneUptoCard : Claim7 := { stood := { row := runsetsOneUptoRow, standIns := [], harness := (true, "dc3f7a81e7ea8f3632c54e49b2534d30189606c436018f2699244fa225a11652"), looks := true }, kinds := [], alts := [], laidByText := true, laidKinds := [.data, .data, .data, .data, .sentinel, .sentinel, .pinned], laidTests := true, laidLooks := .later }
def RunsetsOneUptoCardSaid : Prop := Claim7.holds Tryz.pinned (.plain (OpenSpec.upto runsetsOneSpec)) runsetsOneUptoCard

/-- THE SECOND FORM's CARD OF 'circalaw10.RunsetsPlain'. -/
def runsetsPlainUptoCard : Claim7 := { stood := { row := runsetsPlainUptoRow, standIns := [], harness := (true, "dc3f7a81e7ea8f3632c54e49b2534d30189606c436018f2699244fa225a11652"), looks := true }, kinds := [], alts := [], laidByText := true, laidKinds := [.data, .data, .data, .data, .sentinel, .sentinel, .pinned], laidTests := true, laidLooks := .later }
def RunsetsPlainUptoCardSaid : Prop := Claim7.holds Tryz.pinned (.plain (OpenSpec.upto runsetsPlainSpec)) runsetsPlainUptoCard

/-- THE SECOND FORM's CARD OF 'circalaw10.RunsetsPairs'. -/
def runsetsPairsUptoCard : Claim7 := { stood := { row := runsetsPairsUptoRow, standIns := [], harness := (true, "dc3f7a81e7ea8f3632c54e49b2534d30189606c436018f2699244fa225a11652"), looks := true }, kinds := [], alts := [], laidByText := true, laidKinds := [.data, .data, .data, .data, .sentinel, .sentinel, .pinned], laidTests := true, laidLooks := .later }
def RunsetsPairsUptoCardSaid : Prop := Claim7.holds Tryz.pinned (.plain (OpenSpec.upto runsetsPairsSpec)) runsetsPairsUptoCard

/-- THE SECOND FORM's CARD OF 'circalaw10.RunsetsText'. -/
def runsetsTextUptoCard : Claim7 := { stood := { row := runsetsTextUptoRow, standIns := [], harness := (true, "dc3f7a81e7ea8f3632c54e49b2534d30189606c436018f2699244fa225a11652"), looks := true }, kinds := [], alts := [], laidByText := true, laidKinds := [.data, .data, .data, .data, .sentinel, .sentinel, .pinned], laidTests := true, laidLooks := .later }
def RunsetsTextUptoCardSaid : Prop := Claim7.holds Tryz.pinned (.plain (OpenSpec.upto runsetsTextSpec)) runsetsTextUptoCard

/-- THE SECOND FORM's CARD OF 'circalaw10.RunsetsKnown'. -/
def runsetsKnownUptoCard : Claim7 := { stood := { row := runsetsKnownUptoRow, standIns := [], harness := (true, "dc3f7a81e7ea8f3632c54e49b2534d30189606c436018f2699244fa225a11652"), looks := true }, kinds := [], alts := [], laidByText := true, laidKinds := [.data, .data, .data, .data, .sentinel, .sentinel, .pinned], laidTests := true, laidLooks := .later }
def RunsetsKnownUptoCardSaid : Prop := Claim7.holds Tryz.pinned (.plain (OpenSpec.upto runsetsKnownSpec)) runsetsKnownUptoCard
end Rows
end Go.Proofs.YtoghoddjkdoohaaGreatDoor
