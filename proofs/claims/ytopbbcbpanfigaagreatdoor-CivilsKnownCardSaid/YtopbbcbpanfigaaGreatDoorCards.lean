/-
  DERIVED. GIVEN WITH THE SEED: THE CARDS: each row of YtopbbcbpanfigaaGreatDoorRows.lean that lists a variable, with what it lists TIED to the program's text (the seventh form; the later family's looks); each row that meets fmt, with fmt's text TOLD by the authors' own Lean function (tested against real Go, not proved from fmt's source: count such statements apart). THE CARD IS WHAT COUNTS. Prove the row's statement (the work); the ties are given (YtopbbcbpanfigaaGreatDoorTie.lean); close each card by the builder's one call (the guide's Derived/Test/ToyasCard.lean, 'card_holds'). Laid BY PROGRAM, IN A SANDBOX (cutbox-door.mjs). By AI agents, Wed Nov 11 2026. No macro, syntax, notation, axiom, sorry.
-/
import Derived.Test.YtopbbcbpanfigaaGreatDoorRows
import GoSem.ClaimSeven
namespace Go.Proofs.YtopbbcbpanfigaaGreatDoor
namespace Rows

/-- THE TIED CARD OF 'circalaw06.CivilsDay'. -/
def civilsDayCard : Claim7 := { stood := { row := civilsDayRow, standIns := [], harness := (true, "5111dd2686c4414b2807a2fdca8474cadf10352b745f054fcedc80522c1414c1"), looks := true }, kinds := [], alts := [], laidByText := true, laidKinds := [.data, .data, .data, .data, .sentinel, .sentinel, .data, .data, .pinned], laidTests := true, laidLooks := .later }
def CivilsDayCardSaid : Prop := Claim7.holds Tryz.pinned (.plain (OpenSpec.ofChange civilsDaySpec)) civilsDayCard

/-- THE TIED CARD OF 'circalaw06.CivilsText'. -/
def civilsTextCard : Claim7 := { stood := { row := civilsTextRow, standIns := [], harness := (true, "5111dd2686c4414b2807a2fdca8474cadf10352b745f054fcedc80522c1414c1"), looks := true }, kinds := [], alts := [], laidByText := true, laidKinds := [.data, .data, .data, .data, .sentinel, .sentinel, .data, .data, .pinned], laidTests := true, laidLooks := .later }
def CivilsTextCardSaid : Prop := Claim7.holds Tryz.pinned (.plain (OpenSpec.ofChange civilsTextSpec)) civilsTextCard

/-- THE TIED CARD OF 'circalaw06.CivilsParse'. -/
def civilsParseCard : Claim7 := { stood := { row := civilsParseRow, standIns := [], harness := (true, "5111dd2686c4414b2807a2fdca8474cadf10352b745f054fcedc80522c1414c1"), looks := true }, kinds := [], alts := [], laidByText := true, laidKinds := [.data, .data, .data, .data, .sentinel, .sentinel, .data, .data, .pinned], laidTests := true, laidLooks := .later }
def CivilsParseCardSaid : Prop := Claim7.holds Tryz.pinned (.plain (OpenSpec.ofChange civilsParseSpec)) civilsParseCard

/-- THE TIED CARD OF 'circalaw06.CivilsOrdinal'. -/
def civilsOrdinalCard : Claim7 := { stood := { row := civilsOrdinalRow, standIns := [], harness := (true, "5111dd2686c4414b2807a2fdca8474cadf10352b745f054fcedc80522c1414c1"), looks := true }, kinds := [], alts := [], laidByText := true, laidKinds := [.data, .data, .data, .data, .sentinel, .sentinel, .data, .data, .pinned], laidTests := true, laidLooks := .later }
def CivilsOrdinalCardSaid : Prop := Claim7.holds Tryz.pinned (.plain (OpenSpec.ofChange civilsOrdinalSpec)) civilsOrdinalCard

/-- THE TIED CARD OF 'circalaw06.CivilsOf'. -/
def civilsOfCard : Claim7 := { stood := { row := civilsOfRow, standIns := [], harness := (true, "5111dd2686c4414b2807a2fdca8474cadf10352b745f054fcedc80522c1414c1"), looks := true }, kinds := [], alts := [], laidByText := true, laidKinds := [.data, .data, .data, .data, .sentinel, .sentinel, .data, .data, .pinned], laidTests := true, laidLooks := .later }
def CivilsOfCardSaid : Prop := Claim7.holds Tryz.pinned (.plain (OpenSpec.ofChange civilsOfSpec)) civilsOfCard

/-- THE TIED CARD OF 'circalaw06.CivilsOrder'. -/
def civilsOrderCard : Claim7 := { stood := { row := civilsOrderRow, standIns := [], harness := (true, "5111dd2686c4414b2807a2fdca8474cadf10352b745f054fcedc80522c1414c1"), looks := true }, kinds := [], alts := [], laidByText := true, laidKinds := [.data, .data, .data, .data, .sentinel, .sentinel, .data, .data, .pinned], laidTests := true, laidLooks := .later }
def CivilsOrderCardSaid : Prop := Claim7.holds Tryz.pinned (.plain (OpenSpec.ofChange civilsOrderSpec)) civilsOrderCard

/-- THE TIED CARD OF 'circalaw06.CivilsKnown'. -/
def civilsKnownCard : Claim7 := { stood := { row := civilsKnownRow, standIns := [], harness := (true, "5111dd2686c4414b2807a2fdca8474cadf10352b745f054fcedc80522c1414c1"), looks := true }, kinds := [], alts := [], laidByText := true, laidKinds := [.data, .data, .data, .data, .sentinel, .sentinel, .data, .data, .pinned], laidTests := true, laidLooks := .later }
def CivilsKnownCardSaid : Prop := Claim7.holds Tryz.pinned (.plain (OpenSpec.ofChange civilsKnownSpec)) civilsKnownCard

/-- THE SECOND FORM's CARD OF 'circalaw06.CivilsDay'. -/
def civilsDayUptoCard : Claim7 := { stood := { row := civilsDayUptoRow, standIns := [], harness := (true, "5111dd2686c4414b2807a2fdca8474cadf10352b745f054fcedc80522c1414c1"), looks := true }, kinds := [], alts := [], laidByText := true, laidKinds := [.data, .data, .data, .data, .sentinel, .sentinel, .data, .data, .pinned], laidTests := true, laidLooks := .later }
def CivilsDayUptoCardSaid : Prop := Claim7.holds Tryz.pinned (.plain (OpenSpec.upto civilsDaySpec)) civilsDayUptoCard

/-- THE SECOND FORM's CARD OF 'circalaw06.CivilsText'. -/
def civilsTextUptoCard : Claim7 := { stood := { row := civilsTextUptoRow, standIns := [], harness := (true, "5111dd2686c4414b2807a2fdca8474cadf10352b745f054fcedc80522c1414c1"), looks := true }, kinds := [], alts := [], laidByText := true, laidKinds := [.data, .data, .data, .data, .sentinel, .sentinel, .data, .data, .pinned], laidTests := true, laidLooks := .later }
def CivilsTextUptoCardSaid : Prop := Claim7.holds Tryz.pinned (.plain (OpenSpec.upto civilsTextSpec)) civilsTextUptoCard

/-- THE SECOND FORM's CARD OF 'circalaw06.CivilsParse'. -/
def civilsParseUptoCard : Claim7 := { stood := { row := civilsParseUptoRow, standIns := [], harness := (true, "5111dd2686c4414b2807a2fdca8474cadf10352b745f054fcedc80522c1414c1"), looks := true }, kinds := [], alts := [], laidByText := true, laidKinds := [.data, .data, .data, .data, .sentinel, .sentinel, .data, .data, .pinned], laidTests := true, laidLooks := .later }
def CivilsParseUptoCardSaid : Prop := Claim7.holds Tryz.pinned (.plain (OpenSpec.upto civilsParseSpec)) civilsParseUptoCard

/-- THE SECOND FORM's CARD OF 'circalaw06.CivilsOrdinal'. -/
def civilsOrdinalUptoCard : Claim7 := { stood := { row := civilsOrdinalUptoRow, standIns := [], harness := (true, "5111dd2686c4414b2807a2fdca8474cadf10352b745f054fcedc80522c1414c1"), looks := true }, kinds := [], alts := [], laidByText := true, laidKinds := [.data, .data, .data, .data, .sentinel, .sentinel, .data, .data, .pinned], laidTests := true, laidLooks := .later }
def CivilsOrdinalUptoCardSaid : Prop := Claim7.holds Tryz.pinned (.plain (OpenSpec.upto civilsOrdinalSpec)) civilsOrdinalUptoCard

/-- THE SECOND FORM's CARD OF 'circalaw06.CivilsOf'. -/
def civilsOfUptoCard : Claim7 := { stood := { row := civilsOfUptoRow, standIns := [], harness := (true, "5111dd2686c4414b2807a2fdca8474cadf10352b745f054fcedc80522c1414c1"), looks := true }, kinds := [], alts := [], laidByText := true, laidKinds := [.data, .data, .data, .data, .sentinel, .sentinel, .data, .data, .pinned], laidTests := true, laidLooks := .later }
def CivilsOfUptoCardSaid : Prop := Claim7.holds Tryz.pinned (.plain (OpenSpec.upto civilsOfSpec)) civilsOfUptoCard

/-- THE SECOND FORM's CARD OF 'circalaw06.CivilsOrder'. -/
def civilsOrderUptoCard : Claim7 := { stood := { row := civilsOrderUptoRow, standIns := [], harness := (true, "5111dd2686c4414b2807a2fdca8474cadf10352b745f054fcedc80522c1414c1"), looks := true }, kinds := [], alts := [], laidByText := true, laidKinds := [.data, .data, .data, .data, .sentinel, .sentinel, .data, .data, .pinned], laidTests := true, laidLooks := .later }
def CivilsOrderUptoCardSaid : Prop := Claim7.holds Tryz.pinned (.plain (OpenSpec.upto civilsOrderSpec)) civilsOrderUptoCard

/-- THE SECOND FORM's CARD OF 'circalaw06.CivilsKnown'. -/
def civilsKnownUptoCard : Claim7 := { stood := { row := civilsKnownUptoRow, standIns := [], harness := (true, "5111dd2686c4414b2807a2fdca8474cadf10352b745f054fcedc80522c1414c1"), looks := true }, kinds := [], alts := [], laidByText := true, laidKinds := [.data, .data, .data, .data, .sentinel, .sentinel, .data, .data, .pinned], laidTests := true, laidLooks := .later }
def CivilsKnownUptoCardSaid : Prop := Claim7.holds Tryz.pinned (.plain (OpenSpec.upto civilsKnownSpec)) civilsKnownUptoCard
end Rows
end Go.Proofs.YtopbbcbpanfigaaGreatDoor
