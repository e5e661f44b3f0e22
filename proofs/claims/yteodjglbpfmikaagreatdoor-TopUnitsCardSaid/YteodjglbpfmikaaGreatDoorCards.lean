/-
  DERIVED. GIVEN WITH THE SEED: THE CARDS: each row of YteodjglbpfmikaaGreatDoorRows.lean that lists a variable, with what it lists TIED to the program's text (the seventh form; the later family's looks); each row that meets fmt, with fmt's text TOLD by the authors' own Lean function (tested against real Go, not proved from fmt's source: count such statements apart). THE CARD IS WHAT COUNTS. Prove the row's statement (the work); the ties are given (YteodjglbpfmikaaGreatDoorTie.lean); close each card by the builder's one call (the guide's Derived/Test/ToyasCard.lean, 'card_holds'). Laid BY PROGRAM, IN A SANDBOX (cutbox-door.mjs). By AI agents, Wed Nov 11 2026. No macro, syntax, notation, axiom, sorry.
-/
import Derived.Test.YteodjglbpfmikaaGreatDoorRows
import GoSem.ClaimSeven
namespace Go.Proofs.YteodjglbpfmikaaGreatDoor
namespace Rows

/-- THE TIED CARD OF 'circatop.TopAxis'. -/
def topAxisCard : Claim7 := { stood := { row := topAxisRow, standIns := [], harness := (true, "e0a05570cc384948e78b9bba5e5501891eba5086d444cf4bc541e9159c09dbcd"), looks := true }, kinds := [], alts := [], laidByText := true, laidKinds := [.data, .data, .data, .data, .data, .data], laidTests := true, laidLooks := .later }
def TopAxisCardSaid : Prop := Claim7.holds Tryz.pinned (.plain (OpenSpec.ofChange topAxisSpec)) topAxisCard

/-- THE TIED CARD OF 'circatop.TopUnits'. -/
def topUnitsCard : Claim7 := { stood := { row := topUnitsRow, standIns := [], harness := (true, "e0a05570cc384948e78b9bba5e5501891eba5086d444cf4bc541e9159c09dbcd"), looks := true }, kinds := [], alts := [], laidByText := true, laidKinds := [.data, .data, .data, .data, .data, .data], laidTests := true, laidLooks := .later }
def TopUnitsCardSaid : Prop := Claim7.holds Tryz.pinned (.plain (OpenSpec.ofChange topUnitsSpec)) topUnitsCard

/-- THE TIED CARD OF 'circatop.TopCalendar'. -/
def topCalendarCard : Claim7 := { stood := { row := topCalendarRow, standIns := [], harness := (true, "e0a05570cc384948e78b9bba5e5501891eba5086d444cf4bc541e9159c09dbcd"), looks := true }, kinds := [], alts := [], laidByText := true, laidKinds := [.data, .data, .data, .data, .sentinel, .sentinel, .data, .data, .data, .pinned], laidTests := true, laidLooks := .later }
def TopCalendarCardSaid : Prop := Claim7.holds Tryz.pinned (.plain (OpenSpec.ofChange topCalendarSpec)) topCalendarCard

/-- THE SECOND FORM's CARD OF 'circatop.TopAxis'. -/
def topAxisUptoCard : Claim7 := { stood := { row := topAxisUptoRow, standIns := [], harness := (true, "e0a05570cc384948e78b9bba5e5501891eba5086d444cf4bc541e9159c09dbcd"), looks := true }, kinds := [], alts := [], laidByText := true, laidKinds := [.data, .data, .data, .data, .data, .data], laidTests := true, laidLooks := .later }
def TopAxisUptoCardSaid : Prop := Claim7.holds Tryz.pinned (.plain (OpenSpec.upto topAxisSpec)) topAxisUptoCard

/-- THE SECOND FORM's CARD OF 'circatop.TopUnits'. -/
def topUnitsUptoCard : Claim7 := { stood := { row := topUnitsUptoRow, standIns := [], harness := (true, "e0a05570cc384948e78b9bba5e5501891eba5086d444cf4bc541e9159c09dbcd"), looks := true }, kinds := [], alts := [], laidByText := true, laidKinds := [.data, .data, .data, .data, .data, .data], laidTests := true, laidLooks := .later }
def TopUnitsUptoCardSaid : Prop := Claim7.holds Tryz.pinned (.plain (OpenSpec.upto topUnitsSpec)) topUnitsUptoCard

/-- THE SECOND FORM's CARD OF 'circatop.TopCalendar'. -/
def topCalendarUptoCard : Claim7 := { stood := { row := topCalendarUptoRow, standIns := [], harness := (true, "e0a05570cc384948e78b9bba5e5501891eba5086d444cf4bc541e9159c09dbcd"), looks := true }, kinds := [], alts := [], laidByText := true, laidKinds := [.data, .data, .data, .data, .sentinel, .sentinel, .data, .data, .data, .pinned], laidTests := true, laidLooks := .later }
def TopCalendarUptoCardSaid : Prop := Claim7.holds Tryz.pinned (.plain (OpenSpec.upto topCalendarSpec)) topCalendarUptoCard
end Rows
end Go.Proofs.YteodjglbpfmikaaGreatDoor
