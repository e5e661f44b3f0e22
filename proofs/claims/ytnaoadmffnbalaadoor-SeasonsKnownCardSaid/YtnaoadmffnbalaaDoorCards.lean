/-
  DERIVED. GIVEN WITH THE SEED: THE CARDS: each row of YtnaoadmffnbalaaDoorRows.lean that lists a variable, with what it lists TIED to the program's text (the seventh form; the later family's looks); each row that meets fmt, with fmt's text TOLD by the authors' own Lean function (tested against real Go, not proved from fmt's source: count such statements apart). THE CARD IS WHAT COUNTS. Prove the row's statement (the work); the ties are given (YtnaoadmffnbalaaDoorTie.lean); close each card by the builder's one call (the guide's Derived/Test/ToyasCard.lean, 'card_holds'). Laid BY PROGRAM, IN A SANDBOX (cutbox-door.mjs). By AI agents, Wed Nov 11 2026. No macro, syntax, notation, axiom, sorry.
-/
import Derived.Test.YtnaoadmffnbalaaDoorRows
import GoSem.ClaimSeven
namespace Go.Proofs.YtnaoadmffnbalaaDoor
namespace Rows

/-- THE TIED CARD OF 'circalaw04.YearsOf'. -/
def yearsOfCard : Claim7 := { stood := { row := yearsOfRow, standIns := [], harness := (true, "af066c4c581a2d00ceff8673e10c64da5556baf8ee689a5aadd4faeccab00120"), looks := false }, kinds := [], alts := [], laidByText := true, laidKinds := [.data], laidTests := true, laidLooks := .later }
def YearsOfCardSaid : Prop := Claim7.holds Tryd.pinned (.plain (OpenSpec.ofChange yearsOfSpec)) yearsOfCard

/-- THE TIED CARD OF 'circalaw04.YearsLeaps'. -/
def yearsLeapsCard : Claim7 := { stood := { row := yearsLeapsRow, standIns := [], harness := (true, "af066c4c581a2d00ceff8673e10c64da5556baf8ee689a5aadd4faeccab00120"), looks := false }, kinds := [], alts := [], laidByText := true, laidKinds := [.data], laidTests := true, laidLooks := .later }
def YearsLeapsCardSaid : Prop := Claim7.holds Tryd.pinned (.plain (OpenSpec.ofChange yearsLeapsSpec)) yearsLeapsCard

/-- THE TIED CARD OF 'circalaw04.YearsStart'. -/
def yearsStartCard : Claim7 := { stood := { row := yearsStartRow, standIns := [], harness := (true, "af066c4c581a2d00ceff8673e10c64da5556baf8ee689a5aadd4faeccab00120"), looks := false }, kinds := [], alts := [], laidByText := true, laidKinds := [.data], laidTests := true, laidLooks := .later }
def YearsStartCardSaid : Prop := Claim7.holds Tryd.pinned (.plain (OpenSpec.ofChange yearsStartSpec)) yearsStartCard

/-- THE TIED CARD OF 'circalaw04.YearsKnown'. -/
def yearsKnownCard : Claim7 := { stood := { row := yearsKnownRow, standIns := [], harness := (true, "af066c4c581a2d00ceff8673e10c64da5556baf8ee689a5aadd4faeccab00120"), looks := false }, kinds := [], alts := [], laidByText := true, laidKinds := [.data], laidTests := true, laidLooks := .later }
def YearsKnownCardSaid : Prop := Claim7.holds Tryd.pinned (.plain (OpenSpec.ofChange yearsKnownSpec)) yearsKnownCard

/-- THE TIED CARD OF 'circalaw05.MonthsDays'. -/
def monthsDaysCard : Claim7 := { stood := { row := monthsDaysRow, standIns := [], harness := (true, "af066c4c581a2d00ceff8673e10c64da5556baf8ee689a5aadd4faeccab00120"), looks := false }, kinds := [], alts := [], laidByText := true, laidKinds := [.data, .data], laidTests := true, laidLooks := .later }
def MonthsDaysCardSaid : Prop := Claim7.holds Tryd.pinned (.plain (OpenSpec.ofChange monthsDaysSpec)) monthsDaysCard

/-- THE TIED CARD OF 'circalaw05.MonthsOf'. -/
def monthsOfCard : Claim7 := { stood := { row := monthsOfRow, standIns := [], harness := (true, "af066c4c581a2d00ceff8673e10c64da5556baf8ee689a5aadd4faeccab00120"), looks := false }, kinds := [], alts := [], laidByText := true, laidKinds := [.data, .data], laidTests := true, laidLooks := .later }
def MonthsOfCardSaid : Prop := Claim7.holds Tryd.pinned (.plain (OpenSpec.ofChange monthsOfSpec)) monthsOfCard

/-- THE TIED CARD OF 'circalaw05.MonthsAdd'. -/
def monthsAddCard : Claim7 := { stood := { row := monthsAddRow, standIns := [], harness := (true, "af066c4c581a2d00ceff8673e10c64da5556baf8ee689a5aadd4faeccab00120"), looks := false }, kinds := [], alts := [], laidByText := true, laidKinds := [.data, .data], laidTests := true, laidLooks := .later }
def MonthsAddCardSaid : Prop := Claim7.holds Tryd.pinned (.plain (OpenSpec.ofChange monthsAddSpec)) monthsAddCard

/-- THE TIED CARD OF 'circalaw05.MonthsBetween'. -/
def monthsBetweenCard : Claim7 := { stood := { row := monthsBetweenRow, standIns := [], harness := (true, "af066c4c581a2d00ceff8673e10c64da5556baf8ee689a5aadd4faeccab00120"), looks := false }, kinds := [], alts := [], laidByText := true, laidKinds := [.data, .data], laidTests := true, laidLooks := .later }
def MonthsBetweenCardSaid : Prop := Claim7.holds Tryd.pinned (.plain (OpenSpec.ofChange monthsBetweenSpec)) monthsBetweenCard

/-- THE TIED CARD OF 'circalaw05.MonthsKnown'. -/
def monthsKnownCard : Claim7 := { stood := { row := monthsKnownRow, standIns := [], harness := (true, "af066c4c581a2d00ceff8673e10c64da5556baf8ee689a5aadd4faeccab00120"), looks := false }, kinds := [], alts := [], laidByText := true, laidKinds := [.data, .data], laidTests := true, laidLooks := .later }
def MonthsKnownCardSaid : Prop := Claim7.holds Tryd.pinned (.plain (OpenSpec.ofChange monthsKnownSpec)) monthsKnownCard

/-- THE TIED CARD OF 'circalaw07.SeasonsRun'. -/
def seasonsRunCard : Claim7 := { stood := { row := seasonsRunRow, standIns := [], harness := (true, "af066c4c581a2d00ceff8673e10c64da5556baf8ee689a5aadd4faeccab00120"), looks := false }, kinds := [], alts := [], laidByText := true, laidKinds := [.data, .data, .data], laidTests := true, laidLooks := .later }
def SeasonsRunCardSaid : Prop := Claim7.holds Tryd.pinned (.plain (OpenSpec.ofChange seasonsRunSpec)) seasonsRunCard

/-- THE TIED CARD OF 'circalaw07.SeasonsOf'. -/
def seasonsOfCard : Claim7 := { stood := { row := seasonsOfRow, standIns := [], harness := (true, "af066c4c581a2d00ceff8673e10c64da5556baf8ee689a5aadd4faeccab00120"), looks := false }, kinds := [], alts := [], laidByText := true, laidKinds := [.data, .data, .data], laidTests := true, laidLooks := .later }
def SeasonsOfCardSaid : Prop := Claim7.holds Tryd.pinned (.plain (OpenSpec.ofChange seasonsOfSpec)) seasonsOfCard

/-- THE TIED CARD OF 'circalaw07.SeasonsParts'. -/
def seasonsPartsCard : Claim7 := { stood := { row := seasonsPartsRow, standIns := [], harness := (true, "af066c4c581a2d00ceff8673e10c64da5556baf8ee689a5aadd4faeccab00120"), looks := false }, kinds := [], alts := [], laidByText := true, laidKinds := [.data, .data, .data], laidTests := true, laidLooks := .later }
def SeasonsPartsCardSaid : Prop := Claim7.holds Tryd.pinned (.plain (OpenSpec.ofChange seasonsPartsSpec)) seasonsPartsCard

/-- THE TIED CARD OF 'circalaw07.SeasonsKnown'. -/
def seasonsKnownCard : Claim7 := { stood := { row := seasonsKnownRow, standIns := [], harness := (true, "af066c4c581a2d00ceff8673e10c64da5556baf8ee689a5aadd4faeccab00120"), looks := false }, kinds := [], alts := [], laidByText := true, laidKinds := [.data, .data, .data], laidTests := true, laidLooks := .later }
def SeasonsKnownCardSaid : Prop := Claim7.holds Tryd.pinned (.plain (OpenSpec.ofChange seasonsKnownSpec)) seasonsKnownCard

/-- THE SECOND FORM's CARD OF 'circalaw04.YearsOf'. -/
def yearsOfUptoCard : Claim7 := { stood := { row := yearsOfUptoRow, standIns := [], harness := (true, "af066c4c581a2d00ceff8673e10c64da5556baf8ee689a5aadd4faeccab00120"), looks := false }, kinds := [], alts := [], laidByText := true, laidKinds := [.data], laidTests := true, laidLooks := .later }
def YearsOfUptoCardSaid : Prop := Claim7.holds Tryd.pinned (.plain (OpenSpec.upto yearsOfSpec)) yearsOfUptoCard

/-- THE SECOND FORM's CARD OF 'circalaw04.YearsLeaps'. -/
def yearsLeapsUptoCard : Claim7 := { stood := { row := yearsLeapsUptoRow, standIns := [], harness := (true, "af066c4c581a2d00ceff8673e10c64da5556baf8ee689a5aadd4faeccab00120"), looks := false }, kinds := [], alts := [], laidByText := true, laidKinds := [.data], laidTests := true, laidLooks := .later }
def YearsLeapsUptoCardSaid : Prop := Claim7.holds Tryd.pinned (.plain (OpenSpec.upto yearsLeapsSpec)) yearsLeapsUptoCard

/-- THE SECOND FORM's CARD OF 'circalaw04.YearsStart'. -/
def yearsStartUptoCard : Claim7 := { stood := { row := yearsStartUptoRow, standIns := [], harness := (true, "af066c4c581a2d00ceff8673e10c64da5556baf8ee689a5aadd4faeccab00120"), looks := false }, kinds := [], alts := [], laidByText := true, laidKinds := [.data], laidTests := true, laidLooks := .later }
def YearsStartUptoCardSaid : Prop := Claim7.holds Tryd.pinned (.plain (OpenSpec.upto yearsStartSpec)) yearsStartUptoCard

/-- THE SECOND FORM's CARD OF 'circalaw04.YearsKnown'. -/
def yearsKnownUptoCard : Claim7 := { stood := { row := yearsKnownUptoRow, standIns := [], harness := (true, "af066c4c581a2d00ceff8673e10c64da5556baf8ee689a5aadd4faeccab00120"), looks := false }, kinds := [], alts := [], laidByText := true, laidKinds := [.data], laidTests := true, laidLooks := .later }
def YearsKnownUptoCardSaid : Prop := Claim7.holds Tryd.pinned (.plain (OpenSpec.upto yearsKnownSpec)) yearsKnownUptoCard

/-- THE SECOND FORM's CARD OF 'circalaw05.MonthsDays'. -/
def monthsDaysUptoCard : Claim7 := { stood := { row := monthsDaysUptoRow, standIns := [], harness := (true, "af066c4c581a2d00ceff8673e10c64da5556baf8ee689a5aadd4faeccab00120"), looks := false }, kinds := [], alts := [], laidByText := true, laidKinds := [.data, .data], laidTests := true, laidLooks := .later }
def MonthsDaysUptoCardSaid : Prop := Claim7.holds Tryd.pinned (.plain (OpenSpec.upto monthsDaysSpec)) monthsDaysUptoCard

/-- THE SECOND FORM's CARD OF 'circalaw05.MonthsOf'. -/
def monthsOfUptoCard : Claim7 := { stood := { row := monthsOfUptoRow, standIns := [], harness := (true, "af066c4c581a2d00ceff8673e10c64da5556baf8ee689a5aadd4faeccab00120"), looks := false }, kinds := [], alts := [], laidByText := true, laidKinds := [.data, .data], laidTests := true, laidLooks := .later }
def MonthsOfUptoCardSaid : Prop := Claim7.holds Tryd.pinned (.plain (OpenSpec.upto monthsOfSpec)) monthsOfUptoCard

/-- THE SECOND FORM's CARD OF 'circalaw05.MonthsAdd'. -/
def monthsAddUptoCard : Claim7 := { stood := { row := monthsAddUptoRow, standIns := [], harness := (true, "af066c4c581a2d00ceff8673e10c64da5556baf8ee689a5aadd4faeccab00120"), looks := false }, kinds := [], alts := [], laidByText := true, laidKinds := [.data, .data], laidTests := true, laidLooks := .later }
def MonthsAddUptoCardSaid : Prop := Claim7.holds Tryd.pinned (.plain (OpenSpec.upto monthsAddSpec)) monthsAddUptoCard

/-- THE SECOND FORM's CARD OF 'circalaw05.MonthsBetween'. -/
def monthsBetweenUptoCard : Claim7 := { stood := { row := monthsBetweenUptoRow, standIns := [], harness := (true, "af066c4c581a2d00ceff8673e10c64da5556baf8ee689a5aadd4faeccab00120"), looks := false }, kinds := [], alts := [], laidByText := true, laidKinds := [.data, .data], laidTests := true, laidLooks := .later }
def MonthsBetweenUptoCardSaid : Prop := Claim7.holds Tryd.pinned (.plain (OpenSpec.upto monthsBetweenSpec)) monthsBetweenUptoCard

/-- THE SECOND FORM's CARD OF 'circalaw05.MonthsKnown'. -/
def monthsKnownUptoCard : Claim7 := { stood := { row := monthsKnownUptoRow, standIns := [], harness := (true, "af066c4c581a2d00ceff8673e10c64da5556baf8ee689a5aadd4faeccab00120"), looks := false }, kinds := [], alts := [], laidByText := true, laidKinds := [.data, .data], laidTests := true, laidLooks := .later }
def MonthsKnownUptoCardSaid : Prop := Claim7.holds Tryd.pinned (.plain (OpenSpec.upto monthsKnownSpec)) monthsKnownUptoCard

/-- THE SECOND FORM's CARD OF 'circalaw07.SeasonsRun'. -/
def seasonsRunUptoCard : Claim7 := { stood := { row := seasonsRunUptoRow, standIns := [], harness := (true, "af066c4c581a2d00ceff8673e10c64da5556baf8ee689a5aadd4faeccab00120"), looks := false }, kinds := [], alts := [], laidByText := true, laidKinds := [.data, .data, .data], laidTests := true, laidLooks := .later }
def SeasonsRunUptoCardSaid : Prop := Claim7.holds Tryd.pinned (.plain (OpenSpec.upto seasonsRunSpec)) seasonsRunUptoCard

/-- THE SECOND FORM's CARD OF 'circalaw07.SeasonsOf'. -/
def seasonsOfUptoCard : Claim7 := { stood := { row := seasonsOfUptoRow, standIns := [], harness := (true, "af066c4c581a2d00ceff8673e10c64da5556baf8ee689a5aadd4faeccab00120"), looks := false }, kinds := [], alts := [], laidByText := true, laidKinds := [.data, .data, .data], laidTests := true, laidLooks := .later }
def SeasonsOfUptoCardSaid : Prop := Claim7.holds Tryd.pinned (.plain (OpenSpec.upto seasonsOfSpec)) seasonsOfUptoCard

/-- THE SECOND FORM's CARD OF 'circalaw07.SeasonsParts'. -/
def seasonsPartsUptoCard : Claim7 := { stood := { row := seasonsPartsUptoRow, standIns := [], harness := (true, "af066c4c581a2d00ceff8673e10c64da5556baf8ee689a5aadd4faeccab00120"), looks := false }, kinds := [], alts := [], laidByText := true, laidKinds := [.data, .data, .data], laidTests := true, laidLooks := .later }
def SeasonsPartsUptoCardSaid : Prop := Claim7.holds Tryd.pinned (.plain (OpenSpec.upto seasonsPartsSpec)) seasonsPartsUptoCard

/-- THE SECOND FORM's CARD OF 'circalaw07.SeasonsKnown'. -/
def seasonsKnownUptoCard : Claim7 := { stood := { row := seasonsKnownUptoRow, standIns := [], harness := (true, "af066c4c581a2d00ceff8673e10c64da5556baf8ee689a5aadd4faeccab00120"), looks := false }, kinds := [], alts := [], laidByText := true, laidKinds := [.data, .data, .data], laidTests := true, laidLooks := .later }
def SeasonsKnownUptoCardSaid : Prop := Claim7.holds Tryd.pinned (.plain (OpenSpec.upto seasonsKnownSpec)) seasonsKnownUptoCard
end Rows
end Go.Proofs.YtnaoadmffnbalaaDoor
