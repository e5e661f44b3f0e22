/-
  DERIVED. GIVEN WITH THE SEED: THE PROGRAM's TIES (one call each: nine closed facts by the kernel) AND EACH ROW's TIE, after the 31st guide's Derived/Test/Toyas{Tie, Card}.lean. No idea stands in it: it is a product of the set-up. Laid BY PROGRAM, IN A SANDBOX (cutbox-door.mjs). By AI agents, Wed Nov 11 2026. No macro, syntax, notation, axiom, sorry.
-/
import Derived.Test.YtnaoadmffnbalaaDoorRows
import Derived.LaidByTextLater
import Derived.SevenTiedAt
import Derived.LaidSub
import Derived.LaidOnce
namespace Go.Proofs.YtnaoadmffnbalaaDoor
open Go
set_option maxRecDepth 100000
theorem seatTie1 : Tryd.prog.laidByTextLater [("circa/years.steps", Rows.laid_circa_years_steps), ("circa/months.lengths", Rows.laid_circa_months_lengths), ("circa/seasons.spans", Rows.laid_circa_seasons_spans)] [.data, .data, .data] true :=
  Program.laidByTextLater_by_one 48 8 43 (by kernel_rfl) (by kernel_rfl) (by kernel_rfl) (by kernel_rfl) (by kernel_rfl) (by kernel_rfl) (fun _ _ => by kernel_rfl)
theorem noOwnUnsafe : Tryd.pinned.checked.prog.headLifts.contains "ownunsafe" = false := by kernel_rfl
theorem tie : Tryd.prog.laidByTextLater [("circa/years.steps", Rows.laid_circa_years_steps)] [.data] true :=
  Program.laidByTextLater.sub seatTie1 ["circa/years.steps"] (by kernel_rfl) (by kernel_rfl)
theorem yearsOf_row_tie : Rows.yearsOfRow.laidByTextAt .later Tryd.pinned [.data] true :=
  OpenClaim.laidByTextAt_later rfl rfl tie noOwnUnsafe
theorem yearsLeaps_row_tie : Rows.yearsLeapsRow.laidByTextAt .later Tryd.pinned [.data] true :=
  OpenClaim.laidByTextAt_later rfl rfl tie noOwnUnsafe
theorem yearsStart_row_tie : Rows.yearsStartRow.laidByTextAt .later Tryd.pinned [.data] true :=
  OpenClaim.laidByTextAt_later rfl rfl tie noOwnUnsafe
theorem yearsKnown_row_tie : Rows.yearsKnownRow.laidByTextAt .later Tryd.pinned [.data] true :=
  OpenClaim.laidByTextAt_later rfl rfl tie noOwnUnsafe
theorem tie2 : Tryd.prog.laidByTextLater [("circa/years.steps", Rows.laid_circa_years_steps), ("circa/months.lengths", Rows.laid_circa_months_lengths)] [.data, .data] true :=
  Program.laidByTextLater.sub seatTie1 ["circa/years.steps", "circa/months.lengths"] (by kernel_rfl) (by kernel_rfl)
theorem monthsDays_row_tie : Rows.monthsDaysRow.laidByTextAt .later Tryd.pinned [.data, .data] true :=
  OpenClaim.laidByTextAt_later rfl rfl tie2 noOwnUnsafe
theorem monthsOf_row_tie : Rows.monthsOfRow.laidByTextAt .later Tryd.pinned [.data, .data] true :=
  OpenClaim.laidByTextAt_later rfl rfl tie2 noOwnUnsafe
theorem monthsAdd_row_tie : Rows.monthsAddRow.laidByTextAt .later Tryd.pinned [.data, .data] true :=
  OpenClaim.laidByTextAt_later rfl rfl tie2 noOwnUnsafe
theorem monthsBetween_row_tie : Rows.monthsBetweenRow.laidByTextAt .later Tryd.pinned [.data, .data] true :=
  OpenClaim.laidByTextAt_later rfl rfl tie2 noOwnUnsafe
theorem monthsKnown_row_tie : Rows.monthsKnownRow.laidByTextAt .later Tryd.pinned [.data, .data] true :=
  OpenClaim.laidByTextAt_later rfl rfl tie2 noOwnUnsafe
theorem tie3 : Tryd.prog.laidByTextLater [("circa/years.steps", Rows.laid_circa_years_steps), ("circa/months.lengths", Rows.laid_circa_months_lengths), ("circa/seasons.spans", Rows.laid_circa_seasons_spans)] [.data, .data, .data] true :=
  Program.laidByTextLater.sub seatTie1 ["circa/years.steps", "circa/months.lengths", "circa/seasons.spans"] (by kernel_rfl) (by kernel_rfl)
theorem seasonsRun_row_tie : Rows.seasonsRunRow.laidByTextAt .later Tryd.pinned [.data, .data, .data] true :=
  OpenClaim.laidByTextAt_later rfl rfl tie3 noOwnUnsafe
theorem seasonsOf_row_tie : Rows.seasonsOfRow.laidByTextAt .later Tryd.pinned [.data, .data, .data] true :=
  OpenClaim.laidByTextAt_later rfl rfl tie3 noOwnUnsafe
theorem seasonsParts_row_tie : Rows.seasonsPartsRow.laidByTextAt .later Tryd.pinned [.data, .data, .data] true :=
  OpenClaim.laidByTextAt_later rfl rfl tie3 noOwnUnsafe
theorem seasonsKnown_row_tie : Rows.seasonsKnownRow.laidByTextAt .later Tryd.pinned [.data, .data, .data] true :=
  OpenClaim.laidByTextAt_later rfl rfl tie3 noOwnUnsafe
theorem yearsOfUpto_row_tie : Rows.yearsOfUptoRow.laidByTextAt .later Tryd.pinned [.data] true :=
  OpenClaim.laidByTextAt_later rfl rfl tie noOwnUnsafe
theorem yearsLeapsUpto_row_tie : Rows.yearsLeapsUptoRow.laidByTextAt .later Tryd.pinned [.data] true :=
  OpenClaim.laidByTextAt_later rfl rfl tie noOwnUnsafe
theorem yearsStartUpto_row_tie : Rows.yearsStartUptoRow.laidByTextAt .later Tryd.pinned [.data] true :=
  OpenClaim.laidByTextAt_later rfl rfl tie noOwnUnsafe
theorem yearsKnownUpto_row_tie : Rows.yearsKnownUptoRow.laidByTextAt .later Tryd.pinned [.data] true :=
  OpenClaim.laidByTextAt_later rfl rfl tie noOwnUnsafe
theorem monthsDaysUpto_row_tie : Rows.monthsDaysUptoRow.laidByTextAt .later Tryd.pinned [.data, .data] true :=
  OpenClaim.laidByTextAt_later rfl rfl tie2 noOwnUnsafe
theorem monthsOfUpto_row_tie : Rows.monthsOfUptoRow.laidByTextAt .later Tryd.pinned [.data, .data] true :=
  OpenClaim.laidByTextAt_later rfl rfl tie2 noOwnUnsafe
theorem monthsAddUpto_row_tie : Rows.monthsAddUptoRow.laidByTextAt .later Tryd.pinned [.data, .data] true :=
  OpenClaim.laidByTextAt_later rfl rfl tie2 noOwnUnsafe
theorem monthsBetweenUpto_row_tie : Rows.monthsBetweenUptoRow.laidByTextAt .later Tryd.pinned [.data, .data] true :=
  OpenClaim.laidByTextAt_later rfl rfl tie2 noOwnUnsafe
theorem monthsKnownUpto_row_tie : Rows.monthsKnownUptoRow.laidByTextAt .later Tryd.pinned [.data, .data] true :=
  OpenClaim.laidByTextAt_later rfl rfl tie2 noOwnUnsafe
theorem seasonsRunUpto_row_tie : Rows.seasonsRunUptoRow.laidByTextAt .later Tryd.pinned [.data, .data, .data] true :=
  OpenClaim.laidByTextAt_later rfl rfl tie3 noOwnUnsafe
theorem seasonsOfUpto_row_tie : Rows.seasonsOfUptoRow.laidByTextAt .later Tryd.pinned [.data, .data, .data] true :=
  OpenClaim.laidByTextAt_later rfl rfl tie3 noOwnUnsafe
theorem seasonsPartsUpto_row_tie : Rows.seasonsPartsUptoRow.laidByTextAt .later Tryd.pinned [.data, .data, .data] true :=
  OpenClaim.laidByTextAt_later rfl rfl tie3 noOwnUnsafe
theorem seasonsKnownUpto_row_tie : Rows.seasonsKnownUptoRow.laidByTextAt .later Tryd.pinned [.data, .data, .data] true :=
  OpenClaim.laidByTextAt_later rfl rfl tie3 noOwnUnsafe
end Go.Proofs.YtnaoadmffnbalaaDoor
