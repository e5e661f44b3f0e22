/-
  NARROWER THAN 'FOR EVERY INPUT', by the rows' own cells (each row's printed sentence says how): YearsOf: laid · YearsLeaps: laid · YearsStart: laid · YearsKnown: laid · MonthsDays: laid · MonthsOf: laid · MonthsAdd: laid · MonthsBetween: laid · MonthsKnown: laid · SeasonsRun: laid · SeasonsOf: laid · SeasonsParts: laid · SeasonsKnown: laid.
  DERIVED. THE GIVEN ROWS OF THIS SEAT. 13 by the template 'for every input the law returns true; each argument reads behind the call as it read before'; 0 by the template 'total and deterministic' (their statements: YtnaoadmffnbalaaDoorTotals.lean).
  GIVEN WITH THE SEED: the statements are not yours to turn. If you find one false, say at which input.
  Laid BY PROGRAM, IN A SANDBOX (cutbox-rows.mjs): the forced cells as the released guide's own fill.sh prints them over the translation 18105e0ce69e688a… (all of the seat's roots in one cut). By AI agents, Wed Nov 11 2026. No macro, syntax, notation, axiom, sorry.
-/
import Derived.Test.YtnaoadmffnbalaaDoorChecked
import GoSem.Claim
import GoSem.ClaimJoined
import GoSem.ClaimMapViews
import Derived.JoinedTies
import Derived.KernelRfl
namespace Go.Proofs.YtnaoadmffnbalaaDoor
/- THE CELL 'sum', in the pinned program and in every row, IS THE sha256 OF THE DUMP (.gsa) THAT YtnaoadmffnbalaaDoorProg.lean LOADS. Nothing in Lean hashes anything: it is a label: what it is worth is what the hold of that sum in a sandbox is worth. -/
noncomputable def Tryd.pinned : Pinned := { name := "ytnaoadmffnbalaadoor", sum := "18105e0ce69e688a4f093ef06d6c7e715f160ef5585fe73ab1ca39ac5afda516", checked := Tryd.checked }
namespace Rows
def none {H : Type} : Left H := { results := [], args := [] }

/- WHAT THE LISTED PACKAGE-LEVEL VARIABLES READ AS WHEN THE CALL BEGINS. Each datum BY PROGRAM (the guide's laid-datum.mjs) off the statement by which the dump's own 'gosem.cut.vars' lays the variable. In a bare row this is a premise. The card (YtnaoadmffnbalaaDoorCards.lean) ties it to the program's text. -/
def laid_circa_years_steps {H : Type} : DataW H := .slice [.agg [.lit (.int .i64 4), .lit (.int .i64 1)], .agg [.lit (.int .i64 100), .lit (.int .i64 (-1))], .agg [.lit (.int .i64 400), .lit (.int .i64 1)]] []
def laid_circa_months_lengths {H : Type} : DataW H := .agg [.lit (.int .i64 31), .lit (.int .i64 28), .lit (.int .i64 31), .lit (.int .i64 30), .lit (.int .i64 31), .lit (.int .i64 30), .lit (.int .i64 31), .lit (.int .i64 31), .lit (.int .i64 30), .lit (.int .i64 31), .lit (.int .i64 30), .lit (.int .i64 31)]
def laid_circa_seasons_spans {H : Type} : DataW H := .agg [.agg [.lit (.int .i64 3), .lit (.int .i64 3)], .agg [.lit (.int .i64 6), .lit (.int .i64 3)], .agg [.lit (.int .i64 9), .lit (.int .i64 3)], .agg [.lit (.int .i64 12), .lit (.int .i64 3)], .agg [.lit (.int .i64 3), .lit (.int .i64 3)], .agg [.lit (.int .i64 6), .lit (.int .i64 3)], .agg [.lit (.int .i64 9), .lit (.int .i64 3)], .agg [.lit (.int .i64 12), .lit (.int .i64 3)], .agg [.lit (.int .i64 9), .lit (.int .i64 3)], .agg [.lit (.int .i64 12), .lit (.int .i64 3)], .agg [.lit (.int .i64 3), .lit (.int .i64 3)], .agg [.lit (.int .i64 6), .lit (.int .i64 3)], .agg [.lit (.int .i64 1), .lit (.int .i64 3)], .agg [.lit (.int .i64 4), .lit (.int .i64 3)], .agg [.lit (.int .i64 7), .lit (.int .i64 3)], .agg [.lit (.int .i64 10), .lit (.int .i64 3)], .agg [.lit (.int .i64 1), .lit (.int .i64 4)], .agg [.lit (.int .i64 5), .lit (.int .i64 4)], .agg [.lit (.int .i64 9), .lit (.int .i64 4)], .agg [.lit (.int .i64 1), .lit (.int .i64 6)], .agg [.lit (.int .i64 7), .lit (.int .i64 6)]]

/-- 'circalaw04.YearsOf': WHATEVER THE INPUT: true; the input reads as it did. -/
def yearsOfSpec : ChangeSpec := { name := "yearsOf", fn := fun _ => fun
  | [d] => { results := [.lit (.bool true)], args := [d] }
  | _ => none }
def yearsOfRow : OpenClaim := { program := "ytnaoadmffnbalaadoor", sum := "18105e0ce69e688a4f093ef06d6c7e715f160ef5585fe73ab1ca39ac5afda516", func := "circa/circalaw04.YearsOf", spec := "yearsOf", unfollowed := true, recurses := true, named := ["circa/years.steps"], apart := false, laid := [("circa/years.steps", laid_circa_years_steps)] }
def YearsOfSaid : Prop := yearsOfRow.holds Tryd.pinned (OpenSpec.ofChange yearsOfSpec)

/-- ITS FALSE NEIGHBOUR: 'it returns false'. Refute it at one input. -/
def yearsOfWrong : ChangeSpec := { name := "yearsOf", fn := fun _ => fun
  | [d] => { results := [.lit (.bool false)], args := [d] }
  | _ => none }
def YearsOfWrongFalsely : Prop := yearsOfRow.holds Tryd.pinned (OpenSpec.ofChange yearsOfWrong)

/-- 'circalaw04.YearsLeaps': WHATEVER THE INPUT: true; the input reads as it did. -/
def yearsLeapsSpec : ChangeSpec := { name := "yearsLeaps", fn := fun _ => fun
  | [d1, d2, d3] => { results := [.lit (.bool true)], args := [d1, d2, d3] }
  | _ => none }
def yearsLeapsRow : OpenClaim := { program := "ytnaoadmffnbalaadoor", sum := "18105e0ce69e688a4f093ef06d6c7e715f160ef5585fe73ab1ca39ac5afda516", func := "circa/circalaw04.YearsLeaps", spec := "yearsLeaps", unfollowed := true, recurses := true, named := ["circa/years.steps"], apart := false, laid := [("circa/years.steps", laid_circa_years_steps)] }
def YearsLeapsSaid : Prop := yearsLeapsRow.holds Tryd.pinned (OpenSpec.ofChange yearsLeapsSpec)

/-- ITS FALSE NEIGHBOUR: 'it returns false'. Refute it at one input. -/
def yearsLeapsWrong : ChangeSpec := { name := "yearsLeaps", fn := fun _ => fun
  | [d1, d2, d3] => { results := [.lit (.bool false)], args := [d1, d2, d3] }
  | _ => none }
def YearsLeapsWrongFalsely : Prop := yearsLeapsRow.holds Tryd.pinned (OpenSpec.ofChange yearsLeapsWrong)

/-- 'circalaw04.YearsStart': WHATEVER THE INPUT: true; the input reads as it did. -/
def yearsStartSpec : ChangeSpec := { name := "yearsStart", fn := fun _ => fun
  | [d] => { results := [.lit (.bool true)], args := [d] }
  | _ => none }
def yearsStartRow : OpenClaim := { program := "ytnaoadmffnbalaadoor", sum := "18105e0ce69e688a4f093ef06d6c7e715f160ef5585fe73ab1ca39ac5afda516", func := "circa/circalaw04.YearsStart", spec := "yearsStart", unfollowed := true, recurses := true, named := ["circa/years.steps"], apart := false, laid := [("circa/years.steps", laid_circa_years_steps)] }
def YearsStartSaid : Prop := yearsStartRow.holds Tryd.pinned (OpenSpec.ofChange yearsStartSpec)

/-- ITS FALSE NEIGHBOUR: 'it returns false'. Refute it at one input. -/
def yearsStartWrong : ChangeSpec := { name := "yearsStart", fn := fun _ => fun
  | [d] => { results := [.lit (.bool false)], args := [d] }
  | _ => none }
def YearsStartWrongFalsely : Prop := yearsStartRow.holds Tryd.pinned (OpenSpec.ofChange yearsStartWrong)

/-- 'circalaw04.YearsKnown': WHATEVER THE INPUT: true; the input reads as it did. -/
def yearsKnownSpec : ChangeSpec := { name := "yearsKnown", fn := fun _ => fun
  | [] => { results := [.lit (.bool true)], args := [] }
  | _ => none }
def yearsKnownRow : OpenClaim := { program := "ytnaoadmffnbalaadoor", sum := "18105e0ce69e688a4f093ef06d6c7e715f160ef5585fe73ab1ca39ac5afda516", func := "circa/circalaw04.YearsKnown", spec := "yearsKnown", unfollowed := true, recurses := true, named := ["circa/years.steps"], apart := false, laid := [("circa/years.steps", laid_circa_years_steps)] }
def YearsKnownSaid : Prop := yearsKnownRow.holds Tryd.pinned (OpenSpec.ofChange yearsKnownSpec)

/-- ITS FALSE NEIGHBOUR: 'it returns false'. Refute it at one input. -/
def yearsKnownWrong : ChangeSpec := { name := "yearsKnown", fn := fun _ => fun
  | [] => { results := [.lit (.bool false)], args := [] }
  | _ => none }
def YearsKnownWrongFalsely : Prop := yearsKnownRow.holds Tryd.pinned (OpenSpec.ofChange yearsKnownWrong)

/-- 'circalaw05.MonthsDays': WHATEVER THE INPUT: true; the input reads as it did. -/
def monthsDaysSpec : ChangeSpec := { name := "monthsDays", fn := fun _ => fun
  | [d1, d2] => { results := [.lit (.bool true)], args := [d1, d2] }
  | _ => none }
def monthsDaysRow : OpenClaim := { program := "ytnaoadmffnbalaadoor", sum := "18105e0ce69e688a4f093ef06d6c7e715f160ef5585fe73ab1ca39ac5afda516", func := "circa/circalaw05.MonthsDays", spec := "monthsDays", unfollowed := true, recurses := true, named := ["circa/months.lengths", "circa/years.steps"], apart := false, laid := [("circa/years.steps", laid_circa_years_steps), ("circa/months.lengths", laid_circa_months_lengths)] }
def MonthsDaysSaid : Prop := monthsDaysRow.holds Tryd.pinned (OpenSpec.ofChange monthsDaysSpec)

/-- ITS FALSE NEIGHBOUR: 'it returns false'. Refute it at one input. -/
def monthsDaysWrong : ChangeSpec := { name := "monthsDays", fn := fun _ => fun
  | [d1, d2] => { results := [.lit (.bool false)], args := [d1, d2] }
  | _ => none }
def MonthsDaysWrongFalsely : Prop := monthsDaysRow.holds Tryd.pinned (OpenSpec.ofChange monthsDaysWrong)

/-- 'circalaw05.MonthsOf': WHATEVER THE INPUT: true; the input reads as it did. -/
def monthsOfSpec : ChangeSpec := { name := "monthsOf", fn := fun _ => fun
  | [d] => { results := [.lit (.bool true)], args := [d] }
  | _ => none }
def monthsOfRow : OpenClaim := { program := "ytnaoadmffnbalaadoor", sum := "18105e0ce69e688a4f093ef06d6c7e715f160ef5585fe73ab1ca39ac5afda516", func := "circa/circalaw05.MonthsOf", spec := "monthsOf", unfollowed := true, recurses := true, named := ["circa/years.steps", "circa/months.lengths"], apart := false, laid := [("circa/years.steps", laid_circa_years_steps), ("circa/months.lengths", laid_circa_months_lengths)] }
def MonthsOfSaid : Prop := monthsOfRow.holds Tryd.pinned (OpenSpec.ofChange monthsOfSpec)

/-- ITS FALSE NEIGHBOUR: 'it returns false'. Refute it at one input. -/
def monthsOfWrong : ChangeSpec := { name := "monthsOf", fn := fun _ => fun
  | [d] => { results := [.lit (.bool false)], args := [d] }
  | _ => none }
def MonthsOfWrongFalsely : Prop := monthsOfRow.holds Tryd.pinned (OpenSpec.ofChange monthsOfWrong)

/-- 'circalaw05.MonthsAdd': WHATEVER THE INPUT: true; the input reads as it did. -/
def monthsAddSpec : ChangeSpec := { name := "monthsAdd", fn := fun _ => fun
  | [d1, d2, d3] => { results := [.lit (.bool true)], args := [d1, d2, d3] }
  | _ => none }
def monthsAddRow : OpenClaim := { program := "ytnaoadmffnbalaadoor", sum := "18105e0ce69e688a4f093ef06d6c7e715f160ef5585fe73ab1ca39ac5afda516", func := "circa/circalaw05.MonthsAdd", spec := "monthsAdd", unfollowed := true, recurses := true, named := ["circa/months.lengths", "circa/years.steps"], apart := false, laid := [("circa/years.steps", laid_circa_years_steps), ("circa/months.lengths", laid_circa_months_lengths)] }
def MonthsAddSaid : Prop := monthsAddRow.holds Tryd.pinned (OpenSpec.ofChange monthsAddSpec)

/-- ITS FALSE NEIGHBOUR: 'it returns false'. Refute it at one input. -/
def monthsAddWrong : ChangeSpec := { name := "monthsAdd", fn := fun _ => fun
  | [d1, d2, d3] => { results := [.lit (.bool false)], args := [d1, d2, d3] }
  | _ => none }
def MonthsAddWrongFalsely : Prop := monthsAddRow.holds Tryd.pinned (OpenSpec.ofChange monthsAddWrong)

/-- 'circalaw05.MonthsBetween': WHATEVER THE INPUT: true; the input reads as it did. -/
def monthsBetweenSpec : ChangeSpec := { name := "monthsBetween", fn := fun _ => fun
  | [d] => { results := [.lit (.bool true)], args := [d] }
  | _ => none }
def monthsBetweenRow : OpenClaim := { program := "ytnaoadmffnbalaadoor", sum := "18105e0ce69e688a4f093ef06d6c7e715f160ef5585fe73ab1ca39ac5afda516", func := "circa/circalaw05.MonthsBetween", spec := "monthsBetween", unfollowed := true, recurses := true, named := ["circa/months.lengths", "circa/years.steps"], apart := false, laid := [("circa/years.steps", laid_circa_years_steps), ("circa/months.lengths", laid_circa_months_lengths)] }
def MonthsBetweenSaid : Prop := monthsBetweenRow.holds Tryd.pinned (OpenSpec.ofChange monthsBetweenSpec)

/-- ITS FALSE NEIGHBOUR: 'it returns false'. Refute it at one input. -/
def monthsBetweenWrong : ChangeSpec := { name := "monthsBetween", fn := fun _ => fun
  | [d] => { results := [.lit (.bool false)], args := [d] }
  | _ => none }
def MonthsBetweenWrongFalsely : Prop := monthsBetweenRow.holds Tryd.pinned (OpenSpec.ofChange monthsBetweenWrong)

/-- 'circalaw05.MonthsKnown': WHATEVER THE INPUT: true; the input reads as it did. -/
def monthsKnownSpec : ChangeSpec := { name := "monthsKnown", fn := fun _ => fun
  | [] => { results := [.lit (.bool true)], args := [] }
  | _ => none }
def monthsKnownRow : OpenClaim := { program := "ytnaoadmffnbalaadoor", sum := "18105e0ce69e688a4f093ef06d6c7e715f160ef5585fe73ab1ca39ac5afda516", func := "circa/circalaw05.MonthsKnown", spec := "monthsKnown", unfollowed := true, recurses := true, named := ["circa/years.steps", "circa/months.lengths"], apart := false, laid := [("circa/years.steps", laid_circa_years_steps), ("circa/months.lengths", laid_circa_months_lengths)] }
def MonthsKnownSaid : Prop := monthsKnownRow.holds Tryd.pinned (OpenSpec.ofChange monthsKnownSpec)

/-- ITS FALSE NEIGHBOUR: 'it returns false'. Refute it at one input. -/
def monthsKnownWrong : ChangeSpec := { name := "monthsKnown", fn := fun _ => fun
  | [] => { results := [.lit (.bool false)], args := [] }
  | _ => none }
def MonthsKnownWrongFalsely : Prop := monthsKnownRow.holds Tryd.pinned (OpenSpec.ofChange monthsKnownWrong)

/-- 'circalaw07.SeasonsRun': WHATEVER THE INPUT: true; the input reads as it did. -/
def seasonsRunSpec : ChangeSpec := { name := "seasonsRun", fn := fun _ => fun
  | [d1, d2] => { results := [.lit (.bool true)], args := [d1, d2] }
  | _ => none }
def seasonsRunRow : OpenClaim := { program := "ytnaoadmffnbalaadoor", sum := "18105e0ce69e688a4f093ef06d6c7e715f160ef5585fe73ab1ca39ac5afda516", func := "circa/circalaw07.SeasonsRun", spec := "seasonsRun", unfollowed := true, recurses := true, named := ["circa/seasons.spans", "circa/years.steps", "circa/months.lengths"], apart := false, laid := [("circa/years.steps", laid_circa_years_steps), ("circa/months.lengths", laid_circa_months_lengths), ("circa/seasons.spans", laid_circa_seasons_spans)] }
def SeasonsRunSaid : Prop := seasonsRunRow.holds Tryd.pinned (OpenSpec.ofChange seasonsRunSpec)

/-- ITS FALSE NEIGHBOUR: 'it returns false'. Refute it at one input. -/
def seasonsRunWrong : ChangeSpec := { name := "seasonsRun", fn := fun _ => fun
  | [d1, d2] => { results := [.lit (.bool false)], args := [d1, d2] }
  | _ => none }
def SeasonsRunWrongFalsely : Prop := seasonsRunRow.holds Tryd.pinned (OpenSpec.ofChange seasonsRunWrong)

/-- 'circalaw07.SeasonsOf': WHATEVER THE INPUT: true; the input reads as it did. -/
def seasonsOfSpec : ChangeSpec := { name := "seasonsOf", fn := fun _ => fun
  | [d1, d2] => { results := [.lit (.bool true)], args := [d1, d2] }
  | _ => none }
def seasonsOfRow : OpenClaim := { program := "ytnaoadmffnbalaadoor", sum := "18105e0ce69e688a4f093ef06d6c7e715f160ef5585fe73ab1ca39ac5afda516", func := "circa/circalaw07.SeasonsOf", spec := "seasonsOf", unfollowed := true, recurses := true, named := ["circa/seasons.spans", "circa/years.steps", "circa/months.lengths"], apart := false, laid := [("circa/years.steps", laid_circa_years_steps), ("circa/months.lengths", laid_circa_months_lengths), ("circa/seasons.spans", laid_circa_seasons_spans)] }
def SeasonsOfSaid : Prop := seasonsOfRow.holds Tryd.pinned (OpenSpec.ofChange seasonsOfSpec)

/-- ITS FALSE NEIGHBOUR: 'it returns false'. Refute it at one input. -/
def seasonsOfWrong : ChangeSpec := { name := "seasonsOf", fn := fun _ => fun
  | [d1, d2] => { results := [.lit (.bool false)], args := [d1, d2] }
  | _ => none }
def SeasonsOfWrongFalsely : Prop := seasonsOfRow.holds Tryd.pinned (OpenSpec.ofChange seasonsOfWrong)

/-- 'circalaw07.SeasonsParts': WHATEVER THE INPUT: true; the input reads as it did. -/
def seasonsPartsSpec : ChangeSpec := { name := "seasonsParts", fn := fun _ => fun
  | [d] => { results := [.lit (.bool true)], args := [d] }
  | _ => none }
def seasonsPartsRow : OpenClaim := { program := "ytnaoadmffnbalaadoor", sum := "18105e0ce69e688a4f093ef06d6c7e715f160ef5585fe73ab1ca39ac5afda516", func := "circa/circalaw07.SeasonsParts", spec := "seasonsParts", unfollowed := true, recurses := true, named := ["circa/seasons.spans", "circa/years.steps", "circa/months.lengths"], apart := false, laid := [("circa/years.steps", laid_circa_years_steps), ("circa/months.lengths", laid_circa_months_lengths), ("circa/seasons.spans", laid_circa_seasons_spans)] }
def SeasonsPartsSaid : Prop := seasonsPartsRow.holds Tryd.pinned (OpenSpec.ofChange seasonsPartsSpec)

/-- ITS FALSE NEIGHBOUR: 'it returns false'. Refute it at one input. -/
def seasonsPartsWrong : ChangeSpec := { name := "seasonsParts", fn := fun _ => fun
  | [d] => { results := [.lit (.bool false)], args := [d] }
  | _ => none }
def SeasonsPartsWrongFalsely : Prop := seasonsPartsRow.holds Tryd.pinned (OpenSpec.ofChange seasonsPartsWrong)

/-- 'circalaw07.SeasonsKnown': WHATEVER THE INPUT: true; the input reads as it did. -/
def seasonsKnownSpec : ChangeSpec := { name := "seasonsKnown", fn := fun _ => fun
  | [] => { results := [.lit (.bool true)], args := [] }
  | _ => none }
def seasonsKnownRow : OpenClaim := { program := "ytnaoadmffnbalaadoor", sum := "18105e0ce69e688a4f093ef06d6c7e715f160ef5585fe73ab1ca39ac5afda516", func := "circa/circalaw07.SeasonsKnown", spec := "seasonsKnown", unfollowed := true, recurses := true, named := ["circa/seasons.spans", "circa/years.steps", "circa/months.lengths"], apart := false, laid := [("circa/years.steps", laid_circa_years_steps), ("circa/months.lengths", laid_circa_months_lengths), ("circa/seasons.spans", laid_circa_seasons_spans)] }
def SeasonsKnownSaid : Prop := seasonsKnownRow.holds Tryd.pinned (OpenSpec.ofChange seasonsKnownSpec)

/-- ITS FALSE NEIGHBOUR: 'it returns false'. Refute it at one input. -/
def seasonsKnownWrong : ChangeSpec := { name := "seasonsKnown", fn := fun _ => fun
  | [] => { results := [.lit (.bool false)], args := [] }
  | _ => none }
def SeasonsKnownWrongFalsely : Prop := seasonsKnownRow.holds Tryd.pinned (OpenSpec.ofChange seasonsKnownWrong)

/- THE SECOND FORM. 'bulk': how many values and letters a reading holds, each counted each time it is reached (what is shared counts as often as it is met; a slice's spare places count too). A statement '..UptoSaid' is the law's where the arguments, and the package variables that the reading takes, are together of bulk at most 1048576: NARROWER than '..Said'. Prove '..Said' where nothing that the law and all that it calls make is longer than what came in: it says more and counts as full. Else prove '..UptoSaid'. A law counts once. -/
mutual
def uptoBulk {H : Type} : DataW H → Nat
  | .lit (.string bytes) => bytes.length + 1
  | .lit _ => 1
  | .nil => 1
  | .ptr d => uptoBulk d + 1
  | .slice elems spare => uptoBulkAll elems + uptoBulkAll spare + 1
  | .agg parts => uptoBulkAll parts + 1
  | .iface _ d => uptoBulk d + 1
  | .map entries => uptoBulkEntries entries + 1
  | .held _ => 1
def uptoBulkAll {H : Type} : List (DataW H) → Nat
  | [] => 0
  | d :: r => uptoBulk d + uptoBulkAll r
def uptoBulkEntries {H : Type} : List (Lit × DataW H) → Nat
  | [] => 0
  | x :: r => uptoBulkEntry x + uptoBulkEntries r
def uptoBulkEntry {H : Type} : Lit × DataW H → Nat
  | (.string bytes, d) => bytes.length + uptoBulk d + 1
  | (_, d) => uptoBulk d + 1
 end
def uptoSmall : (H : Type) → List (DataW H) → Bool := fun _ ds => decide (uptoBulkAll ds ≤ 1048576)
def OpenSpec.upto (s : _root_.Go.ChangeSpec) : _root_.Go.OpenSpec := { _root_.Go.OpenSpec.ofChange s with cond := some uptoSmall }

/-- 'circalaw04.YearsOf', WHERE WHAT IT READS IS OF BULK AT MOST 1048576: true; the input reads as it did. -/
def yearsOfUptoRow : OpenClaim := { program := "ytnaoadmffnbalaadoor", sum := "18105e0ce69e688a4f093ef06d6c7e715f160ef5585fe73ab1ca39ac5afda516", func := "circa/circalaw04.YearsOf", spec := "yearsOf", unfollowed := true, recurses := true, named := ["circa/years.steps"], apart := false, laid := [("circa/years.steps", laid_circa_years_steps)], narrowed := true }
def YearsOfUptoSaid : Prop := yearsOfUptoRow.holds Tryd.pinned (OpenSpec.upto yearsOfSpec)

/-- 'circalaw04.YearsLeaps', WHERE WHAT IT READS IS OF BULK AT MOST 1048576: true; the input reads as it did. -/
def yearsLeapsUptoRow : OpenClaim := { program := "ytnaoadmffnbalaadoor", sum := "18105e0ce69e688a4f093ef06d6c7e715f160ef5585fe73ab1ca39ac5afda516", func := "circa/circalaw04.YearsLeaps", spec := "yearsLeaps", unfollowed := true, recurses := true, named := ["circa/years.steps"], apart := false, laid := [("circa/years.steps", laid_circa_years_steps)], narrowed := true }
def YearsLeapsUptoSaid : Prop := yearsLeapsUptoRow.holds Tryd.pinned (OpenSpec.upto yearsLeapsSpec)

/-- 'circalaw04.YearsStart', WHERE WHAT IT READS IS OF BULK AT MOST 1048576: true; the input reads as it did. -/
def yearsStartUptoRow : OpenClaim := { program := "ytnaoadmffnbalaadoor", sum := "18105e0ce69e688a4f093ef06d6c7e715f160ef5585fe73ab1ca39ac5afda516", func := "circa/circalaw04.YearsStart", spec := "yearsStart", unfollowed := true, recurses := true, named := ["circa/years.steps"], apart := false, laid := [("circa/years.steps", laid_circa_years_steps)], narrowed := true }
def YearsStartUptoSaid : Prop := yearsStartUptoRow.holds Tryd.pinned (OpenSpec.upto yearsStartSpec)

/-- 'circalaw04.YearsKnown', WHERE WHAT IT READS IS OF BULK AT MOST 1048576: true; the input reads as it did. -/
def yearsKnownUptoRow : OpenClaim := { program := "ytnaoadmffnbalaadoor", sum := "18105e0ce69e688a4f093ef06d6c7e715f160ef5585fe73ab1ca39ac5afda516", func := "circa/circalaw04.YearsKnown", spec := "yearsKnown", unfollowed := true, recurses := true, named := ["circa/years.steps"], apart := false, laid := [("circa/years.steps", laid_circa_years_steps)], narrowed := true }
def YearsKnownUptoSaid : Prop := yearsKnownUptoRow.holds Tryd.pinned (OpenSpec.upto yearsKnownSpec)

/-- 'circalaw05.MonthsDays', WHERE WHAT IT READS IS OF BULK AT MOST 1048576: true; the input reads as it did. -/
def monthsDaysUptoRow : OpenClaim := { program := "ytnaoadmffnbalaadoor", sum := "18105e0ce69e688a4f093ef06d6c7e715f160ef5585fe73ab1ca39ac5afda516", func := "circa/circalaw05.MonthsDays", spec := "monthsDays", unfollowed := true, recurses := true, named := ["circa/months.lengths", "circa/years.steps"], apart := false, laid := [("circa/years.steps", laid_circa_years_steps), ("circa/months.lengths", laid_circa_months_lengths)], narrowed := true }
def MonthsDaysUptoSaid : Prop := monthsDaysUptoRow.holds Tryd.pinned (OpenSpec.upto monthsDaysSpec)

/-- 'circalaw05.MonthsOf', WHERE WHAT IT READS IS OF BULK AT MOST 1048576: true; the input reads as it did. -/
def monthsOfUptoRow : OpenClaim := { program := "ytnaoadmffnbalaadoor", sum := "18105e0ce69e688a4f093ef06d6c7e715f160ef5585fe73ab1ca39ac5afda516", func := "circa/circalaw05.MonthsOf", spec := "monthsOf", unfollowed := true, recurses := true, named := ["circa/years.steps", "circa/months.lengths"], apart := false, laid := [("circa/years.steps", laid_circa_years_steps), ("circa/months.lengths", laid_circa_months_lengths)], narrowed := true }
def MonthsOfUptoSaid : Prop := monthsOfUptoRow.holds Tryd.pinned (OpenSpec.upto monthsOfSpec)

/-- 'circalaw05.MonthsAdd', WHERE WHAT IT READS IS OF BULK AT MOST 1048576: true; the input reads as it did. -/
def monthsAddUptoRow : OpenClaim := { program := "ytnaoadmffnbalaadoor", sum := "18105e0ce69e688a4f093ef06d6c7e715f160ef5585fe73ab1ca39ac5afda516", func := "circa/circalaw05.MonthsAdd", spec := "monthsAdd", unfollowed := true, recurses := true, named := ["circa/months.lengths", "circa/years.steps"], apart := false, laid := [("circa/years.steps", laid_circa_years_steps), ("circa/months.lengths", laid_circa_months_lengths)], narrowed := true }
def MonthsAddUptoSaid : Prop := monthsAddUptoRow.holds Tryd.pinned (OpenSpec.upto monthsAddSpec)

/-- 'circalaw05.MonthsBetween', WHERE WHAT IT READS IS OF BULK AT MOST 1048576: true; the input reads as it did. -/
def monthsBetweenUptoRow : OpenClaim := { program := "ytnaoadmffnbalaadoor", sum := "18105e0ce69e688a4f093ef06d6c7e715f160ef5585fe73ab1ca39ac5afda516", func := "circa/circalaw05.MonthsBetween", spec := "monthsBetween", unfollowed := true, recurses := true, named := ["circa/months.lengths", "circa/years.steps"], apart := false, laid := [("circa/years.steps", laid_circa_years_steps), ("circa/months.lengths", laid_circa_months_lengths)], narrowed := true }
def MonthsBetweenUptoSaid : Prop := monthsBetweenUptoRow.holds Tryd.pinned (OpenSpec.upto monthsBetweenSpec)

/-- 'circalaw05.MonthsKnown', WHERE WHAT IT READS IS OF BULK AT MOST 1048576: true; the input reads as it did. -/
def monthsKnownUptoRow : OpenClaim := { program := "ytnaoadmffnbalaadoor", sum := "18105e0ce69e688a4f093ef06d6c7e715f160ef5585fe73ab1ca39ac5afda516", func := "circa/circalaw05.MonthsKnown", spec := "monthsKnown", unfollowed := true, recurses := true, named := ["circa/years.steps", "circa/months.lengths"], apart := false, laid := [("circa/years.steps", laid_circa_years_steps), ("circa/months.lengths", laid_circa_months_lengths)], narrowed := true }
def MonthsKnownUptoSaid : Prop := monthsKnownUptoRow.holds Tryd.pinned (OpenSpec.upto monthsKnownSpec)

/-- 'circalaw07.SeasonsRun', WHERE WHAT IT READS IS OF BULK AT MOST 1048576: true; the input reads as it did. -/
def seasonsRunUptoRow : OpenClaim := { program := "ytnaoadmffnbalaadoor", sum := "18105e0ce69e688a4f093ef06d6c7e715f160ef5585fe73ab1ca39ac5afda516", func := "circa/circalaw07.SeasonsRun", spec := "seasonsRun", unfollowed := true, recurses := true, named := ["circa/seasons.spans", "circa/years.steps", "circa/months.lengths"], apart := false, laid := [("circa/years.steps", laid_circa_years_steps), ("circa/months.lengths", laid_circa_months_lengths), ("circa/seasons.spans", laid_circa_seasons_spans)], narrowed := true }
def SeasonsRunUptoSaid : Prop := seasonsRunUptoRow.holds Tryd.pinned (OpenSpec.upto seasonsRunSpec)

/-- 'circalaw07.SeasonsOf', WHERE WHAT IT READS IS OF BULK AT MOST 1048576: true; the input reads as it did. -/
def seasonsOfUptoRow : OpenClaim := { program := "ytnaoadmffnbalaadoor", sum := "18105e0ce69e688a4f093ef06d6c7e715f160ef5585fe73ab1ca39ac5afda516", func := "circa/circalaw07.SeasonsOf", spec := "seasonsOf", unfollowed := true, recurses := true, named := ["circa/seasons.spans", "circa/years.steps", "circa/months.lengths"], apart := false, laid := [("circa/years.steps", laid_circa_years_steps), ("circa/months.lengths", laid_circa_months_lengths), ("circa/seasons.spans", laid_circa_seasons_spans)], narrowed := true }
def SeasonsOfUptoSaid : Prop := seasonsOfUptoRow.holds Tryd.pinned (OpenSpec.upto seasonsOfSpec)

/-- 'circalaw07.SeasonsParts', WHERE WHAT IT READS IS OF BULK AT MOST 1048576: true; the input reads as it did. -/
def seasonsPartsUptoRow : OpenClaim := { program := "ytnaoadmffnbalaadoor", sum := "18105e0ce69e688a4f093ef06d6c7e715f160ef5585fe73ab1ca39ac5afda516", func := "circa/circalaw07.SeasonsParts", spec := "seasonsParts", unfollowed := true, recurses := true, named := ["circa/seasons.spans", "circa/years.steps", "circa/months.lengths"], apart := false, laid := [("circa/years.steps", laid_circa_years_steps), ("circa/months.lengths", laid_circa_months_lengths), ("circa/seasons.spans", laid_circa_seasons_spans)], narrowed := true }
def SeasonsPartsUptoSaid : Prop := seasonsPartsUptoRow.holds Tryd.pinned (OpenSpec.upto seasonsPartsSpec)

/-- 'circalaw07.SeasonsKnown', WHERE WHAT IT READS IS OF BULK AT MOST 1048576: true; the input reads as it did. -/
def seasonsKnownUptoRow : OpenClaim := { program := "ytnaoadmffnbalaadoor", sum := "18105e0ce69e688a4f093ef06d6c7e715f160ef5585fe73ab1ca39ac5afda516", func := "circa/circalaw07.SeasonsKnown", spec := "seasonsKnown", unfollowed := true, recurses := true, named := ["circa/seasons.spans", "circa/years.steps", "circa/months.lengths"], apart := false, laid := [("circa/years.steps", laid_circa_years_steps), ("circa/months.lengths", laid_circa_months_lengths), ("circa/seasons.spans", laid_circa_seasons_spans)], narrowed := true }
def SeasonsKnownUptoSaid : Prop := seasonsKnownUptoRow.holds Tryd.pinned (OpenSpec.upto seasonsKnownSpec)

end Rows
end Go.Proofs.YtnaoadmffnbalaaDoor
