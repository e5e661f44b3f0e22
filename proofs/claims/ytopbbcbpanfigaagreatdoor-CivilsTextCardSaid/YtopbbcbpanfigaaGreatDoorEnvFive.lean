/-
  FROM THE ROW's CONDITION ON years.steps AND months.lengths TO THE WALKS' FACT.
-/
import Derived.Test.YtopbbcbpanfigaaGreatDoorEnvFour
import Derived.Test.YtopbbcbpanfigaaGreatDoorMonths
namespace Go.Proofs.YtopbbcbpanfigaaGreatDoor
open Go.ChangeShapes Go.WideShapes Go.ChangeAt Go.RowKit

theorem gLens : Tryz.prog.globalNamed "circa/months.lengths" = some 0 := by kernel_rfl
theorem tLens : (Tryz.prog.globals[0]?).map (·.type) = some 106 := by kernel_rfl
theorem cInt : Tryz.prog.cellsOf 3 = 1 := by kernel_rfl
theorem cLens : Tryz.prog.cellsOf 106 = 12 := by kernel_rfl

theorem lens_of_vars {W : World} {rest : List (String × DataW Unit)} {ps : List MemPlace} (h : DataW.LaidVars Tryz.prog W (("circa/months.lengths", Rows.laid_circa_months_lengths) :: rest) ps) :
    ∀ i : Nat, i < 12 → W.cell? ⟨0, i, none⟩ = some (.int .i64 (lensL.getD i 0)) := by
  obtain ⟨g, t, cs, fuel, p, q, hg, ht, hv, hd, _, _⟩ := h
  obtain rfl := Option.some.inj (gLens.symm.trans hg)
  obtain rfl := Option.some.inj (tLens.symm.trans ht)
  have hd' : DataW.trod (fun _ => ()) Tryz.prog W 0 (fun _ => true) false fuel 106 cs.toList = some (Lib.tabData .i64 lensL, p) := hd
  have e := Lib.cells_of_tab Tryz.underlying106 Tryz.underlying3 cInt cLens hd'
  intro i hi
  have hl : lensL.length = 12 := rfl
  rw [World.var?_cell gLens hv i, ← Array.getElem?_toList, e]
  simp [List.getD, hl, hi]
theorem envM_of_laid {W : World} {rest : List (String × DataW Unit)} (hp : (("circa/years.steps", Rows.laid_circa_years_steps) :: ("circa/months.lengths", Rows.laid_circa_months_lengths) :: rest : List (String × DataW Unit)).all (fun x => x.2.handleName?.isNone) = true)
    (h : laidMetH Tryz.prog (("circa/years.steps", Rows.laid_circa_years_steps) :: ("circa/months.lengths", Rows.laid_circa_months_lengths) :: rest) W) : EnvM W := by
  rw [MakeChecks.laidMetH_plain _ _ _ hp] at h
  obtain ⟨ps, hl, _⟩ := h
  refine ⟨steps_of_vars hl, ?_⟩
  obtain ⟨g, t, cs, fuel, p, q, _, _, _, _, h2, _⟩ := hl
  exact lens_of_vars h2
end Go.Proofs.YtopbbcbpanfigaaGreatDoor
