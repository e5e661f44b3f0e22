/-
  FROM THE ROW's CONDITION ON years.steps TO THE WALKS' FACT.
-/
import Derived.Test.YtopbbcbpanfigaaGreatDoorYearsA
import Derived.ProofKit
import Derived.LaidMore
import Derived.OpenShut
import Derived.Stop.Joined
import Derived.Deep.Slices
import Derived.Lib.LaidTab
namespace Go.Proofs.YtopbbcbpanfigaaGreatDoor
open Go.ChangeShapes Go.WideShapes Go.ChangeAt Go.RowKit

theorem gSteps : Tryz.prog.globalNamed "circa/years.steps" = some 1 := by kernel_rfl
theorem tSteps : (Tryz.prog.globals[1]?).map (·.type) = some 133 := by kernel_rfl
theorem cStep : Tryz.prog.cellsOf 134 = 2 := by kernel_rfl
theorem cInt64 : Tryz.prog.cellsOf 2 = 1 := by kernel_rfl

/-- A struct of two numbers that reads as these: its two cells. -/
theorem two_cells {P : Program} {W : World} {t e : TypeId} {sp : Nat → Bool} {m : Nat} {n0 n1 : Int} {cs : List Value} {pl : List MemPlace}
    {f0 f1 : Field} (ht : P.underlying t = some (.struct #[f0, f1])) (h0 : f0.type = e) (h1 : f1.type = e) (ho0 : f0.offset = 0) (ho1 : f1.offset = 1) (he : P.underlying e = some (.int .i64)) (hce : P.cellsOf e = 1) (hct : P.cellsOf t = 2)
    (h : DataW.trod (fun _ => ()) P W 0 sp false m t cs = some (.agg [.lit (.int .i64 n0), .lit (.int .i64 n1)], pl)) : cs = [.int .i64 n0, .int .i64 n1] := by
  obtain ⟨y0, y1, n, hx, hl, hr0, hr1⟩ := trod_struct2 ht h
  rw [h0, ho0, hce] at hr0
  rw [h1, ho1, hce] at hr1
  obtain ⟨a, ha, ey0, _⟩ := DataW.trod_int he hr0
  obtain ⟨b, hb, ey1, _⟩ := DataW.trod_int he hr1
  subst ey0 ey1
  simp only [Prod.mk.injEq, DataW.agg.injEq, List.cons.injEq, DataW.lit.injEq, Lit.int.injEq, true_and, and_true] at hx
  obtain ⟨⟨rfl, rfl⟩, _⟩ := hx
  rw [hct] at hl
  match cs, hl with
  | [x, y], _ =>
    simp at ha hb
    rw [ha, hb]

theorem mapM_two {α : Type} {f : Nat → Option α} {x y : α} (h : (List.range 2).mapM f = some [x, y]) : f 0 = some x ∧ f 1 = some y := by
  have e : List.range 2 = [0, 1] := rfl
  rw [e] at h
  simp only [List.mapM_cons, List.mapM_nil, Option.bind_eq_bind, Option.bind_eq_some_iff, Option.pure_def, Option.some.injEq, List.cons.injEq] at h
  obtain ⟨a, ha, _, ⟨b, hb, _, rfl, rfl⟩, rfl, h3⟩ := h
  simp only [List.cons.injEq, and_true] at h3
  subst h3
  exact ⟨ha, hb⟩

theorem steps_of_vars {W : World} {rest : List (String × DataW Unit)} {ps : List MemPlace} (h : DataW.LaidVars Tryz.prog W (("circa/years.steps", Rows.laid_circa_years_steps) :: rest) ps) : Steps W := by
  obtain ⟨g, t, cs, fuel, p, q, hg, ht, hv, hd, _, _⟩ := h
  obtain rfl := Option.some.inj (gSteps.symm.trans hg)
  obtain rfl := Option.some.inj (tSteps.symm.trans ht)
  rcases Deep.open_slice Tryz.underlying133 hd with ⟨_, hx⟩ | ⟨a, len, cap, m, n, D, Pl, hcs, _, hlc, hcap, hm, hx, hel⟩
  · simp [Rows.laid_circa_years_steps] at hx
  · simp only [Rows.laid_circa_years_steps, Prod.mk.injEq, DataW.slice.injEq] at hx
    obtain ⟨⟨hx1, hx2⟩, _⟩ := hx
    have hlen : len = 3 := by have := congrArg List.length hx1; simpa using this.symm
    subst hlen
    have hmm : m = cap := by simpa using hm
    have hrange : List.range 3 = [0, 1, 2] := rfl
    rw [hrange] at hx1
    simp only [List.map_cons, List.map_nil, List.cons.injEq, and_true] at hx1
    obtain ⟨d0, d1, d2⟩ := hx1
    have cell : ∀ i n0 n1, i < m → D i = .agg [.lit (.int .i64 n0), .lit (.int .i64 n1)] → W.cell? (a.add (i * 2)) = some (.int .i64 n0) ∧ W.cell? ((a.add (i * 2)).add 1) = some (.int .i64 n1) := by
      intro i n0 n1 hi hD
      obtain ⟨cs', hc, ht'⟩ := hel i hi
      rw [cStep] at hc
      rw [hD] at ht'
      have e := two_cells Tryz.underlying134 rfl rfl rfl rfl Tryz.underlying2 cInt64 cStep ht'
      subst e
      simp only [World.cells?, Nat.zero_le, if_true] at hc
      have := mapM_two hc
      simpa [Addr.add] using this
    obtain ⟨c0, c1⟩ := cell 0 4 1 (by omega) d0.symm
    obtain ⟨c2, c3⟩ := cell 1 100 (-1) (by omega) d1.symm
    obtain ⟨c4, c5⟩ := cell 2 400 1 (by omega) d2.symm
    have hg0 := World.var?_cell gSteps hv 0
    have hsp : a.spot = none := by
      have e : a.add (0 * 2) = a := by simp [Addr.add]
      rw [e] at c0
      simp only [World.cell?] at c0
      split at c0
      · split at c0
        · cases c0
        · rename_i h; simpa using h
      · cases c0
    obtain ⟨b, off, s⟩ := a
    simp only at hsp
    subst hsp
    refine ⟨b, off, cap, ?_, ?_, ?_, ?_, ?_, ?_, ?_⟩
    · rw [hg0]
      have := congrArg (·[0]?) hcs
      simpa using this
    · simpa [Addr.add] using c0
    · simpa [Addr.add] using c1
    · simpa [Addr.add] using c2
    · simpa [Addr.add] using c3
    · simpa [Addr.add] using c4
    · simpa [Addr.add] using c5
theorem steps_of_laid {W : World} {rest : List (String × DataW Unit)} (hp : (("circa/years.steps", Rows.laid_circa_years_steps) :: rest : List (String × DataW Unit)).all (fun x => x.2.handleName?.isNone) = true)
    (h : laidMetH Tryz.prog (("circa/years.steps", Rows.laid_circa_years_steps) :: rest) W) : Steps W := by
  rw [MakeChecks.laidMetH_plain _ _ _ hp] at h
  obtain ⟨ps, hl, _⟩ := h
  exact steps_of_vars hl
end Go.Proofs.YtopbbcbpanfigaaGreatDoor
