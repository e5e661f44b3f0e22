/-
  FROM THE ROW's CONDITION ON years.steps, months.lengths AND seasons.spans TO THE WALKS' FACT.
-/
import Derived.Test.YtnaoadmffnbalaaDoorEnvFive
import Derived.Test.YtnaoadmffnbalaaDoorSeasonsA
namespace Go.Proofs.YtnaoadmffnbalaaDoor
open Go.ChangeShapes Go.WideShapes Go.ChangeAt Go.RowKit

theorem gSpans : Tryd.prog.globalNamed "circa/seasons.spans" = some 0 := by kernel_rfl
theorem tSpans : (Tryd.prog.globals[0]?).map (·.type) = some 87 := by kernel_rfl
theorem cSpan : Tryd.prog.cellsOf 86 = 2 := by kernel_rfl

/-- An array of structs of two numbers that reads as these: its cells. -/
theorem pair_cells {P : Program} {W : World} {t s e : TypeId} {sp : Nat → Bool} {fuel n : Nat} {L : List (Int × Int)} {cs : List Value} {pl : List MemPlace}
    {f0 f1 : Field} (ht : P.underlying t = some (.array n s)) (hs : P.underlying s = some (.struct #[f0, f1])) (h0 : f0.type = e) (h1 : f1.type = e) (ho0 : f0.offset = 0) (ho1 : f1.offset = 1) (he : P.underlying e = some (.int .i64)) (hce : P.cellsOf e = 1) (hcs : P.cellsOf s = 2)
    (h : DataW.trod (fun _ => ()) P W 0 sp false fuel t cs = some (.agg (L.map fun x => .agg [.lit (.int .i64 x.1), .lit (.int .i64 x.2)]), pl)) :
    ∀ (j : Nat) (x : Int × Int), L[j]? = some x → cs[j * 2]? = some (.int .i64 x.1) ∧ cs[j * 2 + 1]? = some (.int .i64 x.2) := by
  intro j x hx
  obtain ⟨xs, m, _, hxs, _, hl, hel⟩ := DataW.trod_array ht h
  simp only [Prod.mk.injEq, DataW.agg.injEq] at hxs
  obtain ⟨hm, _⟩ := hxs
  have hj : j < n := by
    have h1 := congrArg List.length hm
    simp at h1
    have := (List.getElem?_eq_some_iff.1 hx).1
    omega
  have hq := hel j hj
  rw [hcs] at hq
  obtain ⟨y, hy⟩ : ∃ y, xs[j]? = some y := ⟨xs[j]'(by omega), by simp [hl, hj]⟩
  rw [hy] at hq
  have hy1 : y.1 = .agg [.lit (.int .i64 x.1), .lit (.int .i64 x.2)] := by
    have h2 := congrArg (·[j]?) hm
    simp [hy, hx] at h2
    exact h2.symm
  obtain ⟨y1, y2⟩ := y
  simp only at hy1
  subst hy1
  have e := two_cells hs h0 h1 ho0 ho1 he hce hcs hq
  have e0 := congrArg (·[0]?) e
  have e1 := congrArg (·[1]?) e
  simp at e0 e1
  exact ⟨e0, e1⟩
theorem spans_of_vars {W : World} {rest : List (String × DataW Unit)} {ps : List MemPlace} (h : DataW.LaidVars Tryd.prog W (("circa/seasons.spans", Rows.laid_circa_seasons_spans) :: rest) ps) :
    ∀ i : Nat, i < 42 → W.cell? ⟨0, i, none⟩ = some (.int .i64 (spansL.getD i 0)) := by
  obtain ⟨g, t, cs, fuel, p, q, hg, ht, hv, hd, _, _⟩ := h
  obtain rfl := Option.some.inj (gSpans.symm.trans hg)
  obtain rfl := Option.some.inj (tSpans.symm.trans ht)
  have hd' : DataW.trod (fun _ => ()) Tryd.prog W 0 (fun _ => true) false fuel 87 cs.toList = some (.agg (((List.range 21).map fun j => (spansL.getD (j * 2) 0, spansL.getD (j * 2 + 1) 0)).map fun x => .agg [.lit (.int .i64 x.1), .lit (.int .i64 x.2)]), p) := hd
  have e := pair_cells Tryd.underlying87 Tryd.underlying86 rfl rfl rfl rfl Tryd.underlying3 cInt cSpan hd'
  intro i hi
  rw [World.var?_cell gSpans hv i, ← Array.getElem?_toList]
  have h2 := e (i / 2) (spansL.getD (i / 2 * 2) 0, spansL.getD (i / 2 * 2 + 1) 0) (by simp [show i / 2 < 21 by omega])
  rcases Nat.mod_two_eq_zero_or_one i with hz | hz
  · have := h2.1
    rwa [show i / 2 * 2 = i by omega] at this
  · have := h2.2
    rwa [show i / 2 * 2 + 1 = i by omega] at this
theorem envS_of_laid {W : World} {rest : List (String × DataW Unit)} (hp : (("circa/years.steps", Rows.laid_circa_years_steps) :: ("circa/months.lengths", Rows.laid_circa_months_lengths) :: ("circa/seasons.spans", Rows.laid_circa_seasons_spans) :: rest : List (String × DataW Unit)).all (fun x => x.2.handleName?.isNone) = true)
    (h : laidMetH Tryd.prog (("circa/years.steps", Rows.laid_circa_years_steps) :: ("circa/months.lengths", Rows.laid_circa_months_lengths) :: ("circa/seasons.spans", Rows.laid_circa_seasons_spans) :: rest) W) : EnvS W := by
  refine ⟨envM_of_laid hp h, ?_⟩
  rw [MakeChecks.laidMetH_plain _ _ _ hp] at h
  obtain ⟨ps, hl, _⟩ := h
  obtain ⟨g, t, cs, fuel, p, q, _, _, _, _, h2, _⟩ := hl
  obtain ⟨g, t, cs, fuel, p, q, _, _, _, _, h3, _⟩ := h2
  exact spans_of_vars h3
end Go.Proofs.YtnaoadmffnbalaaDoor
