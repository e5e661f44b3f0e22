/- Joined texts: EnvOne, EnvFour, EnvFive, EnvC, Open. (Printed by wip/gen/merge.py.) -/
import Derived.Test.YtopbbcbpanfigaaGreatDoorIntsD
import Derived.Test.YtopbbcbpanfigaaGreatDoorYearsA
import Derived.Test.YtopbbcbpanfigaaGreatDoorMonths
import Derived.Test.YtopbbcbpanfigaaGreatDoorCivA
import Derived.Test.YtopbbcbpanfigaaGreatDoorBase
import Derived.ProofKit
import Derived.LaidMore
import Derived.OpenShut
import Derived.Stop.Joined
import Derived.Lib.LaidTab
import Derived.Deep.Slices
import Derived.Shelf.Vars
import Derived.Lib.SmallJoins
/-
  FROM THE ROW's CONDITION ON THE LIBRARY's VARIABLES TO THE WALKS' FACT.
-/
namespace Go.Proofs.YtopbbcbpanfigaaGreatDoor
open Go.ChangeShapes Go.WideShapes Go.ChangeAt Go.RowKit
theorem gTab : Tryz.prog.globalNamed "internal/strconv.uint64pow10" = some 2 := by kernel_rfl
theorem tTab : (Tryz.prog.globals[2]?).map (·.type) = some 156 := by kernel_rfl
theorem gErr : Tryz.prog.globalNamed "strconv.ErrRange" = some 7 := by kernel_rfl
theorem tErr : (Tryz.prog.globals[7]?).map (·.type) = some 116 := by kernel_rfl
theorem cU64 : Tryz.prog.cellsOf 128 = 1 := by kernel_rfl
theorem cTab : Tryz.prog.cellsOf 156 = 20 := by kernel_rfl
theorem iface_cells {P : Program} {W : World} {t : TypeId} {ms : Array (String × TypeId)} {sp : Nat → Bool} {fuel : Nat} {cs : List Value} {nm : String} {d : DataW Unit} {pl : List MemPlace}
    (ht : P.underlying t = some (.interface ms)) (h : DataW.trod (fun _ => ()) P W 0 sp false fuel t cs = some (.iface nm d, pl)) : ∃ u v, cs = [.iface u v] := by
  cases fuel with
  | zero => simp [DataW.trod] at h
  | succ fuel =>
    unfold DataW.trod at h
    rw [ht] at h
    split at h <;> simp_all
theorem envI_of_laid {W : World} {rest : List (String × DataW Unit)} (hp : (("math/bits.deBruijn32tab", Rows.laid_math_bits_deBruijn32tab) :: ("math/bits.deBruijn64tab", Rows.laid_math_bits_deBruijn64tab) :: ("internal/strconv.uint64pow10", Rows.laid_internal_strconv_uint64pow10) :: ("strconv.ErrRange", Rows.laid_strconv_ErrRange) :: rest : List (String × DataW Unit)).all (fun x => x.2.handleName?.isNone) = true)
    (h : laidMetH Tryz.prog (("math/bits.deBruijn32tab", Rows.laid_math_bits_deBruijn32tab) :: ("math/bits.deBruijn64tab", Rows.laid_math_bits_deBruijn64tab) :: ("internal/strconv.uint64pow10", Rows.laid_internal_strconv_uint64pow10) :: ("strconv.ErrRange", Rows.laid_strconv_ErrRange) :: rest) W) : EnvI W := by
  rw [MakeChecks.laidMetH_plain _ _ _ hp] at h
  obtain ⟨ps, hl, _⟩ := h
  obtain ⟨g, t, cs, fuel, p, q, _, _, _, _, h2, _⟩ := hl
  obtain ⟨g, t, cs, fuel, p, q, _, _, _, _, h3, _⟩ := h2
  obtain ⟨g, t, cs, fuel, p, q, hg, ht, hv, hd, h4, _⟩ := h3
  obtain rfl := Option.some.inj (gTab.symm.trans hg)
  obtain rfl := Option.some.inj (tTab.symm.trans ht)
  refine ⟨?_, ?_⟩
  · have hd' : DataW.trod (fun _ => ()) Tryz.prog W 0 (fun _ => true) false fuel 156 cs.toList = some (Lib.tabData .u64 Lib.pow10Tab, p) := hd
    have e := Lib.cells_of_tab Tryz.underlying156 Tryz.underlying128 cU64 cTab hd'
    unfold Lib.TabIs
    rw [hv, ← e]
  · obtain ⟨g, t, cs, fuel, p, q, hg, ht, hv, hd, _, _⟩ := h4
    obtain rfl := Option.some.inj (gErr.symm.trans hg)
    obtain rfl := Option.some.inj (tErr.symm.trans ht)
    obtain ⟨u, v, e⟩ := iface_cells Tryz.underlying116 hd
    refine ⟨u, v, ?_⟩
    rw [hv]
    congr 1
    apply Array.ext'
    exact e
end Go.Proofs.YtopbbcbpanfigaaGreatDoor

/-
  FROM THE ROW's CONDITION ON years.steps TO THE WALKS' FACT.
-/
namespace Go.Proofs.YtopbbcbpanfigaaGreatDoor
open Go.ChangeShapes Go.WideShapes Go.ChangeAt Go.RowKit

theorem gSteps : Tryz.prog.globalNamed "circa/years.steps" = some 1 := by kernel_rfl
theorem tSteps : (Tryz.prog.globals[1]?).map (·.type) = some 133 := by kernel_rfl
theorem cStep : Tryz.prog.cellsOf 134 = 2 := by kernel_rfl
theorem cInt64 : Tryz.prog.cellsOf 2 = 1 := by kernel_rfl

/-- A struct of two numbers that reads as these: its two cells. -/
theorem two_cells {P : Program} {W : World} {t e : TypeId} {sp : Nat → Bool} {m : Nat} {n0 n1 : Int} {cs : List Value} {pl : List MemPlace}
    {f0 f1 : Field} (ht : P.underlying t = some (.struct #[f0, f1])) (h0 : f0.type = e) (h1 : f1.type = e) (ho0 : f0.offset = 0) (ho1 : f1.offset = 1) (he : P.underlying e = some (.int .i64)) (hce : P.cellsOf e = 1) (hct : P.cellsOf t = 2)
    (h : DataW.trod (fun _ => ()) P W 0 sp false m t cs = some (.agg [.lit (.int .i64 n0), .lit (.int .i64 n1)], pl)) : cs = [.int .i64 n0, .int .i64 n1] := by
  obtain ⟨y0, y1, n, hx, hl, hr0, hr1⟩ := trod_struct2 ht h
  rw [h0, ho0, hce] at hr0
  rw [h1, ho1, hce] at hr1
  obtain ⟨a, ha, ey0, _⟩ := DataW.trod_int he hr0
  obtain ⟨b, hb, ey1, _⟩ := DataW.trod_int he hr1
  subst ey0 ey1
  simp only [Prod.mk.injEq, DataW.agg.injEq, List.cons.injEq, DataW.lit.injEq, Lit.int.injEq, true_and, and_true] at hx
  obtain ⟨⟨rfl, rfl⟩, _⟩ := hx
  rw [hct] at hl
  match cs, hl with
  | [x, y], _ =>
    simp at ha hb
    rw [ha, hb]

theorem mapM_two {α : Type} {f : Nat → Option α} {x y : α} (h : (List.range 2).mapM f = some [x, y]) : f 0 = some x ∧ f 1 = some y := by
  have e : List.range 2 = [0, 1] := rfl
  rw [e] at h
  simp only [List.mapM_cons, List.mapM_nil, Option.bind_eq_bind, Option.bind_eq_some_iff, Option.pure_def, Option.some.injEq, List.cons.injEq] at h
  obtain ⟨a, ha, _, ⟨b, hb, _, rfl, rfl⟩, rfl, h3⟩ := h
  simp only [List.cons.injEq, and_true] at h3
  subst h3
  exact ⟨ha, hb⟩

theorem steps_of_vars {W : World} {rest : List (String × DataW Unit)} {ps : List MemPlace} (h : DataW.LaidVars Tryz.prog W (("circa/years.steps", Rows.laid_circa_years_steps) :: rest) ps) : Steps W := by
  obtain ⟨g, t, cs, fuel, p, q, hg, ht, hv, hd, _, _⟩ := h
  obtain rfl := Option.some.inj (gSteps.symm.trans hg)
  obtain rfl := Option.some.inj (tSteps.symm.trans ht)
  rcases Deep.open_slice Tryz.underlying133 hd with ⟨_, hx⟩ | ⟨a, len, cap, m, n, D, Pl, hcs, _, hlc, hcap, hm, hx, hel⟩
  · simp [Rows.laid_circa_years_steps] at hx
  · simp only [Rows.laid_circa_years_steps, Prod.mk.injEq, DataW.slice.injEq] at hx
    obtain ⟨⟨hx1, hx2⟩, _⟩ := hx
    have hlen : len = 3 := by have := congrArg List.length hx1; simpa using this.symm
    subst hlen
    have hmm : m = cap := by simpa using hm
    have hrange : List.range 3 = [0, 1, 2] := rfl
    rw [hrange] at hx1
    simp only [List.map_cons, List.map_nil, List.cons.injEq, and_true] at hx1
    obtain ⟨d0, d1, d2⟩ := hx1
    have cell : ∀ i n0 n1, i < m → D i = .agg [.lit (.int .i64 n0), .lit (.int .i64 n1)] → W.cell? (a.add (i * 2)) = some (.int .i64 n0) ∧ W.cell? ((a.add (i * 2)).add 1) = some (.int .i64 n1) := by
      intro i n0 n1 hi hD
      obtain ⟨cs', hc, ht'⟩ := hel i hi
      rw [cStep] at hc
      rw [hD] at ht'
      have e := two_cells Tryz.underlying134 rfl rfl rfl rfl Tryz.underlying2 cInt64 cStep ht'
      subst e
      simp only [World.cells?, Nat.zero_le, if_true] at hc
      have := mapM_two hc
      simpa [Addr.add] using this
    obtain ⟨c0, c1⟩ := cell 0 4 1 (by omega) d0.symm
    obtain ⟨c2, c3⟩ := cell 1 100 (-1) (by omega) d1.symm
    obtain ⟨c4, c5⟩ := cell 2 400 1 (by omega) d2.symm
    have hg0 := World.var?_cell gSteps hv 0
    have hsp : a.spot = none := by
      have e : a.add (0 * 2) = a := by simp [Addr.add]
      rw [e] at c0
      simp only [World.cell?] at c0
      split at c0
      · split at c0
        · cases c0
        · rename_i h; simpa using h
      · cases c0
    obtain ⟨b, off, s⟩ := a
    simp only at hsp
    subst hsp
    refine ⟨b, off, cap, ?_, ?_, ?_, ?_, ?_, ?_, ?_⟩
    · rw [hg0]
      have := congrArg (·[0]?) hcs
      simpa using this
    · simpa [Addr.add] using c0
    · simpa [Addr.add] using c1
    · simpa [Addr.add] using c2
    · simpa [Addr.add] using c3
    · simpa [Addr.add] using c4
    · simpa [Addr.add] using c5
theorem steps_of_laid {W : World} {rest : List (String × DataW Unit)} (hp : (("circa/years.steps", Rows.laid_circa_years_steps) :: rest : List (String × DataW Unit)).all (fun x => x.2.handleName?.isNone) = true)
    (h : laidMetH Tryz.prog (("circa/years.steps", Rows.laid_circa_years_steps) :: rest) W) : Steps W := by
  rw [MakeChecks.laidMetH_plain _ _ _ hp] at h
  obtain ⟨ps, hl, _⟩ := h
  exact steps_of_vars hl
end Go.Proofs.YtopbbcbpanfigaaGreatDoor

/-
  FROM THE ROW's CONDITION ON years.steps AND months.lengths TO THE WALKS' FACT.
-/
namespace Go.Proofs.YtopbbcbpanfigaaGreatDoor
open Go.ChangeShapes Go.WideShapes Go.ChangeAt Go.RowKit

theorem gLens : Tryz.prog.globalNamed "circa/months.lengths" = some 0 := by kernel_rfl
theorem tLens : (Tryz.prog.globals[0]?).map (·.type) = some 106 := by kernel_rfl
theorem cInt : Tryz.prog.cellsOf 3 = 1 := by kernel_rfl
theorem cLens : Tryz.prog.cellsOf 106 = 12 := by kernel_rfl

theorem lens_of_vars {W : World} {rest : List (String × DataW Unit)} {ps : List MemPlace} (h : DataW.LaidVars Tryz.prog W (("circa/months.lengths", Rows.laid_circa_months_lengths) :: rest) ps) :
    ∀ i : Nat, i < 12 → W.cell? ⟨0, i, none⟩ = some (.int .i64 (lensL.getD i 0)) := by
  obtain ⟨g, t, cs, fuel, p, q, hg, ht, hv, hd, _, _⟩ := h
  obtain rfl := Option.some.inj (gLens.symm.trans hg)
  obtain rfl := Option.some.inj (tLens.symm.trans ht)
  have hd' : DataW.trod (fun _ => ()) Tryz.prog W 0 (fun _ => true) false fuel 106 cs.toList = some (Lib.tabData .i64 lensL, p) := hd
  have e := Lib.cells_of_tab Tryz.underlying106 Tryz.underlying3 cInt cLens hd'
  intro i hi
  have hl : lensL.length = 12 := rfl
  rw [World.var?_cell gLens hv i, ← Array.getElem?_toList, e]
  simp [List.getD, hl, hi]
theorem envM_of_laid {W : World} {rest : List (String × DataW Unit)} (hp : (("circa/years.steps", Rows.laid_circa_years_steps) :: ("circa/months.lengths", Rows.laid_circa_months_lengths) :: rest : List (String × DataW Unit)).all (fun x => x.2.handleName?.isNone) = true)
    (h : laidMetH Tryz.prog (("circa/years.steps", Rows.laid_circa_years_steps) :: ("circa/months.lengths", Rows.laid_circa_months_lengths) :: rest) W) : EnvM W := by
  rw [MakeChecks.laidMetH_plain _ _ _ hp] at h
  obtain ⟨ps, hl, _⟩ := h
  refine ⟨steps_of_vars hl, ?_⟩
  obtain ⟨g, t, cs, fuel, p, q, _, _, _, _, h2, _⟩ := hl
  exact lens_of_vars h2
end Go.Proofs.YtopbbcbpanfigaaGreatDoor

/-
  FROM THE ROW's CONDITION AND THE WORLD's SHAPE TO THE WALKS' FACT (civils); the wrap that hands the shape on.
-/
namespace Go.Proofs.YtopbbcbpanfigaaGreatDoor
open Go.ChangeShapes Go.WideShapes Go.ChangeAt Go.RowKit
theorem envC_of_laid {W : World} {rest : List (String × DataW Unit)} (hp : (("math/bits.deBruijn32tab", Rows.laid_math_bits_deBruijn32tab) :: ("math/bits.deBruijn64tab", Rows.laid_math_bits_deBruijn64tab) :: ("internal/strconv.uint64pow10", Rows.laid_internal_strconv_uint64pow10) :: ("unicode/utf8.acceptRanges", Rows.laid_unicode_utf8_acceptRanges) :: ("strconv.ErrRange", Rows.laid_strconv_ErrRange) :: ("strconv.ErrSyntax", Rows.laid_strconv_ErrSyntax) :: ("circa/years.steps", Rows.laid_circa_years_steps) :: ("circa/months.lengths", Rows.laid_circa_months_lengths) :: rest : List (String × DataW Unit)).all (fun x => x.2.handleName?.isNone) = true)
    (h : laidMetH Tryz.prog (("math/bits.deBruijn32tab", Rows.laid_math_bits_deBruijn32tab) :: ("math/bits.deBruijn64tab", Rows.laid_math_bits_deBruijn64tab) :: ("internal/strconv.uint64pow10", Rows.laid_internal_strconv_uint64pow10) :: ("unicode/utf8.acceptRanges", Rows.laid_unicode_utf8_acceptRanges) :: ("strconv.ErrRange", Rows.laid_strconv_ErrRange) :: ("strconv.ErrSyntax", Rows.laid_strconv_ErrSyntax) :: ("circa/years.steps", Rows.laid_circa_years_steps) :: ("circa/months.lengths", Rows.laid_circa_months_lengths) :: rest) W) (hs : W.ShapedOpen Tryz.prog) : EnvC W := by
  rw [MakeChecks.laidMetH_plain _ _ _ hp] at h
  obtain ⟨ps, hl, _⟩ := h
  obtain ⟨g, t, cs, fuel, p, q, _, _, _, _, h2, _⟩ := hl
  obtain ⟨g, t, cs, fuel, p, q, _, _, _, _, h3, _⟩ := h2
  obtain ⟨g, t, cs, fuel, p, q, hg, ht, hv, hd, h4, _⟩ := h3
  obtain rfl := Option.some.inj (gTab.symm.trans hg)
  obtain rfl := Option.some.inj (tTab.symm.trans ht)
  obtain ⟨g', t', cs', fuel', p', q', _, _, _, _, h5, _⟩ := h4
  obtain ⟨ge, te, ce, fe, pe, qe, hge, hte, hve, hde, h6, _⟩ := h5
  obtain rfl := Option.some.inj (gErr.symm.trans hge)
  obtain rfl := Option.some.inj (tErr.symm.trans hte)
  obtain ⟨g6, t6, c6, f6, p6, q6, _, _, _, _, h7, _⟩ := h6
  have hst := steps_of_vars h7
  obtain ⟨g7, t7, c7, f7, p7, q7, _, _, _, _, h8, _⟩ := h7
  have hln := lens_of_vars h8
  refine ⟨⟨?_, ?_⟩, ⟨hst, hln⟩, cell_of_shapedOpen_int (t := 3) (zero := #[.int .i64 0]) hs (by decide +kernel) (by kernel_rfl) rfl (by kernel_rfl) (by kernel_rfl) Tryz.underlying3⟩
  · have hd' : DataW.trod (fun _ => ()) Tryz.prog W 0 (fun _ => true) false fuel 156 cs.toList = some (Lib.tabData .u64 Lib.pow10Tab, p) := hd
    have e := Lib.cells_of_tab Tryz.underlying156 Tryz.underlying128 cU64 cTab hd'
    unfold Lib.TabIs
    rw [hv, ← e]
  · obtain ⟨u, v, e⟩ := iface_cells Tryz.underlying116 hde
    refine ⟨u, v, ?_⟩
    rw [hve]
    congr 1
    apply Array.ext'
    exact e
theorem handed_shaped {H : Type} {enc : TypeId × Value → H} {a : Assume} {C : Checked} {os : Os} {f : FuncId} {fn : Func} {s : ChangeSpec} {conds : List PathCond} {apart fresh handsOn again : Bool} {X : World → Array Value → Prop}
    (hX : ∀ (w w' : World) (args : Array Value), w.heap = w'.heap → X w args → X w' args)
    (own : ownKnob C.prog.godebug = none) (started : os.Started) (noInit : C.prog.inits.idxOf? f = none) (hfn : C.prog.funcs[f]? = some fn)
    (witness : ∃ (w : World) (tape : Tape) (i : Input), w.os = os ∧ (w.forCall tape i).Shaped C.prog ∧ i.vars = [] ∧ Input.okWide C.prog (w.forCall tape i) .any w.heap.size f i ∧
      ((s.pre enc C.prog fn conds apart (w.forCall tape i).memory i.args ∧ X (w.forCall tape i).memory i.args) ∧ sizedMet enc C.prog fn (OpenSpec.ofChange s) apart (w.forCall tape i).memory i.args) ∧ a.holds C.prog (lone (Frame.enter C.prog f i.args .normal) [] (w.forCall tape i)))
    (contract : ∀ (W : World) (base : Nat) (args : Array Value) (ds gs : List (DataW H)) (before : List MemPlace), W.ShapedOpen C.prog →
      (∀ (j : Nat) t v, fn.params[j]? = some t → args[j]? = some v → Value.okWide C.prog W .any base t v) →
      DataW.Whole enc C.prog fn.params.toList s.vars apart W args.toList ds gs before →
      conds.all (PathCond.test C.prog ⟨fn.params.toList, ds, s.plain.varTypes C.prog, gs⟩) = true →
      (DataW.weightsEach C.prog (fn.params.toList ++ s.plain.varTypes C.prog) (ds ++ gs)).all (· ≤ reachBytes) = true → X W args →
      a.holds C.prog (lone (Frame.enter C.prog f args .normal) [] W) →
      Calls C.prog f args W fun e W' => ∃ v, e = .returned v ∧ s.post enc C.prog fn apart fresh handsOn again W args v W') :
    ReturnsInHanded a C os f .any (fun w args => (s.pre enc C.prog fn conds apart w args ∧ X w args) ∧ sizedMet enc C.prog fn (OpenSpec.ofChange s) apart w args) (s.post enc C.prog fn apart fresh handsOn again) := by
  refine returnsInHanded_of_calls own started noInit witness fun w tape i _ hsh _ hok hpre hholds => ?_
  obtain ⟨_, _, _, fn', hfn', _, _, _, _, hval⟩ := hok
  obtain rfl : fn' = fn := Option.some.inj (hfn'.symm.trans hfn)
  obtain ⟨⟨⟨ds, gs, before, hw, hc⟩, hx⟩, hz⟩ := hpre
  refine (contract _ w.heap.size i.args ds gs before hsh hval (DataW.Whole.of_heap (w' := w.forCall tape i) (by rfl) hw) hc (hz.weights hw) (hX _ _ _ (by rfl) hx) hholds).mono fun e W' ⟨v, he, hp⟩ => ?_
  subst he
  exact ChangeSpec.post_blind hp
end Go.Proofs.YtopbbcbpanfigaaGreatDoor

/-
  WHAT AN ARGUMENT THAT READS AS DATA IS AS A VALUE: numbers, arrays of two, structs of four numbers.
-/
namespace Go.Proofs.YtopbbcbpanfigaaGreatDoor
open Go.ChangeShapes Go.WideShapes Go.ChangeAt Go.RowKit Go.Joins Go.Deep
variable {H : Type} {enc : TypeId × Value → H} {P : Program} {W : World} {r : Reach} {b0 : Nat} {t e : TypeId} {v : Value} {d : DataW H} {p : List MemPlace} {sp : Nat → Bool} {hd : Bool} {base : Nat}

theorem open_i64 (ht : P.underlying t = some (.int .i64)) (hv : Value.okWide P W r b0 t v) (h : DataW.Trod enc P W base sp hd t v d p) : ∃ a, v = .int .i64 a ∧ I64 a := by
  obtain ⟨a, rfl, _, _, w⟩ := open_int ht hv h
  exact ⟨a, rfl, i64_of_wf w⟩

theorem cell_i64 {n : Nat} {c : Value} {y : DataW H × List MemPlace} (he : P.underlying e = some (.int .i64)) (h : DataW.trod enc P W base sp hd n e [c] = some y) : ∃ a, c = .int .i64 a ∧ I64 a := by
  obtain ⟨a, ha, _, w⟩ := DataW.trod_int he h
  simp at ha
  exact ⟨a, ha, i64_of_wf w⟩

theorem open_arr2 (ht : P.underlying t = some (.array 2 e)) (he : P.underlying e = some (.int .i64)) (hce : P.cellsOf e = 1) (hct : P.cellsOf t = 2) (hv : Value.okWide P W r b0 t v) (h : DataW.Trod enc P W base sp hd t v d p) :
    ∃ a b, v = .agg #[.int .i64 a, .int .i64 b] ∧ I64 a ∧ I64 b := by
  simp only [Value.okWide, ht] at hv
  obtain ⟨cs, rfl, hsz, _⟩ := hv
  obtain ⟨c0, c1, rfl⟩ := array2 (hsz.trans hct)
  obtain ⟨fuel, hf⟩ := h
  obtain ⟨xs, m, _, _, _, hl, hel⟩ := DataW.trod_array ht hf
  match xs, hl with
  | [y0, y1], _ =>
    have h0 := hel 0 (by decide)
    have h1 := hel 1 (by decide)
    simp [Value.cells, hce] at h0 h1
    obtain ⟨a, rfl, ha⟩ := cell_i64 he h0
    obtain ⟨b, rfl, hb⟩ := cell_i64 he h1
    exact ⟨a, b, rfl, ha, hb⟩

theorem open_str4 {f0 f1 f2 f3 : Field} (ht : P.underlying t = some (.struct #[f0, f1, f2, f3])) (hone : oneCellFields P #[f0, f1, f2, f3] = true) (hct : P.cellsOf t = 4)
    (h0 : P.underlying f0.type = some (.int .i64)) (h1 : P.underlying f1.type = some (.int .i64)) (h2 : P.underlying f2.type = some (.int .i64)) (h3 : P.underlying f3.type = some (.int .i64))
    (hv : Value.okWide P W r b0 t v) (h : DataW.Trod enc P W base sp hd t v d p) :
    ∃ a b c e, v = .agg #[.int .i64 a, .int .i64 b, .int .i64 c, .int .i64 e] ∧ I64 a ∧ I64 b ∧ I64 c ∧ I64 e := by
  obtain ⟨v0, v1, v2, v3, y0, y1, y2, y3, n, rfl, _, _, k0, k1, k2, k3⟩ := open_agg4 ht hone hct hv h
  obtain ⟨a, rfl, ha⟩ := cell_i64 h0 k0
  obtain ⟨b, rfl, hb⟩ := cell_i64 h1 k1
  obtain ⟨c, rfl, hc⟩ := cell_i64 h2 k2
  obtain ⟨e, rfl, he⟩ := cell_i64 h3 k3
  exact ⟨a, b, c, e, rfl, ha, hb, hc, he⟩
end Go.Proofs.YtopbbcbpanfigaaGreatDoor
