/- Walks and laws that the claim's theorem leans on: part 17. -/
import Derived.Test.YteodjglbpfmikaaGreatDoorZAx1
import Derived.Test.YteodjglbpfmikaaGreatDoorZAx2
import Derived.Test.YteodjglbpfmikaaGreatDoorZAx5
import Derived.Test.YteodjglbpfmikaaGreatDoorZAx16
import Derived.Shelf.Vars
import Derived.ProofKit
import Derived.LaidMore
import Derived.OpenShut
import Derived.Stop.Joined
import Derived.Deep.Slices
import Derived.Lib.LaidTab
import Derived.Laws.Cover2
namespace Go.Proofs.YteodjglbpfmikaaGreatDoor
open Go.ChangeShapes Go.WideShapes Go.ChangeAt Go.RowKit
theorem handed_shaped {H : Type} {enc : TypeId × Value → H} {a : Assume} {C : Checked} {os : Os} {f : FuncId} {fn : Func} {s : ChangeSpec} {conds : List PathCond} {apart fresh handsOn again : Bool} {X : World → Array Value → Prop}
  (hX : ∀ (w w' : World) (args : Array Value), w.heap = w'.heap → X w args → X w' args)
  (own : ownKnob C.prog.godebug = none) (started : os.Started) (noInit : C.prog.inits.idxOf? f = none) (hfn : C.prog.funcs[f]? = some fn)
  (witness : ∃ (w : World) (tape : Tape) (i : Input), w.os = os ∧ (w.forCall tape i).Shaped C.prog ∧ i.vars = [] ∧ Input.okWide C.prog (w.forCall tape i) .any w.heap.size f i ∧
   ((s.pre enc C.prog fn conds apart (w.forCall tape i).memory i.args ∧ X (w.forCall tape i).memory i.args) ∧ sizedMet enc C.prog fn (OpenSpec.ofChange s) apart (w.forCall tape i).memory i.args) ∧ a.holds C.prog (lone (Frame.enter C.prog f i.args .normal) [] (w.forCall tape i)))
  (contract : ∀ (W : World) (base : Nat) (args : Array Value) (ds gs : List (DataW H)) (before : List MemPlace), W.ShapedOpen C.prog →
   (∀ (j : Nat) t v, fn.params[j]? = some t → args[j]? = some v → Value.okWide C.prog W .any base t v) →
   DataW.Whole enc C.prog fn.params.toList s.vars apart W args.toList ds gs before →
   conds.all (PathCond.test C.prog ⟨fn.params.toList, ds, s.plain.varTypes C.prog, gs⟩) = true →
   (DataW.weightsEach C.prog (fn.params.toList ++ s.plain.varTypes C.prog) (ds ++ gs)).all (· ≤ reachBytes) = true → X W args →
   a.holds C.prog (lone (Frame.enter C.prog f args .normal) [] W) →
   Calls C.prog f args W fun e W' => ∃ v, e = .returned v ∧ s.post enc C.prog fn apart fresh handsOn again W args v W') :
  ReturnsInHanded a C os f .any (fun w args => (s.pre enc C.prog fn conds apart w args ∧ X w args) ∧ sizedMet enc C.prog fn (OpenSpec.ofChange s) apart w args) (s.post enc C.prog fn apart fresh handsOn again) := by
 refine returnsInHanded_of_calls own started noInit witness fun w tape i _ hsh _ hok hpre hholds => ?_
 obtain ⟨_, _, _, fn', hfn', _, _, _, _, hval⟩ := hok
 obtain rfl : fn' = fn := Option.some.inj (hfn'.symm.trans hfn)
 obtain ⟨⟨⟨ds, gs, before, hw, hc⟩, hx⟩, hz⟩ := hpre
 refine (contract _ w.heap.size i.args ds gs before hsh hval (DataW.Whole.of_heap (w' := w.forCall tape i) (by rfl) hw) hc (hz.weights hw) (hX _ _ _ (by rfl) hx) hholds).mono fun e W' ⟨v, he, hp⟩ => ?_
 subst he
 exact ChangeSpec.post_blind hp
theorem gSteps : Tryz.prog.globalNamed "circa/years.steps" = some 3 := by kernel_rfl
theorem tSteps : (Tryz.prog.globals[3]?).map (·.type) = some 191 := by kernel_rfl
theorem cStep : Tryz.prog.cellsOf 192 = 2 := by kernel_rfl
theorem cInt64 : Tryz.prog.cellsOf 2 = 1 := by kernel_rfl
theorem two_cells {P : Program} {W : World} {t e : TypeId} {sp : Nat → Bool} {m : Nat} {n0 n1 : Int} {cs : List Value} {pl : List MemPlace}
   {f0 f1 : Field} (ht : P.underlying t = some (.struct #[f0, f1])) (h0 : f0.type = e) (h1 : f1.type = e) (ho0 : f0.offset = 0) (ho1 : f1.offset = 1) (he : P.underlying e = some (.int .i64)) (hce : P.cellsOf e = 1) (hct : P.cellsOf t = 2)
   (h : DataW.trod (fun _ => ()) P W 0 sp false m t cs = some (.agg [.lit (.int .i64 n0), .lit (.int .i64 n1)], pl)) : cs = [.int .i64 n0, .int .i64 n1] := by
 obtain ⟨y0, y1, n, hx, hl, hr0, hr1⟩ := trod_struct2 ht h
 rw [h0, ho0, hce] at hr0
 rw [h1, ho1, hce] at hr1
 obtain ⟨a, ha, ey0, _⟩ := DataW.trod_int he hr0
 obtain ⟨b, hb, ey1, _⟩ := DataW.trod_int he hr1
 subst ey0 ey1
 simp only [Prod.mk.injEq, DataW.agg.injEq, List.cons.injEq, DataW.lit.injEq, Lit.int.injEq, true_and, and_true] at hx
 obtain ⟨⟨rfl, rfl⟩, _⟩ := hx
 rw [hct] at hl
 match cs, hl with
 | [x, y], _ =>
   simp at ha hb
   rw [ha, hb]
theorem mapM_two {α : Type} {f : Nat → Option α} {x y : α} (h : (List.range 2).mapM f = some [x, y]) : f 0 = some x ∧ f 1 = some y := by
 have e : List.range 2 = [0, 1] := rfl
 rw [e] at h
 simp only [List.mapM_cons, List.mapM_nil, Option.bind_eq_bind, Option.bind_eq_some_iff, Option.pure_def, Option.some.injEq, List.cons.injEq] at h
 obtain ⟨a, ha, _, ⟨b, hb, _, rfl, rfl⟩, rfl, h3⟩ := h
 simp only [List.cons.injEq, and_true] at h3
 subst h3
 exact ⟨ha, hb⟩
theorem steps_of_vars {W : World} {rest : List (String × DataW Unit)} {ps : List MemPlace} (h : DataW.LaidVars Tryz.prog W (("circa/years.steps", Rows.laid_circa_years_steps) :: rest) ps) : Steps W := by
 obtain ⟨g, t, cs, fuel, p, q, hg, ht, hv, hd, _, _⟩ := h
 obtain rfl := Option.some.inj (gSteps.symm.trans hg)
 obtain rfl := Option.some.inj (tSteps.symm.trans ht)
 rcases Deep.open_slice Tryz.underlying191 hd with ⟨_, hx⟩ | ⟨a, len, cap, m, n, D, Pl, hcs, _, hlc, hcap, hm, hx, hel⟩
 · simp [Rows.laid_circa_years_steps] at hx
 · simp only [Rows.laid_circa_years_steps, Prod.mk.injEq, DataW.slice.injEq] at hx
   obtain ⟨⟨hx1, hx2⟩, _⟩ := hx
   have hlen : len = 3 := by have := congrArg List.length hx1; simpa using this.symm
   subst hlen
   have hmm : m = cap := by simpa using hm
   have hrange : List.range 3 = [0, 1, 2] := rfl
   rw [hrange] at hx1
   simp only [List.map_cons, List.map_nil, List.cons.injEq, and_true] at hx1
   obtain ⟨d0, d1, d2⟩ := hx1
   have cell : ∀ i n0 n1, i < m → D i = .agg [.lit (.int .i64 n0), .lit (.int .i64 n1)] → W.cell? (a.add (i * 2)) = some (.int .i64 n0) ∧ W.cell? ((a.add (i * 2)).add 1) = some (.int .i64 n1) := by
     intro i n0 n1 hi hD
     obtain ⟨cs', hc, ht'⟩ := hel i hi
     rw [cStep] at hc
     rw [hD] at ht'
     have e := two_cells Tryz.underlying192 rfl rfl rfl rfl Tryz.underlying2 cInt64 cStep ht'
     subst e
     simp only [World.cells?, Nat.zero_le, if_true] at hc
     have := mapM_two hc
     simpa [Addr.add] using this
   obtain ⟨c0, c1⟩ := cell 0 4 1 (by omega) d0.symm
   obtain ⟨c2, c3⟩ := cell 1 100 (-1) (by omega) d1.symm
   obtain ⟨c4, c5⟩ := cell 2 400 1 (by omega) d2.symm
   have hg0 := World.var?_cell gSteps hv 0
   have hsp : a.spot = none := by
     have e : a.add (0 * 2) = a := by simp [Addr.add]
     rw [e] at c0
     simp only [World.cell?] at c0
     split at c0
     · split at c0
       · cases c0
       · rename_i h; simpa using h
     · cases c0
   obtain ⟨b, off, s⟩ := a
   simp only at hsp
   subst hsp
   refine ⟨b, off, cap, ?_, ?_, ?_, ?_, ?_, ?_, ?_⟩
   · rw [hg0]
     have := congrArg (·[0]?) hcs
     simpa using this
   · simpa [Addr.add] using c0
   · simpa [Addr.add] using c1
   · simpa [Addr.add] using c2
   · simpa [Addr.add] using c3
   · simpa [Addr.add] using c4
   · simpa [Addr.add] using c5
theorem gLens : Tryz.prog.globalNamed "circa/months.lengths" = some 1 := by kernel_rfl
theorem tLens : (Tryz.prog.globals[1]?).map (·.type) = some 153 := by kernel_rfl
theorem cInt : Tryz.prog.cellsOf 3 = 1 := by kernel_rfl
theorem cLens : Tryz.prog.cellsOf 153 = 12 := by kernel_rfl
theorem lens_of_vars {W : World} {rest : List (String × DataW Unit)} {ps : List MemPlace} (h : DataW.LaidVars Tryz.prog W (("circa/months.lengths", Rows.laid_circa_months_lengths) :: rest) ps) :
  ∀ i : Nat, i < 12 → W.cell? ⟨1, i, none⟩ = some (.int .i64 (lensL.getD i 0)) := by
 obtain ⟨g, t, cs, fuel, p, q, hg, ht, hv, hd, _, _⟩ := h
 obtain rfl := Option.some.inj (gLens.symm.trans hg)
 obtain rfl := Option.some.inj (tLens.symm.trans ht)
 have hd' : DataW.trod (fun _ => ()) Tryz.prog W 0 (fun _ => true) false fuel 153 cs.toList = some (Lib.tabData .i64 lensL, p) := hd
 have e := Lib.cells_of_tab Tryz.underlying153 Tryz.underlying3 cInt cLens hd'
 intro i hi
 have hl : lensL.length = 12 := rfl
 rw [World.var?_cell gLens hv i, ← Array.getElem?_toList, e]
 simp [List.getD, hl, hi]
theorem gSpans : Tryz.prog.globalNamed "circa/seasons.spans" = some 2 := by kernel_rfl
theorem tSpans : (Tryz.prog.globals[2]?).map (·.type) = some 127 := by kernel_rfl
theorem cSpan : Tryz.prog.cellsOf 126 = 2 := by kernel_rfl
theorem pair_cells {P : Program} {W : World} {t s e : TypeId} {sp : Nat → Bool} {fuel n : Nat} {L : List (Int × Int)} {cs : List Value} {pl : List MemPlace}
  {f0 f1 : Field} (ht : P.underlying t = some (.array n s)) (hs : P.underlying s = some (.struct #[f0, f1])) (h0 : f0.type = e) (h1 : f1.type = e) (ho0 : f0.offset = 0) (ho1 : f1.offset = 1) (he : P.underlying e = some (.int .i64)) (hce : P.cellsOf e = 1) (hcs : P.cellsOf s = 2)
  (h : DataW.trod (fun _ => ()) P W 0 sp false fuel t cs = some (.agg (L.map fun x => .agg [.lit (.int .i64 x.1), .lit (.int .i64 x.2)]), pl)) :
  ∀ (j : Nat) (x : Int × Int), L[j]? = some x → cs[j * 2]? = some (.int .i64 x.1) ∧ cs[j * 2 + 1]? = some (.int .i64 x.2) := by
 intro j x hx
 obtain ⟨xs, m, _, hxs, _, hl, hel⟩ := DataW.trod_array ht h
 simp only [Prod.mk.injEq, DataW.agg.injEq] at hxs
 obtain ⟨hm, _⟩ := hxs
 have hj : j < n := by
  have h1 := congrArg List.length hm
  simp at h1
  have := (List.getElem?_eq_some_iff.1 hx).1
  omega
 have hq := hel j hj
 rw [hcs] at hq
 obtain ⟨y, hy⟩ : ∃ y, xs[j]? = some y := ⟨xs[j]'(by omega), by simp [hl, hj]⟩
 rw [hy] at hq
 have hy1 : y.1 = .agg [.lit (.int .i64 x.1), .lit (.int .i64 x.2)] := by
  have h2 := congrArg (·[j]?) hm
  simp [hy, hx] at h2
  exact h2.symm
 obtain ⟨y1, y2⟩ := y
 simp only at hy1
 subst hy1
 have e := two_cells hs h0 h1 ho0 ho1 he hce hcs hq
 have e0 := congrArg (·[0]?) e
 have e1 := congrArg (·[1]?) e
 simp at e0 e1
 exact ⟨e0, e1⟩
theorem spans_of_vars {W : World} {rest : List (String × DataW Unit)} {ps : List MemPlace} (h : DataW.LaidVars Tryz.prog W (("circa/seasons.spans", Rows.laid_circa_seasons_spans) :: rest) ps) :
   ∀ i : Nat, i < 42 → W.cell? ⟨2, i, none⟩ = some (.int .i64 (spansL.getD i 0)) := by
 obtain ⟨g, t, cs, fuel, p, q, hg, ht, hv, hd, _, _⟩ := h
 obtain rfl := Option.some.inj (gSpans.symm.trans hg)
 obtain rfl := Option.some.inj (tSpans.symm.trans ht)
 have hd' : DataW.trod (fun _ => ()) Tryz.prog W 0 (fun _ => true) false fuel 127 cs.toList = some (.agg (((List.range 21).map fun j => (spansL.getD (j * 2) 0, spansL.getD (j * 2 + 1) 0)).map fun x => .agg [.lit (.int .i64 x.1), .lit (.int .i64 x.2)]), p) := hd
 have e := pair_cells Tryz.underlying127 Tryz.underlying126 rfl rfl rfl rfl Tryz.underlying3 cInt cSpan hd'
 intro i hi
 rw [World.var?_cell gSpans hv i, ← Array.getElem?_toList]
 have h2 := e (i / 2) (spansL.getD (i / 2 * 2) 0, spansL.getD (i / 2 * 2 + 1) 0) (by simp [show i / 2 < 21 by omega])
 rcases Nat.mod_two_eq_zero_or_one i with hz | hz
 · have := h2.1
   rwa [show i / 2 * 2 = i by omega] at this
 · have := h2.2
   rwa [show i / 2 * 2 + 1 = i by omega] at this
theorem envP_of_laid {W : World} {rest : List (String × DataW Unit)} (hp : (("math/bits.deBruijn32tab", Rows.laid_math_bits_deBruijn32tab) :: ("math/bits.deBruijn64tab", Rows.laid_math_bits_deBruijn64tab) :: ("internal/strconv.uint64pow10", Rows.laid_internal_strconv_uint64pow10) :: ("circa/years.steps", Rows.laid_circa_years_steps) :: ("circa/months.lengths", Rows.laid_circa_months_lengths) :: ("circa/seasons.spans", Rows.laid_circa_seasons_spans) :: rest : List (String × DataW Unit)).all (fun x => x.2.handleName?.isNone) = true)
  (h : laidMetH Tryz.prog (("math/bits.deBruijn32tab", Rows.laid_math_bits_deBruijn32tab) :: ("math/bits.deBruijn64tab", Rows.laid_math_bits_deBruijn64tab) :: ("internal/strconv.uint64pow10", Rows.laid_internal_strconv_uint64pow10) :: ("circa/years.steps", Rows.laid_circa_years_steps) :: ("circa/months.lengths", Rows.laid_circa_months_lengths) :: ("circa/seasons.spans", Rows.laid_circa_seasons_spans) :: rest) W) (hs : W.ShapedOpen Tryz.prog) : EnvP W := by
 rw [MakeChecks.laidMetH_plain _ _ _ hp] at h
 obtain ⟨ps, hl, _⟩ := h
 obtain ⟨g, t, cs, fuel, p, q, _, _, _, _, h2, _⟩ := hl
 obtain ⟨g, t, cs, fuel, p, q, _, _, _, _, h3, _⟩ := h2
 obtain ⟨g, t, cs, fuel, p, q, hg, ht, hv, hd, h4, _⟩ := h3
 obtain rfl := Option.some.inj (gTab.symm.trans hg)
 obtain rfl := Option.some.inj (tTab.symm.trans ht)
 have hst := steps_of_vars h4
 obtain ⟨g4, t4, c4, f4, p4, q4, _, _, _, _, h5, _⟩ := h4
 have hln := lens_of_vars h5
 obtain ⟨g5, t5, c5, f5, p5, q5, _, _, _, _, h6, _⟩ := h5
 have hsp := spans_of_vars h6
 refine ⟨⟨?_⟩, ⟨⟨hst, hln⟩, hsp⟩, cell_of_shapedOpen_int (t := 3) (zero := #[.int .i64 0]) hs (by decide +kernel) (by kernel_rfl) rfl (by kernel_rfl) (by kernel_rfl) Tryz.underlying3⟩
 have hd' : DataW.trod (fun _ => ()) Tryz.prog W 0 (fun _ => true) false fuel 253 cs.toList = some (Lib.tabData .u64 Lib.pow10Tab, p) := hd
 have e := Lib.cells_of_tab Tryz.underlying253 Tryz.underlying146 cU64 cTab hd'
 unfold Lib.TabIs
 rw [hv, ← e]
theorem open_f64 {H : Type} {enc : TypeId × Value → H} {P : Program} {W : World} {r : Reach} {b0 : Nat} {t : TypeId} {v : Value} {d : DataW H} {p : List MemPlace} {sp : Nat → Bool} {hd : Bool} {base : Nat} (ht : P.underlying t = some (.float .f64)) (hv : Value.okWide P W r b0 t v) (h : DataW.Trod enc P W base sp hd t v d p) : ∃ b : Nat, v = .float .f64 b ∧ b = b := by
 obtain ⟨b, e, _⟩ := open_float ht hv h
 exact ⟨b, e, rfl⟩
end Go.Proofs.YteodjglbpfmikaaGreatDoor
