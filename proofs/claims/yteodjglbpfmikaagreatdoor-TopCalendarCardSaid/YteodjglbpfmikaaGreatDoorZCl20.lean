/- Walks and laws that the claim's theorem leans on: part 20. -/
import Derived.Test.YteodjglbpfmikaaGreatDoorZCl1
import Derived.Test.YteodjglbpfmikaaGreatDoorZCl2
import Derived.Test.YteodjglbpfmikaaGreatDoorZCl11
import Derived.Test.YteodjglbpfmikaaGreatDoorZCl19
import Derived.Laws.Cover2
import Derived.ProofKit
import Derived.OpenShut
import Derived.Lib.SmallJoins
namespace Go.Proofs.YteodjglbpfmikaaGreatDoor
open Go.ChangeShapes Go.WideShapes Go.ChangeAt Go.RowKit
theorem gLens : Tryz.prog.globalNamed "circa/months.lengths" = some 1 := by kernel_rfl
theorem tLens : (Tryz.prog.globals[1]?).map (·.type) = some 153 := by kernel_rfl
theorem cInt : Tryz.prog.cellsOf 3 = 1 := by kernel_rfl
theorem cLens : Tryz.prog.cellsOf 153 = 12 := by kernel_rfl
theorem lens_of_vars {W : World} {rest : List (String × DataW Unit)} {ps : List MemPlace} (h : DataW.LaidVars Tryz.prog W (("circa/months.lengths", Rows.laid_circa_months_lengths) :: rest) ps) :
  ∀ i : Nat, i < 12 → W.cell? ⟨1, i, none⟩ = some (.int .i64 (lensL.getD i 0)) := by
 obtain ⟨g, t, cs, fuel, p, q, hg, ht, hv, hd, _, _⟩ := h
 obtain rfl := Option.some.inj (gLens.symm.trans hg)
 obtain rfl := Option.some.inj (tLens.symm.trans ht)
 have hd' : DataW.trod (fun _ => ()) Tryz.prog W 0 (fun _ => true) false fuel 153 cs.toList = some (Lib.tabData .i64 lensL, p) := hd
 have e := Lib.cells_of_tab Tryz.underlying153 Tryz.underlying3 cInt cLens hd'
 intro i hi
 have hl : lensL.length = 12 := rfl
 rw [World.var?_cell gLens hv i, ← Array.getElem?_toList, e]
 simp [List.getD, hl, hi]
theorem gSpans : Tryz.prog.globalNamed "circa/seasons.spans" = some 2 := by kernel_rfl
theorem tSpans : (Tryz.prog.globals[2]?).map (·.type) = some 127 := by kernel_rfl
theorem cSpan : Tryz.prog.cellsOf 126 = 2 := by kernel_rfl
theorem pair_cells {P : Program} {W : World} {t s e : TypeId} {sp : Nat → Bool} {fuel n : Nat} {L : List (Int × Int)} {cs : List Value} {pl : List MemPlace}
  {f0 f1 : Field} (ht : P.underlying t = some (.array n s)) (hs : P.underlying s = some (.struct #[f0, f1])) (h0 : f0.type = e) (h1 : f1.type = e) (ho0 : f0.offset = 0) (ho1 : f1.offset = 1) (he : P.underlying e = some (.int .i64)) (hce : P.cellsOf e = 1) (hcs : P.cellsOf s = 2)
  (h : DataW.trod (fun _ => ()) P W 0 sp false fuel t cs = some (.agg (L.map fun x => .agg [.lit (.int .i64 x.1), .lit (.int .i64 x.2)]), pl)) :
  ∀ (j : Nat) (x : Int × Int), L[j]? = some x → cs[j * 2]? = some (.int .i64 x.1) ∧ cs[j * 2 + 1]? = some (.int .i64 x.2) := by
 intro j x hx
 obtain ⟨xs, m, _, hxs, _, hl, hel⟩ := DataW.trod_array ht h
 simp only [Prod.mk.injEq, DataW.agg.injEq] at hxs
 obtain ⟨hm, _⟩ := hxs
 have hj : j < n := by
  have h1 := congrArg List.length hm
  simp at h1
  have := (List.getElem?_eq_some_iff.1 hx).1
  omega
 have hq := hel j hj
 rw [hcs] at hq
 obtain ⟨y, hy⟩ : ∃ y, xs[j]? = some y := ⟨xs[j]'(by omega), by simp [hl, hj]⟩
 rw [hy] at hq
 have hy1 : y.1 = .agg [.lit (.int .i64 x.1), .lit (.int .i64 x.2)] := by
  have h2 := congrArg (·[j]?) hm
  simp [hy, hx] at h2
  exact h2.symm
 obtain ⟨y1, y2⟩ := y
 simp only at hy1
 subst hy1
 have e := two_cells hs h0 h1 ho0 ho1 he hce hcs hq
 have e0 := congrArg (·[0]?) e
 have e1 := congrArg (·[1]?) e
 simp at e0 e1
 exact ⟨e0, e1⟩
theorem spans_of_vars {W : World} {rest : List (String × DataW Unit)} {ps : List MemPlace} (h : DataW.LaidVars Tryz.prog W (("circa/seasons.spans", Rows.laid_circa_seasons_spans) :: rest) ps) :
   ∀ i : Nat, i < 42 → W.cell? ⟨2, i, none⟩ = some (.int .i64 (spansL.getD i 0)) := by
 obtain ⟨g, t, cs, fuel, p, q, hg, ht, hv, hd, _, _⟩ := h
 obtain rfl := Option.some.inj (gSpans.symm.trans hg)
 obtain rfl := Option.some.inj (tSpans.symm.trans ht)
 have hd' : DataW.trod (fun _ => ()) Tryz.prog W 0 (fun _ => true) false fuel 127 cs.toList = some (.agg (((List.range 21).map fun j => (spansL.getD (j * 2) 0, spansL.getD (j * 2 + 1) 0)).map fun x => .agg [.lit (.int .i64 x.1), .lit (.int .i64 x.2)]), p) := hd
 have e := pair_cells Tryz.underlying127 Tryz.underlying126 rfl rfl rfl rfl Tryz.underlying3 cInt cSpan hd'
 intro i hi
 rw [World.var?_cell gSpans hv i, ← Array.getElem?_toList]
 have h2 := e (i / 2) (spansL.getD (i / 2 * 2) 0, spansL.getD (i / 2 * 2 + 1) 0) (by simp [show i / 2 < 21 by omega])
 rcases Nat.mod_two_eq_zero_or_one i with hz | hz
 · have := h2.1
   rwa [show i / 2 * 2 = i by omega] at this
 · have := h2.2
   rwa [show i / 2 * 2 + 1 = i by omega] at this
theorem envQ_of_laid {W : World} {rest : List (String × DataW Unit)} (hp : (("math/bits.deBruijn32tab", Rows.laid_math_bits_deBruijn32tab) :: ("math/bits.deBruijn64tab", Rows.laid_math_bits_deBruijn64tab) :: ("internal/strconv.uint64pow10", Rows.laid_internal_strconv_uint64pow10) :: ("unicode/utf8.acceptRanges", Rows.laid_unicode_utf8_acceptRanges) :: ("strconv.ErrRange", Rows.laid_strconv_ErrRange) :: ("strconv.ErrSyntax", Rows.laid_strconv_ErrSyntax) :: ("circa/years.steps", Rows.laid_circa_years_steps) :: ("circa/months.lengths", Rows.laid_circa_months_lengths) :: ("circa/seasons.spans", Rows.laid_circa_seasons_spans) :: rest : List (String × DataW Unit)).all (fun x => x.2.handleName?.isNone) = true)
  (h : laidMetH Tryz.prog (("math/bits.deBruijn32tab", Rows.laid_math_bits_deBruijn32tab) :: ("math/bits.deBruijn64tab", Rows.laid_math_bits_deBruijn64tab) :: ("internal/strconv.uint64pow10", Rows.laid_internal_strconv_uint64pow10) :: ("unicode/utf8.acceptRanges", Rows.laid_unicode_utf8_acceptRanges) :: ("strconv.ErrRange", Rows.laid_strconv_ErrRange) :: ("strconv.ErrSyntax", Rows.laid_strconv_ErrSyntax) :: ("circa/years.steps", Rows.laid_circa_years_steps) :: ("circa/months.lengths", Rows.laid_circa_months_lengths) :: ("circa/seasons.spans", Rows.laid_circa_seasons_spans) :: rest) W) (hs : W.ShapedOpen Tryz.prog) : EnvQ W := by
 rw [MakeChecks.laidMetH_plain _ _ _ hp] at h
 obtain ⟨ps, hl, _⟩ := h
 obtain ⟨g, t, cs, fuel, p, q, _, _, _, _, h2, _⟩ := hl
 obtain ⟨g, t, cs, fuel, p, q, _, _, _, _, h3, _⟩ := h2
 obtain ⟨g, t, cs, fuel, p, q, hg, ht, hv, hd, h4, _⟩ := h3
 obtain rfl := Option.some.inj (gTab.symm.trans hg)
 obtain rfl := Option.some.inj (tTab.symm.trans ht)
 obtain ⟨g', t', cs', fuel', p', q', _, _, _, _, h5, _⟩ := h4
 obtain ⟨ge, te, ce, fe, pe, qe, hge, hte, hve, hde, h6, _⟩ := h5
 obtain rfl := Option.some.inj (gErr.symm.trans hge)
 obtain rfl := Option.some.inj (tErr.symm.trans hte)
 obtain ⟨g6, t6, c6, f6, p6, q6, _, _, _, _, h7, _⟩ := h6
 have hst := steps_of_vars h7
 obtain ⟨g7, t7, c7, f7, p7, q7, _, _, _, _, h8, _⟩ := h7
 have hln := lens_of_vars h8
 obtain ⟨g8, t8, c8, f8, p8, q8, _, _, _, _, h9, _⟩ := h8
 have hsp := spans_of_vars h9
 have htab : Lib.TabIs Tryz.prog W "internal/strconv.uint64pow10" .u64 Lib.pow10Tab := by
  have hd' : DataW.trod (fun _ => ()) Tryz.prog W 0 (fun _ => true) false fuel 253 cs.toList = some (Lib.tabData .u64 Lib.pow10Tab, p) := hd
  have e := Lib.cells_of_tab Tryz.underlying253 Tryz.underlying146 cU64 cTab hd'
  unfold Lib.TabIs
  rw [hv, ← e]
 refine ⟨⟨⟨htab⟩, ⟨⟨hst, hln⟩, hsp⟩, cell_of_shapedOpen_int (t := 3) (zero := #[.int .i64 0]) hs (by decide +kernel) (by kernel_rfl) rfl (by kernel_rfl) (by kernel_rfl) Tryz.underlying3⟩, htab, ?_⟩
 obtain ⟨u, v, e⟩ := iface_cells Tryz.underlying183 hde
 refine ⟨u, v, ?_⟩
 rw [hve]
 congr 1
 apply Array.ext'
 exact e
open Go.ChangeShapes Go.WideShapes Go.ChangeAt Go.RowKit Go.Joins Go.Deep
variable {H : Type} {enc : TypeId × Value → H} {P : Program} {W : World} {r : Reach} {b0 : Nat} {t e : TypeId} {v : Value} {d : DataW H} {p : List MemPlace} {sp : Nat → Bool} {hd : Bool} {base : Nat}
theorem open_i64 (ht : P.underlying t = some (.int .i64)) (hv : Value.okWide P W r b0 t v) (h : DataW.Trod enc P W base sp hd t v d p) : ∃ a, v = .int .i64 a ∧ I64 a := by
 obtain ⟨a, rfl, _, _, w⟩ := open_int ht hv h
 exact ⟨a, rfl, i64_of_wf w⟩
end Go.Proofs.YteodjglbpfmikaaGreatDoor
