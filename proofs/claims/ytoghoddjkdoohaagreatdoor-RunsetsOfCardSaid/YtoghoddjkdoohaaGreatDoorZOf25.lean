/- Walks and laws that the claim's theorem leans on: part 25. -/
import Derived.Test.YtoghoddjkdoohaaGreatDoorZOf1
import Derived.Test.YtoghoddjkdoohaaGreatDoorZOf2
import Derived.Test.YtoghoddjkdoohaaGreatDoorZOf8
import Derived.Test.YtoghoddjkdoohaaGreatDoorZOf19
import Derived.ProofKit
import Derived.OpenShut
import Derived.Lib.SmallJoins
import Derived.ChangeMaps5
import Derived.LaidMore
import Derived.Stop.Joined
import Derived.Lib.LaidTab
import Derived.Shelf.Vars
namespace Go.Proofs.YtoghoddjkdoohaaGreatDoor
open Go.ChangeShapes Go.WideShapes Go.ChangeAt Go.RowKit Go.Joins Go.Deep
variable {H : Type} {enc : TypeId × Value → H} {P : Program} {W : World} {r : Reach} {b0 : Nat} {t e : TypeId} {v : Value} {d : DataW H} {p : List MemPlace} {sp : Nat → Bool} {hd : Bool} {base : Nat}
theorem open_i64 (ht : P.underlying t = some (.int .i64)) (hv : Value.okWide P W r b0 t v) (h : DataW.Trod enc P W base sp hd t v d p) : ∃ a, v = .int .i64 a ∧ I64 a := by
 obtain ⟨a, rfl, _, _, w⟩ := open_int ht hv h
 exact ⟨a, rfl, i64_of_wf w⟩
theorem cell_i64 {n : Nat} {c : Value} {y : DataW H × List MemPlace} (he : P.underlying e = some (.int .i64)) (h : DataW.trod enc P W base sp hd n e [c] = some y) : ∃ a, c = .int .i64 a ∧ I64 a := by
 obtain ⟨a, ha, _, w⟩ := DataW.trod_int he h
 simp at ha
 exact ⟨a, ha, i64_of_wf w⟩
variable {H : Type} {enc : TypeId × Value → H} {P : Program} {W : World} {r : Reach} {b0 : Nat} {t e : TypeId} {v : Value} {d : DataW H} {p : List MemPlace} {sp : Nat → Bool} {hd : Bool} {base : Nat}
theorem cell_i8 {n : Nat} {c : Value} {y : DataW H × List MemPlace} (he : P.underlying e = some (.int .i8)) (h : DataW.trod enc P W base sp hd n e [c] = some y) : ∃ a, c = .int .i8 a := by
 obtain ⟨a, ha, _, _⟩ := DataW.trod_int he h
 simp at ha
 exact ⟨a, ha⟩
variable {H : Type} {enc : TypeId × Value → H} {P : Program} {W : World} {r : Reach} {b0 : Nat} {t e : TypeId} {v : Value} {d : DataW H} {p : List MemPlace} {sp : Nat → Bool} {hd : Bool} {base : Nat}
theorem end_cells {n : Nat} {g0 g1 : Field} {c0 c1 : Value} {y : DataW H × List MemPlace} (ht : P.underlying e = some (.struct #[g0, g1])) (o0 : g0.offset = 0) (o1 : g1.offset = 1) (k0 : P.cellsOf g0.type = 1) (k1 : P.cellsOf g1.type = 1)
   (h0 : P.underlying g0.type = some (.int .i8)) (h1 : P.underlying g1.type = some (.int .i64)) (h : DataW.trod enc P W base sp hd n e [c0, c1] = some y) :
   ∃ i a, c0 = .int .i8 i ∧ c1 = .int .i64 a ∧ I64 a := by
 obtain ⟨xs, m, _, _, _, hl, hel⟩ := DataW.trod_struct ht h
 match xs, hl with
 | [y0, y1], _ =>
   have z0 := hel 0 g0 rfl
   have z1 := hel 1 g1 rfl
   rw [o0, k0] at z0
   rw [o1, k1] at z1
   simp at z0 z1
   obtain ⟨i, rfl⟩ := cell_i8 h0 z0
   obtain ⟨a, rfl, ha⟩ := cell_i64 h1 z1
   exact ⟨i, a, rfl, rfl, ha⟩
variable {H : Type} {enc : TypeId × Value → H} {P : Program} {W : World} {r : Reach} {b0 : Nat} {t e : TypeId} {v : Value} {d : DataW H} {p : List MemPlace} {sp : Nat → Bool} {hd : Bool} {base : Nat}
theorem list4 {l : List Value} (h : l.length = 4) : ∃ a b c d, l = [a, b, c, d] := by
 match l, h with
 | [a, b, c, d], _ => exact ⟨a, b, c, d, rfl⟩
theorem open_runs {f0 f1 g0 g1 q0 q1 : Field} (hs : P.underlying t = some (.slice e)) (ht : P.underlying e = some (.struct #[f0, f1])) (hct : P.cellsOf e = 4) (o0 : f0.offset = 0) (o1 : f1.offset = 2) (k0 : P.cellsOf f0.type = 2) (k1 : P.cellsOf f1.type = 2)
   (he0 : P.underlying f0.type = some (.struct #[g0, g1])) (a0 : g0.offset = 0) (a1 : g1.offset = 1) (b0 : P.cellsOf g0.type = 1) (b1 : P.cellsOf g1.type = 1) (h0 : P.underlying g0.type = some (.int .i8)) (h1 : P.underlying g1.type = some (.int .i64))
   (he1 : P.underlying f1.type = some (.struct #[q0, q1])) (a2 : q0.offset = 0) (a3 : q1.offset = 1) (b2 : P.cellsOf q0.type = 1) (b3 : P.cellsOf q1.type = 1) (h2 : P.underlying q0.type = some (.int .i8)) (h3 : P.underlying q1.type = some (.int .i64))
   {bb : Nat} (hv : Value.okWide P W r bb t v) (h : DataW.Trod enc P W base sp hd t v d p) :
   ∃ pp cap L, v = .slice pp L.length cap ∧ Rl W pp cap L ∧ I6 L := by
 obtain ⟨aa, ll, cc, rfl⟩ := okWide_slice hs hv
 obtain ⟨fuel, hf⟩ := h
 rcases DataW.trod_slice hs hf with ⟨hc, _⟩ | ⟨a, len, cap, elems, rest, n, _, hc, _, hb, hl, hm, hlen, hel, _, _⟩
 · simp [Value.cells] at hc
   obtain ⟨rfl, rfl, rfl⟩ := hc
   exact ⟨none, 0, [], rfl, ⟨Row.nil _ _, Nat.le_refl _, by decide, fun _ => rfl⟩, fun x hx => by cases hx⟩
 · simp [Value.cells] at hc
   obtain ⟨rfl, rfl, rfl⟩ := hc
   rw [hct] at hel
   have each : ∀ i, i < ll → ∃ x : Rq, (I64 x.b ∧ I64 x.d) ∧ W.cell? (a.add (i * 4)) = some (.int .i8 x.a) ∧ W.cell? ((a.add (i * 4)).add 1) = some (.int .i64 x.b) ∧ W.cell? ((a.add (i * 4)).add 2) = some (.int .i8 x.c) ∧ W.cell? ((a.add (i * 4)).add 3) = some (.int .i64 x.d) := by
     intro i hi
     have h4 := hel i hi
     obtain ⟨y, hy⟩ : ∃ y, elems[i]? = some y := ⟨elems[i], by simp [hlen, hi]⟩
     rw [hy, Option.bind_eq_some_iff] at h4
     obtain ⟨cs, hcs, hy4⟩ := h4
     obtain ⟨_, hcl, hcc⟩ := World.cells?_some hcs
     obtain ⟨c0, c1, c2, c3, rfl⟩ := list4 hcl
     obtain ⟨xs, m, _, _, _, hxl, hxe⟩ := DataW.trod_struct ht hy4
     match xs, hxl with
     | [y0, y1], _ =>
       have z0 := hxe 0 f0 rfl
       have z1 := hxe 1 f1 rfl
       rw [o0, k0] at z0
       rw [o1, k1] at z1
       simp at z0 z1
       obtain ⟨u, b, rfl, rfl, hb1⟩ := end_cells he0 a0 a1 b0 b1 h0 h1 z0
       obtain ⟨s, c, rfl, rfl, hc1⟩ := end_cells he1 a2 a3 b2 b3 h2 h3 z1
       refine ⟨⟨u, b, s, c⟩, ⟨hb1, hc1⟩, ?_, ?_, ?_, ?_⟩
       · simpa [Addr.add] using hcc 0 (by decide)
       · simpa using hcc 1 (by decide)
       · simpa using hcc 2 (by decide)
       · simpa using hcc 3 (by decide)
   have hex : ∀ n, n ≤ ll → ∃ L : List Rq, L.length = n ∧ I6 L ∧ ∀ i x, L[i]? = some x → W.cell? (a.add (i * 4)) = some (.int .i8 x.a) ∧ W.cell? ((a.add (i * 4)).add 1) = some (.int .i64 x.b) ∧ W.cell? ((a.add (i * 4)).add 2) = some (.int .i8 x.c) ∧ W.cell? ((a.add (i * 4)).add 3) = some (.int .i64 x.d) := by
     intro n
     induction n with
     | zero => exact fun _ => ⟨[], rfl, (fun x hx => by cases hx), fun i x hx => by simp at hx⟩
     | succ n ih =>
       intro hn
       obtain ⟨L, hL, hI, hx⟩ := ih (by omega)
       obtain ⟨x, hx6, hxc⟩ := each n (by omega)
       refine ⟨L ++ [x], by simp [hL], fun y hy => ?_, fun i y hy => ?_⟩
       · rcases List.mem_append.1 hy with hy | hy
         · exact hI y hy
         · simp at hy; subst hy; exact hx6
       · by_cases hi : i < L.length
         · rw [List.getElem?_append_left hi] at hy; exact hx i y hy
         · have hi2 : i = n := by
            have := (List.getElem?_eq_some_iff.1 hy).1
            simp at this; omega
           subst hi2
           rw [List.getElem?_append_right (by omega)] at hy
           have e0 : i - L.length = 0 := by omega
           rw [e0] at hy; simp at hy; subst hy
           exact hxc
   obtain ⟨L, hL, hI, hx⟩ := hex ll (Nat.le_refl _)
   subst hL
   refine ⟨_, _, L, rfl, ⟨?_, hl, by unfold maxLen at hm; omega, fun e => by cases e⟩, hI⟩
   cases hLL : L with
   | nil => exact Row.nil _ _
   | cons x t =>
     rw [← hLL]
     have hz := hx 0 x (by rw [hLL]; rfl)
     have hsp : a.spot = none := by
       have h0 := hz.1
       simp [Addr.add, World.cell?] at h0
       split at h0
       · split at h0
         · cases h0
         · rename_i hn; simpa using hn
       · cases h0
     obtain ⟨g, o, sp⟩ := a
     simp only at hsp
     subst hsp
     have hlt : g < W.heap.size := World.block_lt_of_cell? _ _ hz.1
     refine ⟨.inr ⟨g, o, rfl, hlt, fun k y hy => ?_⟩⟩
     obtain ⟨e0, e1, e2, e3⟩ := hx k y hy
     have ha : (⟨g, o, none⟩ : Addr).add (k * 4) = ⟨g, o + k * 4, none⟩ := by unfold Addr.add; split <;> simp_all
     rw [ha] at e0 e1 e2 e3
     have hn : ∀ j, (⟨g, o + k * 4, none⟩ : Addr).add j = ⟨g, o + k * 4 + j, none⟩ := fun j => by unfold Addr.add; split <;> simp_all
     rw [hn] at e1 e2 e3
     exact ⟨e0, e1, e2, e3⟩
variable {H : Type} {enc : TypeId × Value → H} {P : Program} {W : World} {r : Reach} {b0 : Nat} {t e : TypeId} {v : Value} {d : DataW H} {p : List MemPlace} {sp : Nat → Bool} {hd : Bool} {base : Nat}
theorem open_u8 (ht : P.underlying t = some (.int .u8)) (hv : Value.okWide P W r b0 t v) (h : DataW.Trod enc P W base sp hd t v d p) : ∃ a, v = .int .u8 a ∧ (0 ≤ a ∧ a ≤ 255) := by
 obtain ⟨a, rfl, _, _, w⟩ := open_int ht hv h
 simp [Lit.wf, IntKind.min, IntKind.max, IntKind.signed, IntKind.bits] at w
 exact ⟨a, rfl, by omega, by omega⟩
structure Pl (w : World) (p : Option Addr) (cap : Nat) (L : List (Int × Int)) : Prop where
 row : L = [] ∨ ∃ g o, p = some ⟨g, o, none⟩ ∧ g < w.heap.size ∧ ∀ k x, L[k]? = some x → w.cell? ⟨g, o + k * 2, none⟩ = some (.int .u8 x.1) ∧ w.cell? ⟨g, o + k * 2 + 1, none⟩ = some (.int .u8 x.2)
 le : L.length ≤ cap
 mx : cap ≤ 9223372036854775807
theorem Pl.dn {w w' : World} {p : Option Addr} {cap : Nat} {L : List (Int × Int)} (h : Pl w p cap L) (q : Dn w w') : Pl w' p cap L := ⟨by
 rcases h.row with h | ⟨g, o, e, hl, hx⟩
 · exact .inl h
 · exact .inr ⟨g, o, e, Nat.lt_of_lt_of_le hl q.size, fun k x hk => ⟨q.cell (hx k x hk).1, q.cell (hx k x hk).2⟩⟩, h.le, h.mx⟩
open Go.ChangeShapes Go.WideShapes Go.ChangeAt Go.RowKit
theorem gTab : Tryz.prog.globalNamed "internal/strconv.uint64pow10" = some 5 := by kernel_rfl
theorem tTab : (Tryz.prog.globals[5]?).map (·.type) = some 230 := by kernel_rfl
theorem gErr : Tryz.prog.globalNamed "strconv.ErrRange" = some 4 := by kernel_rfl
theorem tErr : (Tryz.prog.globals[4]?).map (·.type) = some 153 := by kernel_rfl
theorem cU64 : Tryz.prog.cellsOf 172 = 1 := by kernel_rfl
theorem cTab : Tryz.prog.cellsOf 230 = 20 := by kernel_rfl
theorem iface_cells {P : Program} {W : World} {t : TypeId} {ms : Array (String × TypeId)} {sp : Nat → Bool} {fuel : Nat} {cs : List Value} {nm : String} {d : DataW Unit} {pl : List MemPlace}
   (ht : P.underlying t = some (.interface ms)) (h : DataW.trod (fun _ => ()) P W 0 sp false fuel t cs = some (.iface nm d, pl)) : ∃ u v, cs = [.iface u v] := by
 cases fuel with
 | zero => simp [DataW.trod] at h
 | succ fuel =>
   unfold DataW.trod at h
   rw [ht] at h
   split at h <;> simp_all
open Go.ChangeShapes Go.WideShapes Go.ChangeAt Go.RowKit
theorem handed_shaped {H : Type} {enc : TypeId × Value → H} {a : Assume} {C : Checked} {os : Os} {f : FuncId} {fn : Func} {s : ChangeSpec} {conds : List PathCond} {apart fresh handsOn again : Bool} {X : World → Array Value → Prop}
  (hX : ∀ (w w' : World) (args : Array Value), w.heap = w'.heap → X w args → X w' args)
  (own : ownKnob C.prog.godebug = none) (started : os.Started) (noInit : C.prog.inits.idxOf? f = none) (hfn : C.prog.funcs[f]? = some fn)
  (witness : ∃ (w : World) (tape : Tape) (i : Input), w.os = os ∧ (w.forCall tape i).Shaped C.prog ∧ i.vars = [] ∧ Input.okWide C.prog (w.forCall tape i) .any w.heap.size f i ∧
   ((s.pre enc C.prog fn conds apart (w.forCall tape i).memory i.args ∧ X (w.forCall tape i).memory i.args) ∧ sizedMet enc C.prog fn (OpenSpec.ofChange s) apart (w.forCall tape i).memory i.args) ∧ a.holds C.prog (lone (Frame.enter C.prog f i.args .normal) [] (w.forCall tape i)))
  (contract : ∀ (W : World) (base : Nat) (args : Array Value) (ds gs : List (DataW H)) (before : List MemPlace), W.ShapedOpen C.prog →
   (∀ (j : Nat) t v, fn.params[j]? = some t → args[j]? = some v → Value.okWide C.prog W .any base t v) →
   DataW.Whole enc C.prog fn.params.toList s.vars apart W args.toList ds gs before →
   conds.all (PathCond.test C.prog ⟨fn.params.toList, ds, s.plain.varTypes C.prog, gs⟩) = true →
   (DataW.weightsEach C.prog (fn.params.toList ++ s.plain.varTypes C.prog) (ds ++ gs)).all (· ≤ reachBytes) = true → X W args →
   a.holds C.prog (lone (Frame.enter C.prog f args .normal) [] W) →
   Calls C.prog f args W fun e W' => ∃ v, e = .returned v ∧ s.post enc C.prog fn apart fresh handsOn again W args v W') :
  ReturnsInHanded a C os f .any (fun w args => (s.pre enc C.prog fn conds apart w args ∧ X w args) ∧ sizedMet enc C.prog fn (OpenSpec.ofChange s) apart w args) (s.post enc C.prog fn apart fresh handsOn again) := by
 refine returnsInHanded_of_calls own started noInit witness fun w tape i _ hsh _ hok hpre hholds => ?_
 obtain ⟨_, _, _, fn', hfn', _, _, _, _, hval⟩ := hok
 obtain rfl : fn' = fn := Option.some.inj (hfn'.symm.trans hfn)
 obtain ⟨⟨⟨ds, gs, before, hw, hc⟩, hx⟩, hz⟩ := hpre
 refine (contract _ w.heap.size i.args ds gs before hsh hval (DataW.Whole.of_heap (w' := w.forCall tape i) (by rfl) hw) hc (hz.weights hw) (hX _ _ _ (by rfl) hx) hholds).mono fun e W' ⟨v, he, hp⟩ => ?_
 subst he
 exact ChangeSpec.post_blind hp
open Go.ChangeShapes Go.WideShapes Go.ChangeAt Go.RowKit
theorem envT_of_laid {W : World} {rest : List (String × DataW Unit)} (hp : (("math/bits.deBruijn32tab", Rows.laid_math_bits_deBruijn32tab) :: ("math/bits.deBruijn64tab", Rows.laid_math_bits_deBruijn64tab) :: ("internal/strconv.uint64pow10", Rows.laid_internal_strconv_uint64pow10) :: ("unicode/utf8.acceptRanges", Rows.laid_unicode_utf8_acceptRanges) :: ("strconv.ErrRange", Rows.laid_strconv_ErrRange) :: rest : List (String × DataW Unit)).all (fun x => x.2.handleName?.isNone) = true)
   (h : laidMetH Tryz.prog (("math/bits.deBruijn32tab", Rows.laid_math_bits_deBruijn32tab) :: ("math/bits.deBruijn64tab", Rows.laid_math_bits_deBruijn64tab) :: ("internal/strconv.uint64pow10", Rows.laid_internal_strconv_uint64pow10) :: ("unicode/utf8.acceptRanges", Rows.laid_unicode_utf8_acceptRanges) :: ("strconv.ErrRange", Rows.laid_strconv_ErrRange) :: rest) W) (hs : W.ShapedOpen Tryz.prog) : EnvR W := by
 rw [MakeChecks.laidMetH_plain _ _ _ hp] at h
 obtain ⟨ps, hl, _⟩ := h
 obtain ⟨g, t, cs, fuel, p, q, _, _, _, _, h2, _⟩ := hl
 obtain ⟨g, t, cs, fuel, p, q, _, _, _, _, h3, _⟩ := h2
 obtain ⟨g, t, cs, fuel, p, q, hg, ht, hv, hd, h4, _⟩ := h3
 obtain rfl := Option.some.inj (gTab.symm.trans hg)
 obtain rfl := Option.some.inj (tTab.symm.trans ht)
 obtain ⟨g', t', cs', fuel', p', q', _, _, _, _, h5, _⟩ := h4
 obtain ⟨ge, te, ce, fe, pe, qe, hge, hte, hve, hde, h6, _⟩ := h5
 obtain rfl := Option.some.inj (gErr.symm.trans hge)
 obtain rfl := Option.some.inj (tErr.symm.trans hte)
 refine ⟨⟨?_, ?_⟩, cell_of_shapedOpen_int (t := 3) (zero := #[.int .i64 0]) hs (by decide +kernel) (by kernel_rfl) rfl (by kernel_rfl) (by kernel_rfl) Tryz.underlying3⟩
 · have hd' : DataW.trod (fun _ => ()) Tryz.prog W 0 (fun _ => true) false fuel 230 cs.toList = some (Lib.tabData .u64 Lib.pow10Tab, p) := hd
   have e := Lib.cells_of_tab Tryz.underlying230 Tryz.underlying172 cU64 cTab hd'
   unfold Lib.TabIs
   rw [hv, ← e]
 · obtain ⟨u, v, e⟩ := iface_cells Tryz.underlying153 hde
   refine ⟨u, v, ?_⟩
   rw [hve]
   congr 1
   apply Array.ext'
   exact e
end Go.Proofs.YtoghoddjkdoohaaGreatDoor
