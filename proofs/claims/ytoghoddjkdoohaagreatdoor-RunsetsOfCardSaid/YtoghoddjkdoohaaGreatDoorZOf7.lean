/- Walks and laws that the claim's theorem leans on: part 7. -/
import Derived.Test.YtoghoddjkdoohaaGreatDoorZOf1
import Derived.Test.YtoghoddjkdoohaaGreatDoorZOf2
import Derived.Maps.RangeWalk
import Derived.RegionTactic
import Derived.Deep.RegionLaw
import Derived.Deep.AppendLies
namespace Go.Proofs.YtoghoddjkdoohaaGreatDoor
set_option maxHeartbeats 1000000
open Go.RowKit Go.ChangeMaps Go.MapKept
def kM : Value := .agg #[.int .i8 (-1), .int .i64 0]
def kP : Value := .agg #[.int .i8 1, .int .i64 0]
def sM : ByteArray := ⟨#[45, 105, 110, 102]⟩
def sP : ByteArray := ⟨#[105, 110, 102]⟩
theorem ckE (em : Bool) (i d : Int) (w : World) : (Instr.checkKey em 10000 41 (.agg #[.int .i8 i, .int .i64 d])).run Tryz.prog w = .ok () w := by kernel_rfl
theorem fk0 (x : Value) (w : World) : (Instr.findKey 41 x []).run Tryz.prog w = .ok none w := by kernel_rfl
theorem fkPM (n : Nat) (w : World) : (Instr.findKey 41 kP [⟨kM, .string sM, n⟩]).run Tryz.prog w = .ok none w := by kernel_rfl
theorem fkMP (n : Nat) (w : World) : (Instr.findKey 41 kM [⟨kP, .string sP, n⟩]).run Tryz.prog w = .ok none w := by kernel_rfl
theorem insE (w : World) (b : Nat) (es : Array MapEntry) (c : Nat) (i d : Int) (val : Value) (hb : w.heap[b]? = some (.map es c)) (hf : (Instr.findKey 41 (.agg #[.int .i8 i, .int .i64 d]) es.toList).run Tryz.prog w = .ok none w) :
  (Instr.mapUpdate 179 (.map (some b)) (.agg #[.int .i8 i, .int .i64 d]) val).run Tryz.prog w = .ok () (setBlock w b (.map (es.push ⟨.agg #[.int .i8 i, .int .i64 d], val, c⟩) (c + 1))) := by
 simp [Instr.mapUpdate, run_underlying Tryz.underlying179, MapKept.run_getObj_map hb, ckE, hf, MapKept.run_setObj_map _ hb, Result.andThen, setBlock]
theorem setBlock_new (w : World) (o o' : Obj) : setBlock (w.alloc o) w.heap.size o' = w.alloc o' := by
 have e : (w.heap.push o).setIfInBounds w.heap.size o' = w.heap.push o' := by
  apply Array.ext'
  simp
 show World.mk ((w.heap.push o).setIfInBounds w.heap.size o') w.tape w.drawn w.os w.output = World.mk (w.heap.push o') w.tape w.drawn w.os w.output
 rw [e]
theorem runM0 (w : World) : (Instr.mapUpdate 179 (.map (some w.heap.size)) (.agg #[.int .i8 (-1), .int .i64 0]) (.string ⟨#[45, 105, 110, 102]⟩)).run Tryz.prog (w.alloc (.map #[] 0)) = .ok () (w.alloc (.map #[⟨kM, .string sM, 0⟩] 1)) := by
 rw [insE (w.alloc (.map #[] 0)) w.heap.size #[] 0 _ _ _ (MapKept.heap_alloc w _).1 (fk0 _ _), setBlock_new]; rfl
theorem runP0 (w : World) : (Instr.mapUpdate 179 (.map (some w.heap.size)) (.agg #[.int .i8 1, .int .i64 0]) (.string ⟨#[105, 110, 102]⟩)).run Tryz.prog (w.alloc (.map #[] 0)) = .ok () (w.alloc (.map #[⟨kP, .string sP, 0⟩] 1)) := by
 rw [insE (w.alloc (.map #[] 0)) w.heap.size #[] 0 _ _ _ (MapKept.heap_alloc w _).1 (fk0 _ _), setBlock_new]; rfl
theorem runPM (w : World) : (Instr.mapUpdate 179 (.map (some w.heap.size)) (.agg #[.int .i8 1, .int .i64 0]) (.string ⟨#[105, 110, 102]⟩)).run Tryz.prog (w.alloc (.map #[⟨kM, .string sM, 0⟩] 1)) = .ok () (w.alloc (.map #[⟨kM, .string sM, 0⟩, ⟨kP, .string sP, 1⟩] 2)) := by
 rw [insE (w.alloc (.map #[⟨kM, .string sM, 0⟩] 1)) w.heap.size #[⟨kM, .string sM, 0⟩] 1 _ _ _ (MapKept.heap_alloc w _).1 (fkPM _ _), setBlock_new]; rfl
theorem runMP (w : World) : (Instr.mapUpdate 179 (.map (some w.heap.size)) (.agg #[.int .i8 (-1), .int .i64 0]) (.string ⟨#[45, 105, 110, 102]⟩)).run Tryz.prog (w.alloc (.map #[⟨kP, .string sP, 0⟩] 1)) = .ok () (w.alloc (.map #[⟨kP, .string sP, 0⟩, ⟨kM, .string sM, 1⟩] 2)) := by
 rw [insE (w.alloc (.map #[⟨kP, .string sP, 0⟩] 1)) w.heap.size #[⟨kP, .string sP, 0⟩] 1 _ _ _ (MapKept.heap_alloc w _).1 (fkMP _ _), setBlock_new]; rfl
def eA : Array MapEntry := #[⟨kM, .string sM, 0⟩, ⟨kP, .string sP, 1⟩]
def eB : Array MapEntry := #[⟨kP, .string sP, 0⟩, ⟨kM, .string sM, 1⟩]
def InfM (w : World) (b : Nat) : Prop := ∃ es, (es = eA ∨ es = eB) ∧ w.heap[b]? = some (.map es 2)
theorem InfM.dn {w w' : World} {b : Nat} (h : InfM w b) (k : Dn w w') : InfM w' b := by
 obtain ⟨es, he, hb⟩ := h
 refine ⟨es, he, ?_⟩
 rw [k.below.block b (Array.getElem?_eq_some_iff.1 hb).1]; exact hb
theorem eInf (w : World) : Calls Tryz.prog 144 #[] w fun e w' => e = .returned (.map (some w.heap.size)) ∧ Up w w' ∧ InfM w' w.heap.size := by
 have r1 : (Instr.mapUpdate 179 (.map (some w.heap.size)) (.agg #[.int .i8 (-1), .int .i64 0]) (.string ⟨#[45, 105, 110, 102]⟩)).run Tryz.prog (w.alloc (.map #[] 0)).drew = .ok () (w.alloc (.map #[⟨kM, .string sM, 0⟩] 1)).drew := runM0 w.drew
 have r2 : (Instr.mapUpdate 179 (.map (some w.heap.size)) (.agg #[.int .i8 1, .int .i64 0]) (.string ⟨#[105, 110, 102]⟩)).run Tryz.prog (w.alloc (.map #[] 0)).drew = .ok () (w.alloc (.map #[⟨kP, .string sP, 0⟩] 1)).drew := runP0 w.drew
 have r3 : (Instr.mapUpdate 179 (.map (some w.heap.size)) (.agg #[.int .i8 1, .int .i64 0]) (.string ⟨#[105, 110, 102]⟩)).run Tryz.prog (w.alloc (.map #[⟨kM, .string sM, 0⟩] 1)).drew = .ok () (w.alloc (.map #[⟨kM, .string sM, 0⟩, ⟨kP, .string sP, 1⟩] 2)).drew := runPM w.drew
 have r4 : (Instr.mapUpdate 179 (.map (some w.heap.size)) (.agg #[.int .i8 (-1), .int .i64 0]) (.string ⟨#[45, 105, 110, 102]⟩)).run Tryz.prog (w.alloc (.map #[⟨kP, .string sP, 0⟩] 1)).drew = .ok () (w.alloc (.map #[⟨kP, .string sP, 0⟩, ⟨kM, .string sM, 1⟩] 2)).drew := runMP w.drew
 have hmm := @run_makeMap Tryz.prog
 go_enter Tryz.func144, Tryz.ntmps144
 go_wp2_with fail
 go_region
 · clear r1 r2 r3 r4
   go_wp2_with fail
   go_ret
   exact ⟨rfl, ((Up.refl _).alloc _).drew, eA, Or.inl rfl, (MapKept.heap_alloc w _).1⟩
 · clear r1 r2 r3 r4
   go_wp2_with fail
   go_ret
   exact ⟨rfl, ((Up.refl _).alloc _).drew, eB, Or.inr rfl, (MapKept.heap_alloc w _).1⟩
def eStr (i d : Int) : ByteArray := if i = 0 then ⟨(Lib.itoa d).toArray⟩ else if i < 0 then sM else sP
theorem Len.i64 {x : Int} (h : I64 x) : Len x := Len.of (by have := h.1; have := h.2; omega)
def EP (s : ByteArray) (i d e : Int) : Prop :=
 (s = sP ∧ i = 1 ∧ d = 0 ∧ e = 0) ∨ (s = sM ∧ i = -1 ∧ d = 0 ∧ e = 0) ∨
 (s ≠ sP ∧ s ≠ sM ∧ i = 0 ∧ ((pOk s.data.toList ∧ Fits (pVal s.data.toList) d e) ∨ (¬ pOk s.data.toList ∧ d = 0 ∧ e = 5)))
set_option maxHeartbeats 4000000
set_option maxRecDepth 100000
theorem e_mem {es : Array MapEntry} (hE : es = eA ∨ es = eB) {e : MapEntry} (he : e ∈ es.toList) : e.born < 2 ∧ ((e.key = kM ∧ e.val = .string sM) ∨ (e.key = kP ∧ e.val = .string sP)) := by
 rcases hE with rfl | rfl <;> simp [eA, eB] at he <;> rcases he with rfl | rfl <;> simp
theorem e_all {es : Array MapEntry} (hE : es = eA ∨ es = eB) : (∃ e ∈ es.toList, e.val = .string sM) ∧ (∃ e ∈ es.toList, e.val = .string sP) := by
 rcases hE with rfl | rfl
 · exact ⟨⟨⟨kM, .string sM, 0⟩, by simp [eA], rfl⟩, ⟨⟨kP, .string sP, 1⟩, by simp [eA], rfl⟩⟩
 · exact ⟨⟨⟨kM, .string sM, 1⟩, by simp [eB], rfl⟩, ⟨⟨kP, .string sP, 0⟩, by simp [eB], rfl⟩⟩
theorem e_nodup {es : Array MapEntry} (hE : es = eA ∨ es = eB) : (es.toList.map (·.born)).Nodup := by
 rcases hE with rfl | rfl <;> simp [eA, eB]
theorem wpList_next_E {ops : Array Oper} {rest : List Oper} {o : Oper} {a : Act} {Q : Exit → Act → World → Prop} (w : World) (hg : o.guard = none) (it : Operand) (hop : o.op = Op.next it false) (b r : Nat) (seen : Array Nat) (es : Array MapEntry)
   (hit : a.eval it = .pointer (some ⟨r, 0, none⟩)) (hE : es = eA ∨ es = eB) (hb : w.heap[b]? = some (.map es 2)) (hr : w.heap[r]? = some (.mapIter (some b) 2 seen 2))
   (hDone : (leftOf es seen).size = 0 → wpList Tryz.prog ops Q rest (a.put o.dst (.tuple #[.bool false])) w)
   (hMore : ∀ e w', e ∈ es.toList → w'.heap[b]? = some (.map es 2) → w'.heap[r]? = some (.mapIter (some b) 2 (seen.push e.born) 2) → (leftOf es (seen.push e.born)).size < (leftOf es seen).size → w.grownBy w' (some r) →
    (Instr.entry (.pointer (some ⟨r, 0, none⟩))).run Tryz.prog w' = .ok (.tuple #[e.key, e.val]) w' → wpList Tryz.prog ops Q rest (a.put o.dst (.tuple #[.bool true, e.key, e.val])) w') :
   wpList Tryz.prog ops Q (o :: rest) a w := by
 refine wpList_plain hg fun K' hK' => ?_
 unfold Oper.wp
 have hne : r ≠ b := by rintro rfl; rw [hb] at hr; cases hr
 rcases run_next_at (P := Tryz.prog) w o.type r b 2 2 seen es 2 hr hb (fun x hx => (e_mem hE hx).1) (Nat.le_refl _) with ⟨h0, hrun⟩ | ⟨e, he, w1, hal, hrun⟩
 · simp [execOp, hop, hit, hrun, Result.andThen]
   exact hK' _ _ (hDone h0)
 · obtain ⟨hem, _⟩ := mem_left he
   have hr1 : w1.heap[r]? = some (.mapIter (some b) 2 seen 2) := by rcases hal with rfl | rfl <;> exact hr
   have hb1 : w1.heap[b]? = some (.map es 2) := by rcases hal with rfl | rfl <;> exact hb
   have hset := heap_set (o' := .mapIter (some b) 2 (seen.push e.born) 2) hr1
   have hb' : (setBlock w1 r (.mapIter (some b) 2 (seen.push e.born) 2)).heap[b]? = some (.map es 2) := (hset.2 b (fun e1 => hne e1.symm)).trans hb1
   simp [execOp, hop, hit, hrun, Result.andThen]
   refine hK' _ _ (hMore e _ hem hb' hset.1 (left_shrinks es seen e he) ?_ (run_entry_at _ r b 2 seen es 2 e hset.1 hb' hem (e_nodup hE)))
   rcases hal with rfl | rfl <;> exact ⟨rfl, rfl, rfl, by simp [setBlock], fun i _ hi => hset.2 i (fun e1 => hi (by rw [e1]))⟩
theorem CB.kept {w w' : World} {B : Nat} {u v : Value} {row : Option Nat} (h : CB w B u v) (hg : w.grownBy w' row) (hne : row ≠ some B) : CB w' B u v :=
 ⟨by rw [hg.cell_far _ h.lt (Ne.symm hne)]; exact h.c0, by rw [hg.cell_far _ h.lt (Ne.symm hne)]; exact h.c1, by rw [hg.frozen_far _ h.lt (Ne.symm hne)]; exact h.f0, by rw [hg.frozen_far _ h.lt (Ne.symm hne)]; exact h.f1, Nat.lt_of_lt_of_le h.lt hg.size⟩
theorem iparse_any (s : ByteArray) (d e : Int) (w : World) (hs : s.size ≤ 1000) (h : (pOk s.data.toList ∧ Fits (pVal s.data.toList) d e) ∨ (¬ pOk s.data.toList ∧ d = 0 ∧ e = 5)) (hE : EnvI w) :
   Calls Tryz.prog 145 #[.string s] w fun r w' => r = .returned (.tuple #[.int .i64 d, .int .i64 e]) ∧ Dn w w' := by
 rcases h with ⟨hp, ⟨hi, rfl, rfl⟩ | ⟨hi, rfl, rfl⟩⟩ | ⟨hp, rfl, rfl⟩
 · exact iparse_ok s _ w hs hp rfl hi hE
 · exact iparse_over s w hs hp hi hE
 · exact iparse_bad s w hs hp hE
theorem bytes_ne {s t : ByteArray} (h : s ≠ t) : (s.toList == t.toList) = false := by
 rw [beq_eq_false_iff_ne]
 intro e
 rw [ByteArray.toList_eq, ByteArray.toList_eq] at e
 exact h (by cases s; cases t; congr; exact Array.ext' e)
theorem sM_list : sM.toList = [45, 105, 110, 102] := by rw [ByteArray.toList_eq]; rfl
theorem sP_list : sP.toList = [105, 110, 102] := by rw [ByteArray.toList_eq]; rfl
theorem CB.set {w : World} {B : Nat} {u v : Value} (h : CB w B u v) (u' v' : Value) : CB ((w.setCell ⟨B, 0, none⟩ u').setCell ⟨B, 1, none⟩ v') B u' v' := by
 refine ⟨?_, ?_, by simp [h.f0], by simp [h.f1], by simpa using h.lt⟩
 · rw [World.cell?_setCell_other _ _ _ _ (by simp)]
   exact World.cell?_setCell_same _ _ _ h.c0
 · refine World.cell?_setCell_same _ _ _ (u := v) ?_
   rw [World.cell?_setCell_other _ _ _ _ (by simp)]; exact h.c1
def IterR (w : World) (b r : Nat) (s : ByteArray) (wr : World) : Prop :=
 ∃ es seen, (es = eA ∨ es = eB) ∧ wr.heap[b]? = some (.map es 2) ∧ wr.heap[r]? = some (.mapIter (some b) 2 seen 2) ∧ (∀ x ∈ es.toList, seen.contains x.born = true → x.val ≠ .string s) ∧ Dn w wr ∧ CB wr w.heap.size (.int .i8 0) (.int .i64 0)
theorem rangeLeft_at {w : World} {b r c s c0 : Nat} {es : Array MapEntry} {seen : Array Nat} {m : Option Nat} (hb : w.heap[b]? = some (.map es c)) (hr : w.heap[r]? = some (.mapIter m s seen c0)) : w.rangeLeft b r = (leftOf es seen).size := by
 simp only [World.rangeLeft, hb, hr]
theorem eParse (s : ByteArray) (i d r : Int) (w : World) (hs : s.size ≤ 1000) (h : EP s i d r) (hE : EnvI w) :
  Calls Tryz.prog 115 #[.string s] w fun e w' => e = .returned (.tuple #[.agg #[.int .i8 i, .int .i64 d], .int .i64 r]) ∧ Dn w w' := by
 have b0 := CB.new w (.int .i8 0) (.int .i64 0) 41
 have u0 : Up w _ := (Up.refl w).alloc (.cells #[.int .i8 0, .int .i64 0] 41)
 have B0 := Lib.hid b0
 have U0 := Lib.hid u0
 have HP := Lib.hid h
 clear b0 u0 h
 go_enter Tryz.func115, Tryz.ntmps115
 go_wp2_with fail
 refine (eInf _).mono ?_
 rintro e w1 ⟨rfl, q1, hm⟩
 have b1 := B0.out.up q1
 have u1 := (U0.out.trans q1).dn
 obtain ⟨es0, hE0, hb0⟩ := hm
 have e1 : (w.alloc (.cells #[.int .i8 0, .int .i64 0] 41)).heap.size = w.heap.size + 1 := by simp
 rw [e1] at hb0
 have hrg : (Instr.range 179 (.map (some (w.heap.size + 1)))).run Tryz.prog w1 = .ok (.pointer (some ⟨w1.heap.size, 0, none⟩)) (w1.alloc (.mapIter (some (w.heap.size + 1)) 2 #[] 2)) := run_range_map w1 _ _ _ _ _ _ Tryz.underlying179 hb0
 have hl1 : w.heap.size + 1 < w1.heap.size := (Array.getElem?_eq_some_iff.1 hb0).1
 have hI : IterR w (w.heap.size + 1) w1.heap.size s (w1.alloc (.mapIter (some (w.heap.size + 1)) 2 #[] 2)) :=
  ⟨es0, #[], hE0, ((MapKept.heap_alloc w1 _).2 _ hl1).trans hb0, (MapKept.heap_alloc w1 _).1, fun x _ hx => by simp at hx, u1.alloc _, b1.alloc _⟩
 have HI := Lib.hid hI
 clear hI hE0 hb0 b1 u1 q1 e1
 go_wp2_with fail
 go_loopw [5] (fun _ wr => IterR w (w.heap.size + 1) w1.heap.size s wr) (fun _ wr => wr.rangeLeft (w.heap.size + 1) w1.heap.size)
 case atStart => exact HI.out
 case round =>
  obtain ⟨es, seen, hE1, hb, hr, hseen, hd, hB⟩ := hrel
  go_wp2_with (at_next; refine wpList_next_E _ rfl _ rfl (w.heap.size + 1) w1.heap.size seen es rfl hE1 hb hr ?_ ?_)
  · intro h0
    have ha := all_seen es seen (by rw [h0]; rfl)
    obtain ⟨⟨x, hx, hxv⟩, y, hy, hyv⟩ := e_all hE1
    have n1 : s ≠ sM := fun h => hseen x hx (ha x hx) (by rw [hxv, h])
    have n2 : s ≠ sP := fun h => hseen y hy (ha y hy) (by rw [hyv, h])
    obtain ⟨rfl, hpi⟩ : i = 0 ∧ ((pOk s.data.toList ∧ Fits (pVal s.data.toList) d r) ∨ (¬ pOk s.data.toList ∧ d = 0 ∧ r = 5)) := by
      rcases HP.out with ⟨h1, _⟩ | ⟨h1, _⟩ | ⟨_, _, h3, h4⟩
      · exact absurd h1 n2
      · exact absurd h1 n1
      · exact ⟨h3, h4⟩
    have HS := Lib.hid (fun W h => iparse_any s d r W hs hpi h)
    have HB := Lib.hid hB
    clear ha hxv hyv hseen hb hr hx hy n1 n2 hpi h0 hB
    go_wp2_with fail
    refine (HS.out _ (hE.dn hd)).mono ?_
    rintro e w3 ⟨rfl, q3⟩
    go_wp2_with fail
    refine (eOf d _).mono ?_
    rintro e w4 ⟨rfl, q4⟩
    obtain ⟨c0, c1, f0, f1, l0⟩ := (HB.out.dn q3).up q4
    have u4 := (hd.trans q3).trans q4.dn
    clear q3 q4 hd
    go_wp2_with fail
    exact bodyPost_ret (v := .tuple #[.agg #[.int .i8 0, .int .i64 d], .int .i64 r]) (by simp [results, Tryz.results115, go_sem, c0, c1]) rfl ⟨rfl, (u4.setCell (by simp) _).setCell (by simp) _⟩
  · intro e w2 hem0 hb2 hr2 hlt hg hen
    have hem : e ∈ es.toList := by simpa using hem0
    clear hem0
    have hB2 := hB.kept hg (by intro h; have := Option.some.inj h; omega)
    have hd2 : Dn w w2 := hd.grown hg (fun k hk => by cases hk; omega)
    have hn : e.val ≠ .string s → ∀ x ∈ es.toList, (seen.push e.born).contains x.born = true → x.val ≠ .string s := by
      intro hev x hx hc
      rw [contains_push] at hc
      rcases Bool.or_eq_true _ _ ▸ hc with hc | hc
      · exact hseen x hx hc
      · rw [born_inj (e_nodup hE1) hx hem (by simpa using hc)]; exact hev
    rcases (e_mem hE1 hem).2 with ⟨hk, hv⟩ | ⟨hk, hv⟩
    · rw [hk, hv] at hen
      rw [hk, hv]
      unfold kM sM at hen
      unfold kM sM
      by_cases he : s = sM
      · subst he
        obtain ⟨rfl, rfl, rfl⟩ : i = (-1) ∧ d = 0 ∧ r = 0 := by
         rcases HP.out with ⟨h1, h2, h3, h4⟩ | ⟨h1, h2, h3, h4⟩ | ⟨h1, h2, _⟩
         · first | exact ⟨h2, h3, h4⟩ | exact absurd h1 (by decide)
         · first | exact ⟨h2, h3, h4⟩ | exact absurd h1 (by decide)
         · first | exact absurd rfl h1 | exact absurd rfl h2
        unfold sM at *
        obtain ⟨g0, g1, _, _, _⟩ := (hB2.set (.int .i8 (-1)) (.int .i64 0)).alloc (.cells #[.int .i8 (-1), .int .i64 0] 41)
        obtain ⟨c0, c1, f0, f1, l0⟩ := hB2
        have G0 := Lib.hid g0
        have G1 := Lib.hid g1
        clear hseen hd hB HP hn hb hr hb2 hr2 g0 g1
        go_wp2_with fail
        exact bodyPost_ret (v := .tuple #[.agg #[.int .i8 (-1), .int .i64 0], .int .i64 0]) (by simp [results, Tryz.results115, go_sem, G0.out, G1.out]) rfl ⟨rfl, ((hd2.setCell (Nat.le_refl _) _).setCell (Nat.le_refl _) _).alloc _⟩
      · have ht : (s.toList == [45, 105, 110, 102]) = false := by rw [← sM_list]; exact bytes_ne he
        have hI : IterR w (w.heap.size + 1) w1.heap.size s (w2.alloc (.cells #[.int .i8 (-1), .int .i64 0] 41)) :=
         ⟨es, seen.push e.born, hE1, ((MapKept.heap_alloc w2 _).2 _ (Array.getElem?_eq_some_iff.1 hb2).1).trans hb2, ((MapKept.heap_alloc w2 _).2 _ (Array.getElem?_eq_some_iff.1 hr2).1).trans hr2, hn (by rw [hv]; intro h; injection h with h; exact he h.symm), hd2.alloc _, hB2.alloc _⟩
        have hm : (w2.alloc (.cells #[.int .i8 (-1), .int .i64 0] 41)).rangeLeft (w.heap.size + 1) w1.heap.size < wr.rangeLeft (w.heap.size + 1) w1.heap.size := by
         rw [rangeLeft_at hb hr, rangeLeft_at (((MapKept.heap_alloc w2 _).2 _ (Array.getElem?_eq_some_iff.1 hb2).1).trans hb2) (((MapKept.heap_alloc w2 _).2 _ (Array.getElem?_eq_some_iff.1 hr2).1).trans hr2)]; exact hlt
        have HR := Lib.hid hI
        have HM := Lib.hid hm
        have l0 := hB2.lt
        clear hseen hd hB hn hb hr hb2 hr2 hI hm hlt hB2
        go_wp2_with fail
        go_roundw
        case rel => exact HR.out
        case measure => exact HM.out
    · rw [hk, hv] at hen
      rw [hk, hv]
      unfold kP sP at hen
      unfold kP sP
      by_cases he : s = sP
      · subst he
        obtain ⟨rfl, rfl, rfl⟩ : i = 1 ∧ d = 0 ∧ r = 0 := by
         rcases HP.out with ⟨h1, h2, h3, h4⟩ | ⟨h1, h2, h3, h4⟩ | ⟨h1, h2, _⟩
         · first | exact ⟨h2, h3, h4⟩ | exact absurd h1 (by decide)
         · first | exact ⟨h2, h3, h4⟩ | exact absurd h1 (by decide)
         · first | exact absurd rfl h1 | exact absurd rfl h2
        unfold sP at *
        obtain ⟨g0, g1, _, _, _⟩ := (hB2.set (.int .i8 1) (.int .i64 0)).alloc (.cells #[.int .i8 1, .int .i64 0] 41)
        obtain ⟨c0, c1, f0, f1, l0⟩ := hB2
        have G0 := Lib.hid g0
        have G1 := Lib.hid g1
        clear hseen hd hB HP hn hb hr hb2 hr2 g0 g1
        go_wp2_with fail
        exact bodyPost_ret (v := .tuple #[.agg #[.int .i8 1, .int .i64 0], .int .i64 0]) (by simp [results, Tryz.results115, go_sem, G0.out, G1.out]) rfl ⟨rfl, ((hd2.setCell (Nat.le_refl _) _).setCell (Nat.le_refl _) _).alloc _⟩
      · have ht : (s.toList == [105, 110, 102]) = false := by rw [← sP_list]; exact bytes_ne he
        have hI : IterR w (w.heap.size + 1) w1.heap.size s (w2.alloc (.cells #[.int .i8 1, .int .i64 0] 41)) :=
         ⟨es, seen.push e.born, hE1, ((MapKept.heap_alloc w2 _).2 _ (Array.getElem?_eq_some_iff.1 hb2).1).trans hb2, ((MapKept.heap_alloc w2 _).2 _ (Array.getElem?_eq_some_iff.1 hr2).1).trans hr2, hn (by rw [hv]; intro h; injection h with h; exact he h.symm), hd2.alloc _, hB2.alloc _⟩
        have hm : (w2.alloc (.cells #[.int .i8 1, .int .i64 0] 41)).rangeLeft (w.heap.size + 1) w1.heap.size < wr.rangeLeft (w.heap.size + 1) w1.heap.size := by
         rw [rangeLeft_at hb hr, rangeLeft_at (((MapKept.heap_alloc w2 _).2 _ (Array.getElem?_eq_some_iff.1 hb2).1).trans hb2) (((MapKept.heap_alloc w2 _).2 _ (Array.getElem?_eq_some_iff.1 hr2).1).trans hr2)]; exact hlt
        have HR := Lib.hid hI
        have HM := Lib.hid hm
        have l0 := hB2.lt
        clear hseen hd hB hn hb hr hb2 hr2 hI hm hlt hB2
        go_wp2_with fail
        go_roundw
        case rel => exact HR.out
        case measure => exact HM.out
end Go.Proofs.YtoghoddjkdoohaaGreatDoor
