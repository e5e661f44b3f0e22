/- Walks and laws that the claim's theorem leans on: part 7. -/
import Derived.Test.YtoghoddjkdoohaaGreatDoorZKn1
import Derived.Test.YtoghoddjkdoohaaGreatDoorZKn3
import Derived.Test.YtoghoddjkdoohaaGreatDoorZKn4
import Derived.Test.YtoghoddjkdoohaaGreatDoorZKn5
import Derived.Test.YtoghoddjkdoohaaGreatDoorZKn6
import Derived.Deep.AppendLies
import Derived.LoopN
namespace Go.Proofs.YtoghoddjkdoohaaGreatDoor
set_option maxHeartbeats 4000000
set_option maxRecDepth 100000
open Go.RowKit Go.ChangeMaps Go.MapKept
theorem e_mem {es : Array MapEntry} (hE : es = eA \/ es = eB) {e : MapEntry} (he : e ∈ es.toList) : e.born < 2 /\ ((e.key = kM /\ e.val = .string sM) \/ (e.key = kP /\ e.val = .string sP)) := by
 rcases hE with rfl | rfl <;> simp [eA, eB] at he <;> rcases he with rfl | rfl <;> simp
theorem e_all {es : Array MapEntry} (hE : es = eA \/ es = eB) : (∃ e ∈ es.toList, e.val = .string sM) /\ (∃ e ∈ es.toList, e.val = .string sP) := by
 rcases hE with rfl | rfl
 · exact ⟨⟨⟨kM, .string sM, 0⟩, by simp [eA], rfl⟩, ⟨⟨kP, .string sP, 1⟩, by simp [eA], rfl⟩⟩
 · exact ⟨⟨⟨kM, .string sM, 1⟩, by simp [eB], rfl⟩, ⟨⟨kP, .string sP, 0⟩, by simp [eB], rfl⟩⟩
theorem e_nodup {es : Array MapEntry} (hE : es = eA \/ es = eB) : (es.toList.map (·.born)).Nodup := by
 rcases hE with rfl | rfl <;> simp [eA, eB]
theorem wpList_next_E {ops : Array Oper} {rest : List Oper} {o : Oper} {a : Act} {Q : Exit -> Act -> World -> Prop} (w : World) (hg : o.guard = none) (it : Operand) (hop : o.op = Op.next it false) (b r : Nat) (seen : Array Nat) (es : Array MapEntry)
   (hit : a.eval it = .pointer (some ⟨r, 0, none⟩)) (hE : es = eA \/ es = eB) (hb : w.heap[b]? = some (.map es 2)) (hr : w.heap[r]? = some (.mapIter (some b) 2 seen 2))
   (hDone : (leftOf es seen).size = 0 -> wpList Tryz.prog ops Q rest (a.put o.dst (.tuple #[.bool false])) w)
   (hMore : ∀ e w', e ∈ es.toList -> w'.heap[b]? = some (.map es 2) -> w'.heap[r]? = some (.mapIter (some b) 2 (seen.push e.born) 2) -> (leftOf es (seen.push e.born)).size < (leftOf es seen).size -> w.grownBy w' (some r) ->
    (Instr.entry (.pointer (some ⟨r, 0, none⟩))).run Tryz.prog w' = .ok (.tuple #[e.key, e.val]) w' -> wpList Tryz.prog ops Q rest (a.put o.dst (.tuple #[.bool true, e.key, e.val])) w') :
   wpList Tryz.prog ops Q (o :: rest) a w := by
 refine wpList_plain hg fun K' hK' => ?_
 unfold Oper.wp
 have hne : r ≠ b := by rintro rfl; rw [hb] at hr; cases hr
 rcases run_next_at (P := Tryz.prog) w o.type r b 2 2 seen es 2 hr hb (fun x hx => (e_mem hE hx).1) (Nat.le_refl _) with ⟨h0, hrun⟩ | ⟨e, he, w1, hal, hrun⟩
 · simp [execOp, hop, hit, hrun, Result.andThen]
   exact hK' _ _ (hDone h0)
 · obtain ⟨hem, _⟩ := mem_left he
   have hr1 : w1.heap[r]? = some (.mapIter (some b) 2 seen 2) := by rcases hal with rfl | rfl <;> exact hr
   have hb1 : w1.heap[b]? = some (.map es 2) := by rcases hal with rfl | rfl <;> exact hb
   have hset := heap_set (o' := .mapIter (some b) 2 (seen.push e.born) 2) hr1; have hb' : (setBlock w1 r (.mapIter (some b) 2 (seen.push e.born) 2)).heap[b]? = some (.map es 2) := (hset.2 b (fun e1 => hne e1.symm)).trans hb1; simp [execOp, hop, hit, hrun, Result.andThen]; refine hK' _ _ (hMore e _ hem hb' hset.1 (left_shrinks es seen e he) ?_ (run_entry_at _ r b 2 seen es 2 e hset.1 hb' hem (e_nodup hE)))
   rcases hal with rfl | rfl <;> exact ⟨rfl, rfl, rfl, by simp [setBlock], fun i _ hi => hset.2 i (fun e1 => hi (by rw [e1]))⟩
theorem CB.kept {w w' : World} {B : Nat} {u v : Value} {row : Option Nat} (h : CB w B u v) (hg : w.grownBy w' row) (hne : row ≠ some B) : CB w' B u v :=
 ⟨by rw [hg.cell_far _ h.lt (Ne.symm hne)]; exact h.c0, by rw [hg.cell_far _ h.lt (Ne.symm hne)]; exact h.c1, by rw [hg.frozen_far _ h.lt (Ne.symm hne)]; exact h.f0, by rw [hg.frozen_far _ h.lt (Ne.symm hne)]; exact h.f1, Nat.lt_of_lt_of_le h.lt hg.size⟩
theorem iparse_any (s : ByteArray) (d e : Int) (w : World) (hs : s.size <= 1000) (h : (pOk s.data.toList /\ Fits (pVal s.data.toList) d e) \/ (¬ pOk s.data.toList /\ d = 0 /\ e = 5)) (hE : EnvI w) :
   Calls Tryz.prog 145 #[.string s] w fun r w' => r = .returned (.tuple #[.int .i64 d, .int .i64 e]) /\ Dn w w' := by
 rcases h with ⟨hp, ⟨hi, rfl, rfl⟩ | ⟨hi, rfl, rfl⟩⟩ | ⟨hp, rfl, rfl⟩
 · exact iparse_ok s _ w hs hp rfl hi hE
 · exact iparse_over s w hs hp hi hE
 · exact iparse_bad s w hs hp hE
theorem bytes_ne {s t : ByteArray} (h : s ≠ t) : (s.toList == t.toList) = false := by
 rw [beq_eq_false_iff_ne]
 intro e
 rw [ByteArray.toList_eq, ByteArray.toList_eq] at e
 exact h (by cases s; cases t; congr; exact Array.ext' e)
theorem sM_list : sM.toList = [45, 105, 110, 102] := by rw [ByteArray.toList_eq]; rfl
theorem sP_list : sP.toList = [105, 110, 102] := by rw [ByteArray.toList_eq]; rfl
theorem CB.set {w : World} {B : Nat} {u v : Value} (h : CB w B u v) (u' v' : Value) : CB ((w.setCell ⟨B, 0, none⟩ u').setCell ⟨B, 1, none⟩ v') B u' v' := by
 refine ⟨?_, ?_, by simp [h.f0], by simp [h.f1], by simpa using h.lt⟩
 · rw [World.cell?_setCell_other _ _ _ _ (by simp)]
   exact World.cell?_setCell_same _ _ _ h.c0
 · refine World.cell?_setCell_same _ _ _ (u := v) ?_
   rw [World.cell?_setCell_other _ _ _ _ (by simp)]; exact h.c1
def IterR (w : World) (b r : Nat) (s : ByteArray) (wr : World) : Prop :=
 ∃ es seen, (es = eA \/ es = eB) /\ wr.heap[b]? = some (.map es 2) /\ wr.heap[r]? = some (.mapIter (some b) 2 seen 2) /\ (∀ x ∈ es.toList, seen.contains x.born = true -> x.val ≠ .string s) /\ Dn w wr /\ CB wr w.heap.size (.int .i8 0) (.int .i64 0)
theorem rangeLeft_at {w : World} {b r c s c0 : Nat} {es : Array MapEntry} {seen : Array Nat} {m : Option Nat} (hb : w.heap[b]? = some (.map es c)) (hr : w.heap[r]? = some (.mapIter m s seen c0)) : w.rangeLeft b r = (leftOf es seen).size := by
 simp only [World.rangeLeft, hb, hr]
theorem eParse (s : ByteArray) (i d r : Int) (w : World) (hs : s.size <= 1000) (h : EP s i d r) (hE : EnvI w) :
  Calls Tryz.prog 115 #[.string s] w fun e w' => e = .returned (.tuple #[.agg #[.int .i8 i, .int .i64 d], .int .i64 r]) /\ Dn w w' := by
 have b0 := CB.new w (.int .i8 0) (.int .i64 0) 41
 have u0 : Up w _ := (Up.refl w).alloc (.cells #[.int .i8 0, .int .i64 0] 41)
 have B0 := Lib.hid b0
 have U0 := Lib.hid u0
 have HP := Lib.hid h
 clear b0 u0 h
 go_enter Tryz.func115, Tryz.ntmps115
 go_wp2_with fail
 refine (eInf _).mono ?_
 rintro e w1 ⟨rfl, q1, hm⟩
 have b1 := B0.out.up q1
 have u1 := (U0.out.trans q1).dn
 obtain ⟨es0, hE0, hb0⟩ := hm
 have e1 : (w.alloc (.cells #[.int .i8 0, .int .i64 0] 41)).heap.size = w.heap.size + 1 := by simp
 rw [e1] at hb0
 have hrg : (Instr.range 179 (.map (some (w.heap.size + 1)))).run Tryz.prog w1 = .ok (.pointer (some ⟨w1.heap.size, 0, none⟩)) (w1.alloc (.mapIter (some (w.heap.size + 1)) 2 #[] 2)) := run_range_map w1 _ _ _ _ _ _ Tryz.underlying179 hb0
 have hl1 : w.heap.size + 1 < w1.heap.size := (Array.getElem?_eq_some_iff.1 hb0).1
 have hI : IterR w (w.heap.size + 1) w1.heap.size s (w1.alloc (.mapIter (some (w.heap.size + 1)) 2 #[] 2)) :=
  ⟨es0, #[], hE0, ((MapKept.heap_alloc w1 _).2 _ hl1).trans hb0, (MapKept.heap_alloc w1 _).1, fun x _ hx => by simp at hx, u1.alloc _, b1.alloc _⟩
 have HI := Lib.hid hI
 clear hI hE0 hb0 b1 u1 q1 e1
 go_wp2_with fail
 go_loopw [5] (fun _ wr => IterR w (w.heap.size + 1) w1.heap.size s wr) (fun _ wr => wr.rangeLeft (w.heap.size + 1) w1.heap.size)
 case atStart => exact HI.out
 case round =>
  obtain ⟨es, seen, hE1, hb, hr, hseen, hd, hB⟩ := hrel; go_wp2_with (at_next; refine wpList_next_E _ rfl _ rfl (w.heap.size + 1) w1.heap.size seen es rfl hE1 hb hr ?_ ?_)
  · intro h0
    have ha := all_seen es seen (by rw [h0]; rfl); obtain ⟨⟨x, hx, hxv⟩, y, hy, hyv⟩ := e_all hE1
    have n1 : s ≠ sM := fun h => hseen x hx (ha x hx) (by rw [hxv, h])
    have n2 : s ≠ sP := fun h => hseen y hy (ha y hy) (by rw [hyv, h])
    obtain ⟨rfl, hpi⟩ : i = 0 /\ ((pOk s.data.toList /\ Fits (pVal s.data.toList) d r) \/ (¬ pOk s.data.toList /\ d = 0 /\ r = 5)) := by
      rcases HP.out with ⟨h1, _⟩ | ⟨h1, _⟩ | ⟨_, _, h3, h4⟩
      · exact absurd h1 n2
      · exact absurd h1 n1
      · exact ⟨h3, h4⟩
    have HS := Lib.hid (fun W h => iparse_any s d r W hs hpi h); have HB := Lib.hid hB; clear ha hxv hyv hseen hb hr hx hy n1 n2 hpi h0 hB; go_wp2_with fail; refine (HS.out _ (hE.dn hd)).mono ?_; rintro e w3 ⟨rfl, q3⟩; go_wp2_with fail; refine (eOf d _).mono ?_; rintro e w4 ⟨rfl, q4⟩; obtain ⟨c0, c1, f0, f1, l0⟩ := (HB.out.dn q3).up q4; have u4 := (hd.trans q3).trans q4.dn; clear q3 q4 hd; go_wp2_with fail; exact bodyPost_ret (v := .tuple #[.agg #[.int .i8 0, .int .i64 d], .int .i64 r]) (by simp [results, Tryz.results115, go_sem, c0, c1]) rfl ⟨rfl, (u4.setCell (by simp) _).setCell (by simp) _⟩
  · intro e w2 hem0 hb2 hr2 hlt hg hen
    have hem : e ∈ es.toList := (by simpa using hem0); clear hem0; have hB2 := hB.kept hg (by intro h; have := Option.some.inj h; omega); have hd2 : Dn w w2 := hd.grown hg (fun k hk => by cases hk; omega)
    have hn : e.val ≠ .string s -> ∀ x ∈ es.toList, (seen.push e.born).contains x.born = true -> x.val ≠ .string s := by
      intro hev x hx hc; rw [contains_push] at hc; rcases Bool.or_eq_true _ _ ▸ hc with hc | hc
      · exact hseen x hx hc
      · rw [born_inj (e_nodup hE1) hx hem (by simpa using hc)]; exact hev
    rcases (e_mem hE1 hem).2 with ⟨hk, hv⟩ | ⟨hk, hv⟩
    · rw [hk, hv] at hen
      rw [hk, hv]; unfold kM sM at hen; unfold kM sM
      by_cases he : s = sM
      · subst he
        obtain ⟨rfl, rfl, rfl⟩ : i = (-1) /\ d = 0 /\ r = 0 := by
         rcases HP.out with ⟨h1, h2, h3, h4⟩ | ⟨h1, h2, h3, h4⟩ | ⟨h1, h2, _⟩
         · first | exact ⟨h2, h3, h4⟩ | exact absurd h1 (by decide)
         · first | exact ⟨h2, h3, h4⟩ | exact absurd h1 (by decide)
         · first | exact absurd rfl h1 | exact absurd rfl h2
        unfold sM at *; obtain ⟨g0, g1, _, _, _⟩ := (hB2.set (.int .i8 (-1)) (.int .i64 0)).alloc (.cells #[.int .i8 (-1), .int .i64 0] 41); obtain ⟨c0, c1, f0, f1, l0⟩ := hB2; have G0 := Lib.hid g0; have G1 := Lib.hid g1; clear hseen hd hB HP hn hb hr hb2 hr2 g0 g1; go_wp2_with fail; exact bodyPost_ret (v := .tuple #[.agg #[.int .i8 (-1), .int .i64 0], .int .i64 0]) (by simp [results, Tryz.results115, go_sem, G0.out, G1.out]) rfl ⟨rfl, ((hd2.setCell (Nat.le_refl _) _).setCell (Nat.le_refl _) _).alloc _⟩
      · have ht : (s.toList == [45, 105, 110, 102]) = false := by rw [<- sM_list]; exact bytes_ne he
        have hI : IterR w (w.heap.size + 1) w1.heap.size s (w2.alloc (.cells #[.int .i8 (-1), .int .i64 0] 41)) :=
         ⟨es, seen.push e.born, hE1, ((MapKept.heap_alloc w2 _).2 _ (Array.getElem?_eq_some_iff.1 hb2).1).trans hb2, ((MapKept.heap_alloc w2 _).2 _ (Array.getElem?_eq_some_iff.1 hr2).1).trans hr2, hn (by rw [hv]; intro h; injection h with h; exact he h.symm), hd2.alloc _, hB2.alloc _⟩
        have hm : (w2.alloc (.cells #[.int .i8 (-1), .int .i64 0] 41)).rangeLeft (w.heap.size + 1) w1.heap.size < wr.rangeLeft (w.heap.size + 1) w1.heap.size := by
         rw [rangeLeft_at hb hr, rangeLeft_at (((MapKept.heap_alloc w2 _).2 _ (Array.getElem?_eq_some_iff.1 hb2).1).trans hb2) (((MapKept.heap_alloc w2 _).2 _ (Array.getElem?_eq_some_iff.1 hr2).1).trans hr2)]; exact hlt
        have HR := Lib.hid hI; have HM := Lib.hid hm; have l0 := hB2.lt; clear hseen hd hB hn hb hr hb2 hr2 hI hm hlt hB2; go_wp2_with fail; go_roundw
        case rel => exact HR.out
        case measure => exact HM.out
    · rw [hk, hv] at hen
      rw [hk, hv]; unfold kP sP at hen; unfold kP sP
      by_cases he : s = sP
      · subst he
        obtain ⟨rfl, rfl, rfl⟩ : i = 1 /\ d = 0 /\ r = 0 := by
         rcases HP.out with ⟨h1, h2, h3, h4⟩ | ⟨h1, h2, h3, h4⟩ | ⟨h1, h2, _⟩
         · first | exact ⟨h2, h3, h4⟩ | exact absurd h1 (by decide)
         · first | exact ⟨h2, h3, h4⟩ | exact absurd h1 (by decide)
         · first | exact absurd rfl h1 | exact absurd rfl h2
        unfold sP at *; obtain ⟨g0, g1, _, _, _⟩ := (hB2.set (.int .i8 1) (.int .i64 0)).alloc (.cells #[.int .i8 1, .int .i64 0] 41); obtain ⟨c0, c1, f0, f1, l0⟩ := hB2; have G0 := Lib.hid g0; have G1 := Lib.hid g1; clear hseen hd hB HP hn hb hr hb2 hr2 g0 g1; go_wp2_with fail; exact bodyPost_ret (v := .tuple #[.agg #[.int .i8 1, .int .i64 0], .int .i64 0]) (by simp [results, Tryz.results115, go_sem, G0.out, G1.out]) rfl ⟨rfl, ((hd2.setCell (Nat.le_refl _) _).setCell (Nat.le_refl _) _).alloc _⟩
      · have ht : (s.toList == [105, 110, 102]) = false := by rw [<- sP_list]; exact bytes_ne he
        have hI : IterR w (w.heap.size + 1) w1.heap.size s (w2.alloc (.cells #[.int .i8 1, .int .i64 0] 41)) :=
         ⟨es, seen.push e.born, hE1, ((MapKept.heap_alloc w2 _).2 _ (Array.getElem?_eq_some_iff.1 hb2).1).trans hb2, ((MapKept.heap_alloc w2 _).2 _ (Array.getElem?_eq_some_iff.1 hr2).1).trans hr2, hn (by rw [hv]; intro h; injection h with h; exact he h.symm), hd2.alloc _, hB2.alloc _⟩
        have hm : (w2.alloc (.cells #[.int .i8 1, .int .i64 0] 41)).rangeLeft (w.heap.size + 1) w1.heap.size < wr.rangeLeft (w.heap.size + 1) w1.heap.size := by
         rw [rangeLeft_at hb hr, rangeLeft_at (((MapKept.heap_alloc w2 _).2 _ (Array.getElem?_eq_some_iff.1 hb2).1).trans hb2) (((MapKept.heap_alloc w2 _).2 _ (Array.getElem?_eq_some_iff.1 hr2).1).trans hr2)]; exact hlt
        have HR := Lib.hid hI; have HM := Lib.hid hm; have l0 := hB2.lt; clear hseen hd hB hn hb hr hb2 hr2 hI hm hlt hB2; go_wp2_with fail; go_roundw
        case rel => exact HR.out
        case measure => exact HM.out
theorem rParse_yes8 (s : ByteArray) (w : World) (hs : s.size <= 1000) (hp : pOk s.data.toList) :
 Calls Tryz.prog 146 #[.string s] w fun e w' => ∃ b p n cap, e = .returned (.tuple #[.agg #[.bool b, .slice p n cap], .bool true]) /\ IsN w' (.agg #[.bool b, .slice p n cap]) (pVal s.data.toList) /\ Dn w w' := rParse_yes s w hs hp
theorem rInt_any (v : Value) (x d e : Int) (w : World) (hx : IsN w v x) (hl : (Dg.dl x.natAbs).length <= 1000) (hf : Fits x d e) :
   Calls Tryz.prog 61 #[v] w fun r w' => r = .returned (.tuple #[.int .i64 d, .bool (decide (e = 0))]) /\ Dn w w' := by
 rcases hf with ⟨hi, rfl, rfl⟩ | ⟨hi, rfl, rfl⟩
 · exact rInt_yes v _ w hx hl hi
 · exact rInt_no v x w hx hl hi
theorem rParse8 (s : ByteArray) (i d r : Int) (w : World) (hs : s.size <= 1000) (h : EP s i d r) :
   Calls Tryz.prog 117 #[.string s] w fun e w' => e = .returned (.tuple #[.agg #[.int .i8 i, .int .i64 d], .int .i64 r]) /\ Dn w w' := by
 have b0 := CB.new w (.int .i8 0) (.int .i64 0) 41
 have u0 : Dn w _ := (Dn.refl w).alloc (.cells #[.int .i8 0, .int .i64 0] 41)
 have B0 := Lib.hid b0
 have U0 := Lib.hid u0
 clear b0 u0
 rcases h with ⟨rfl, rfl, rfl, rfl⟩ | ⟨rfl, rfl, rfl, rfl⟩ | ⟨n2, n1, rfl, hp⟩
 · unfold sP
   go_enter Tryz.func117, Tryz.ntmps117; go_wp2_with fail; exact bodyPost_ret (v := .tuple #[.agg #[.int .i8 1, .int .i64 0], .int .i64 0]) (by simp [results, Tryz.results117, go_sem]) rfl ⟨rfl, (Dn.refl _).alloc _⟩
 · unfold sM
   go_enter Tryz.func117, Tryz.ntmps117; go_wp2_with fail; exact bodyPost_ret (v := .tuple #[.agg #[.int .i8 (-1), .int .i64 0], .int .i64 0]) (by simp [results, Tryz.results117, go_sem]) rfl ⟨rfl, (Dn.refl _).alloc _⟩
 · have t1 : (s.toList == [45, 105, 110, 102]) = false := by rw [<- sM_list]; exact bytes_ne n1
   have t2 : (s.toList == [105, 110, 102]) = false := by rw [<- sP_list]; exact bytes_ne n2
   clear n1 n2; rcases hp with ⟨hp, hf⟩ | ⟨hp, rfl, rfl⟩
   · have HPY := Lib.hid (fun W => rParse_yes8 s W hs hp)
     have HLN := Lib.hid (pVal_len s hs hp); generalize pVal s.data.toList = x at *; clear hp
     have hI := fun W v (hI : IsN W v x) => rInt_any v x d r W hI HLN.out hf
     have HI := Lib.hid hI; clear hI; rcases hf with ⟨hi, rfl, rfl⟩ | ⟨hi, rfl, rfl⟩
     all_goals
       clear hi; go_enter Tryz.func117, Tryz.ntmps117; go_wp2_with fail; refine (HPY.out _).mono ?_; rintro e w1 ⟨b, p, m, cap, rfl, hx, q1⟩; have HX := Lib.hid (hx.dn ((Dn.refl _).alloc (.cells #[.bool b, .slice p m cap] 88))); have K1 := Lib.hid ((B0.out.dn q1).alloc (.cells #[.bool b, .slice p m cap] 88)); have u1 := (U0.out.trans q1).alloc (.cells #[.bool b, .slice p m cap] 88); clear hx q1; go_wp2_with fail; refine (HI.out _ _ HX.out).mono ?_; rintro e w2 ⟨rfl, q2⟩; obtain ⟨c0, c1, f0, f1, l0⟩ := K1.out.dn q2; have u2 := u1.trans q2; clear q2 u1; go_wp2_with fail
     · exact bodyPost_ret (v := .tuple #[.agg #[.int .i8 0, .int .i64 d], .int .i64 0]) (by simp [results, Tryz.results117, go_sem, c0, c1]) rfl ⟨rfl, (u2.setCell (Nat.le_refl _) _).setCell (Nat.le_refl _) _⟩
     · exact bodyPost_ret (v := .tuple #[.agg #[.int .i8 0, .int .i64 0], .int .i64 15]) (by simp [results, Tryz.results117, go_sem, c0, c1]) rfl ⟨rfl, (u2.setCell (Nat.le_refl _) _).setCell (Nat.le_refl _) _⟩
   · have HPN := Lib.hid (fun W => rParse_no s W hs hp)
     clear hp; go_enter Tryz.func117, Tryz.ntmps117; go_wp2_with fail; refine (HPN.out _).mono ?_; rintro e w1 ⟨rfl, q1⟩; obtain ⟨g0, g1, _, _, _⟩ := ((B0.out.dn q1).set (.int .i8 0) (.int .i64 0)).alloc (.cells #[.bool false, .slice none 0 0] 88); obtain ⟨c0, c1, f0, f1, l0⟩ := B0.out.dn q1; have G0 := Lib.hid g0; have G1 := Lib.hid g1; have u1 := U0.out.trans q1; clear q1 g0 g1; go_wp2_with fail; exact bodyPost_ret (v := .tuple #[.agg #[.int .i8 0, .int .i64 0], .int .i64 5]) (by simp [results, Tryz.results117, go_sem, G0.out, G1.out]) rfl ⟨rfl, ((u1.setCell (Nat.le_refl _) _).setCell (Nat.le_refl _) _).alloc _⟩
set_option maxHeartbeats 4000000
set_option maxRecDepth 100000
open Go.RowKit
set_option linter.unusedVariables false
set_option linter.unusedSimpArgs false
structure EnvR (w : World) : Prop where
 i : EnvI w
 m : ∃ m, w.cell? ⟨2, 0, none⟩ = some (.int .i64 m)
theorem EnvR.dn {w w' : World} (h : EnvR w) (k : Dn w w') : EnvR w' := ⟨h.i.dn k, h.m.elim fun m hm => ⟨m, k.cell hm⟩⟩
def PIs (s : ByteArray) (i d r : Int) : Prop := ∀ W, EnvR W -> Calls Tryz.prog 115 #[.string s] W fun o w' => o = .returned (.tuple #[.agg #[.int .i8 i, .int .i64 d], .int .i64 r]) /\ Dn W w'
theorem preKn37x1 (w : World) : ∃ W1, W1 = w.alloc (.cells #[.int .i8 0, .int .i64 0, .int .i8 0, .int .i64 0] 139) /\ (Dn w W1) /\ (W1.cell? ⟨w.heap.size, 0, none⟩ = some (.int .i8 0)) /\ (W1.cell? ⟨w.heap.size, 1, none⟩ = some (.int .i64 0)) /\ (W1.cell? ⟨w.heap.size, 2, none⟩ = some (.int .i8 0)) /\ (W1.cell? ⟨w.heap.size, 3, none⟩ = some (.int .i64 0)) /\ (w.heap.size < W1.heap.size) /\ (W1.frozen? ⟨w.heap.size, 0, none⟩ = false) /\ (W1.frozen? ⟨w.heap.size, 1, none⟩ = false) /\ (W1.frozen? ⟨w.heap.size, 2, none⟩ = false) /\ (W1.frozen? ⟨w.heap.size, 3, none⟩ = false) := by
 obtain ⟨W1, hW1⟩ : ∃ W1, W1 = w.alloc (.cells #[.int .i8 0, .int .i64 0, .int .i8 0, .int .i64 0] 139) := ⟨_, rfl⟩
 refine ⟨W1, hW1, (by rw [hW1]; exact (Dn.refl _).alloc _), ?_, ?_, ?_, ?_, ?_, ?_, ?_, ?_, ?_⟩ <;> rw [hW1] <;> first | (simp [go_sem]; done) | (simp <;> omega)
theorem rnBP_1 (s t : ByteArray) (i1 d1 i2 d2 r1 r2 : Int) (HA : Hid (PIs s i1 d1 r1)) (h1 : r1 ≠ 0) (w : World) (hE : EnvR w) :
  Calls Tryz.prog 116 #[.string s, .string t, .func (.func 115) #[] #[]] w fun ro w' => ro = .returned (.tuple #[.agg #[.int .i8 0, .int .i64 0, .int .i8 0, .int .i64 0], .int .i64 r1]) /\ Dn w w' := by
 have t1 : (r1 != 0) = true := by simpa using h1
 clear h1
 go_enter Tryz.func116, Tryz.ntmps116
 go_wp2_with fail
 obtain ⟨W1, hW1, uW1, c2, c3, c4, c5, l6, f7, f8, f9, f10⟩ := preKn37x1 w 
 rw [<- hW1]
 clear hW1
 refine (HA.out _ (hE.dn uW1)).mono ?_
 rintro e w1 ⟨rfl, qw1⟩
 have f11 := fz qw1 f7 l6
 have f12 := fz qw1 f8 l6
 have f13 := fz qw1 f9 l6
 have f14 := fz qw1 f10 l6
 have a4 := nlt l6 qw1.size
 obtain ⟨a0, a1, a2, a3⟩ := mv4 qw1.cell c2 c3 c4 c5
 clear f7 f8 f9 f10 l6 c2 c3 c4 c5
 have uw1 := uW1.trans qw1
 clear qw1 uW1
 go_wp2_with fail
 have hC : C4 w1 (w.heap.size) (.int .i8 0) (.int .i64 0) (.int .i8 0) (.int .i64 0) := ⟨a0, a1, a2, a3, f11, f12, f13, f14, a4⟩
 have hZ := fun o : Obj => (hC.fill (.int .i8 0) (.int .i64 0) (.int .i8 0) (.int .i64 0)).alloc o
 have z0 := fun o : Obj => (hZ o).c0
 have y0 := fun o : Obj => (hZ o).f0
 have z1 := fun o : Obj => (hZ o).c1
 have y1 := fun o : Obj => (hZ o).f1
 have z2 := fun o : Obj => (hZ o).c2
 have y2 := fun o : Obj => (hZ o).f2
 have z3 := fun o : Obj => (hZ o).c3
 have y3 := fun o : Obj => (hZ o).f3
 exact bodyPost_ret (v := .tuple #[.agg #[.int .i8 0, .int .i64 0, .int .i8 0, .int .i64 0], .int .i64 r1]) (by simp [results, Tryz.results116, go_sem, z0, z1, z2, z3, y0, y1, y2, y3, a0, a1, a2, a3, f11, f12, f13, f14] <;> omega) rfl ⟨rfl, (((((uw1.sC).sC).sC).sC).alloc _)⟩
theorem rnBP_2 (s t : ByteArray) (i1 d1 i2 d2 r1 r2 : Int) (HA : Hid (PIs s i1 d1 0)) (HB : Hid (PIs t i2 d2 r2)) (h1 : r2 ≠ 0) (w : World) (hE : EnvR w) :
  Calls Tryz.prog 116 #[.string s, .string t, .func (.func 115) #[] #[]] w fun ro w' => ro = .returned (.tuple #[.agg #[.int .i8 0, .int .i64 0, .int .i8 0, .int .i64 0], .int .i64 r2]) /\ Dn w w' := by
 have t1 : (r2 != 0) = true := by simpa using h1
 clear h1
 go_enter Tryz.func116, Tryz.ntmps116
 go_wp2_with fail
 obtain ⟨W1, hW1, uW1, c2, c3, c4, c5, l6, f7, f8, f9, f10⟩ := preKn37x1 w 
 rw [<- hW1]
 clear hW1
 refine (HA.out _ (hE.dn uW1)).mono ?_
 rintro e w1 ⟨rfl, qw1⟩
 have f11 := fz qw1 f7 l6
 have f12 := fz qw1 f8 l6
 have f13 := fz qw1 f9 l6
 have f14 := fz qw1 f10 l6
 have a0 := nlt l6 qw1.size
 obtain ⟨a2, a3, a4, a5⟩ := mv4 qw1.cell c2 c3 c4 c5
 clear f7 f8 f9 f10 l6 c2 c3 c4 c5
 have uw1 := uW1.trans qw1
 clear qw1 uW1
 go_wp2_with fail
 obtain ⟨W20, hW20⟩ : ∃ W20, W20 = w1.alloc (.cells #[.int .i8 i1, .int .i64 d1] 41) := ⟨_, rfl⟩
 have uW20 : Dn w1 W20 := by rw [hW20]; exact (Dn.refl _).alloc _
 have n21 : w.heap.size ≠ w1.heap.size := by have := a0; omega
 have f22 := fz uW20 f11 a0
 have f23 := fz uW20 f12 a0
 have f24 := fz uW20 f13 a0
 have f25 := fz uW20 f14 a0
 have a1 := nlt a0 uW20.size
 obtain ⟨a6, a7, a8, a9⟩ := mv4 uW20.cell a2 a3 a4 a5
 clear f11 f12 f13 f14 a0 a2 a3 a4 a5
 have aA : W20.cell? ⟨w1.heap.size, 0, none⟩ = some (.int .i8 i1) := by rw [hW20]; simp [go_sem]
 have aB : W20.cell? ⟨w1.heap.size, 1, none⟩ = some (.int .i64 d1) := by rw [hW20]; simp [go_sem]
 have aC : w1.heap.size < W20.heap.size := by rw [hW20]; simp <;> omega
 rw [<- hW20]
 clear hW20
 have vW20 := uw1.trans uW20
 clear uW20 uw1
 refine (HB.out _ (hE.dn vW20)).mono ?_
 rintro e w2 ⟨rfl, qw2⟩
 have f34 := fz qw2 f22 a1
 have f35 := fz qw2 f23 a1
 have f36 := fz qw2 f24 a1
 have f37 := fz qw2 f25 a1
 obtain ⟨aH, aI⟩ := nl2 qw2.size a1 aC
 obtain ⟨aD, aE, aF, aG, aJ, aK⟩ := mv6 qw2.cell a6 a7 a8 a9 aA aB
 clear f22 f23 f24 f25 a1 a6 a7 a8 a9 aC aA aB
 have uw2 := vW20.trans qw2
 clear qw2 vW20
 go_wp2_with fail
 have hC : C4 w2 (w.heap.size) (.int .i8 0) (.int .i64 0) (.int .i8 0) (.int .i64 0) := ⟨aD, aE, aF, aG, f34, f35, f36, f37, aH⟩
 have hZ := fun o : Obj => (hC.fill (.int .i8 0) (.int .i64 0) (.int .i8 0) (.int .i64 0)).alloc o
 have z0 := fun o : Obj => (hZ o).c0
 have y0 := fun o : Obj => (hZ o).f0
 have z1 := fun o : Obj => (hZ o).c1
 have y1 := fun o : Obj => (hZ o).f1
 have z2 := fun o : Obj => (hZ o).c2
 have y2 := fun o : Obj => (hZ o).f2
 have z3 := fun o : Obj => (hZ o).c3
 have y3 := fun o : Obj => (hZ o).f3
 exact bodyPost_ret (v := .tuple #[.agg #[.int .i8 0, .int .i64 0, .int .i8 0, .int .i64 0], .int .i64 r2]) (by simp [results, Tryz.results116, go_sem, z0, z1, z2, z3, y0, y1, y2, y3, aD, aE, aF, aG, f34, f35, f36, f37] <;> omega) rfl ⟨rfl, (((((uw2.sC).sC).sC).sC).alloc _)⟩
theorem rnBP_3 (s t : ByteArray) (i1 d1 i2 d2 r1 r2 : Int) (HA : Hid (PIs s i1 d1 0)) (HB : Hid (PIs t i2 d2 0)) (w : World) (hE : EnvR w) :
  Calls Tryz.prog 116 #[.string s, .string t, .func (.func 115) #[] #[]] w fun ro w' => ro = .returned (.tuple #[.agg #[.int .i8 i1, .int .i64 d1, .int .i8 i2, .int .i64 d2], .int .i64 0]) /\ Dn w w' := by
 go_enter Tryz.func116, Tryz.ntmps116
 go_wp2_with fail
 obtain ⟨W1, hW1, uW1, c2, c3, c4, c5, l6, f7, f8, f9, f10⟩ := preKn37x1 w 
 rw [<- hW1]
 clear hW1
 refine (HA.out _ (hE.dn uW1)).mono ?_
 rintro e w1 ⟨rfl, qw1⟩
 have f11 := fz qw1 f7 l6
 have f12 := fz qw1 f8 l6
 have f13 := fz qw1 f9 l6
 have f14 := fz qw1 f10 l6
 have a0 := nlt l6 qw1.size
 obtain ⟨a2, a3, a4, a5⟩ := mv4 qw1.cell c2 c3 c4 c5
 clear f7 f8 f9 f10 l6 c2 c3 c4 c5
 have uw1 := uW1.trans qw1
 clear qw1 uW1
 go_wp2_with fail
 obtain ⟨W20, hW20⟩ : ∃ W20, W20 = w1.alloc (.cells #[.int .i8 i1, .int .i64 d1] 41) := ⟨_, rfl⟩
 have uW20 : Dn w1 W20 := by rw [hW20]; exact (Dn.refl _).alloc _
 have n21 : w.heap.size ≠ w1.heap.size := by have := a0; omega
 have f22 := fz uW20 f11 a0
 have f23 := fz uW20 f12 a0
 have f24 := fz uW20 f13 a0
 have f25 := fz uW20 f14 a0
 have a1 := nlt a0 uW20.size
 obtain ⟨a6, a7, a8, a9⟩ := mv4 uW20.cell a2 a3 a4 a5
 clear f11 f12 f13 f14 a0 a2 a3 a4 a5
 have aA : W20.cell? ⟨w1.heap.size, 0, none⟩ = some (.int .i8 i1) := by rw [hW20]; simp [go_sem]
 have aB : W20.cell? ⟨w1.heap.size, 1, none⟩ = some (.int .i64 d1) := by rw [hW20]; simp [go_sem]
 have aC : w1.heap.size < W20.heap.size := by rw [hW20]; simp <;> omega
 rw [<- hW20]
 clear hW20
 have vW20 := uw1.trans uW20
 clear uW20 uw1
 refine (HB.out _ (hE.dn vW20)).mono ?_
 rintro e w2 ⟨rfl, qw2⟩
 have f34 := fz qw2 f22 a1
 have f35 := fz qw2 f23 a1
 have f36 := fz qw2 f24 a1
 have f37 := fz qw2 f25 a1
 obtain ⟨aH, aI⟩ := nl2 qw2.size a1 aC
 obtain ⟨aD, aE, aF, aG, aJ, aK⟩ := mv6 qw2.cell a6 a7 a8 a9 aA aB
 clear f22 f23 f24 f25 a1 a6 a7 a8 a9 aC aA aB
 have uw2 := vW20.trans qw2
 clear qw2 vW20
 go_wp2_with fail
 have hC : C4 w2 (w.heap.size) (.int .i8 0) (.int .i64 0) (.int .i8 0) (.int .i64 0) := ⟨aD, aE, aF, aG, f34, f35, f36, f37, aH⟩
 have hZ := fun o : Obj => (hC.fill (.int .i8 i1) (.int .i64 d1) (.int .i8 i2) (.int .i64 d2)).alloc o
 have z0 := fun o : Obj => (hZ o).c0
 have y0 := fun o : Obj => (hZ o).f0
 have z1 := fun o : Obj => (hZ o).c1
 have y1 := fun o : Obj => (hZ o).f1
 have z2 := fun o : Obj => (hZ o).c2
 have y2 := fun o : Obj => (hZ o).f2
 have z3 := fun o : Obj => (hZ o).c3
 have y3 := fun o : Obj => (hZ o).f3
 exact bodyPost_ret (v := .tuple #[.agg #[.int .i8 i1, .int .i64 d1, .int .i8 i2, .int .i64 d2], .int .i64 0]) (by simp [results, Tryz.results116, go_sem, z0, z1, z2, z3, y0, y1, y2, y3, aD, aE, aF, aG, f34, f35, f36, f37] <;> omega) rfl ⟨rfl, (((((uw2.sC).sC).sC).sC).alloc _)⟩
theorem preKn37x2 (w : World) : ∃ W1, W1 = w.alloc (.cells #[.int .i8 0, .int .i64 0, .int .i8 0, .int .i64 0] 45) /\ (Dn w W1) /\ (W1.cell? ⟨w.heap.size, 0, none⟩ = some (.int .i8 0)) /\ (W1.cell? ⟨w.heap.size, 1, none⟩ = some (.int .i64 0)) /\ (W1.cell? ⟨w.heap.size, 2, none⟩ = some (.int .i8 0)) /\ (W1.cell? ⟨w.heap.size, 3, none⟩ = some (.int .i64 0)) /\ (w.heap.size < W1.heap.size) /\ (W1.frozen? ⟨w.heap.size, 0, none⟩ = false) /\ (W1.frozen? ⟨w.heap.size, 1, none⟩ = false) /\ (W1.frozen? ⟨w.heap.size, 2, none⟩ = false) /\ (W1.frozen? ⟨w.heap.size, 3, none⟩ = false) := by
 obtain ⟨W1, hW1⟩ : ∃ W1, W1 = w.alloc (.cells #[.int .i8 0, .int .i64 0, .int .i8 0, .int .i64 0] 45) := ⟨_, rfl⟩
 refine ⟨W1, hW1, (by rw [hW1]; exact (Dn.refl _).alloc _), ?_, ?_, ?_, ?_, ?_, ?_, ?_, ?_, ?_⟩ <;> rw [hW1] <;> first | (simp [go_sem]; done) | (simp <;> omega)
theorem rnP_0 (s lo hi : ByteArray) (i1 d1 i2 d2 r1 r2 m : Int) (HC : Hid (∀ W, EnvR W -> Calls Tryz.prog 114 #[.string s, .string ⟨#[46, 46]⟩] W fun o w' => o = .returned (.tuple #[.string lo, .string hi, .bool false]) /\ Dn W w')) (w : World) (hE : EnvR w) :
  Calls Tryz.prog 77 #[.string s] w fun ro w' => ro = .returned (.tuple #[.agg #[.int .i8 0, .int .i64 0, .int .i8 0, .int .i64 0], .int .i64 5]) /\ Dn w w' := by
 go_enter Tryz.func77, Tryz.ntmps77
 go_wp2_with fail
 obtain ⟨W1, hW1, uW1, c2, c3, c4, c5, l6, f7, f8, f9, f10⟩ := preKn37x2 w 
 rw [<- hW1]
 clear hW1
 refine (HC.out _ (hE.dn uW1)).mono ?_
 rintro e w1 ⟨rfl, qw1⟩
 have f11 := fz qw1 f7 l6
 have f12 := fz qw1 f8 l6
 have f13 := fz qw1 f9 l6
 have f14 := fz qw1 f10 l6
 have a4 := nlt l6 qw1.size
 obtain ⟨a0, a1, a2, a3⟩ := mv4 qw1.cell c2 c3 c4 c5
 clear f7 f8 f9 f10 l6 c2 c3 c4 c5
 have uw1 := uW1.trans qw1
 clear qw1 uW1
 go_wp2_with fail
 exact bodyPost_ret (v := .tuple #[.agg #[.int .i8 0, .int .i64 0, .int .i8 0, .int .i64 0], .int .i64 5]) (by simp [results, Tryz.results77, go_sem, a0, a1, a2, a3, f11, f12, f13, f14] <;> omega) rfl ⟨rfl, ((((uw1.sC).sC).sC).sC)⟩
theorem rnP_1 (s lo hi : ByteArray) (i1 d1 i2 d2 r1 r2 m : Int) (HC : Hid (∀ W, EnvR W -> Calls Tryz.prog 114 #[.string s, .string ⟨#[46, 46]⟩] W fun o w' => o = .returned (.tuple #[.string lo, .string hi, .bool true]) /\ Dn W w')) (HP : Hid (PIs lo i1 d1 5)) (w : World) (hE : EnvR w) :
  Calls Tryz.prog 77 #[.string s] w fun ro w' => ro = .returned (.tuple #[.agg #[.int .i8 0, .int .i64 0, .int .i8 0, .int .i64 0], .int .i64 5]) /\ Dn w w' := by
 go_enter Tryz.func77, Tryz.ntmps77
 go_wp2_with fail
 obtain ⟨W1, hW1, uW1, c2, c3, c4, c5, l6, f7, f8, f9, f10⟩ := preKn37x2 w 
 rw [<- hW1]
 clear hW1
 refine (HC.out _ (hE.dn uW1)).mono ?_
 rintro e w1 ⟨rfl, qw1⟩
 have f11 := fz qw1 f7 l6
 have f12 := fz qw1 f8 l6
 have f13 := fz qw1 f9 l6
 have f14 := fz qw1 f10 l6
 have a0 := nlt l6 qw1.size
 obtain ⟨a2, a3, a4, a5⟩ := mv4 qw1.cell c2 c3 c4 c5
 clear f7 f8 f9 f10 l6 c2 c3 c4 c5
 have uw1 := uW1.trans qw1
 clear qw1 uW1
 go_wp2_with fail
 obtain ⟨W20, hW20⟩ : ∃ W20, W20 = w1.alloc (.cells #[.string lo, .string hi] 9) := ⟨_, rfl⟩
 have uW20 : Dn w1 W20 := by rw [hW20]; exact (Dn.refl _).alloc _
 have n21 : w.heap.size ≠ w1.heap.size := by have := a0; omega
 have f22 := fz uW20 f11 a0
 have f23 := fz uW20 f12 a0
 have f24 := fz uW20 f13 a0
 have f25 := fz uW20 f14 a0
 have a1 := nlt a0 uW20.size
 obtain ⟨a6, a7, a8, a9⟩ := mv4 uW20.cell a2 a3 a4 a5
 clear f11 f12 f13 f14 a0 a2 a3 a4 a5
 have aA : W20.cell? ⟨w1.heap.size, 0, none⟩ = some (.string lo) := by rw [hW20]; simp [go_sem]
 have aB : W20.cell? ⟨w1.heap.size, 1, none⟩ = some (.string hi) := by rw [hW20]; simp [go_sem]
 have aC : w1.heap.size < W20.heap.size := by rw [hW20]; simp <;> omega
 rw [<- hW20]
 clear hW20
 have vW20 := uw1.trans uW20
 clear uW20 uw1
 refine wp_loop_rounds 3 ?_
 rw [rounds_succ]
 go_wp2_with fail
 refine (HP.out _ (hE.dn vW20)).mono ?_
 rintro e w2 ⟨rfl, qw2⟩
 have f34 := fz qw2 f22 a1
 have f35 := fz qw2 f23 a1
 have f36 := fz qw2 f24 a1
 have f37 := fz qw2 f25 a1
 obtain ⟨aH, aI⟩ := nl2 qw2.size a1 aC
 obtain ⟨aD, aE, aF, aG, aJ, aK⟩ := mv6 qw2.cell a6 a7 a8 a9 aA aB
 clear f22 f23 f24 f25 a1 a6 a7 a8 a9 aC aA aB
 have uw2 := vW20.trans qw2
 clear qw2 vW20
 go_wp2_with fail
 have hC : C4 w2 (w.heap.size) (.int .i8 0) (.int .i64 0) (.int .i8 0) (.int .i64 0) := ⟨aD, aE, aF, aG, f34, f35, f36, f37, aH⟩
 have hZ := fun o : Obj => (hC.fill (.int .i8 0) (.int .i64 0) (.int .i8 0) (.int .i64 0)).alloc o
 have z0 := fun o : Obj => (hZ o).c0
 have y0 := fun o : Obj => (hZ o).f0
 have z1 := fun o : Obj => (hZ o).c1
 have y1 := fun o : Obj => (hZ o).f1
 have z2 := fun o : Obj => (hZ o).c2
 have y2 := fun o : Obj => (hZ o).f2
 have z3 := fun o : Obj => (hZ o).c3
 have y3 := fun o : Obj => (hZ o).f3
 exact bodyPost_ret (v := .tuple #[.agg #[.int .i8 0, .int .i64 0, .int .i8 0, .int .i64 0], .int .i64 5]) (by simp [results, Tryz.results77, go_sem, z0, z1, z2, z3, y0, y1, y2, y3, aD, aE, aF, aG, f34, f35, f36, f37] <;> omega) rfl ⟨rfl, (((((uw2.sC).sC).sC).sC).alloc _)⟩
theorem rnP_all (s lo hi : ByteArray) (i1 d1 i2 d2 r1 r2 v0 v1 v2 v3 m k : Int) (res : Value) (HC : Hid (∀ W, EnvR W -> Calls Tryz.prog 114 #[.string s, .string ⟨#[46, 46]⟩] W fun o w' => o = .returned (.tuple #[.string lo, .string hi, .bool true]) /\ Dn W w')) (HP : Hid (PIs lo i1 d1 r1)) (HQ : Hid (PIs hi i2 d2 r2)) (HB : Hid (r2 ≠ 5 -> ∀ W, EnvR W -> Calls Tryz.prog 116 #[.string lo, .string hi, .func (.func 115) #[] #[]] W fun o w' => o = .returned (.tuple #[.agg #[.int .i8 v0, .int .i64 v1, .int .i8 v2, .int .i64 v3], .int .i64 m]) /\ Dn W w')) (HK : Hid (ChkIs v0 v1 v2 v3 k)) (h1 : r1 ≠ 5) (HCASE : Hid ((r2 = 5 /\ res = .tuple #[.agg #[.int .i8 0, .int .i64 0, .int .i8 0, .int .i64 0], .int .i64 5]) \/ (r2 ≠ 5 /\ ((m ≠ 0 /\ res = .tuple #[.agg #[.int .i8 0, .int .i64 0, .int .i8 0, .int .i64 0], .int .i64 m]) \/ (m = 0 /\ ((k ≠ 0 /\ res = .tuple #[.agg #[.int .i8 0, .int .i64 0, .int .i8 0, .int .i64 0], .int .i64 k]) \/ (k = 0 /\ res = .tuple #[.agg #[.int .i8 v0, .int .i64 v1, .int .i8 v2, .int .i64 v3], .int .i64 0]))))))) (w : World) (hE : EnvR w) :
  Calls Tryz.prog 77 #[.string s] w fun ro w' => ro = .returned (res) /\ Dn w w' := by
 have t1 : (r1 == 5) = false := by simpa using h1
 clear h1
 go_enter Tryz.func77, Tryz.ntmps77
 go_wp2_with fail
 obtain ⟨W1, hW1, uW1, c2, c3, c4, c5, l6, f7, f8, f9, f10⟩ := preKn37x2 w 
 rw [<- hW1]
 clear hW1
 refine (HC.out _ (hE.dn uW1)).mono ?_
 rintro e w1 ⟨rfl, qw1⟩
 have f11 := fz qw1 f7 l6
 have f12 := fz qw1 f8 l6
 have f13 := fz qw1 f9 l6
 have f14 := fz qw1 f10 l6
 have a2 := nlt l6 qw1.size
 obtain ⟨aG, aH, aI, aJ⟩ := mv4 qw1.cell c2 c3 c4 c5
 clear f7 f8 f9 f10 l6 c2 c3 c4 c5
 have uw1 := uW1.trans qw1
 clear qw1 uW1
 go_wp2_with fail
 obtain ⟨W20, hW20⟩ : ∃ W20, W20 = w1.alloc (.cells #[.string lo, .string hi] 9) := ⟨_, rfl⟩
 have uW20 : Dn w1 W20 := by rw [hW20]; exact (Dn.refl _).alloc _
 have n21 : w.heap.size ≠ w1.heap.size := by have := a2; omega
 have f22 := fz uW20 f11 a2
 have f23 := fz uW20 f12 a2
 have f24 := fz uW20 f13 a2
 have f25 := fz uW20 f14 a2
 have a4 := nlt a2 uW20.size
 obtain ⟨aK, aL, aM, aN⟩ := mv4 uW20.cell aG aH aI aJ
 clear f11 f12 f13 f14 a2 aG aH aI aJ
 have aO : W20.cell? ⟨w1.heap.size, 0, none⟩ = some (.string lo) := by rw [hW20]; simp [go_sem]
 have aP : W20.cell? ⟨w1.heap.size, 1, none⟩ = some (.string hi) := by rw [hW20]; simp [go_sem]
 have aQ : w1.heap.size < W20.heap.size := by rw [hW20]; simp <;> omega
 rw [<- hW20]
 clear hW20
 have vW20 := uw1.trans uW20
 clear uW20 uw1
 refine wp_loop_rounds 3 ?_
 rw [rounds_succ]
 go_wp2_with fail
 refine (HP.out _ (hE.dn vW20)).mono ?_
 rintro e w2 ⟨rfl, qw2⟩
 have f34 := fz qw2 f22 a4
 have f35 := fz qw2 f23 a4
 have f36 := fz qw2 f24 a4
 have f37 := fz qw2 f25 a4
 obtain ⟨a3, aV⟩ := nl2 qw2.size a4 aQ
 obtain ⟨aR, aS, aT, aU, aW, aX⟩ := mv6 qw2.cell aK aL aM aN aO aP
 clear f22 f23 f24 f25 a4 aK aL aM aN aQ aO aP
 have uw2 := vW20.trans qw2
 clear qw2 vW20
 go_wp2_with fail
 obtain ⟨W46, hW46⟩ : ∃ W46, W46 = w2.alloc (.cells #[.int .i8 i1, .int .i64 d1] 41) := ⟨_, rfl⟩
 have uW46 : Dn w2 W46 := by rw [hW46]; exact (Dn.refl _).alloc _
 have n47 : w.heap.size ≠ w2.heap.size := by have := a3; omega
 have f48 := fz uW46 f34 a3
 have f49 := fz uW46 f35 a3
 have f50 := fz uW46 f36 a3
 have f51 := fz uW46 f37 a3
 obtain ⟨a5, b2⟩ := nl2 uW46.size a3 aV
 obtain ⟨aY, aZ, b0, b1, b3, b4⟩ := mv6 uW46.cell aR aS aT aU aW aX
 clear f34 f35 f36 f37 a3 aR aS aT aU aV aW aX
 have b5 : W46.cell? ⟨w2.heap.size, 0, none⟩ = some (.int .i8 i1) := by rw [hW46]; simp [go_sem]
 have b6 : W46.cell? ⟨w2.heap.size, 1, none⟩ = some (.int .i64 d1) := by rw [hW46]; simp [go_sem]
 have b7 : w2.heap.size < W46.heap.size := by rw [hW46]; simp <;> omega
 rw [<- hW46]
 clear hW46
 have vW46 := uw2.trans uW46
 clear uW46 uw2
 rw [rounds_succ]
 go_wp2_with fail
 refine (HQ.out _ (hE.dn vW46)).mono ?_
 rintro e w3 ⟨rfl, qw3⟩
 have f63 := fz qw3 f48 a5
 have f64 := fz qw3 f49 a5
 have f65 := fz qw3 f50 a5
 have f66 := fz qw3 f51 a5
 obtain ⟨a1, b8, bB⟩ := nl3 qw3.size a5 b2 b7
 obtain ⟨a8, a9, aA, aB, b9, bA, bC, bD⟩ := mv8 qw3.cell aY aZ b0 b1 b3 b4 b5 b6
 clear f48 f49 f50 f51 a5 aY aZ b0 b1 b2 b3 b4 b7 b5 b6
 have uw3 := vW46.trans qw3
 clear qw3 vW46
 rcases HCASE.out with ⟨rfl, rfl⟩ | ⟨h2, hx⟩
 all_goals clear HCASE
 ·
  go_wp2_with fail; have hC : C4 w3 (w.heap.size) (.int .i8 0) (.int .i64 0) (.int .i8 0) (.int .i64 0) := ⟨a8, a9, aA, aB, f63, f64, f65, f66, a1⟩
  have hZ := fun o : Obj => (hC.fill (.int .i8 0) (.int .i64 0) (.int .i8 0) (.int .i64 0)).alloc o
  have z0 := fun o : Obj => (hZ o).c0
  have y0 := fun o : Obj => (hZ o).f0
  have z1 := fun o : Obj => (hZ o).c1
  have y1 := fun o : Obj => (hZ o).f1
  have z2 := fun o : Obj => (hZ o).c2
  have y2 := fun o : Obj => (hZ o).f2
  have z3 := fun o : Obj => (hZ o).c3
  have y3 := fun o : Obj => (hZ o).f3
  exact bodyPost_ret (v := .tuple #[.agg #[.int .i8 0, .int .i64 0, .int .i8 0, .int .i64 0], .int .i64 5]) (by simp [results, Tryz.results77, go_sem, z0, z1, z2, z3, y0, y1, y2, y3, a8, a9, aA, aB, f63, f64, f65, f66] <;> omega) rfl ⟨rfl, (((((uw3.sC).sC).sC).sC).alloc _)⟩
 ·
  have HB1 := Lib.hid (HB.out h2); clear HB
  have t2 : (r2 == 5) = false := by simpa using h2
  clear h2; have HX := Lib.hid hx; clear hx; go_wp2_with fail; obtain ⟨W78, hW78⟩ : ∃ W78, W78 = w3.alloc (.cells #[.int .i8 i2, .int .i64 d2] 41) := ⟨_, rfl⟩
  have uW78 : Dn w3 W78 := by rw [hW78]; exact (Dn.refl _).alloc _
  have n79 : w.heap.size ≠ w3.heap.size := by have := a1; omega
  have f80 := fz uW78 f63 a1; have f81 := fz uW78 f64 a1; have f82 := fz uW78 f65 a1; have f83 := fz uW78 f66 a1; obtain ⟨a6, bI, bL⟩ := nl3 uW78.size a1 b8 bB; obtain ⟨bE, bF, bG, bH, bJ, bK, bM, bN⟩ := mv8 uW78.cell a8 a9 aA aB b9 bA bC bD; clear f63 f64 f65 f66 a1 a8 a9 aA aB b8 b9 bA bB bC bD
  have bO : W78.cell? ⟨w3.heap.size, 0, none⟩ = some (.int .i8 i2) := by rw [hW78]; simp [go_sem]
  have bP : W78.cell? ⟨w3.heap.size, 1, none⟩ = some (.int .i64 d2) := by rw [hW78]; simp [go_sem]
  have bQ : w3.heap.size < W78.heap.size := by rw [hW78]; simp <;> omega
  rw [<- hW78]; clear hW78; have vW78 := uw3.trans uW78; clear uW78 uw3; rw [rounds_succ]; go_wp2_with fail; refine (HB1.out _ (hE.dn vW78)).mono ?_; rintro e w4 ⟨rfl, qw4⟩; have f98 := fz qw4 f80 a6; have f99 := fz qw4 f81 a6; have f100 := fz qw4 f82 a6; have f101 := fz qw4 f83 a6; obtain ⟨a0, bR, bU, bX⟩ := nl4 qw4.size a6 bI bL bQ; obtain ⟨aC, aD, aE, aF, bS, bT, bV, bW, bY, bZ⟩ := mv10 qw4.cell bE bF bG bH bJ bK bM bN bO bP; clear f80 f81 f82 f83 a6 bE bF bG bH bI bJ bK bL bM bN bQ bO bP; have uw4 := vW78.trans qw4; clear qw4 vW78; rcases HX.out with ⟨h3, rfl⟩ | ⟨rfl, hx⟩
  all_goals clear HX
  ·
   have t3 : (m != 0) = true := by simpa using h3
   clear h3; go_wp2_with fail; have hC : C4 w4 (w.heap.size) (.int .i8 0) (.int .i64 0) (.int .i8 0) (.int .i64 0) := ⟨aC, aD, aE, aF, f98, f99, f100, f101, a0⟩
   have hZ := fun o : Obj => (hC.fill (.int .i8 0) (.int .i64 0) (.int .i8 0) (.int .i64 0)).alloc o
   have z0 := fun o : Obj => (hZ o).c0
   have y0 := fun o : Obj => (hZ o).f0
   have z1 := fun o : Obj => (hZ o).c1
   have y1 := fun o : Obj => (hZ o).f1
   have z2 := fun o : Obj => (hZ o).c2
   have y2 := fun o : Obj => (hZ o).f2
   have z3 := fun o : Obj => (hZ o).c3
   have y3 := fun o : Obj => (hZ o).f3
   exact bodyPost_ret (v := .tuple #[.agg #[.int .i8 0, .int .i64 0, .int .i8 0, .int .i64 0], .int .i64 m]) (by simp [results, Tryz.results77, go_sem, z0, z1, z2, z3, y0, y1, y2, y3, aC, aD, aE, aF, f98, f99, f100, f101] <;> omega) rfl ⟨rfl, (((((uw4.sC).sC).sC).sC).alloc _)⟩
  ·
   have HX := Lib.hid hx; clear hx; go_wp2_with fail; obtain ⟨W116, hW116⟩ : ∃ W116, W116 = (w4.alloc (.cells #[.int .i8 v0, .int .i64 v1, .int .i8 v2, .int .i64 v3] 139)).alloc (.cells #[.int .i8 v0, .int .i64 v1, .int .i8 v2, .int .i64 v3] 45) := ⟨_, rfl⟩
   have uW116 : Dn w4 W116 := by rw [hW116]; exact ((Dn.refl _).alloc _).alloc _
   have n117 : w.heap.size ≠ w4.heap.size := by have := a0; omega
   have n118 : w.heap.size ≠ w4.heap.size + 1 := by have := a0; omega
   have f119 := fz uW116 f98 a0; have f120 := fz uW116 f99 a0; have f121 := fz uW116 f100 a0; have f122 := fz uW116 f101 a0; obtain ⟨a7, cA, cE, cH⟩ := nl4 uW116.size a0 bR bU bX; obtain ⟨c6, c7, c8, c9, cB, cC, cF, cG, cI, cJ⟩ := mv10 uW116.cell aC aD aE aF bS bT bV bW bY bZ; clear f98 f99 f100 f101 a0 aC aD aE aF bR bS bT bU bV bW bX bY bZ
   have cK : W116.cell? ⟨w4.heap.size, 0, none⟩ = some (.int .i8 v0) := by rw [hW116]; simp [go_sem]
   have cL : W116.cell? ⟨w4.heap.size, 1, none⟩ = some (.int .i64 v1) := by rw [hW116]; simp [go_sem]
   have cM : W116.cell? ⟨w4.heap.size, 2, none⟩ = some (.int .i8 v2) := by rw [hW116]; simp [go_sem]
   have cN : W116.cell? ⟨w4.heap.size, 3, none⟩ = some (.int .i64 v3) := by rw [hW116]; simp [go_sem]
   have cO : w4.heap.size < W116.heap.size := by rw [hW116]; simp <;> omega
   have cP : W116.cell? ⟨w4.heap.size + 1, 0, none⟩ = some (.int .i8 v0) := by rw [hW116]; simp [go_sem]
   have cQ : W116.cell? ⟨w4.heap.size + 1, 1, none⟩ = some (.int .i64 v1) := by rw [hW116]; simp [go_sem]
   have cR : W116.cell? ⟨w4.heap.size + 1, 2, none⟩ = some (.int .i8 v2) := by rw [hW116]; simp [go_sem]
   have cS : W116.cell? ⟨w4.heap.size + 1, 3, none⟩ = some (.int .i64 v3) := by rw [hW116]; simp [go_sem]
   have cT : w4.heap.size + 1 < W116.heap.size := by rw [hW116]; simp <;> omega
   rw [<- hW116]; clear hW116; have vW116 := uw4.trans uW116; clear uW116 uw4; refine (HK.out _).mono ?_; rintro e w5 ⟨rfl, qw5⟩; have f147 := fz qw5 f119 a7; have f148 := fz qw5 f120 a7; have f149 := fz qw5 f121 a7; have f150 := fz qw5 f122 a7; obtain ⟨dE, dF, dG, dH, dI, dJ⟩ := nl6 qw5.size a7 cA cE cH cO cT; obtain ⟨cU, cV, cW, cX, cY, cZ, d0, d3, d4, d5, d6, d7, d8, d9, dA, dB⟩ := mv16 qw5.cell c6 c7 c8 c9 cB cC cF cG cI cJ cK cL cM cN cP cQ; have dC := qw5.cell cR; have dD := qw5.cell cS; clear f119 f120 f121 f122 a7 c6 c7 c8 c9 cA cB cC cE cF cG cH cI cJ cO cK cL cM cN cT cP cQ cR cS; have uw5 := vW116.trans qw5; clear qw5 vW116; rcases HX.out with ⟨h4, rfl⟩ | ⟨rfl, rfl⟩
   all_goals clear HX
   ·
    have t4 : (k != 0) = true := (by simpa using h4); clear h4; go_wp2_with fail; exact bodyPost_ret (v := .tuple #[.agg #[.int .i8 0, .int .i64 0, .int .i8 0, .int .i64 0], .int .i64 k]) (by simp [results, Tryz.results77, go_sem, cU, cV, cW, cX, cY, cZ, d0, d3, d4, d5, d6, d7, d8, d9, dA, dB, dC, dD, f147, f148, f149, f150] <;> omega) rfl ⟨rfl, ((((uw5.sC).sC).sC).sC)⟩
   ·
    go_wp2_with fail; exact bodyPost_ret (v := .tuple #[.agg #[.int .i8 v0, .int .i64 v1, .int .i8 v2, .int .i64 v3], .int .i64 0]) (by simp [results, Tryz.results77, go_sem, cU, cV, cW, cX, cY, cZ, d0, d3, d4, d5, d6, d7, d8, d9, dA, dB, dC, dD, f147, f148, f149, f150] <;> omega) rfl ⟨rfl, ((((uw5.sC).sC).sC).sC)⟩
open Go.RowKit
set_option linter.unusedVariables false
set_option linter.unusedSimpArgs false
def F9 (a b c d : Int) (is : Bool) (e f g h : Int) (there : Bool) : Prop := (there = true /\ is = true /\ a = e /\ b = f /\ c = g /\ d = h) \/ (there = false /\ is = false /\ a = 0 /\ b = 0 /\ c = 0 /\ d = 0)
def G9 (a b c d r e f g h bad : Int) : Prop := (bad = 0 /\ r = 0 /\ a = e /\ b = f /\ c = g /\ d = h) \/ (bad ≠ 0 /\ r = bad /\ a = 0 /\ b = 0 /\ c = 0 /\ d = 0)
instance decF9 (a b c d : Int) (is : Bool) (e f g h : Int) (there : Bool) : Decidable (F9 a b c d is e f g h there) := by unfold F9; infer_instance
instance decG9 (a b c d r e f g h bad : Int) : Decidable (G9 a b c d r e f g h bad) := by unfold G9; infer_instance
theorem eMin_is (i d j f : Int) (w : World) : Calls Tryz.prog 124 #[.agg #[.int .i8 i, .int .i64 d], .agg #[.int .i8 j, .int .i64 f]] w fun e w' => e = .returned (.agg #[.int .i8 (mnI i d j f), .int .i64 (mnD i d j f)]) /\ Up w w' := by
 unfold mnI mnD
 by_cases h : eC j f i d < 0
 · rw [if_pos h, if_pos h]; exact eMin_2 i d j f w h
 · rw [if_neg h, if_neg h]; exact eMin_1 i d j f w h
theorem eMax_is (i d j f : Int) (w : World) : Calls Tryz.prog 125 #[.agg #[.int .i8 i, .int .i64 d], .agg #[.int .i8 j, .int .i64 f]] w fun e w' => e = .returned (.agg #[.int .i8 (mxI i d j f), .int .i64 (mxD i d j f)]) /\ Up w w' := by
 unfold mxI mxD
 by_cases h : 0 < eC j f i d
 · rw [if_pos h, if_pos h]; exact eMax_2 i d j f w h
 · rw [if_neg h, if_neg h]; exact eMax_1 i d j f w h
def JnR (a b c d e f g h i1 d1 i2 d2 : Int) (is : Bool) : Prop :=
 (Tch a b c d e f g h /\ is = true /\ i1 = mnI a b e f /\ d1 = mnD a b e f /\ i2 = mxI c d g h /\ d2 = mxD c d g h) \/ (¬ Tch a b c d e f g h /\ is = false /\ i1 = 0 /\ d1 = 0 /\ i2 = 0 /\ d2 = 0)
def CmR (a b c d e f g h i1 d1 i2 d2 : Int) (is : Bool) : Prop :=
 (Meet a b c d e f g h /\ is = true /\ i1 = mxI a b e f /\ d1 = mxD a b e f /\ i2 = mnI c d g h /\ d2 = mnD c d g h) \/ (¬ Meet a b c d e f g h /\ is = false /\ i1 = 0 /\ d1 = 0 /\ i2 = 0 /\ d2 = 0)
instance decJnR (a b c d e f g h i1 d1 i2 d2 : Int) (is : Bool) : Decidable (JnR a b c d e f g h i1 d1 i2 d2 is) := by unfold JnR; infer_instance
instance decCmR (a b c d e f g h i1 d1 i2 d2 : Int) (is : Bool) : Decidable (CmR a b c d e f g h i1 d1 i2 d2 is) := by unfold CmR; infer_instance
theorem rnJoin (a b c d e f g h i1 d1 i2 d2 : Int) (is : Bool) (w : World) (hb : I64 b) (hd : I64 d) (hf : I64 f) (hh : I64 h) (k : JnR a b c d e f g h i1 d1 i2 d2 is) :
   Calls Tryz.prog 84 #[.agg #[.int .i8 a, .int .i64 b, .int .i8 c, .int .i64 d], .agg #[.int .i8 e, .int .i64 f, .int .i8 g, .int .i64 h]] w fun ro w' => ro = .returned (.tuple #[.agg #[.int .i8 i1, .int .i64 d1, .int .i8 i2, .int .i64 d2], .bool is]) /\ Dn w w' := by
 have HT := Lib.hid (fun W => rnTouch a b c d e f g h W hb hd hf hh)
 rcases k with ⟨k, rfl, rfl, rfl, rfl, rfl⟩ | ⟨k, rfl, rfl, rfl, rfl, rfl⟩
 · rw [decide_eq_true k] at HT
   exact rnJoin_yes a b c d e f g h _ _ _ _ HT (Lib.hid fun W => eMin_is a b e f W) (Lib.hid fun W => eMax_is c d g h W) w
 · rw [decide_eq_false k] at HT
   exact rnJoin_no a b c d e f g h HT w
theorem rnCommon (a b c d e f g h i1 d1 i2 d2 : Int) (is : Bool) (w : World) (hb : I64 b) (hd : I64 d) (hf : I64 f) (hh : I64 h) (k : CmR a b c d e f g h i1 d1 i2 d2 is) :
   Calls Tryz.prog 105 #[.agg #[.int .i8 a, .int .i64 b, .int .i8 c, .int .i64 d], .agg #[.int .i8 e, .int .i64 f, .int .i8 g, .int .i64 h]] w fun ro w' => ro = .returned (.tuple #[.agg #[.int .i8 i1, .int .i64 d1, .int .i8 i2, .int .i64 d2], .bool is]) /\ Dn w w' := by
 have HR := Lib.hid (fun W => rnRight a b c d e f g h W hb hd hf hh)
 have HM := Lib.hid (fun W => eMax_is a b e f W)
 have HX := Lib.hid (fun W => eMin_is c d g h W)
 by_cases h0 : RnOk a b c d /\ RnOk e f g h
 · rw [decide_eq_true h0] at HR
   have hok := common_ok hb hd hf hh h0.1 h0.2; have herr := rnErr_ok (a := mxI a b e f) (b := mxD a b e f) (c := mnI c d g h) (d := mnD c d g h) (mx_i64 hb hf) (mn_i64 hd hh); have HC : Hid (ChkIs (mxI a b e f) (mxD a b e f) (mnI c d g h) (mnD c d g h) (rnErr (mxI a b e f) (mxD a b e f) (mnI c d g h) (mnD c d g h))) := Lib.hid (rnChk _ _ _ _); rcases k with ⟨k, rfl, rfl, rfl, rfl, rfl⟩ | ⟨k, rfl, rfl, rfl, rfl, rfl⟩
   · rw [herr.2 (hok.2 k)] at HC
     exact rnCom_3 a b c d e f g h _ _ _ _ HM HX HR HC w
   · exact rnCom_2 a b c d e f g h _ _ _ _ HM HX HR _ HC (fun hc => k (hok.1 (herr.1 hc))) w
 · rw [decide_eq_false h0] at HR
   rcases k with ⟨k, rfl, rfl, rfl, rfl, rfl⟩ | ⟨k, rfl, rfl, rfl, rfl, rfl⟩
   · exact absurd ⟨k.1, k.2.1⟩ h0
   · exact rnCom_1 a b c d e f g h _ _ _ _ HM HX HR w
def RP (s : ByteArray) (q0 q1 q2 q3 r : Int) : Prop :=
 ((Lib.cut s.data.toList [46, 46]).2.2 = false /\ q0 = 0 /\ q1 = 0 /\ q2 = 0 /\ q3 = 0 /\ r = 5) \/
 ((Lib.cut s.data.toList [46, 46]).2.2 = true /\ ∃ i1 d1 r1 i2 d2 r2, EP ⟨(Lib.cut s.data.toList [46, 46]).1.toArray⟩ i1 d1 r1 /\ EP ⟨(Lib.cut s.data.toList [46, 46]).2.1.toArray⟩ i2 d2 r2 /\
  (((r1 = 5 \/ r2 = 5) /\ q0 = 0 /\ q1 = 0 /\ q2 = 0 /\ q3 = 0 /\ r = 5) \/ (r1 ≠ 5 /\ r2 ≠ 5 /\ (r1 ≠ 0 \/ r2 ≠ 0) /\ q0 = 0 /\ q1 = 0 /\ q2 = 0 /\ q3 = 0 /\ r = 15) \/
   (r1 = 0 /\ r2 = 0 /\ rnErr i1 d1 i2 d2 ≠ 0 /\ q0 = 0 /\ q1 = 0 /\ q2 = 0 /\ q3 = 0 /\ r = rnErr i1 d1 i2 d2) \/ (r1 = 0 /\ r2 = 0 /\ rnErr i1 d1 i2 d2 = 0 /\ q0 = i1 /\ q1 = d1 /\ q2 = i2 /\ q3 = d2 /\ r = 0)))
theorem ep_err {s : ByteArray} {i d r : Int} (h : EP s i d r) : r = 0 \/ r = 5 \/ r = 15 := by
 rcases h with ⟨_, _, _, rfl⟩ | ⟨_, _, _, rfl⟩ | ⟨_, _, _, ⟨_, ⟨_, _, rfl⟩ | ⟨_, _, rfl⟩⟩ | ⟨_, _, rfl⟩⟩ <;> simp
theorem ep_i64 {s : ByteArray} {i d r : Int} (h : EP s i d r) : I64 d := by
 rcases h with ⟨_, _, rfl, _⟩ | ⟨_, _, rfl, _⟩ | ⟨_, _, _, ⟨_, hf⟩ | ⟨_, rfl, _⟩⟩
 · decide
 · decide
 · exact hf.i64
 · decide
theorem cut_size (s : ByteArray) : (Lib.cut s.data.toList [46, 46]).1.length <= s.size /\ (Lib.cut s.data.toList [46, 46]).2.1.length <= s.size := by
 have hs : s.data.toList.length = s.size := by simp
 unfold Lib.cut
 split
 · constructor
   · rw [<- hs]; simp only [List.length_take]; omega
   · rw [<- hs]; simp only [List.length_drop]; omega
 · exact ⟨by rw [<- hs]; exact Nat.le_refl _, by simp⟩
theorem rnParse (s : ByteArray) (q0 q1 q2 q3 r : Int) (w : World) (hs : s.size <= 1000) (h : RP s q0 q1 q2 q3 r) (hE : EnvR w) :
   Calls Tryz.prog 77 #[.string s] w fun ro w' => ro = .returned (.tuple #[.agg #[.int .i8 q0, .int .i64 q1, .int .i8 q2, .int .i64 q3], .int .i64 r]) /\ Dn w w' := by
 have hz := cut_size s
 have HC : Hid (∀ W, EnvR W -> Calls Tryz.prog 114 #[.string s, .string ⟨#[46, 46]⟩] W fun o w' => o = .returned (.tuple #[.string ⟨(Lib.cut s.data.toList [46, 46]).1.toArray⟩, .string ⟨(Lib.cut s.data.toList [46, 46]).2.1.toArray⟩, .bool (Lib.cut s.data.toList [46, 46]).2.2]) /\ Dn W w') :=
   Lib.hid fun W hW => by
     obtain ⟨m, hm⟩ := hW.m; refine (Tryz.strings_Cut s ⟨#[46, 46]⟩ m W (by omega) hm).mono ?_; rintro o w' ⟨rfl, n, rfl⟩; exact ⟨rfl, dn_drewN W n⟩
 generalize hcut : Lib.cut s.data.toList [46, 46] = C at *
 obtain ⟨lo, hi, fd⟩ := C
 dsimp only at *
 unfold RP at h
 rw [hcut] at h
 dsimp only at h
 rcases h with ⟨rfl, rfl, rfl, rfl, rfl, rfl⟩ | ⟨rfl, i1, d1, r1, i2, d2, r2, h1, h2, hx⟩
 · exact rnP_0 s _ _ 0 0 0 0 0 0 0 HC w hE
 · have s1 : (⟨lo.toArray⟩ : ByteArray).size <= 1000 := by have := hz.1; simp [ByteArray.size]; omega
   have s2 : (⟨hi.toArray⟩ : ByteArray).size <= 1000 := by have := hz.2; simp [ByteArray.size]; omega
   have H1 : Hid (PIs ⟨lo.toArray⟩ i1 d1 r1) := Lib.hid fun W hW => eParse _ i1 d1 r1 W s1 h1 hW.i
   have H2 : Hid (PIs ⟨hi.toArray⟩ i2 d2 r2) := Lib.hid fun W hW => eParse _ i2 d2 r2 W s2 h2 hW.i
   have e1 := ep_err h1; have e2 := ep_err h2; have HK : Hid (ChkIs i1 d1 i2 d2 (rnErr i1 d1 i2 d2)) := Lib.hid (rnChk i1 d1 i2 d2); rcases hx with ⟨h5, rfl, rfl, rfl, rfl, rfl⟩ | ⟨n1, n2, h0, rfl, rfl, rfl, rfl, rfl⟩ | ⟨rfl, rfl, hk, rfl, rfl, rfl, rfl, rfl⟩ | ⟨rfl, rfl, hk, rfl, rfl, rfl, rfl, rfl⟩
   · by_cases h51 : r1 = 5
     · subst h51; exact rnP_1 s _ _ i1 d1 0 0 0 0 0 HC H1 w hE
     · have h52 : r2 = 5 := by omega
       subst h52; exact rnP_all s _ _ i1 d1 i2 d2 r1 _ 0 0 0 0 0 _ _ HC H1 H2 (Lib.hid (fun hc => absurd rfl hc)) (Lib.hid (rnChk 0 0 0 0)) h51 (Lib.hid (.inl ⟨rfl, rfl⟩)) w hE
   · by_cases z1 : r1 = 0
     · have z2 : r2 = 15 := by omega
       subst z1; subst z2; exact rnP_all s _ _ i1 d1 i2 d2 0 15 0 0 0 0 15 _ _ HC H1 H2 (Lib.hid fun _ W hW => rnBP_2 _ _ i1 d1 i2 d2 0 15 H1 H2 (by decide) W hW) (Lib.hid (rnChk 0 0 0 0)) (by decide) (Lib.hid (.inr ⟨by decide, .inl ⟨by decide, rfl⟩⟩)) w hE
     · have z2 : r1 = 15 := by omega
       subst z2; exact rnP_all s _ _ i1 d1 i2 d2 15 r2 0 0 0 0 15 _ _ HC H1 H2 (Lib.hid fun _ W hW => rnBP_1 _ _ i1 d1 0 0 15 0 H1 (by decide) W hW) (Lib.hid (rnChk 0 0 0 0)) (by decide) (Lib.hid (.inr ⟨n2, .inl ⟨by decide, rfl⟩⟩)) w hE
   · exact rnP_all s _ _ i1 d1 i2 d2 0 0 _ _ _ _ 0 _ _ HC H1 H2 (Lib.hid fun _ W hW => rnBP_3 _ _ i1 d1 i2 d2 0 0 H1 H2 W hW) HK (by decide) (Lib.hid (.inr ⟨by decide, .inr ⟨rfl, .inl ⟨hk, rfl⟩⟩⟩)) w hE
   · rw [hk] at HK
     exact rnP_all s _ _ _ _ _ _ 0 0 _ _ _ _ 0 _ _ HC H1 H2 (Lib.hid fun _ W hW => rnBP_3 _ _ _ _ _ _ 0 0 H1 H2 W hW) HK (by decide) (Lib.hid (.inr ⟨by decide, .inr ⟨rfl, .inr ⟨rfl, rfl⟩⟩⟩)) w hE
open Go.RowKit
set_option linter.unusedVariables false
abbrev Rn := Int × Int × Int × Int
def rc (r : Rn) : List Value := [.int .i8 r.1, .int .i64 r.2.1, .int .i8 r.2.2.1, .int .i64 r.2.2.2]
theorem infoRun : (Tryz.prog.info? 45).map (fun i => (i.zero, i.size, i.bytes)) = some (some (.agg #[.int .i8 0, .int .i64 0, .int .i8 0, .int .i64 0]), 4, 32) := by kernel_rfl
structure OwnR (w : World) (base : Nat) (v : Value) (rs : List Rn) : Prop where
 own : w.ownsRow base 45 4 v rs.length (rs.flatMap rc)
 ok : ∀ r ∈ rs, I64 r.2.1 /\ I64 r.2.2.2
theorem OwnR.nil (w : World) (base : Nat) : OwnR w base (.slice none 0 0) [] := ⟨World.ownsRow_nil _ _ _ _, fun _ h => by cases h⟩
theorem OwnR.kept {w w' : World} {base : Nat} {v : Value} {rs : List Rn} {row : Option Nat} (h : OwnR w base v rs) (hg : w.grownBy w' row) (hr : ∀ k, row = some k -> k < base) : OwnR w' base v rs :=
 ⟨h.own.kept hg (by
  cases hv : v.ownBlock with
  | none => exact Or.inl rfl
  | some g =>
    right; intro e; have := (h.own.lt g hv).1; have := hr g e.symm
    omega), h.ok⟩
theorem OwnR.dn {w w' : World} {base : Nat} {v : Value} {rs : List Rn} (h : OwnR w base v rs) (k : Dn w w') : OwnR w' base v rs := h.kept (grown_dn k none) (fun _ e => by cases e)
theorem OwnR.row {w : World} {base : Nat} {v : Value} {rs : List Rn} (h : OwnR w base v rs) : ∀ k, v.ownBlock = some k -> base <= k := fun k hk => (h.own.lt k hk).1
theorem rc_get : ∀ (rs : List Rn) (i j : Nat) (r : Rn), rs[i]? = some r -> j < 4 -> (rs.flatMap rc)[i * 4 + j]? = (rc r)[j]?
 | [], i, j, r, h, _ => by simp at h
 | x :: rs, 0, j, r, h, hj => by
   simp at h; subst h; simp only [List.flatMap_cons]; rw [List.getElem?_append_left (by simp [rc]; omega)]; simp
 | x :: rs, i + 1, j, r, h, hj => by
   have := rc_get rs i j r (by simpa using h) hj; simp only [List.flatMap_cons]; rw [List.getElem?_append_right (by simp [rc]; omega)]
   have e : (i + 1) * 4 + j - (rc x).length = i * 4 + j := by simp [rc]; omega
   rw [e]; exact this
theorem OwnR.form {w : World} {base : Nat} {v : Value} {rs : List Rn} (h : OwnR w base v rs) (hn : rs ≠ []) : ∃ g cap, v = .slice (some ⟨g, 0, none⟩) rs.length cap /\ base <= g /\ rs.length <= cap /\
   ∀ (i : Nat) (r : Rn), rs[i]? = some r -> ∀ j u, (rc r)[j]? = some u -> w.cell? ⟨g, i * 4 + j, none⟩ = some u := by
 rcases h.own.2 with ⟨rfl, h0⟩ | ⟨g, cap, cur, rfl, hb, hg, h1, h2, h3, h4⟩
 · exact absurd (List.length_eq_zero_iff.1 h0) hn
 · refine ⟨g, cap, rfl, hb, h1, fun i r hi j u hu => ?_⟩
   have hj : j < 4 := by
    rcases Nat.lt_or_ge j 4 with h | h
    · exact h
    · rw [List.getElem?_eq_none (by simp [rc]; omega)] at hu; cases hu
   have := h.own.cells (g := g) rfl (i * 4 + j) u (by rw [rc_get rs i j r hi hj]; exact hu)
   have hadd : (⟨g, 0, none⟩ : Addr).add (i * 4 + j) = ⟨g, i * 4 + j, none⟩ := by unfold Addr.add; split <;> simp_all
   rwa [hadd] at this
end Go.Proofs.YtoghoddjkdoohaaGreatDoor
