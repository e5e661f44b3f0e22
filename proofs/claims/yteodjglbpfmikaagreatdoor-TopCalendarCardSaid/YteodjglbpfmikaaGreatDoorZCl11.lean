/- Walks and laws that the claim's theorem leans on: part 11. -/
import Derived.Test.YteodjglbpfmikaaGreatDoorZCl1
import Derived.Test.YteodjglbpfmikaaGreatDoorZCl2
import Derived.Test.YteodjglbpfmikaaGreatDoorZCl3
import Derived.Test.YteodjglbpfmikaaGreatDoorZCl4
import Derived.Test.YteodjglbpfmikaaGreatDoorZCl8
import Derived.Test.YteodjglbpfmikaaGreatDoorZCl10
import Derived.Maps.RangeWalk
import Derived.RegionTactic
import Derived.Deep.RegionLaw
import Derived.Deep.AppendLies
import Derived.WalkSmall
import Derived.LoopN
import Derived.Laws.RangeString
import Derived.Laws.RangeAny
import Derived.Deep.WholeRow
import Derived.WalkMore
namespace Go.Proofs.YteodjglbpfmikaaGreatDoor
set_option maxHeartbeats 2000000
set_option maxRecDepth 100000
open Go.RowKit Go.ChangeMaps Go.MapKept
def kM : Value := .agg #[.int .i8 (-1), .int .i64 0]
def kP : Value := .agg #[.int .i8 1, .int .i64 0]
def sM : ByteArray := ⟨#[45, 105, 110, 102]⟩
def sP : ByteArray := ⟨#[105, 110, 102]⟩
theorem ckE (em : Bool) (i d : Int) (w : World) : (Instr.checkKey em 10000 28 (.agg #[.int .i8 i, .int .i64 d])).run Tryz.prog w = .ok () w := by kernel_rfl
theorem fk0 (x : Value) (w : World) : (Instr.findKey 28 x []).run Tryz.prog w = .ok none w := by kernel_rfl
theorem fkPM (n : Nat) (w : World) : (Instr.findKey 28 kP [⟨kM, .string sM, n⟩]).run Tryz.prog w = .ok none w := by kernel_rfl
theorem fkMP (n : Nat) (w : World) : (Instr.findKey 28 kM [⟨kP, .string sP, n⟩]).run Tryz.prog w = .ok none w := by kernel_rfl
theorem insE (w : World) (b : Nat) (es : Array MapEntry) (c : Nat) (i d : Int) (val : Value) (hb : w.heap[b]? = some (.map es c)) (hf : (Instr.findKey 28 (.agg #[.int .i8 i, .int .i64 d]) es.toList).run Tryz.prog w = .ok none w) :
  (Instr.mapUpdate 211 (.map (some b)) (.agg #[.int .i8 i, .int .i64 d]) val).run Tryz.prog w = .ok () (setBlock w b (.map (es.push ⟨.agg #[.int .i8 i, .int .i64 d], val, c⟩) (c + 1))) := by
 simp [Instr.mapUpdate, run_underlying Tryz.underlying211, MapKept.run_getObj_map hb, ckE, hf, MapKept.run_setObj_map _ hb, Result.andThen, setBlock]
theorem setBlock_new (w : World) (o o' : Obj) : setBlock (w.alloc o) w.heap.size o' = w.alloc o' := by
 have e : (w.heap.push o).setIfInBounds w.heap.size o' = w.heap.push o' := by
  apply Array.ext'
  simp
 show World.mk ((w.heap.push o).setIfInBounds w.heap.size o') w.tape w.drawn w.os w.output = World.mk (w.heap.push o') w.tape w.drawn w.os w.output
 rw [e]
theorem runM0 (w : World) : (Instr.mapUpdate 211 (.map (some w.heap.size)) (.agg #[.int .i8 (-1), .int .i64 0]) (.string ⟨#[45, 105, 110, 102]⟩)).run Tryz.prog (w.alloc (.map #[] 0)) = .ok () (w.alloc (.map #[⟨kM, .string sM, 0⟩] 1)) := by
 rw [insE (w.alloc (.map #[] 0)) w.heap.size #[] 0 _ _ _ (MapKept.heap_alloc w _).1 (fk0 _ _), setBlock_new]; rfl
theorem runP0 (w : World) : (Instr.mapUpdate 211 (.map (some w.heap.size)) (.agg #[.int .i8 1, .int .i64 0]) (.string ⟨#[105, 110, 102]⟩)).run Tryz.prog (w.alloc (.map #[] 0)) = .ok () (w.alloc (.map #[⟨kP, .string sP, 0⟩] 1)) := by
 rw [insE (w.alloc (.map #[] 0)) w.heap.size #[] 0 _ _ _ (MapKept.heap_alloc w _).1 (fk0 _ _), setBlock_new]; rfl
theorem runPM (w : World) : (Instr.mapUpdate 211 (.map (some w.heap.size)) (.agg #[.int .i8 1, .int .i64 0]) (.string ⟨#[105, 110, 102]⟩)).run Tryz.prog (w.alloc (.map #[⟨kM, .string sM, 0⟩] 1)) = .ok () (w.alloc (.map #[⟨kM, .string sM, 0⟩, ⟨kP, .string sP, 1⟩] 2)) := by
 rw [insE (w.alloc (.map #[⟨kM, .string sM, 0⟩] 1)) w.heap.size #[⟨kM, .string sM, 0⟩] 1 _ _ _ (MapKept.heap_alloc w _).1 (fkPM _ _), setBlock_new]; rfl
theorem runMP (w : World) : (Instr.mapUpdate 211 (.map (some w.heap.size)) (.agg #[.int .i8 (-1), .int .i64 0]) (.string ⟨#[45, 105, 110, 102]⟩)).run Tryz.prog (w.alloc (.map #[⟨kP, .string sP, 0⟩] 1)) = .ok () (w.alloc (.map #[⟨kP, .string sP, 0⟩, ⟨kM, .string sM, 1⟩] 2)) := by
 rw [insE (w.alloc (.map #[⟨kP, .string sP, 0⟩] 1)) w.heap.size #[⟨kP, .string sP, 0⟩] 1 _ _ _ (MapKept.heap_alloc w _).1 (fkMP _ _), setBlock_new]; rfl
def eA : Array MapEntry := #[⟨kM, .string sM, 0⟩, ⟨kP, .string sP, 1⟩]
def eB : Array MapEntry := #[⟨kP, .string sP, 0⟩, ⟨kM, .string sM, 1⟩]
def InfM (w : World) (b : Nat) : Prop := ∃ es, (es = eA ∨ es = eB) ∧ w.heap[b]? = some (.map es 2)
theorem InfM.dn {w w' : World} {b : Nat} (h : InfM w b) (k : Dn w w') : InfM w' b := by
 obtain ⟨es, he, hb⟩ := h
 refine ⟨es, he, ?_⟩
 rw [k.below.block b (Array.getElem?_eq_some_iff.1 hb).1]; exact hb
theorem eInf (w : World) : Calls Tryz.prog 169 #[] w fun e w' => e = .returned (.map (some w.heap.size)) ∧ Up w w' ∧ InfM w' w.heap.size := by
 have r1 : (Instr.mapUpdate 211 (.map (some w.heap.size)) (.agg #[.int .i8 (-1), .int .i64 0]) (.string ⟨#[45, 105, 110, 102]⟩)).run Tryz.prog (w.alloc (.map #[] 0)).drew = .ok () (w.alloc (.map #[⟨kM, .string sM, 0⟩] 1)).drew := runM0 w.drew
 have r2 : (Instr.mapUpdate 211 (.map (some w.heap.size)) (.agg #[.int .i8 1, .int .i64 0]) (.string ⟨#[105, 110, 102]⟩)).run Tryz.prog (w.alloc (.map #[] 0)).drew = .ok () (w.alloc (.map #[⟨kP, .string sP, 0⟩] 1)).drew := runP0 w.drew
 have r3 : (Instr.mapUpdate 211 (.map (some w.heap.size)) (.agg #[.int .i8 1, .int .i64 0]) (.string ⟨#[105, 110, 102]⟩)).run Tryz.prog (w.alloc (.map #[⟨kM, .string sM, 0⟩] 1)).drew = .ok () (w.alloc (.map #[⟨kM, .string sM, 0⟩, ⟨kP, .string sP, 1⟩] 2)).drew := runPM w.drew
 have r4 : (Instr.mapUpdate 211 (.map (some w.heap.size)) (.agg #[.int .i8 (-1), .int .i64 0]) (.string ⟨#[45, 105, 110, 102]⟩)).run Tryz.prog (w.alloc (.map #[⟨kP, .string sP, 0⟩] 1)).drew = .ok () (w.alloc (.map #[⟨kP, .string sP, 0⟩, ⟨kM, .string sM, 1⟩] 2)).drew := runMP w.drew
 have hmm := @run_makeMap Tryz.prog
 go_enter Tryz.func169, Tryz.ntmps169
 go_wp2_with fail
 go_region
 · clear r1 r2 r3 r4
   go_wp2_with fail
   go_ret
   exact ⟨rfl, ((Up.refl _).alloc _).drew, eA, Or.inl rfl, (MapKept.heap_alloc w _).1⟩
 · clear r1 r2 r3 r4
   go_wp2_with fail
   go_ret
   exact ⟨rfl, ((Up.refl _).alloc _).drew, eB, Or.inr rfl, (MapKept.heap_alloc w _).1⟩
def eStr (i d : Int) : ByteArray := if i = 0 then ⟨(Lib.itoa d).toArray⟩ else if i < 0 then sM else sP
theorem fAM (w : World) : (Instr.findKey 28 kM eA.toList).run Tryz.prog w = .ok (some (0, .string sM)) w := by kernel_rfl
theorem fAP (w : World) : (Instr.findKey 28 kP eA.toList).run Tryz.prog w = .ok (some (1, .string sP)) w := by kernel_rfl
theorem fBM (w : World) : (Instr.findKey 28 kM eB.toList).run Tryz.prog w = .ok (some (1, .string sM)) w := by kernel_rfl
theorem fBP (w : World) : (Instr.findKey 28 kP eB.toList).run Tryz.prog w = .ok (some (0, .string sP)) w := by kernel_rfl
theorem fAd (d : Int) (w : World) : (Instr.findKey 28 (.agg #[.int .i8 0, .int .i64 d]) eA.toList).run Tryz.prog w = .ok none w := by kernel_rfl
theorem fBd (d : Int) (w : World) : (Instr.findKey 28 (.agg #[.int .i8 0, .int .i64 d]) eB.toList).run Tryz.prog w = .ok none w := by kernel_rfl
theorem lkS (w : World) (b : Nat) (es : Array MapEntry) (c : Nat) (i d : Int) (j : Nat) (s : ByteArray) (hb : w.heap[b]? = some (.map es c)) (hf : (Instr.findKey 28 (.agg #[.int .i8 i, .int .i64 d]) es.toList).run Tryz.prog w = .ok (some (j, .string s)) w) :
  (Instr.lookup 211 (.map (some b)) (.agg #[.int .i8 i, .int .i64 d]) true).run Tryz.prog w = .ok (.tuple #[.string s, .bool true]) w := by
 simp [Instr.lookup, run_underlying Tryz.underlying211, MapKept.run_getObj_map hb, ckE, hf, Result.andThen]
theorem lkN (w : World) (b : Nat) (es : Array MapEntry) (c : Nat) (i d : Int) (hb : w.heap[b]? = some (.map es c)) (hf : (Instr.findKey 28 (.agg #[.int .i8 i, .int .i64 d]) es.toList).run Tryz.prog w = .ok none w) :
  (Instr.lookup 211 (.map (some b)) (.agg #[.int .i8 i, .int .i64 d]) true).run Tryz.prog w = .ok (.tuple #[.string ⟨#[]⟩, .bool false]) w := by
 simp [Instr.lookup, run_underlying Tryz.underlying211, MapKept.run_getObj_map hb, ckE, hf, Result.andThen]
theorem lk_day (w : World) (b : Nat) (d : Int) (h : InfM w b) : (Instr.lookup 211 (.map (some b)) (.agg #[.int .i8 0, .int .i64 d]) true).run Tryz.prog w = .ok (.tuple #[.string ⟨#[]⟩, .bool false]) w := by
 obtain ⟨es, rfl | rfl, hb⟩ := h
 · exact lkN w b _ _ _ _ hb (fAd d w)
 · exact lkN w b _ _ _ _ hb (fBd d w)
theorem lk_inf (w : World) (b : Nat) (i : Int) (hi : i = 1 ∨ i = -1) (h : InfM w b) : (Instr.lookup 211 (.map (some b)) (.agg #[.int .i8 i, .int .i64 0]) true).run Tryz.prog w = .ok (.tuple #[.string (eStr i 0), .bool true]) w := by
 obtain ⟨es, rfl | rfl, hb⟩ := h <;> rcases hi with rfl | rfl
 · exact lkS w b _ _ _ _ _ _ hb (fAP w)
 · exact lkS w b _ _ _ _ _ _ hb (fAM w)
 · exact lkS w b _ _ _ _ _ _ hb (fBP w)
 · exact lkS w b _ _ _ _ _ _ hb (fBM w)
theorem kE1 {W w1 w2 : World} {a0 a1 : Addr} {v0 v1 : Value} (k : Up w1 w2) (h : Up W w1 ∧ w1.cell? a0 = some v0 ∧ w1.cell? a1 = some v1) : Up W w2 ∧ w2.cell? a0 = some v0 ∧ w2.cell? a1 = some v1 := by
 obtain ⟨h1, c0, c1⟩ := h
 exact ⟨h1.trans k, k.cell c0, k.cell c1⟩
theorem eText_day (d : Int) (w : World) (hd : I64 d) (hE : EnvI w) :
    Calls Tryz.prog 142 #[.agg #[.int .i8 0, .int .i64 d]] w fun e w' => e = .returned (.tuple #[.string ⟨(Lib.itoa d).toArray⟩, .int .i64 0]) ∧ Up w w' := by
  have b0 := CB.new w (.int .i8 0) (.int .i64 d) 28
  have u0 : Up w _ := (Up.refl w).alloc (.cells #[.int .i8 0, .int .i64 d] 28)
  have B0 := Lib.hid b0
  have U0 := Lib.hid u0
  clear b0 u0
  have HE := Lib.hid (fun W => eChk_ok 0 d W (Or.inl rfl))
  have HT := Lib.hid (fun W h => itext d W hd h)
  clear hd
  go_enter Tryz.func142, Tryz.ntmps142
  go_wp2_with fail
  refine (HE.out _).mono ?_
  rintro e w1 ⟨rfl, q1⟩
  obtain ⟨c0, c1, f0, f1, l0⟩ := B0.out.up q1
  have u1 := U0.out.trans q1
  clear q1 f0 f1
  have hS := kE1 (W := w1) (Up.refl w1) ⟨Up.refl _, c0, c1⟩
  clear c0 c1
  go_wp2_with fail
  go_region_held3 (fun w' => Up w1 w' ∧ w'.cell? ⟨w.heap.size, 0, none⟩ = some (.int .i8 0) ∧ w'.cell? ⟨w.heap.size, 1, none⟩ = some (.int .i64 d))
    (first | exact kE1 ((Up.refl _).drew) hS | exact kE1 ‹Up _ _› ‹_› | assumption)
    (first
      | (go_at_call 169; refine (eInf _).mono ?_; rintro e wa ⟨rfl, qa, hm⟩; have hl : (Instr.lookup 211 (.map (some w1.heap.size)) (.agg #[.int .i8 0, .int .i64 d]) true).run Tryz.prog wa = .ok (.tuple #[.string ⟨#[]⟩, .bool false]) wa := lk_day _ _ d hm))
  all_goals
    obtain ⟨k1, c0, c1⟩ := (‹Up w1 _ ∧ _› : _ ∧ _)
    clear hS
    go_wp2_with fail
    refine (HT.out _ ((hE.up u1).up k1)).mono ?_
    rintro e w3 ⟨rfl, q3⟩
    have u3 := (u1.trans k1).trans q3
    go_wp2_with fail
    go_ret2
    exact ⟨rfl, u3⟩
theorem eText_inf (i : Int) (w : World) (hi : i = 1 ∨ i = -1) :
    Calls Tryz.prog 142 #[.agg #[.int .i8 i, .int .i64 0]] w fun e w' => e = .returned (.tuple #[.string (eStr i 0), .int .i64 0]) ∧ Up w w' := by
  have b0 := CB.new w (.int .i8 i) (.int .i64 0) 28
  have u0 : Up w _ := (Up.refl w).alloc (.cells #[.int .i8 i, .int .i64 0] 28)
  have B0 := Lib.hid b0
  have U0 := Lib.hid u0
  clear b0 u0
  have HE := Lib.hid (fun W => eChk_ok i 0 W (Or.inr ⟨hi, rfl⟩))
  go_enter Tryz.func142, Tryz.ntmps142
  go_wp2_with fail
  refine (HE.out _).mono ?_
  rintro e w1 ⟨rfl, q1⟩
  obtain ⟨c0, c1, f0, f1, l0⟩ := B0.out.up q1
  have u1 := U0.out.trans q1
  clear q1 f0 f1
  have hS := kE1 (W := w1) (Up.refl w1) ⟨Up.refl _, c0, c1⟩
  clear c0 c1
  go_wp2_with fail
  go_region_held3 (fun w' => Up w1 w' ∧ w'.cell? ⟨w.heap.size, 0, none⟩ = some (.int .i8 i) ∧ w'.cell? ⟨w.heap.size, 1, none⟩ = some (.int .i64 0))
    (first | exact kE1 ((Up.refl _).drew) hS | exact kE1 ‹Up _ _› ‹_› | assumption)
    (first
      | (go_at_call 169; refine (eInf _).mono ?_; rintro e wa ⟨rfl, qa, hm⟩; have hl : (Instr.lookup 211 (.map (some w1.heap.size)) (.agg #[.int .i8 i, .int .i64 0]) true).run Tryz.prog wa = .ok (.tuple #[.string (eStr i 0), .bool true]) wa := lk_inf _ _ i hi hm))
  all_goals
    obtain ⟨k1, c0, c1⟩ := (‹Up w1 _ ∧ _› : _ ∧ _)
    clear hS
    go_wp2_with fail
    go_ret2
    exact ⟨rfl, u1.trans k1⟩
theorem eStr_day (d : Int) : eStr 0 d = ⟨(Lib.itoa d).toArray⟩ := by unfold eStr; rw [if_pos rfl]
theorem eText_ok (i d : Int) (w : World) (h : eOk i d) (hd : I64 d) (hE : EnvI w) :
   Calls Tryz.prog 142 #[.agg #[.int .i8 i, .int .i64 d]] w fun e w' => e = .returned (.tuple #[.string (eStr i d), .int .i64 0]) ∧ Up w w' := by
 rcases h with rfl | ⟨hi, rfl⟩
 · rw [eStr_day]; exact eText_day d w hd hE
 · exact eText_inf i w hi
theorem Len.i64 {x : Int} (h : I64 x) : Len x := Len.of (by have := h.1; have := h.2; omega)
theorem CB.kept {w w' : World} {B : Nat} {u v : Value} {row : Option Nat} (h : CB w B u v) (hg : w.grownBy w' row) (hne : row ≠ some B) : CB w' B u v :=
 ⟨by rw [hg.cell_far _ h.lt (Ne.symm hne)]; exact h.c0, by rw [hg.cell_far _ h.lt (Ne.symm hne)]; exact h.c1, by rw [hg.frozen_far _ h.lt (Ne.symm hne)]; exact h.f0, by rw [hg.frozen_far _ h.lt (Ne.symm hne)]; exact h.f1, Nat.lt_of_lt_of_le h.lt hg.size⟩
theorem CB.set {w : World} {B : Nat} {u v : Value} (h : CB w B u v) (u' v' : Value) : CB ((w.setCell ⟨B, 0, none⟩ u').setCell ⟨B, 1, none⟩ v') B u' v' := by
 refine ⟨?_, ?_, by simp [h.f0], by simp [h.f1], by simpa using h.lt⟩
 · rw [World.cell?_setCell_other _ _ _ _ (by simp)]
   exact World.cell?_setCell_same _ _ _ h.c0
 · refine World.cell?_setCell_same _ _ _ (u := v) ?_
   rw [World.cell?_setCell_other _ _ _ _ (by simp)]; exact h.c1
open Go.RowKit
set_option linter.unusedVariables false
set_option linter.unusedSimpArgs false
structure C4 (w : World) (B : Nat) (v0 v1 v2 v3 : Value) : Prop where
 c0 : w.cell? ⟨B, 0, none⟩ = some v0
 c1 : w.cell? ⟨B, 1, none⟩ = some v1
 c2 : w.cell? ⟨B, 2, none⟩ = some v2
 c3 : w.cell? ⟨B, 3, none⟩ = some v3
 f0 : w.frozen? ⟨B, 0, none⟩ = false
 f1 : w.frozen? ⟨B, 1, none⟩ = false
 f2 : w.frozen? ⟨B, 2, none⟩ = false
 f3 : w.frozen? ⟨B, 3, none⟩ = false
 lt : B < w.heap.size
theorem C4.dn {w w' : World} {B : Nat} {v0 v1 v2 v3 : Value} (h : C4 w B v0 v1 v2 v3) (k : Dn w w') : C4 w' B v0 v1 v2 v3 :=
 ⟨k.cell h.c0, k.cell h.c1, k.cell h.c2, k.cell h.c3, by rw [k.frozen h.lt]; exact h.f0, by rw [k.frozen h.lt]; exact h.f1, by rw [k.frozen h.lt]; exact h.f2, by rw [k.frozen h.lt]; exact h.f3, Nat.lt_of_lt_of_le h.lt k.size⟩
theorem C4.alloc {w : World} {B : Nat} {v0 v1 v2 v3 : Value} (h : C4 w B v0 v1 v2 v3) (o : Obj) : C4 (w.alloc o) B v0 v1 v2 v3 := h.dn ((Dn.refl _).alloc o)
theorem C4.drew {w : World} {B : Nat} {v0 v1 v2 v3 : Value} (h : C4 w B v0 v1 v2 v3) : C4 w.drew B v0 v1 v2 v3 := h.dn (Dn.refl _).drew
theorem C4.new (w : World) (v0 v1 v2 v3 : Value) (t : TypeId) : C4 (w.alloc (.cells #[v0, v1, v2, v3] t)) w.heap.size v0 v1 v2 v3 := by
 refine ⟨?_, ?_, ?_, ?_, ?_, ?_, ?_, ?_, ?_⟩ <;> simp [go_sem]
theorem C4.new1 (w : World) (o : Obj) (v0 v1 v2 v3 : Value) (t : TypeId) : C4 ((w.alloc o).alloc (.cells #[v0, v1, v2, v3] t)) (w.heap.size + 1) v0 v1 v2 v3 := by
 have := C4.new (w.alloc o) v0 v1 v2 v3 t
 simpa using this
theorem C4.new2 (w : World) (o o2 : Obj) (v0 v1 v2 v3 : Value) (t : TypeId) : C4 (((w.alloc o).alloc o2).alloc (.cells #[v0, v1, v2, v3] t)) (w.heap.size + 1 + 1) v0 v1 v2 v3 := by
 have := C4.new ((w.alloc o).alloc o2) v0 v1 v2 v3 t
 simpa using this
theorem C4.far {w : World} {B n : Nat} {v0 v1 v2 v3 : Value} (h : C4 w n v0 v1 v2 v3) (hn : n ≠ B) (j : Nat) (v : Value) : C4 (w.setCell ⟨B, j, none⟩ v) n v0 v1 v2 v3 := by
 have hx : ∀ i u, w.cell? ⟨n, i, none⟩ = some u → (w.setCell ⟨B, j, none⟩ v).cell? ⟨n, i, none⟩ = some u := fun i u hu => by
  rw [World.cell?_setCell_other _ _ _ _ (fun e => hn (by simpa using (congrArg Addr.block e).symm))]; exact hu
 exact ⟨hx _ _ h.c0, hx _ _ h.c1, hx _ _ h.c2, hx _ _ h.c3, by simpa using h.f0, by simpa using h.f1, by simpa using h.f2, by simpa using h.f3, by simpa using h.lt⟩
theorem C4.fill {w : World} {B : Nat} {z0 z1 z2 z3 : Value} (h : C4 w B z0 z1 z2 z3) (v0 v1 v2 v3 : Value) :
  C4 ((((w.setCell ⟨B, 0, none⟩ v0).setCell ⟨B, 1, none⟩ v1).setCell ⟨B, 2, none⟩ v2).setCell ⟨B, 3, none⟩ v3) B v0 v1 v2 v3 := by
 have h0 := h.c0; have h1 := h.c1; have h2 := h.c2; have h3 := h.c3
 refine ⟨?_, ?_, ?_, ?_, by simpa using h.f0, by simpa using h.f1, by simpa using h.f2, by simpa using h.f3, by simpa using h.lt⟩ <;> simp [go_sem, h0, h1, h2, h3]
theorem C4.far4 {w : World} {B n : Nat} {z0 z1 z2 z3 : Value} (h : C4 w n z0 z1 z2 z3) (hn : n ≠ B) (v0 v1 v2 v3 : Value) :
  C4 ((((w.setCell ⟨B, 0, none⟩ v0).setCell ⟨B, 1, none⟩ v1).setCell ⟨B, 2, none⟩ v2).setCell ⟨B, 3, none⟩ v3) n z0 z1 z2 z3 :=
 (((h.far hn _ _).far hn _ _).far hn _ _).far hn _ _
structure NB (w : World) (B L : Nat) : Prop where
 z : C4 w B (.int .i8 0) (.int .i64 0) (.int .i8 0) (.int .i64 0)
 lt : L < B
theorem NB.new {w : World} {L : Nat} (h : L < w.heap.size) (t : TypeId) : NB (w.alloc (.cells #[.int .i8 0, .int .i64 0, .int .i8 0, .int .i64 0] t)) w.heap.size L := ⟨C4.new _ _ _ _ _ _, h⟩
theorem NB.dn {w w' : World} {B L : Nat} (h : NB w B L) (q : Dn w w') : NB w' B L := ⟨h.z.dn q, h.lt⟩
open Go.RowKit
set_option linter.unusedVariables false
set_option linter.unusedSimpArgs false
structure EnvR (w : World) : Prop where
 i : EnvI w
 m : ∃ m, w.cell? ⟨5, 0, none⟩ = some (.int .i64 m)
theorem EnvR.dn {w w' : World} (h : EnvR w) (k : Dn w w') : EnvR w' := ⟨h.i.dn k, h.m.elim fun m hm => ⟨m, k.cell hm⟩⟩
set_option maxHeartbeats 4000000
set_option maxRecDepth 100000
open Go.RowKit
set_option linter.unusedVariables false
set_option linter.unusedSimpArgs false
structure EnvP (w : World) : Prop where
 i : EnvI w
 s : EnvS w
 ml : ∃ n, w.cell? ⟨5, 0, none⟩ = some (.int .i64 n)
theorem EnvP.dn {w w' : World} (h : EnvP w) (k : Dn w w') : EnvP w' := ⟨h.i.dn k, h.s.below k.below, h.ml.elim fun n e => ⟨n, k.cell e⟩⟩
theorem EnvP.c {w : World} (h : EnvP w) : EnvC w := ⟨h.i, h.s.mo, h.ml⟩
theorem EnvP.r {w : World} (h : EnvP w) : EnvR w := ⟨h.i, h.ml⟩
theorem EnvP.st {w : World} (h : EnvP w) : Steps w := h.s.mo.st
theorem tDay (w : World) (hE : EnvP w) : Calls Tryz.prog 42 #[.agg #[.int .i64 2000, .int .i64 2, .int .i64 29]] w fun ro w' => ro = .returned (.tuple #[.int .i64 730544, .int .i64 0]) ∧ Dn w w' := by
 have h := cvDay_ok 2000 2 29 (by decide +kernel) w hE.c
 rw [show Cal.sm 2000 2 + 29 - 1 = 730544 by decide +kernel] at h
 exact h
theorem tSeason (w : World) (hE : EnvP w) : Calls Tryz.prog 22 #[.int .i64 2000, .int .i64 21] w fun ro w' => ro = .returned (.tuple #[.agg #[.int .i8 0, .int .i64 730545, .int .i8 0, .int .i64 730636], .int .i64 0]) ∧ Dn w w' := by
 have h := srun_yes 2000 21 w (by decide) (by decide +kernel) hE.s
 rw [show sLo 2000 21 = 730545 by decide +kernel, show sHi 2000 21 = 730636 by decide +kernel] at h
 exact h.mono fun e w' q => ⟨q.1, q.2.dn⟩
theorem tYear (y lo hi : Int) (w : World) (h1 : Cal.sy y = lo) (h2 : Cal.sy (y + 1) - 1 = hi) (hy : IsY y) (hE : EnvP w) :
  Calls Tryz.prog 17 #[.int .i64 y] w fun ro w' => ro = .returned (.tuple #[.agg #[.int .i8 0, .int .i64 lo, .int .i8 0, .int .i64 hi], .bool true]) ∧ Dn w w' := by
 have HO := Lib.hid (show ¬ hi < lo by have := Cal.sy_lt y (y + 1) (by omega); omega)
 have HS := Lib.hid (fun w (hE : Steps w) => ystart_yes y w hy hE)
 have HT := Lib.hid (fun w (hE : Steps w) => yend_yes y w hy hE)
 rw [h1] at HS
 rw [h2] at HT
 clear hy h1 h2
 go_enter Tryz.func17, Tryz.ntmps17
 go_wp2_with fail
 refine (HS.out _ (hE.dn ((Dn.refl _).alloc _)).st).mono ?_
 rintro e w1 ⟨rfl, q1⟩
 have u1 : Dn w w1 := ((Dn.refl w).alloc _).up q1
 have hl : w.heap.size < w1.heap.size := by have := q1.dn.size; simp at this; omega
 have c0 := q1.dn.cell (show (w.alloc (.cells #[.int .i8 0, .int .i64 0, .int .i8 0, .int .i64 0] 30)).cell? ⟨w.heap.size, 0, none⟩ = some (.int .i8 0) by simp [go_sem])
 have c1 := q1.dn.cell (show (w.alloc (.cells #[.int .i8 0, .int .i64 0, .int .i8 0, .int .i64 0] 30)).cell? ⟨w.heap.size, 1, none⟩ = some (.int .i64 0) by simp [go_sem])
 have c2 := q1.dn.cell (show (w.alloc (.cells #[.int .i8 0, .int .i64 0, .int .i8 0, .int .i64 0] 30)).cell? ⟨w.heap.size, 2, none⟩ = some (.int .i8 0) by simp [go_sem])
 have c3 := q1.dn.cell (show (w.alloc (.cells #[.int .i8 0, .int .i64 0, .int .i8 0, .int .i64 0] 30)).cell? ⟨w.heap.size, 3, none⟩ = some (.int .i64 0) by simp [go_sem])
 have f0 : ∀ k, w1.frozen? ⟨w.heap.size, k, none⟩ = false := fun k => by rw [q1.dn.frozen (by simp)]; simp [go_sem]
 clear q1
 go_wp2_with fail
 refine (HT.out _ (hE.dn u1).st).mono ?_
 rintro e w2 ⟨rfl, q2⟩
 have u2 := u1.up q2
 replace c0 := q2.dn.cell c0
 replace c1 := q2.dn.cell c1
 replace c2 := q2.dn.cell c2
 replace c3 := q2.dn.cell c3
 have f1 : ∀ k, w2.frozen? ⟨w.heap.size, k, none⟩ = false := fun k => by rw [q2.dn.frozen hl]; exact f0 k
 replace hl : w.heap.size < w2.heap.size := Nat.lt_of_lt_of_le hl q2.dn.size
 clear f0 q2 u1
 go_wp2_with fail
 refine (rnOf_yes lo hi (Int.not_lt.2 HO.out) _).mono ?_
 rintro e w3 ⟨rfl, q3⟩
 have u3 := u2.trans q3
 replace c0 := q3.cell c0
 replace c1 := q3.cell c1
 replace c2 := q3.cell c2
 replace c3 := q3.cell c3
 have z0 : w3.frozen? ⟨w.heap.size, 0, none⟩ = false := by rw [q3.frozen hl]; exact f1 0
 have z1 : w3.frozen? ⟨w.heap.size, 1, none⟩ = false := by rw [q3.frozen hl]; exact f1 1
 have z2 : w3.frozen? ⟨w.heap.size, 2, none⟩ = false := by rw [q3.frozen hl]; exact f1 2
 have z3 : w3.frozen? ⟨w.heap.size, 3, none⟩ = false := by rw [q3.frozen hl]; exact f1 3
 replace hl : w.heap.size < w3.heap.size := Nat.lt_of_lt_of_le hl q3.size
 clear f1 q3 u2
 go_wp2_with fail
 exact bodyPost_ret (v := .tuple #[.agg #[.int .i8 0, .int .i64 lo, .int .i8 0, .int .i64 hi], .bool true]) (by simp [results, Tryz.results17, go_sem, runV, c0, c1, c2, c3, hl, Nat.ne_of_lt hl, Nat.ne_of_gt hl] <;> omega) rfl ⟨rfl, ((((u3.setCell (Nat.le_refl _) _).setCell (Nat.le_refl _) _).setCell (Nat.le_refl _) _).setCell (Nat.le_refl _) _).alloc _⟩
theorem dn_eq {a b : World} (h : a = b) : Dn a b := by subst h; exact Dn.refl _
set_option maxRecDepth 100000
open Go.RowKit
set_option linter.unusedVariables false
set_option linter.unusedSimpArgs false
def mX : ByteArray := ⟨#[50, 48, 88, 48]⟩
theorem mX_size : mX.size = 4 := rfl
theorem mX_dec : Utf8.decode mX 0 = (50, 1) ∧ Utf8.decode mX 1 = (48, 1) ∧ Utf8.decode mX 2 = (88, 1) ∧ Utf8.decode mX 3 = (48, 1) := by decide +kernel
theorem mCheck (w : World) : Calls Tryz.prog 99 #[.string mX] w fun ro w' => ro = .returned (.int .i64 0) ∧ Dn w w' := by
 have hs := mX_size
 have hne : mX.toList.isEmpty = false := by decide +kernel
 obtain ⟨dc0, dc1, dc2, dc3⟩ := mX_dec
 generalize mX = M at *
 go_enter Tryz.func99, Tryz.ntmps99
 go_wp2
 go_loopw [2] (fun zv w' => ∃ pos : Nat, w' = w.iter M pos ∧ zv = .int .i64 0 ∧ pos ≤ 4) (fun _ w' => M.size - w'.iterPos w.heap.size)
 case atStart => exact ⟨0, rfl, rfl, by omega⟩
 case round =>
  obtain ⟨pos, rfl, rfl, h4⟩ := hrel
  by_cases hp : pos < M.size
  · rcases (show pos = 0 ∨ pos = 1 ∨ pos = 2 ∨ pos = 3 by omega) with rfl | rfl | rfl | rfl
    · have hnx : ∀ ty, (Instr.next (.pointer (some ⟨w.heap.size, 0, none⟩)) true ty).run Tryz.prog (w.iter M 0) = .ok (.tuple #[.bool true, .int .i64 0, .int .i32 50]) (w.iter M 1) := fun ty => by
       rw [run_next_any w M 0 ty hp, dc0]; rfl
      go_wp2
      go_roundw
      case rel => exact ⟨1, rfl, rfl, by omega⟩
      case measure => simp; omega
    · have hnx : ∀ ty, (Instr.next (.pointer (some ⟨w.heap.size, 0, none⟩)) true ty).run Tryz.prog (w.iter M 1) = .ok (.tuple #[.bool true, .int .i64 1, .int .i32 48]) (w.iter M 2) := fun ty => by
       rw [run_next_any w M 1 ty hp, dc1]; rfl
      go_wp2
      go_roundw
      case rel => exact ⟨2, rfl, rfl, by omega⟩
      case measure => simp; omega
    · have hnx : ∀ ty, (Instr.next (.pointer (some ⟨w.heap.size, 0, none⟩)) true ty).run Tryz.prog (w.iter M 2) = .ok (.tuple #[.bool true, .int .i64 2, .int .i32 88]) (w.iter M 3) := fun ty => by
       rw [run_next_any w M 2 ty hp, dc2]; rfl
      go_wp2
      go_roundw
      case rel => exact ⟨3, rfl, rfl, by omega⟩
      case measure => simp; omega
    · have hnx : ∀ ty, (Instr.next (.pointer (some ⟨w.heap.size, 0, none⟩)) true ty).run Tryz.prog (w.iter M 3) = .ok (.tuple #[.bool true, .int .i64 3, .int .i32 48]) (w.iter M 4) := fun ty => by
       rw [run_next_any w M 3 ty hp, dc3]; rfl
      go_wp2
      go_roundw
      case rel => exact ⟨4, rfl, rfl, by omega⟩
      case measure => simp; omega
  · have hnx : ∀ ty, (Instr.next (.pointer (some ⟨w.heap.size, 0, none⟩)) true ty).run Tryz.prog (w.iter M pos) = _ := fun ty => run_next_end w M pos ty hp
    go_wp2
    go_ret
    exact ⟨rfl, (Dn.refl _).alloc _⟩
theorem mPower (w : World) : Calls Tryz.prog 138 #[.int .i64 4] w fun ro w' => ro = .returned (.int .i64 10000) ∧ w = w' := by
 have hp := ipow_yes 4
 go_enter Tryz.func138, Tryz.ntmps138
 go_wp2_with (go_at_call 168; refine (hp _ (by decide)).mono ?_; rintro e wa ⟨rfl, rfl⟩)
 go_ret
 exact ⟨rfl, rfl⟩
theorem mWithin (w : World) : Calls Tryz.prog 101 #[.string mX, .int .i64 2001] w fun ro w' => ro = .returned (.bool true) ∧ w = w' := by
 have hs := mX_size
 go_enter Tryz.func101, Tryz.ntmps101
 go_wp2_with (go_at_call 138; refine (mPower _).mono ?_; rintro e wa ⟨rfl, rfl⟩)
 go_ret
 exact ⟨rfl, rfl⟩
theorem wpList_val {P : Program} {ops : Array Oper} {rest : List Oper} {o : Oper} {a : Act} {Q : Exit → Act → World → Prop} {w w' : World} {v : Value} (hgd : o.guard = none) (hr : (execOp a.eval o).run P w = .ok (.value v) w') (h : wpList P ops Q rest (a.put o.dst v) w') : wpList P ops Q (o :: rest) a w := by
 have hw : Region.wanted o (yielded ops a.tmps) = true := by simp [Region.wanted, hgd]
 rw [wpList, if_pos hw]
 refine Or.inl ?_
 show o.upon P a _ _ ((execOp a.eval o).run P w)
 rw [hr]
 exact h
theorem wpList_skp {P : Program} {ops : Array Oper} {rest : List Oper} {o : Oper} {a : Act} {Q : Exit → Act → World → Prop} {w w' : World} (hgd : o.guard = none) (hr : (execOp a.eval o).run P w = .ok .skip w') (h : wpList P ops Q rest (a.put o.dst undef) w') : wpList P ops Q (o :: rest) a w := by
 have hw : Region.wanted o (yielded ops a.tmps) = true := by simp [Region.wanted, hgd]
 rw [wpList, if_pos hw]
 refine Or.inl ?_
 show o.upon P a _ _ ((execOp a.eval o).run P w)
 rw [hr]
 exact h
theorem wpList_loadD {ops : Array Oper} {rest : List Oper} {o : Oper} {a : Act} {Q : Exit → Act → World → Prop} (hgd : o.guard = none) (p : Operand) (ho : o.op = .load 169 p) (w : World) (c : Array Value) (hz : c.size = 18) (hp : a.eval p = .pointer (some ⟨w.heap.size, 0, none⟩))
  (h : wpList Tryz.prog ops Q rest (a.put o.dst (.agg c)) (w.alloc (.cells c 169))) : wpList Tryz.prog ops Q (o :: rest) a (w.alloc (.cells c 169)) := by
 refine wpList_val hgd ?_ h
 simp only [execOp, ho, hp, Sem.run_bind]
 rw [run_loadAt_new w _ c 18 _ Tryz.underlying169 (by rw [hz]; kernel_rfl)]
 rfl
theorem wpList_storeD {ops : Array Oper} {rest : List Oper} {o : Oper} {a : Act} {Q : Exit → Act → World → Prop} (hgd : o.guard = none) (p x : Operand) (ho : o.op = .store 169 p x) (w : World) (c c' : Array Value) (hz : c.size = 18) (hz' : c'.size = 18) (h1 : c'.all (·.oneCell') = true) (hp : a.eval p = .pointer (some ⟨w.heap.size, 0, none⟩)) (hx : a.eval x = .agg c')
  (h : wpList Tryz.prog ops Q rest (a.put o.dst undef) (w.alloc (.cells c' 169))) : wpList Tryz.prog ops Q (o :: rest) a (w.alloc (.cells c 169)) := by
 refine wpList_skp hgd ?_ h
 simp only [execOp, ho, hp, hx, Sem.run_bind]
 rw [run_storeAt_new w _ c c' (by rw [hz']; kernel_rfl) (by omega) h1]
 rfl
def bys (l : List Int) : Array Value := (l.map fun x => Value.int .u8 x).toArray
def Sp (w wr : World) (l : List Int) : Prop := wr = w.alloc (.cells (bys l) 169)
def spN : Nat → Int
 | 0 => 2001
 | 1 => 200
 | 2 => 20
 | 3 => 2
 | _ => 0
def spI : Nat → Int
 | 0 => 3
 | 1 => 2
 | 2 => 1
 | 3 => 0
 | _ => -1
def spL : Nat → List Int
 | 0 => [0, 0, 0, 0, 0, 0, 0, 0, 0, 0, 0, 0, 0, 0, 0, 0, 0, 0]
 | 1 => [0, 0, 0, 49, 0, 0, 0, 0, 0, 0, 0, 0, 0, 0, 0, 0, 0, 0]
 | 2 => [0, 0, 48, 49, 0, 0, 0, 0, 0, 0, 0, 0, 0, 0, 0, 0, 0, 0]
 | 3 => [0, 48, 48, 49, 0, 0, 0, 0, 0, 0, 0, 0, 0, 0, 0, 0, 0, 0]
 | _ => [50, 48, 48, 49, 0, 0, 0, 0, 0, 0, 0, 0, 0, 0, 0, 0, 0, 0]
theorem mSplit (c : Array Value) (hc : Hid (c = bys (spL 4))) (w : World) : Calls Tryz.prog 139 #[.string mX, .int .i64 2001] w fun ro w' => ro = .returned (.agg c) ∧ Dn w w' := by
 have hs := mX_size
 generalize mX = M at *
 go_enter Tryz.func139, Tryz.ntmps139
 go_wp2
 go_loopw [1, 5] (fun nv iv wr => ∃ k : Nat, k ≤ 4 ∧ nv = .int .i64 (spN k) ∧ iv = .int .i64 (spI k) ∧ Sp w wr (spL k)) (fun _ iv _ => (intOf iv + 1).toNat)
 case atStart => exact ⟨0, by decide, rfl, rfl, rfl⟩
 case round =>
  obtain ⟨k, hk, rfl, rfl, hw⟩ := hrel
  unfold Sp at hw
  rcases (show k = 0 ∨ k = 1 ∨ k = 2 ∨ k = 3 ∨ k = 4 by omega) with rfl | rfl | rfl | rfl | rfl
  all_goals simp only [spN, spI]
  · rw [hw]
    clear hw
    show Code.wp _ _ _ _ (w.alloc (.cells #[.int .u8 0, .int .u8 0, .int .u8 0, .int .u8 0, .int .u8 0, .int .u8 0, .int .u8 0, .int .u8 0, .int .u8 0, .int .u8 0, .int .u8 0, .int .u8 0, .int .u8 0, .int .u8 0, .int .u8 0, .int .u8 0, .int .u8 0, .int .u8 0] 169))
    go_wp2
    go_roundw
    case rel => exact ⟨1, by decide, rfl, rfl, rfl⟩
    case measure => simp [intOf]
  · rw [hw]
    clear hw
    show Code.wp _ _ _ _ (w.alloc (.cells #[.int .u8 0, .int .u8 0, .int .u8 0, .int .u8 49, .int .u8 0, .int .u8 0, .int .u8 0, .int .u8 0, .int .u8 0, .int .u8 0, .int .u8 0, .int .u8 0, .int .u8 0, .int .u8 0, .int .u8 0, .int .u8 0, .int .u8 0, .int .u8 0] 169))
    go_wp2
    go_roundw
    case rel => exact ⟨2, by decide, rfl, rfl, rfl⟩
    case measure => simp [intOf]
  · rw [hw]
    clear hw
    show Code.wp _ _ _ _ (w.alloc (.cells #[.int .u8 0, .int .u8 0, .int .u8 48, .int .u8 49, .int .u8 0, .int .u8 0, .int .u8 0, .int .u8 0, .int .u8 0, .int .u8 0, .int .u8 0, .int .u8 0, .int .u8 0, .int .u8 0, .int .u8 0, .int .u8 0, .int .u8 0, .int .u8 0] 169))
    go_wp2
    go_roundw
    case rel => exact ⟨3, by decide, rfl, rfl, rfl⟩
    case measure => simp [intOf]
  · rw [hw]
    clear hw
    show Code.wp _ _ _ _ (w.alloc (.cells #[.int .u8 0, .int .u8 48, .int .u8 48, .int .u8 49, .int .u8 0, .int .u8 0, .int .u8 0, .int .u8 0, .int .u8 0, .int .u8 0, .int .u8 0, .int .u8 0, .int .u8 0, .int .u8 0, .int .u8 0, .int .u8 0, .int .u8 0, .int .u8 0] 169))
    go_wp2
    go_roundw
    case rel => exact ⟨4, by decide, rfl, rfl, rfl⟩
    case measure => simp [intOf]
  · rw [← hc.out] at hw
    rw [hw]
    clear hw
    have hz : c.size = 18 := by rw [hc.out]; decide
    have h1 : c.all (·.oneCell') = true := by rw [hc.out]; simp [bys, spL, Value.oneCell']
    have HZ := Lib.hid hz
    have H1 := Lib.hid h1
    clear hz h1 hc
    go_wp2_with (first | ((with_reducible refine wpList_loadD rfl _ rfl w c HZ.out ?_ ?_); rfl) | ((with_reducible refine wpList_storeD rfl _ _ rfl w c c HZ.out HZ.out H1.out ?_ ?_ ?_); rfl; rfl))
    exact bodyPost_ret (v := .agg c) (results_cell_row Tryz.results139 _ _ w.heap.size 169 c (0, 0) _ rfl (heap_alloc_last w _) Tryz.underlying169 rfl (by rw [HZ.out]; kernel_rfl)) rfl ⟨rfl, (Dn.refl _).alloc _⟩
def flN : Nat → Int
 | 0 => 0
 | 1 => 2
 | 2 => 20
 | 3 => 201
 | _ => 2010
def mY : ByteArray := ⟨#[50, 48, 49, 48]⟩
theorem mY_bytes (w : World) : ∃ cap W, (convert 9 178 (.string mY)).run Tryz.prog w = .ok (.slice (some ⟨w.heap.size, 0, none⟩) 4 cap) W ∧ Dn w W ∧ W.cell? ⟨w.heap.size, 0, none⟩ = some (.int .u8 50) ∧ W.cell? ⟨w.heap.size, 1, none⟩ = some (.int .u8 48) ∧ W.cell? ⟨w.heap.size, 2, none⟩ = some (.int .u8 49) ∧ W.cell? ⟨w.heap.size, 3, none⟩ = some (.int .u8 48) := by
 have h := run_bytes_of_string (P := Tryz.prog) w 9 178 5 mY Tryz.underlying9 Tryz.underlying178 Tryz.underlying5
 refine ⟨_, _, h, (Dn.refl _).drew.alloc _, ?_⟩
 · have hc : ∀ (cap j : Nat) (v : Value), (bytesRow mY cap)[j]? = some v → (w.drew.alloc (.cells (bytesRow mY cap) 5 ((bytesRow mY cap).size, (bytesRow mY cap).size + 1))).cell? ⟨w.heap.size, j, none⟩ = some v := fun cap j v hv => by
    have := cell_of_row (w.drew.alloc (.cells (bytesRow mY cap) 5 ((bytesRow mY cap).size, (bytesRow mY cap).size + 1))) w.heap.size j (bytesRow mY cap) 5 ((bytesRow mY cap).size, (bytesRow mY cap).size + 1) (heap_alloc_last w.drew _)
    rw [this]; exact hv
   exact ⟨hc _ _ _ (bytesRow_at mY _ 0 (by decide)), hc _ _ _ (bytesRow_at mY _ 1 (by decide)), hc _ _ _ (bytesRow_at mY _ 2 (by decide)), hc _ _ _ (bytesRow_at mY _ 3 (by decide))⟩
theorem mFilled (w : World) : Calls Tryz.prog 137 #[.string mY, .int .u8 0] w fun ro w' => ro = .returned (.int .i64 2010) ∧ Dn w w' := by
 obtain ⟨cap, W, hb, hd, b0, b1, b2, b3⟩ := mY_bytes w
 have HD := Lib.hid hd
 clear hd
 go_enter Tryz.func137, Tryz.ntmps137
 go_wp2
 clear hb
 go_loopw [5, 11] (fun nv iv wr => ∃ k : Nat, k ≤ 4 ∧ nv = .int .i64 (flN k) ∧ iv = .int .i64 (k : Int) ∧ wr = W) (fun _ iv _ => (4 - intOf iv).toNat)
 case atStart => exact ⟨0, by decide, rfl, rfl, rfl⟩
 case round =>
  obtain ⟨k, hk, rfl, rfl, rfl⟩ := hrel
  rcases (show k = 0 ∨ k = 1 ∨ k = 2 ∨ k = 3 ∨ k = 4 by omega) with rfl | rfl | rfl | rfl | rfl
  all_goals simp only [flN]
  · go_wp2
    go_roundw
    case rel => exact ⟨1, by decide, rfl, rfl, trivial⟩
    case measure => simp [intOf]
  · go_wp2
    go_roundw
    case rel => exact ⟨2, by decide, rfl, rfl, trivial⟩
    case measure => simp [intOf]
  · go_wp2
    go_roundw
    case rel => exact ⟨3, by decide, rfl, rfl, trivial⟩
    case measure => simp [intOf]
  · go_wp2
    go_roundw
    case rel => exact ⟨4, by decide, rfl, rfl, trivial⟩
    case measure => simp [intOf]
  · go_wp2
    go_ret
    exact ⟨rfl, HD.out⟩
theorem mValue (c : Array Value) (hz : c.size = 18) (h0 : c[0]? = some (.int .u8 50)) (h1 : c[1]? = some (.int .u8 48)) (h2 : c[2]? = some (.int .u8 49)) (h3 : c[3]? = some (.int .u8 48)) (h18 : c.all (·.oneCell') = true) (w : World) : Calls Tryz.prog 140 #[.string mX, .agg c] w fun ro w' => ro = .returned (.int .i64 2010) ∧ Dn w w' := by
 have hs := mX_size
 have hb : (convert 178 9 (.slice (some ⟨w.heap.size, 0, none⟩) 4 18)).run Tryz.prog (w.alloc (.cells c 169)) = .ok (.string mY) (w.alloc (.cells c 169)) := by
  refine run_convert_bytes_back (P := Tryz.prog) (w.alloc (.cells c 169)) 178 9 5 ⟨w.heap.size, 0, none⟩ 18 [50, 48, 49, 48] Tryz.underlying178 Tryz.underlying5 Tryz.underlying9 ?_
  intro j hj
  have hc : ∀ (j : Nat) (v : Value), c[j]? = some v → (w.alloc (.cells c 169)).cell? ((⟨w.heap.size, 0, none⟩ : Addr).add j) = some v := fun j v hv => by
    have hadd : (⟨w.heap.size, 0, none⟩ : Addr).add j = ⟨w.heap.size, j, none⟩ := by unfold Addr.add; split <;> simp_all
    rw [hadd, cell_of_row _ _ j c 169 (0, 0) (heap_alloc_last w _)]; exact hv
  match j, hj with
  | 0, _ => exact hc _ _ h0
  | 1, _ => exact hc _ _ h1
  | 2, _ => exact hc _ _ h2
  | 3, _ => exact hc _ _ h3
 generalize mX = M at *
 have HZ := Lib.hid hz
 clear h0 h1 h2 h3
 go_enter Tryz.func140, Tryz.ntmps140
 go_wp2_with (go_at_call 137; refine (mFilled _).mono ?_; rintro e wa ⟨rfl, qa⟩)
 go_ret
 exact ⟨rfl, ((Dn.refl _).alloc _).trans qa⟩
theorem wpList_loadN {ops : Array Oper} {rest : List Oper} {o : Oper} {a : Act} {Q : Exit → Act → World → Prop} (hgd : o.guard = none) (p : Operand) (ho : o.op = .load 169 p) (w : World) (c : Array Value) (hz : c.size = 18) (hp : ∃ n, a.eval p = .pointer (some ⟨n, 0, none⟩) ∧ n = w.heap.size)
  (h : wpList Tryz.prog ops Q rest (a.put o.dst (.agg c)) (w.alloc (.cells c 169))) : wpList Tryz.prog ops Q (o :: rest) a (w.alloc (.cells c 169)) := by
 obtain ⟨n, hp, rfl⟩ := hp
 exact wpList_loadD hgd p ho w c hz hp h
theorem wpList_storeN {ops : Array Oper} {rest : List Oper} {o : Oper} {a : Act} {Q : Exit → Act → World → Prop} (hgd : o.guard = none) (p x : Operand) (ho : o.op = .store 169 p x) (w : World) (c c' : Array Value) (hz : c.size = 18) (hz' : c'.size = 18) (h1 : c'.all (·.oneCell') = true) (hx : a.eval x = .agg c') (hp : ∃ n, a.eval p = .pointer (some ⟨n, 0, none⟩) ∧ n = w.heap.size)
  (h : wpList Tryz.prog ops Q rest (a.put o.dst undef) (w.alloc (.cells c' 169))) : wpList Tryz.prog ops Q (o :: rest) a (w.alloc (.cells c 169)) := by
 obtain ⟨n, hp, rfl⟩ := hp
 exact wpList_storeD hgd p x ho w c c' hz hz' h1 hp hx h
structure By (w : World) (b : Nat) (l : List Int) : Prop where
 lt : b < w.heap.size
 el : ∀ (k : Nat) (v : Int), l[k]? = some v → w.cell? ⟨b, k, none⟩ = some (.int .u8 v)
 fz : ∀ k : Nat, k < l.length → w.frozen? ⟨b, k, none⟩ = false
theorem By.dn {w w' : World} {b : Nat} {l : List Int} (h : By w b l) (q : Dn w w') : By w' b l := ⟨Nat.lt_of_lt_of_le h.lt q.size, fun k v hk => q.cell (h.el k v hk), fun k hk => by rw [q.frozen h.lt]; exact h.fz k hk⟩
theorem by_new (w : World) (l : List Int) : By (w.alloc (.cells (bys l) 169)) w.heap.size l := ⟨by simp, fun k v hk => by
 rw [cell_of_row _ _ k (bys l) 169 (0, 0) (heap_alloc_last w _)]
 unfold bys
 simp [hk], fun k _ => by simp [go_sem]⟩
theorem By.set {w : World} {b : Nat} {l : List Int} (h : By w b l) {k : Nat} {v : Int} (hk : k < l.length) : By (w.setCell ⟨b, k, none⟩ (.int .u8 v)) b (l.set k v) := ⟨by simpa using h.lt, fun j x hj => by
 by_cases e : k = j
 · subst e
   rw [List.getElem?_set_self hk] at hj
   cases hj
   exact World.cell?_setCell_same _ _ _ (h.el k _ (List.getElem?_eq_getElem hk))
 · rw [List.getElem?_set_ne e] at hj
   rw [World.cell?_setCell_other (h := fun q => e (by injection q))]
   exact h.el j x hj, fun j hj => by
 rw [World.frozen?_setCell]
 exact h.fz j (by simpa using hj)⟩
theorem noGoto_normal {Q : Exit → Act → World → Prop} {a : Act} {w : World} (h : Q Exit.normal a w) : Exit.noGoto Q Exit.normal a w := h
def spO : List Int := [50, 48, 49, 48, 0, 0, 0, 0, 0, 0, 0, 0, 0, 0, 0, 0, 0, 0]
theorem mBeyond (c : Array Value) (hc : Hid (c = bys (spL 4))) (w : World) : Calls Tryz.prog 102 #[.string mX, .int .i64 2001, .bool true] w fun ro w' => ro = .returned (.tuple #[.int .i64 2010, .int .i64 0]) ∧ Dn w w' := by
 have hs := mX_size
 have HZ : Hid (c.size = 18) := Lib.hid (by rw [hc.out]; decide)
 have H1 : Hid (c.all (·.oneCell') = true) := Lib.hid (by rw [hc.out]; simp [bys, spL, Value.oneCell'])
 go_enter Tryz.func102, Tryz.ntmps102
 go_wp2_with (first | (go_at_call 139; refine (mSplit c hc _).mono ?_; rintro e wa ⟨rfl, qa⟩) | ((with_reducible refine wpList_loadN rfl _ rfl _ c HZ.out ?_ ?_); exact ⟨_, rfl, by simp⟩) | ((with_reducible refine wpList_storeN rfl _ _ rfl _ _ c ?_ HZ.out H1.out ?_ ?_ ?_); (first | rfl | exact HZ.out); rfl; exact ⟨_, rfl, by simp⟩))
 obtain ⟨W, hW⟩ : ∃ W, W = (wa.alloc (.cells c 169)).alloc (.cells c 169) := ⟨_, rfl⟩
 have HD0 := Lib.hid (show By W wa.heap.size (spL 4) by rw [hW, hc.out]; exact (by_new wa _).dn ((Dn.refl _).alloc _))
 have HO0 := Lib.hid (show By W (wa.heap.size + 1) (spL 4) by
  rw [hW, hc.out]
  have h := by_new (wa.alloc (.cells (bys (spL 4)) 169)) (spL 4)
  simpa using h)
 have HU0 := Lib.hid (show Dn w W by rw [hW]; exact (qa.alloc _).alloc _)
 rw [← hW]
 clear hW
 obtain ⟨b1, hb1⟩ : ∃ b, b = wa.heap.size := ⟨_, rfl⟩
 have HB := Lib.hid (show w.heap.size ≤ b1 by rw [hb1]; exact qa.size)
 rw [← hb1] at HD0 HO0 ⊢
 clear hb1 qa HZ H1 hc
 go_loopw [12] (fun av wr => ∃ k : Nat, k ≤ 3 ∧ av = .int .i64 (k : Int) ∧ Dn W wr) (fun av _ => (3 - intOf av).toNat)
 case atStart => exact ⟨0, by decide, rfl, Dn.refl _⟩
 case round =>
  obtain ⟨k, hk, rfl, hu⟩ := hrel
  have hd := HD0.out.dn hu
  have d0 := hd.el 0 _ rfl
  have d1 := hd.el 1 _ rfl
  have d2 := hd.el 2 _ rfl
  have d3 := hd.el 3 _ rfl
  have HU := Lib.hid hu
  clear hd hu
  have m0 : mX[0].toNat = 50 := rfl
  have m1 : mX[1].toNat = 48 := rfl
  have m2 : mX[2].toNat = 88 := rfl
  have m3 : mX[3].toNat = 48 := rfl
  rcases (show k = 0 ∨ k = 1 ∨ k = 2 ∨ k = 3 by omega) with rfl | rfl | rfl | rfl
  · go_wp2_with fail
    go_quiet (fail)
    go_wp2_with fail
    go_roundw
    case rel => exact ⟨1, by decide, rfl, HU.out.drewN _⟩
    case measure => simp [intOf]
  · go_wp2_with fail
    go_quiet (fail)
    go_wp2_with fail
    go_roundw
    case rel => exact ⟨2, by decide, rfl, HU.out.drewN _⟩
    case measure => simp [intOf]
  · go_wp2_with fail
    go_quiet (fail)
    go_wp2_with fail
    go_roundw
    case rel => exact ⟨3, by decide, rfl, HU.out.drewN _⟩
    case measure => simp [intOf]
  · go_wp2_with fail
    go_quiet (fail)
    go_wp2_with fail
    go_quiet (fail)
    go_wp2_with fail
    go_step3
    go_wp2_with fail
    go_step3
    go_wp2_with fail
    clear d0 d1 d2 d3
    go_loopw [12] (fun av wv => av = .int .i64 3 ∧ Dn W wv) (fun _ _ => 0)
    case atStart => exact ⟨rfl, (HU.out.drewN _).drewN _⟩
    case round =>
     clear HU
     obtain ⟨rfl, hu⟩ := hrel
     have hd := HD0.out.dn hu
     have ho := HO0.out.dn hu
     have d2 := hd.el 2 _ rfl
     have o2 := ho.el 2 _ rfl
     have z2 := ho.fz 2 (by decide)
     have HOO := Lib.hid ho
     have HU := Lib.hid hu
     clear hd ho hu
     go_wp2_with fail
     have HO1 := Lib.hid (HOO.out.set (k := 2) (v := 49) (by decide))
     have HU1 := Lib.hid ((HU0.out.trans HU.out).setCell (p := ⟨b1 + 1, 2, none⟩) (Nat.le_trans HB.out (Nat.le_succ _)) (.int .u8 49))
     refine noGoto_normal ?_
     go_wp2_with fail
     clear o2 z2 d2 HOO HU HD0 HO0
     go_loopw [12] (fun av wv => (av = .int .i64 3 ∧ By wv (b1 + 1) ((spL 4).set 2 49) ∧ Dn w wv) ∨ (av = .int .i64 4 ∧ By wv (b1 + 1) spO ∧ Dn w wv)) (fun av _ => (4 - intOf av).toNat)
     case atStart => exact .inl ⟨rfl, HO1.out, HU1.out⟩
     case round =>
      clear HO1 HU1
      rcases hrel with ⟨rfl, ho, hu⟩ | ⟨rfl, ho, hu⟩
      · have o3 := ho.el 3 _ rfl
        have z3 := ho.fz 3 (by decide)
        have HOO := Lib.hid ho
        have HU := Lib.hid hu
        clear ho hu
        go_wp2_with fail
        go_roundw
        case rel => exact .inr ⟨rfl, HOO.out.set (k := 3) (v := 48) (by decide), HU.out.setCell (p := ⟨b1 + 1, 3, none⟩) (Nat.le_trans HB.out (Nat.le_succ _)) _⟩
        case measure => simp [intOf]
      · have o0 := ho.el 0 _ rfl
        have o1 := ho.el 1 _ rfl
        have o2 := ho.el 2 _ rfl
        have o3 := ho.el 3 _ rfl
        have o4 := ho.el 4 _ rfl
        have o5 := ho.el 5 _ rfl
        have o6 := ho.el 6 _ rfl
        have o7 := ho.el 7 _ rfl
        have o8 := ho.el 8 _ rfl
        have o9 := ho.el 9 _ rfl
        have o10 := ho.el 10 _ rfl
        have o11 := ho.el 11 _ rfl
        have o12 := ho.el 12 _ rfl
        have o13 := ho.el 13 _ rfl
        have o14 := ho.el 14 _ rfl
        have o15 := ho.el 15 _ rfl
        have o16 := ho.el 16 _ rfl
        have o17 := ho.el 17 _ rfl
        have HU := Lib.hid hu
        clear ho hu
        go_wp2_with fail
        refine (mValue _ rfl rfl rfl rfl rfl (by simp [Value.oneCell']) _).mono ?_
        rintro e wz ⟨rfl, qz⟩
        go_wp2_with fail
        exact bodyPost_ret (v := .tuple #[.int .i64 2010, .int .i64 0]) (by simp [results, Tryz.results102, go_sem]) rfl ⟨rfl, HU.out.trans qz⟩
theorem mNext (w : World) : Calls Tryz.prog 45 #[.string mX, .int .i64 2001] w fun ro w' => ro = .returned (.tuple #[.int .i64 2010, .int .i64 0]) ∧ Dn w w' := by
 have HC := mCheck
 have HW := mWithin
 have HBY := Lib.hid (mBeyond _ (Lib.hid rfl))
 generalize mX = M at *
 go_enter Tryz.func45, Tryz.ntmps45
 go_wp2_with (first | (go_at_call 99; refine (HC _).mono ?_; rintro e w1 ⟨rfl, q1⟩) | (go_at_call 101; refine (HW _).mono ?_; rintro e w2 ⟨rfl, rfl⟩) | (go_at_call 102; refine (HBY.out _).mono ?_; rintro e w3 ⟨rfl, q3⟩))
 exact bodyPost_ret (v := .tuple #[.int .i64 2010, .int .i64 0]) (by simp [results, Tryz.results45, go_sem]) rfl ⟨rfl, q1.trans q3⟩
end Go.Proofs.YteodjglbpfmikaaGreatDoor
