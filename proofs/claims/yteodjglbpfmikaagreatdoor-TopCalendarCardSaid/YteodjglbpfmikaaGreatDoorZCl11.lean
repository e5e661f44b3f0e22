/- Walks and laws that the claim's theorem leans on: part 11. -/
import Derived.Test.YteodjglbpfmikaaGreatDoorZCl1
import Derived.Test.YteodjglbpfmikaaGreatDoorZCl2
import Derived.Test.YteodjglbpfmikaaGreatDoorZCl3
import Derived.Test.YteodjglbpfmikaaGreatDoorZCl4
import Derived.Test.YteodjglbpfmikaaGreatDoorZCl8
import Derived.Test.YteodjglbpfmikaaGreatDoorZCl10
import Derived.Maps.RangeWalk
import Derived.RegionTactic
import Derived.Deep.RegionLaw
import Derived.Deep.AppendLies
import Derived.WalkSmall
import Derived.LoopN
namespace Go.Proofs.YteodjglbpfmikaaGreatDoor
set_option maxHeartbeats 2000000
set_option maxRecDepth 100000
open Go.RowKit Go.ChangeMaps Go.MapKept
def kM : Value := .agg #[.int .i8 (-1), .int .i64 0]
def kP : Value := .agg #[.int .i8 1, .int .i64 0]
def sM : ByteArray := ⟨#[45, 105, 110, 102]⟩
def sP : ByteArray := ⟨#[105, 110, 102]⟩
theorem ckE (em : Bool) (i d : Int) (w : World) : (Instr.checkKey em 10000 28 (.agg #[.int .i8 i, .int .i64 d])).run Tryz.prog w = .ok () w := by kernel_rfl
theorem fk0 (x : Value) (w : World) : (Instr.findKey 28 x []).run Tryz.prog w = .ok none w := by kernel_rfl
theorem fkPM (n : Nat) (w : World) : (Instr.findKey 28 kP [⟨kM, .string sM, n⟩]).run Tryz.prog w = .ok none w := by kernel_rfl
theorem fkMP (n : Nat) (w : World) : (Instr.findKey 28 kM [⟨kP, .string sP, n⟩]).run Tryz.prog w = .ok none w := by kernel_rfl
theorem insE (w : World) (b : Nat) (es : Array MapEntry) (c : Nat) (i d : Int) (val : Value) (hb : w.heap[b]? = some (.map es c)) (hf : (Instr.findKey 28 (.agg #[.int .i8 i, .int .i64 d]) es.toList).run Tryz.prog w = .ok none w) :
  (Instr.mapUpdate 211 (.map (some b)) (.agg #[.int .i8 i, .int .i64 d]) val).run Tryz.prog w = .ok () (setBlock w b (.map (es.push ⟨.agg #[.int .i8 i, .int .i64 d], val, c⟩) (c + 1))) := by
 simp [Instr.mapUpdate, run_underlying Tryz.underlying211, MapKept.run_getObj_map hb, ckE, hf, MapKept.run_setObj_map _ hb, Result.andThen, setBlock]
theorem setBlock_new (w : World) (o o' : Obj) : setBlock (w.alloc o) w.heap.size o' = w.alloc o' := by
 have e : (w.heap.push o).setIfInBounds w.heap.size o' = w.heap.push o' := by
  apply Array.ext'
  simp
 show World.mk ((w.heap.push o).setIfInBounds w.heap.size o') w.tape w.drawn w.os w.output = World.mk (w.heap.push o') w.tape w.drawn w.os w.output
 rw [e]
theorem runM0 (w : World) : (Instr.mapUpdate 211 (.map (some w.heap.size)) (.agg #[.int .i8 (-1), .int .i64 0]) (.string ⟨#[45, 105, 110, 102]⟩)).run Tryz.prog (w.alloc (.map #[] 0)) = .ok () (w.alloc (.map #[⟨kM, .string sM, 0⟩] 1)) := by
 rw [insE (w.alloc (.map #[] 0)) w.heap.size #[] 0 _ _ _ (MapKept.heap_alloc w _).1 (fk0 _ _), setBlock_new]; rfl
theorem runP0 (w : World) : (Instr.mapUpdate 211 (.map (some w.heap.size)) (.agg #[.int .i8 1, .int .i64 0]) (.string ⟨#[105, 110, 102]⟩)).run Tryz.prog (w.alloc (.map #[] 0)) = .ok () (w.alloc (.map #[⟨kP, .string sP, 0⟩] 1)) := by
 rw [insE (w.alloc (.map #[] 0)) w.heap.size #[] 0 _ _ _ (MapKept.heap_alloc w _).1 (fk0 _ _), setBlock_new]; rfl
theorem runPM (w : World) : (Instr.mapUpdate 211 (.map (some w.heap.size)) (.agg #[.int .i8 1, .int .i64 0]) (.string ⟨#[105, 110, 102]⟩)).run Tryz.prog (w.alloc (.map #[⟨kM, .string sM, 0⟩] 1)) = .ok () (w.alloc (.map #[⟨kM, .string sM, 0⟩, ⟨kP, .string sP, 1⟩] 2)) := by
 rw [insE (w.alloc (.map #[⟨kM, .string sM, 0⟩] 1)) w.heap.size #[⟨kM, .string sM, 0⟩] 1 _ _ _ (MapKept.heap_alloc w _).1 (fkPM _ _), setBlock_new]; rfl
theorem runMP (w : World) : (Instr.mapUpdate 211 (.map (some w.heap.size)) (.agg #[.int .i8 (-1), .int .i64 0]) (.string ⟨#[45, 105, 110, 102]⟩)).run Tryz.prog (w.alloc (.map #[⟨kP, .string sP, 0⟩] 1)) = .ok () (w.alloc (.map #[⟨kP, .string sP, 0⟩, ⟨kM, .string sM, 1⟩] 2)) := by
 rw [insE (w.alloc (.map #[⟨kP, .string sP, 0⟩] 1)) w.heap.size #[⟨kP, .string sP, 0⟩] 1 _ _ _ (MapKept.heap_alloc w _).1 (fkMP _ _), setBlock_new]; rfl
def eA : Array MapEntry := #[⟨kM, .string sM, 0⟩, ⟨kP, .string sP, 1⟩]
def eB : Array MapEntry := #[⟨kP, .string sP, 0⟩, ⟨kM, .string sM, 1⟩]
def InfM (w : World) (b : Nat) : Prop := ∃ es, (es = eA ∨ es = eB) ∧ w.heap[b]? = some (.map es 2)
theorem InfM.dn {w w' : World} {b : Nat} (h : InfM w b) (k : Dn w w') : InfM w' b := by
 obtain ⟨es, he, hb⟩ := h
 refine ⟨es, he, ?_⟩
 rw [k.below.block b (Array.getElem?_eq_some_iff.1 hb).1]; exact hb
theorem eInf (w : World) : Calls Tryz.prog 169 #[] w fun e w' => e = .returned (.map (some w.heap.size)) ∧ Up w w' ∧ InfM w' w.heap.size := by
 have r1 : (Instr.mapUpdate 211 (.map (some w.heap.size)) (.agg #[.int .i8 (-1), .int .i64 0]) (.string ⟨#[45, 105, 110, 102]⟩)).run Tryz.prog (w.alloc (.map #[] 0)).drew = .ok () (w.alloc (.map #[⟨kM, .string sM, 0⟩] 1)).drew := runM0 w.drew
 have r2 : (Instr.mapUpdate 211 (.map (some w.heap.size)) (.agg #[.int .i8 1, .int .i64 0]) (.string ⟨#[105, 110, 102]⟩)).run Tryz.prog (w.alloc (.map #[] 0)).drew = .ok () (w.alloc (.map #[⟨kP, .string sP, 0⟩] 1)).drew := runP0 w.drew
 have r3 : (Instr.mapUpdate 211 (.map (some w.heap.size)) (.agg #[.int .i8 1, .int .i64 0]) (.string ⟨#[105, 110, 102]⟩)).run Tryz.prog (w.alloc (.map #[⟨kM, .string sM, 0⟩] 1)).drew = .ok () (w.alloc (.map #[⟨kM, .string sM, 0⟩, ⟨kP, .string sP, 1⟩] 2)).drew := runPM w.drew
 have r4 : (Instr.mapUpdate 211 (.map (some w.heap.size)) (.agg #[.int .i8 (-1), .int .i64 0]) (.string ⟨#[45, 105, 110, 102]⟩)).run Tryz.prog (w.alloc (.map #[⟨kP, .string sP, 0⟩] 1)).drew = .ok () (w.alloc (.map #[⟨kP, .string sP, 0⟩, ⟨kM, .string sM, 1⟩] 2)).drew := runMP w.drew
 have hmm := @run_makeMap Tryz.prog
 go_enter Tryz.func169, Tryz.ntmps169
 go_wp2_with fail
 go_region
 · clear r1 r2 r3 r4
   go_wp2_with fail
   go_ret
   exact ⟨rfl, ((Up.refl _).alloc _).drew, eA, Or.inl rfl, (MapKept.heap_alloc w _).1⟩
 · clear r1 r2 r3 r4
   go_wp2_with fail
   go_ret
   exact ⟨rfl, ((Up.refl _).alloc _).drew, eB, Or.inr rfl, (MapKept.heap_alloc w _).1⟩
def eStr (i d : Int) : ByteArray := if i = 0 then ⟨(Lib.itoa d).toArray⟩ else if i < 0 then sM else sP
theorem fAM (w : World) : (Instr.findKey 28 kM eA.toList).run Tryz.prog w = .ok (some (0, .string sM)) w := by kernel_rfl
theorem fAP (w : World) : (Instr.findKey 28 kP eA.toList).run Tryz.prog w = .ok (some (1, .string sP)) w := by kernel_rfl
theorem fBM (w : World) : (Instr.findKey 28 kM eB.toList).run Tryz.prog w = .ok (some (1, .string sM)) w := by kernel_rfl
theorem fBP (w : World) : (Instr.findKey 28 kP eB.toList).run Tryz.prog w = .ok (some (0, .string sP)) w := by kernel_rfl
theorem fAd (d : Int) (w : World) : (Instr.findKey 28 (.agg #[.int .i8 0, .int .i64 d]) eA.toList).run Tryz.prog w = .ok none w := by kernel_rfl
theorem fBd (d : Int) (w : World) : (Instr.findKey 28 (.agg #[.int .i8 0, .int .i64 d]) eB.toList).run Tryz.prog w = .ok none w := by kernel_rfl
theorem lkS (w : World) (b : Nat) (es : Array MapEntry) (c : Nat) (i d : Int) (j : Nat) (s : ByteArray) (hb : w.heap[b]? = some (.map es c)) (hf : (Instr.findKey 28 (.agg #[.int .i8 i, .int .i64 d]) es.toList).run Tryz.prog w = .ok (some (j, .string s)) w) :
  (Instr.lookup 211 (.map (some b)) (.agg #[.int .i8 i, .int .i64 d]) true).run Tryz.prog w = .ok (.tuple #[.string s, .bool true]) w := by
 simp [Instr.lookup, run_underlying Tryz.underlying211, MapKept.run_getObj_map hb, ckE, hf, Result.andThen]
theorem lkN (w : World) (b : Nat) (es : Array MapEntry) (c : Nat) (i d : Int) (hb : w.heap[b]? = some (.map es c)) (hf : (Instr.findKey 28 (.agg #[.int .i8 i, .int .i64 d]) es.toList).run Tryz.prog w = .ok none w) :
  (Instr.lookup 211 (.map (some b)) (.agg #[.int .i8 i, .int .i64 d]) true).run Tryz.prog w = .ok (.tuple #[.string ⟨#[]⟩, .bool false]) w := by
 simp [Instr.lookup, run_underlying Tryz.underlying211, MapKept.run_getObj_map hb, ckE, hf, Result.andThen]
theorem lk_day (w : World) (b : Nat) (d : Int) (h : InfM w b) : (Instr.lookup 211 (.map (some b)) (.agg #[.int .i8 0, .int .i64 d]) true).run Tryz.prog w = .ok (.tuple #[.string ⟨#[]⟩, .bool false]) w := by
 obtain ⟨es, rfl | rfl, hb⟩ := h
 · exact lkN w b _ _ _ _ hb (fAd d w)
 · exact lkN w b _ _ _ _ hb (fBd d w)
theorem lk_inf (w : World) (b : Nat) (i : Int) (hi : i = 1 ∨ i = -1) (h : InfM w b) : (Instr.lookup 211 (.map (some b)) (.agg #[.int .i8 i, .int .i64 0]) true).run Tryz.prog w = .ok (.tuple #[.string (eStr i 0), .bool true]) w := by
 obtain ⟨es, rfl | rfl, hb⟩ := h <;> rcases hi with rfl | rfl
 · exact lkS w b _ _ _ _ _ _ hb (fAP w)
 · exact lkS w b _ _ _ _ _ _ hb (fAM w)
 · exact lkS w b _ _ _ _ _ _ hb (fBP w)
 · exact lkS w b _ _ _ _ _ _ hb (fBM w)
theorem kE1 {W w1 w2 : World} {a0 a1 : Addr} {v0 v1 : Value} (k : Up w1 w2) (h : Up W w1 ∧ w1.cell? a0 = some v0 ∧ w1.cell? a1 = some v1) : Up W w2 ∧ w2.cell? a0 = some v0 ∧ w2.cell? a1 = some v1 := by
 obtain ⟨h1, c0, c1⟩ := h
 exact ⟨h1.trans k, k.cell c0, k.cell c1⟩
theorem eText_day (d : Int) (w : World) (hd : I64 d) (hE : EnvI w) :
    Calls Tryz.prog 142 #[.agg #[.int .i8 0, .int .i64 d]] w fun e w' => e = .returned (.tuple #[.string ⟨(Lib.itoa d).toArray⟩, .int .i64 0]) ∧ Up w w' := by
  have b0 := CB.new w (.int .i8 0) (.int .i64 d) 28
  have u0 : Up w _ := (Up.refl w).alloc (.cells #[.int .i8 0, .int .i64 d] 28)
  have B0 := Lib.hid b0
  have U0 := Lib.hid u0
  clear b0 u0
  have HE := Lib.hid (fun W => eChk_ok 0 d W (Or.inl rfl))
  have HT := Lib.hid (fun W h => itext d W hd h)
  clear hd
  go_enter Tryz.func142, Tryz.ntmps142
  go_wp2_with fail
  refine (HE.out _).mono ?_
  rintro e w1 ⟨rfl, q1⟩
  obtain ⟨c0, c1, f0, f1, l0⟩ := B0.out.up q1
  have u1 := U0.out.trans q1
  clear q1 f0 f1
  have hS := kE1 (W := w1) (Up.refl w1) ⟨Up.refl _, c0, c1⟩
  clear c0 c1
  go_wp2_with fail
  go_region_held3 (fun w' => Up w1 w' ∧ w'.cell? ⟨w.heap.size, 0, none⟩ = some (.int .i8 0) ∧ w'.cell? ⟨w.heap.size, 1, none⟩ = some (.int .i64 d))
    (first | exact kE1 ((Up.refl _).drew) hS | exact kE1 ‹Up _ _› ‹_› | assumption)
    (first
      | (go_at_call 169; refine (eInf _).mono ?_; rintro e wa ⟨rfl, qa, hm⟩; have hl : (Instr.lookup 211 (.map (some w1.heap.size)) (.agg #[.int .i8 0, .int .i64 d]) true).run Tryz.prog wa = .ok (.tuple #[.string ⟨#[]⟩, .bool false]) wa := lk_day _ _ d hm))
  all_goals
    obtain ⟨k1, c0, c1⟩ := (‹Up w1 _ ∧ _› : _ ∧ _)
    clear hS
    go_wp2_with fail
    refine (HT.out _ ((hE.up u1).up k1)).mono ?_
    rintro e w3 ⟨rfl, q3⟩
    have u3 := (u1.trans k1).trans q3
    go_wp2_with fail
    go_ret2
    exact ⟨rfl, u3⟩
theorem eText_inf (i : Int) (w : World) (hi : i = 1 ∨ i = -1) :
    Calls Tryz.prog 142 #[.agg #[.int .i8 i, .int .i64 0]] w fun e w' => e = .returned (.tuple #[.string (eStr i 0), .int .i64 0]) ∧ Up w w' := by
  have b0 := CB.new w (.int .i8 i) (.int .i64 0) 28
  have u0 : Up w _ := (Up.refl w).alloc (.cells #[.int .i8 i, .int .i64 0] 28)
  have B0 := Lib.hid b0
  have U0 := Lib.hid u0
  clear b0 u0
  have HE := Lib.hid (fun W => eChk_ok i 0 W (Or.inr ⟨hi, rfl⟩))
  go_enter Tryz.func142, Tryz.ntmps142
  go_wp2_with fail
  refine (HE.out _).mono ?_
  rintro e w1 ⟨rfl, q1⟩
  obtain ⟨c0, c1, f0, f1, l0⟩ := B0.out.up q1
  have u1 := U0.out.trans q1
  clear q1 f0 f1
  have hS := kE1 (W := w1) (Up.refl w1) ⟨Up.refl _, c0, c1⟩
  clear c0 c1
  go_wp2_with fail
  go_region_held3 (fun w' => Up w1 w' ∧ w'.cell? ⟨w.heap.size, 0, none⟩ = some (.int .i8 i) ∧ w'.cell? ⟨w.heap.size, 1, none⟩ = some (.int .i64 0))
    (first | exact kE1 ((Up.refl _).drew) hS | exact kE1 ‹Up _ _› ‹_› | assumption)
    (first
      | (go_at_call 169; refine (eInf _).mono ?_; rintro e wa ⟨rfl, qa, hm⟩; have hl : (Instr.lookup 211 (.map (some w1.heap.size)) (.agg #[.int .i8 i, .int .i64 0]) true).run Tryz.prog wa = .ok (.tuple #[.string (eStr i 0), .bool true]) wa := lk_inf _ _ i hi hm))
  all_goals
    obtain ⟨k1, c0, c1⟩ := (‹Up w1 _ ∧ _› : _ ∧ _)
    clear hS
    go_wp2_with fail
    go_ret2
    exact ⟨rfl, u1.trans k1⟩
theorem eStr_day (d : Int) : eStr 0 d = ⟨(Lib.itoa d).toArray⟩ := by unfold eStr; rw [if_pos rfl]
theorem eText_ok (i d : Int) (w : World) (h : eOk i d) (hd : I64 d) (hE : EnvI w) :
   Calls Tryz.prog 142 #[.agg #[.int .i8 i, .int .i64 d]] w fun e w' => e = .returned (.tuple #[.string (eStr i d), .int .i64 0]) ∧ Up w w' := by
 rcases h with rfl | ⟨hi, rfl⟩
 · rw [eStr_day]; exact eText_day d w hd hE
 · exact eText_inf i w hi
theorem Len.i64 {x : Int} (h : I64 x) : Len x := Len.of (by have := h.1; have := h.2; omega)
theorem CB.kept {w w' : World} {B : Nat} {u v : Value} {row : Option Nat} (h : CB w B u v) (hg : w.grownBy w' row) (hne : row ≠ some B) : CB w' B u v :=
 ⟨by rw [hg.cell_far _ h.lt (Ne.symm hne)]; exact h.c0, by rw [hg.cell_far _ h.lt (Ne.symm hne)]; exact h.c1, by rw [hg.frozen_far _ h.lt (Ne.symm hne)]; exact h.f0, by rw [hg.frozen_far _ h.lt (Ne.symm hne)]; exact h.f1, Nat.lt_of_lt_of_le h.lt hg.size⟩
theorem CB.set {w : World} {B : Nat} {u v : Value} (h : CB w B u v) (u' v' : Value) : CB ((w.setCell ⟨B, 0, none⟩ u').setCell ⟨B, 1, none⟩ v') B u' v' := by
 refine ⟨?_, ?_, by simp [h.f0], by simp [h.f1], by simpa using h.lt⟩
 · rw [World.cell?_setCell_other _ _ _ _ (by simp)]
   exact World.cell?_setCell_same _ _ _ h.c0
 · refine World.cell?_setCell_same _ _ _ (u := v) ?_
   rw [World.cell?_setCell_other _ _ _ _ (by simp)]; exact h.c1
open Go.RowKit
set_option linter.unusedVariables false
set_option linter.unusedSimpArgs false
structure C4 (w : World) (B : Nat) (v0 v1 v2 v3 : Value) : Prop where
 c0 : w.cell? ⟨B, 0, none⟩ = some v0
 c1 : w.cell? ⟨B, 1, none⟩ = some v1
 c2 : w.cell? ⟨B, 2, none⟩ = some v2
 c3 : w.cell? ⟨B, 3, none⟩ = some v3
 f0 : w.frozen? ⟨B, 0, none⟩ = false
 f1 : w.frozen? ⟨B, 1, none⟩ = false
 f2 : w.frozen? ⟨B, 2, none⟩ = false
 f3 : w.frozen? ⟨B, 3, none⟩ = false
 lt : B < w.heap.size
theorem C4.dn {w w' : World} {B : Nat} {v0 v1 v2 v3 : Value} (h : C4 w B v0 v1 v2 v3) (k : Dn w w') : C4 w' B v0 v1 v2 v3 :=
 ⟨k.cell h.c0, k.cell h.c1, k.cell h.c2, k.cell h.c3, by rw [k.frozen h.lt]; exact h.f0, by rw [k.frozen h.lt]; exact h.f1, by rw [k.frozen h.lt]; exact h.f2, by rw [k.frozen h.lt]; exact h.f3, Nat.lt_of_lt_of_le h.lt k.size⟩
theorem C4.alloc {w : World} {B : Nat} {v0 v1 v2 v3 : Value} (h : C4 w B v0 v1 v2 v3) (o : Obj) : C4 (w.alloc o) B v0 v1 v2 v3 := h.dn ((Dn.refl _).alloc o)
theorem C4.drew {w : World} {B : Nat} {v0 v1 v2 v3 : Value} (h : C4 w B v0 v1 v2 v3) : C4 w.drew B v0 v1 v2 v3 := h.dn (Dn.refl _).drew
theorem C4.new (w : World) (v0 v1 v2 v3 : Value) (t : TypeId) : C4 (w.alloc (.cells #[v0, v1, v2, v3] t)) w.heap.size v0 v1 v2 v3 := by
 refine ⟨?_, ?_, ?_, ?_, ?_, ?_, ?_, ?_, ?_⟩ <;> simp [go_sem]
theorem C4.new1 (w : World) (o : Obj) (v0 v1 v2 v3 : Value) (t : TypeId) : C4 ((w.alloc o).alloc (.cells #[v0, v1, v2, v3] t)) (w.heap.size + 1) v0 v1 v2 v3 := by
 have := C4.new (w.alloc o) v0 v1 v2 v3 t
 simpa using this
theorem C4.new2 (w : World) (o o2 : Obj) (v0 v1 v2 v3 : Value) (t : TypeId) : C4 (((w.alloc o).alloc o2).alloc (.cells #[v0, v1, v2, v3] t)) (w.heap.size + 1 + 1) v0 v1 v2 v3 := by
 have := C4.new ((w.alloc o).alloc o2) v0 v1 v2 v3 t
 simpa using this
theorem C4.far {w : World} {B n : Nat} {v0 v1 v2 v3 : Value} (h : C4 w n v0 v1 v2 v3) (hn : n ≠ B) (j : Nat) (v : Value) : C4 (w.setCell ⟨B, j, none⟩ v) n v0 v1 v2 v3 := by
 have hx : ∀ i u, w.cell? ⟨n, i, none⟩ = some u → (w.setCell ⟨B, j, none⟩ v).cell? ⟨n, i, none⟩ = some u := fun i u hu => by
  rw [World.cell?_setCell_other _ _ _ _ (fun e => hn (by simpa using (congrArg Addr.block e).symm))]; exact hu
 exact ⟨hx _ _ h.c0, hx _ _ h.c1, hx _ _ h.c2, hx _ _ h.c3, by simpa using h.f0, by simpa using h.f1, by simpa using h.f2, by simpa using h.f3, by simpa using h.lt⟩
theorem C4.fill {w : World} {B : Nat} {z0 z1 z2 z3 : Value} (h : C4 w B z0 z1 z2 z3) (v0 v1 v2 v3 : Value) :
  C4 ((((w.setCell ⟨B, 0, none⟩ v0).setCell ⟨B, 1, none⟩ v1).setCell ⟨B, 2, none⟩ v2).setCell ⟨B, 3, none⟩ v3) B v0 v1 v2 v3 := by
 have h0 := h.c0; have h1 := h.c1; have h2 := h.c2; have h3 := h.c3
 refine ⟨?_, ?_, ?_, ?_, by simpa using h.f0, by simpa using h.f1, by simpa using h.f2, by simpa using h.f3, by simpa using h.lt⟩ <;> simp [go_sem, h0, h1, h2, h3]
theorem C4.far4 {w : World} {B n : Nat} {z0 z1 z2 z3 : Value} (h : C4 w n z0 z1 z2 z3) (hn : n ≠ B) (v0 v1 v2 v3 : Value) :
  C4 ((((w.setCell ⟨B, 0, none⟩ v0).setCell ⟨B, 1, none⟩ v1).setCell ⟨B, 2, none⟩ v2).setCell ⟨B, 3, none⟩ v3) n z0 z1 z2 z3 :=
 (((h.far hn _ _).far hn _ _).far hn _ _).far hn _ _
structure NB (w : World) (B L : Nat) : Prop where
 z : C4 w B (.int .i8 0) (.int .i64 0) (.int .i8 0) (.int .i64 0)
 lt : L < B
theorem NB.new {w : World} {L : Nat} (h : L < w.heap.size) (t : TypeId) : NB (w.alloc (.cells #[.int .i8 0, .int .i64 0, .int .i8 0, .int .i64 0] t)) w.heap.size L := ⟨C4.new _ _ _ _ _ _, h⟩
theorem NB.dn {w w' : World} {B L : Nat} (h : NB w B L) (q : Dn w w') : NB w' B L := ⟨h.z.dn q, h.lt⟩
open Go.RowKit
set_option linter.unusedVariables false
set_option linter.unusedSimpArgs false
structure EnvR (w : World) : Prop where
 i : EnvI w
 m : ∃ m, w.cell? ⟨5, 0, none⟩ = some (.int .i64 m)
theorem EnvR.dn {w w' : World} (h : EnvR w) (k : Dn w w') : EnvR w' := ⟨h.i.dn k, h.m.elim fun m hm => ⟨m, k.cell hm⟩⟩
set_option maxHeartbeats 4000000
set_option maxRecDepth 100000
open Go.RowKit
set_option linter.unusedVariables false
set_option linter.unusedSimpArgs false
structure EnvP (w : World) : Prop where
 i : EnvI w
 s : EnvS w
 ml : ∃ n, w.cell? ⟨5, 0, none⟩ = some (.int .i64 n)
theorem EnvP.dn {w w' : World} (h : EnvP w) (k : Dn w w') : EnvP w' := ⟨h.i.dn k, h.s.below k.below, h.ml.elim fun n e => ⟨n, k.cell e⟩⟩
theorem EnvP.c {w : World} (h : EnvP w) : EnvC w := ⟨h.i, h.s.mo, h.ml⟩
theorem EnvP.r {w : World} (h : EnvP w) : EnvR w := ⟨h.i, h.ml⟩
theorem EnvP.st {w : World} (h : EnvP w) : Steps w := h.s.mo.st
theorem tDay (w : World) (hE : EnvP w) : Calls Tryz.prog 42 #[.agg #[.int .i64 2000, .int .i64 2, .int .i64 29]] w fun ro w' => ro = .returned (.tuple #[.int .i64 730544, .int .i64 0]) ∧ Dn w w' := by
 have h := cvDay_ok 2000 2 29 (by decide +kernel) w hE.c
 rw [show Cal.sm 2000 2 + 29 - 1 = 730544 by decide +kernel] at h
 exact h
theorem tSeason (w : World) (hE : EnvP w) : Calls Tryz.prog 22 #[.int .i64 2000, .int .i64 21] w fun ro w' => ro = .returned (.tuple #[.agg #[.int .i8 0, .int .i64 730545, .int .i8 0, .int .i64 730636], .int .i64 0]) ∧ Dn w w' := by
 have h := srun_yes 2000 21 w (by decide) (by decide +kernel) hE.s
 rw [show sLo 2000 21 = 730545 by decide +kernel, show sHi 2000 21 = 730636 by decide +kernel] at h
 exact h.mono fun e w' q => ⟨q.1, q.2.dn⟩
theorem tYear (y lo hi : Int) (w : World) (h1 : Cal.sy y = lo) (h2 : Cal.sy (y + 1) - 1 = hi) (hy : IsY y) (hE : EnvP w) :
  Calls Tryz.prog 17 #[.int .i64 y] w fun ro w' => ro = .returned (.tuple #[.agg #[.int .i8 0, .int .i64 lo, .int .i8 0, .int .i64 hi], .bool true]) ∧ Dn w w' := by
 have HO := Lib.hid (show ¬ hi < lo by have := Cal.sy_lt y (y + 1) (by omega); omega)
 have HS := Lib.hid (fun w (hE : Steps w) => ystart_yes y w hy hE)
 have HT := Lib.hid (fun w (hE : Steps w) => yend_yes y w hy hE)
 rw [h1] at HS
 rw [h2] at HT
 clear hy h1 h2
 go_enter Tryz.func17, Tryz.ntmps17
 go_wp2_with fail
 refine (HS.out _ (hE.dn ((Dn.refl _).alloc _)).st).mono ?_
 rintro e w1 ⟨rfl, q1⟩
 have u1 : Dn w w1 := ((Dn.refl w).alloc _).up q1
 have hl : w.heap.size < w1.heap.size := by have := q1.dn.size; simp at this; omega
 have c0 := q1.dn.cell (show (w.alloc (.cells #[.int .i8 0, .int .i64 0, .int .i8 0, .int .i64 0] 30)).cell? ⟨w.heap.size, 0, none⟩ = some (.int .i8 0) by simp [go_sem])
 have c1 := q1.dn.cell (show (w.alloc (.cells #[.int .i8 0, .int .i64 0, .int .i8 0, .int .i64 0] 30)).cell? ⟨w.heap.size, 1, none⟩ = some (.int .i64 0) by simp [go_sem])
 have c2 := q1.dn.cell (show (w.alloc (.cells #[.int .i8 0, .int .i64 0, .int .i8 0, .int .i64 0] 30)).cell? ⟨w.heap.size, 2, none⟩ = some (.int .i8 0) by simp [go_sem])
 have c3 := q1.dn.cell (show (w.alloc (.cells #[.int .i8 0, .int .i64 0, .int .i8 0, .int .i64 0] 30)).cell? ⟨w.heap.size, 3, none⟩ = some (.int .i64 0) by simp [go_sem])
 have f0 : ∀ k, w1.frozen? ⟨w.heap.size, k, none⟩ = false := fun k => by rw [q1.dn.frozen (by simp)]; simp [go_sem]
 clear q1
 go_wp2_with fail
 refine (HT.out _ (hE.dn u1).st).mono ?_
 rintro e w2 ⟨rfl, q2⟩
 have u2 := u1.up q2
 replace c0 := q2.dn.cell c0
 replace c1 := q2.dn.cell c1
 replace c2 := q2.dn.cell c2
 replace c3 := q2.dn.cell c3
 have f1 : ∀ k, w2.frozen? ⟨w.heap.size, k, none⟩ = false := fun k => by rw [q2.dn.frozen hl]; exact f0 k
 replace hl : w.heap.size < w2.heap.size := Nat.lt_of_lt_of_le hl q2.dn.size
 clear f0 q2 u1
 go_wp2_with fail
 refine (rnOf_yes lo hi (Int.not_lt.2 HO.out) _).mono ?_
 rintro e w3 ⟨rfl, q3⟩
 have u3 := u2.trans q3
 replace c0 := q3.cell c0
 replace c1 := q3.cell c1
 replace c2 := q3.cell c2
 replace c3 := q3.cell c3
 have z0 : w3.frozen? ⟨w.heap.size, 0, none⟩ = false := by rw [q3.frozen hl]; exact f1 0
 have z1 : w3.frozen? ⟨w.heap.size, 1, none⟩ = false := by rw [q3.frozen hl]; exact f1 1
 have z2 : w3.frozen? ⟨w.heap.size, 2, none⟩ = false := by rw [q3.frozen hl]; exact f1 2
 have z3 : w3.frozen? ⟨w.heap.size, 3, none⟩ = false := by rw [q3.frozen hl]; exact f1 3
 replace hl : w.heap.size < w3.heap.size := Nat.lt_of_lt_of_le hl q3.size
 clear f1 q3 u2
 go_wp2_with fail
 exact bodyPost_ret (v := .tuple #[.agg #[.int .i8 0, .int .i64 lo, .int .i8 0, .int .i64 hi], .bool true]) (by simp [results, Tryz.results17, go_sem, runV, c0, c1, c2, c3, hl, Nat.ne_of_lt hl, Nat.ne_of_gt hl] <;> omega) rfl ⟨rfl, ((((u3.setCell (Nat.le_refl _) _).setCell (Nat.le_refl _) _).setCell (Nat.le_refl _) _).setCell (Nat.le_refl _) _).alloc _⟩
theorem dn_eq {a b : World} (h : a = b) : Dn a b := by subst h; exact Dn.refl _
end Go.Proofs.YteodjglbpfmikaaGreatDoor
