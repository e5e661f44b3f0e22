/-
  WALKS OF circa/ends: infinities (a map of two entries, laid in an order that Go leaves open), Text, Parse.
-/
import Derived.Test.YtcdkeiolblifkaaDoorEndC
import Derived.Maps.RangeWalk
import Derived.RegionTactic
import Derived.Deep.RegionLaw
namespace Go.Proofs.YtcdkeiolblifkaaDoor
open Go.RowKit Go.ChangeMaps Go.MapKept
def kM : Value := .agg #[.int .i8 (-1), .int .i64 0]
def kP : Value := .agg #[.int .i8 1, .int .i64 0]
def sM : ByteArray := ⟨#[45, 105, 110, 102]⟩
def sP : ByteArray := ⟨#[105, 110, 102]⟩
theorem ckE (em : Bool) (i d : Int) (w : World) : (Instr.checkKey em 10000 27 (.agg #[.int .i8 i, .int .i64 d])).run Tryd.prog w = .ok () w := by kernel_rfl
theorem fk0 (x : Value) (w : World) : (Instr.findKey 27 x []).run Tryd.prog w = .ok none w := by kernel_rfl
theorem fkPM (n : Nat) (w : World) : (Instr.findKey 27 kP [⟨kM, .string sM, n⟩]).run Tryd.prog w = .ok none w := by kernel_rfl
theorem fkMP (n : Nat) (w : World) : (Instr.findKey 27 kM [⟨kP, .string sP, n⟩]).run Tryd.prog w = .ok none w := by kernel_rfl
theorem insE (w : World) (b : Nat) (es : Array MapEntry) (c : Nat) (i d : Int) (val : Value) (hb : w.heap[b]? = some (.map es c)) (hf : (Instr.findKey 27 (.agg #[.int .i8 i, .int .i64 d]) es.toList).run Tryd.prog w = .ok none w) :
    (Instr.mapUpdate 104 (.map (some b)) (.agg #[.int .i8 i, .int .i64 d]) val).run Tryd.prog w = .ok () (setBlock w b (.map (es.push ⟨.agg #[.int .i8 i, .int .i64 d], val, c⟩) (c + 1))) := by
  simp [Instr.mapUpdate, run_underlying Tryd.underlying104, MapKept.run_getObj_map hb, ckE, hf, MapKept.run_setObj_map _ hb, Result.andThen, setBlock]
theorem setBlock_new (w : World) (o o' : Obj) : setBlock (w.alloc o) w.heap.size o' = w.alloc o' := by
  have e : (w.heap.push o).setIfInBounds w.heap.size o' = w.heap.push o' := by
    apply Array.ext'
    simp
  show World.mk ((w.heap.push o).setIfInBounds w.heap.size o') w.tape w.drawn w.os w.output = World.mk (w.heap.push o') w.tape w.drawn w.os w.output
  rw [e]
theorem runM0 (w : World) : (Instr.mapUpdate 104 (.map (some w.heap.size)) (.agg #[.int .i8 (-1), .int .i64 0]) (.string ⟨#[45, 105, 110, 102]⟩)).run Tryd.prog (w.alloc (.map #[] 0)) = .ok () (w.alloc (.map #[⟨kM, .string sM, 0⟩] 1)) := by
  rw [insE (w.alloc (.map #[] 0)) w.heap.size #[] 0 _ _ _ (MapKept.heap_alloc w _).1 (fk0 _ _), setBlock_new]; rfl
theorem runP0 (w : World) : (Instr.mapUpdate 104 (.map (some w.heap.size)) (.agg #[.int .i8 1, .int .i64 0]) (.string ⟨#[105, 110, 102]⟩)).run Tryd.prog (w.alloc (.map #[] 0)) = .ok () (w.alloc (.map #[⟨kP, .string sP, 0⟩] 1)) := by
  rw [insE (w.alloc (.map #[] 0)) w.heap.size #[] 0 _ _ _ (MapKept.heap_alloc w _).1 (fk0 _ _), setBlock_new]; rfl
theorem runPM (w : World) : (Instr.mapUpdate 104 (.map (some w.heap.size)) (.agg #[.int .i8 1, .int .i64 0]) (.string ⟨#[105, 110, 102]⟩)).run Tryd.prog (w.alloc (.map #[⟨kM, .string sM, 0⟩] 1)) = .ok () (w.alloc (.map #[⟨kM, .string sM, 0⟩, ⟨kP, .string sP, 1⟩] 2)) := by
  rw [insE (w.alloc (.map #[⟨kM, .string sM, 0⟩] 1)) w.heap.size #[⟨kM, .string sM, 0⟩] 1 _ _ _ (MapKept.heap_alloc w _).1 (fkPM _ _), setBlock_new]; rfl
theorem runMP (w : World) : (Instr.mapUpdate 104 (.map (some w.heap.size)) (.agg #[.int .i8 (-1), .int .i64 0]) (.string ⟨#[45, 105, 110, 102]⟩)).run Tryd.prog (w.alloc (.map #[⟨kP, .string sP, 0⟩] 1)) = .ok () (w.alloc (.map #[⟨kP, .string sP, 0⟩, ⟨kM, .string sM, 1⟩] 2)) := by
  rw [insE (w.alloc (.map #[⟨kP, .string sP, 0⟩] 1)) w.heap.size #[⟨kP, .string sP, 0⟩] 1 _ _ _ (MapKept.heap_alloc w _).1 (fkMP _ _), setBlock_new]; rfl
def eA : Array MapEntry := #[⟨kM, .string sM, 0⟩, ⟨kP, .string sP, 1⟩]
def eB : Array MapEntry := #[⟨kP, .string sP, 0⟩, ⟨kM, .string sM, 1⟩]
/-- Block b is the map of the infinities. -/
def InfM (w : World) (b : Nat) : Prop := ∃ es, (es = eA ∨ es = eB) ∧ w.heap[b]? = some (.map es 2)
theorem InfM.dn {w w' : World} {b : Nat} (h : InfM w b) (k : Dn w w') : InfM w' b := by
  obtain ⟨es, he, hb⟩ := h
  refine ⟨es, he, ?_⟩
  rw [k.below.block b (Array.getElem?_eq_some_iff.1 hb).1]; exact hb
set_option maxHeartbeats 1000000 in
theorem eInf (w : World) : Calls Tryd.prog 69 #[] w fun e w' => e = .returned (.map (some w.heap.size)) ∧ Up w w' ∧ InfM w' w.heap.size := by
  have r1 : (Instr.mapUpdate 104 (.map (some w.heap.size)) (.agg #[.int .i8 (-1), .int .i64 0]) (.string ⟨#[45, 105, 110, 102]⟩)).run Tryd.prog (w.alloc (.map #[] 0)).drew = .ok () (w.alloc (.map #[⟨kM, .string sM, 0⟩] 1)).drew := runM0 w.drew
  have r2 : (Instr.mapUpdate 104 (.map (some w.heap.size)) (.agg #[.int .i8 1, .int .i64 0]) (.string ⟨#[105, 110, 102]⟩)).run Tryd.prog (w.alloc (.map #[] 0)).drew = .ok () (w.alloc (.map #[⟨kP, .string sP, 0⟩] 1)).drew := runP0 w.drew
  have r3 : (Instr.mapUpdate 104 (.map (some w.heap.size)) (.agg #[.int .i8 1, .int .i64 0]) (.string ⟨#[105, 110, 102]⟩)).run Tryd.prog (w.alloc (.map #[⟨kM, .string sM, 0⟩] 1)).drew = .ok () (w.alloc (.map #[⟨kM, .string sM, 0⟩, ⟨kP, .string sP, 1⟩] 2)).drew := runPM w.drew
  have r4 : (Instr.mapUpdate 104 (.map (some w.heap.size)) (.agg #[.int .i8 (-1), .int .i64 0]) (.string ⟨#[45, 105, 110, 102]⟩)).run Tryd.prog (w.alloc (.map #[⟨kP, .string sP, 0⟩] 1)).drew = .ok () (w.alloc (.map #[⟨kP, .string sP, 0⟩, ⟨kM, .string sM, 1⟩] 2)).drew := runMP w.drew
  have hmm := @run_makeMap Tryd.prog
  go_enter Tryd.func69, Tryd.ntmps69
  go_wp2_with fail
  go_region
  · clear r1 r2 r3 r4
    go_wp2_with fail
    go_ret
    exact ⟨rfl, ((Up.refl _).alloc _).drew, eA, Or.inl rfl, (MapKept.heap_alloc w _).1⟩
  · clear r1 r2 r3 r4
    go_wp2_with fail
    go_ret
    exact ⟨rfl, ((Up.refl _).alloc _).drew, eB, Or.inr rfl, (MapKept.heap_alloc w _).1⟩
/-- The text of a right end. -/
def eStr (i d : Int) : ByteArray := if i = 0 then ⟨(Lib.itoa d).toArray⟩ else if i < 0 then sM else sP
theorem zS (w : World) : (zeroValue 9).run Tryd.prog w = .ok (.string ⟨#[]⟩) w := by kernel_rfl
theorem fAM (w : World) : (Instr.findKey 27 kM eA.toList).run Tryd.prog w = .ok (some (0, .string sM)) w := by kernel_rfl
theorem fAP (w : World) : (Instr.findKey 27 kP eA.toList).run Tryd.prog w = .ok (some (1, .string sP)) w := by kernel_rfl
theorem fBM (w : World) : (Instr.findKey 27 kM eB.toList).run Tryd.prog w = .ok (some (1, .string sM)) w := by kernel_rfl
theorem fBP (w : World) : (Instr.findKey 27 kP eB.toList).run Tryd.prog w = .ok (some (0, .string sP)) w := by kernel_rfl
theorem fAd (d : Int) (w : World) : (Instr.findKey 27 (.agg #[.int .i8 0, .int .i64 d]) eA.toList).run Tryd.prog w = .ok none w := by kernel_rfl
theorem fBd (d : Int) (w : World) : (Instr.findKey 27 (.agg #[.int .i8 0, .int .i64 d]) eB.toList).run Tryd.prog w = .ok none w := by kernel_rfl
theorem lkS (w : World) (b : Nat) (es : Array MapEntry) (c : Nat) (i d : Int) (j : Nat) (s : ByteArray) (hb : w.heap[b]? = some (.map es c)) (hf : (Instr.findKey 27 (.agg #[.int .i8 i, .int .i64 d]) es.toList).run Tryd.prog w = .ok (some (j, .string s)) w) :
    (Instr.lookup 104 (.map (some b)) (.agg #[.int .i8 i, .int .i64 d]) true).run Tryd.prog w = .ok (.tuple #[.string s, .bool true]) w := by
  simp [Instr.lookup, run_underlying Tryd.underlying104, MapKept.run_getObj_map hb, ckE, hf, Result.andThen]
theorem lkN (w : World) (b : Nat) (es : Array MapEntry) (c : Nat) (i d : Int) (hb : w.heap[b]? = some (.map es c)) (hf : (Instr.findKey 27 (.agg #[.int .i8 i, .int .i64 d]) es.toList).run Tryd.prog w = .ok none w) :
    (Instr.lookup 104 (.map (some b)) (.agg #[.int .i8 i, .int .i64 d]) true).run Tryd.prog w = .ok (.tuple #[.string ⟨#[]⟩, .bool false]) w := by
  simp [Instr.lookup, run_underlying Tryd.underlying104, MapKept.run_getObj_map hb, ckE, hf, Result.andThen]
theorem lk_day (w : World) (b : Nat) (d : Int) (h : InfM w b) : (Instr.lookup 104 (.map (some b)) (.agg #[.int .i8 0, .int .i64 d]) true).run Tryd.prog w = .ok (.tuple #[.string ⟨#[]⟩, .bool false]) w := by
  obtain ⟨es, rfl | rfl, hb⟩ := h
  · exact lkN w b _ _ _ _ hb (fAd d w)
  · exact lkN w b _ _ _ _ hb (fBd d w)
theorem lk_inf (w : World) (b : Nat) (i : Int) (hi : i = 1 ∨ i = -1) (h : InfM w b) : (Instr.lookup 104 (.map (some b)) (.agg #[.int .i8 i, .int .i64 0]) true).run Tryd.prog w = .ok (.tuple #[.string (eStr i 0), .bool true]) w := by
  obtain ⟨es, rfl | rfl, hb⟩ := h <;> rcases hi with rfl | rfl
  · exact lkS w b _ _ _ _ _ _ hb (fAP w)
  · exact lkS w b _ _ _ _ _ _ hb (fAM w)
  · exact lkS w b _ _ _ _ _ _ hb (fBP w)
  · exact lkS w b _ _ _ _ _ _ hb (fBM w)
set_option maxHeartbeats 1000000 in
theorem eText_bad (i d : Int) (w : World) (h : ¬ eOk i d) :
    Calls Tryd.prog 63 #[.agg #[.int .i8 i, .int .i64 d]] w fun e w' => e = .returned (.tuple #[.string ⟨#[]⟩, .int .i64 5]) ∧ Up w w' := by
  have HE := Lib.hid (fun W => eChk_bad i d W h)
  clear h
  go_enter Tryd.func63, Tryd.ntmps63
  go_wp2_with fail
  refine (HE.out _).mono ?_
  rintro e w1 ⟨rfl, q1⟩
  go_wp2_with fail
  go_ret2
  exact ⟨rfl, ((Up.refl _).alloc _).trans q1⟩
theorem kE1 {W w1 w2 : World} {a0 a1 : Addr} {v0 v1 : Value} (k : Up w1 w2) (h : Up W w1 ∧ w1.cell? a0 = some v0 ∧ w1.cell? a1 = some v1) : Up W w2 ∧ w2.cell? a0 = some v0 ∧ w2.cell? a1 = some v1 := by
  obtain ⟨h1, c0, c1⟩ := h
  exact ⟨h1.trans k, k.cell c0, k.cell c1⟩
set_option maxHeartbeats 2000000 in
set_option maxRecDepth 100000 in
theorem eText_day (d : Int) (w : World) (hd : I64 d) (hE : EnvI w) :
    Calls Tryd.prog 63 #[.agg #[.int .i8 0, .int .i64 d]] w fun e w' => e = .returned (.tuple #[.string ⟨(Lib.itoa d).toArray⟩, .int .i64 0]) ∧ Up w w' := by
  have b0 := CB.new w (.int .i8 0) (.int .i64 d) 27
  have u0 : Up w _ := (Up.refl w).alloc (.cells #[.int .i8 0, .int .i64 d] 27)
  have B0 := Lib.hid b0
  have U0 := Lib.hid u0
  clear b0 u0
  have HE := Lib.hid (fun W => eChk_ok 0 d W (Or.inl rfl))
  have HT := Lib.hid (fun W h => itext d W hd h)
  clear hd
  go_enter Tryd.func63, Tryd.ntmps63
  go_wp2_with fail
  refine (HE.out _).mono ?_
  rintro e w1 ⟨rfl, q1⟩
  obtain ⟨c0, c1, f0, f1, l0⟩ := B0.out.up q1
  have u1 := U0.out.trans q1
  clear q1 f0 f1
  have hS := kE1 (W := w1) (Up.refl w1) ⟨Up.refl _, c0, c1⟩
  clear c0 c1
  go_wp2_with fail
  go_region_held3 (fun w' => Up w1 w' ∧ w'.cell? ⟨w.heap.size, 0, none⟩ = some (.int .i8 0) ∧ w'.cell? ⟨w.heap.size, 1, none⟩ = some (.int .i64 d))
    (first | exact kE1 ((Up.refl _).drew) hS | exact kE1 ‹Up _ _› ‹_› | assumption)
    (first
      | (go_at_call 69; refine (eInf _).mono ?_; rintro e wa ⟨rfl, qa, hm⟩; have hl : (Instr.lookup 104 (.map (some w1.heap.size)) (.agg #[.int .i8 0, .int .i64 d]) true).run Tryd.prog wa = .ok (.tuple #[.string ⟨#[]⟩, .bool false]) wa := lk_day _ _ d hm))
  all_goals
    obtain ⟨k1, c0, c1⟩ := (‹Up w1 _ ∧ _› : _ ∧ _)
    clear hS
    go_wp2_with fail
    refine (HT.out _ ((hE.up u1).up k1)).mono ?_
    rintro e w3 ⟨rfl, q3⟩
    have u3 := (u1.trans k1).trans q3
    go_wp2_with fail
    go_ret2
    exact ⟨rfl, u3⟩
set_option maxHeartbeats 2000000 in
set_option maxRecDepth 100000 in
theorem eText_inf (i : Int) (w : World) (hi : i = 1 ∨ i = -1) :
    Calls Tryd.prog 63 #[.agg #[.int .i8 i, .int .i64 0]] w fun e w' => e = .returned (.tuple #[.string (eStr i 0), .int .i64 0]) ∧ Up w w' := by
  have b0 := CB.new w (.int .i8 i) (.int .i64 0) 27
  have u0 : Up w _ := (Up.refl w).alloc (.cells #[.int .i8 i, .int .i64 0] 27)
  have B0 := Lib.hid b0
  have U0 := Lib.hid u0
  clear b0 u0
  have HE := Lib.hid (fun W => eChk_ok i 0 W (Or.inr ⟨hi, rfl⟩))
  go_enter Tryd.func63, Tryd.ntmps63
  go_wp2_with fail
  refine (HE.out _).mono ?_
  rintro e w1 ⟨rfl, q1⟩
  obtain ⟨c0, c1, f0, f1, l0⟩ := B0.out.up q1
  have u1 := U0.out.trans q1
  clear q1 f0 f1
  have hS := kE1 (W := w1) (Up.refl w1) ⟨Up.refl _, c0, c1⟩
  clear c0 c1
  go_wp2_with fail
  go_region_held3 (fun w' => Up w1 w' ∧ w'.cell? ⟨w.heap.size, 0, none⟩ = some (.int .i8 i) ∧ w'.cell? ⟨w.heap.size, 1, none⟩ = some (.int .i64 0))
    (first | exact kE1 ((Up.refl _).drew) hS | exact kE1 ‹Up _ _› ‹_› | assumption)
    (first
      | (go_at_call 69; refine (eInf _).mono ?_; rintro e wa ⟨rfl, qa, hm⟩; have hl : (Instr.lookup 104 (.map (some w1.heap.size)) (.agg #[.int .i8 i, .int .i64 0]) true).run Tryd.prog wa = .ok (.tuple #[.string (eStr i 0), .bool true]) wa := lk_inf _ _ i hi hm))
  all_goals
    obtain ⟨k1, c0, c1⟩ := (‹Up w1 _ ∧ _› : _ ∧ _)
    clear hS
    go_wp2_with fail
    go_ret2
    exact ⟨rfl, u1.trans k1⟩
theorem eStr_day (d : Int) : eStr 0 d = ⟨(Lib.itoa d).toArray⟩ := by unfold eStr; rw [if_pos rfl]
theorem eText_ok (i d : Int) (w : World) (h : eOk i d) (hd : I64 d) (hE : EnvI w) :
    Calls Tryd.prog 63 #[.agg #[.int .i8 i, .int .i64 d]] w fun e w' => e = .returned (.tuple #[.string (eStr i d), .int .i64 0]) ∧ Up w w' := by
  rcases h with rfl | ⟨hi, rfl⟩
  · rw [eStr_day]; exact eText_day d w hd hE
  · exact eText_inf i w hi
theorem rText_c (v : Value) (x : Int) (w : World) (hv : IsN w v x) (hl : Len x) :
    Calls Tryd.prog 78 #[v] w fun e w' => e = .returned (.string ⟨(Lib.itoa x).toArray⟩) ∧ Dn w w' := by
  by_cases h : x = 0
  · subst h; exact rText_zero v w hv
  · exact rText_nz v x w hv h hl
theorem Len.i64 {x : Int} (h : I64 x) : Len x := Len.of (by have := h.1; have := h.2; omega)
set_option maxHeartbeats 1000000 in
theorem rText8 (i d : Int) (w : World) (h : eOk i d) (hd : I64 d) :
    Calls Tryd.prog 64 #[.agg #[.int .i8 i, .int .i64 d]] w fun e w' => e = .returned (.string (eStr i d)) ∧ Dn w w' := by
  rcases h with rfl | ⟨rfl | rfl, rfl⟩
  · rw [eStr_day]
    have HD := Lib.hid hd
    clear hd
    go_enter Tryd.func64, Tryd.ntmps64
    go_wp2_with fail
    refine (rOf_c d _ HD.out).mono ?_
    rintro e w1 ⟨b1, p1, m1, c1, rfl, hx, q1⟩
    go_wp2_with fail
    refine (rText_c _ d _ hx (Len.i64 HD.out)).mono ?_
    rintro e w2 ⟨rfl, q2⟩
    go_wp2_with fail
    go_ret
    exact ⟨rfl, (((Dn.refl _).alloc _).trans q1).trans q2⟩
  · go_enter Tryd.func64, Tryd.ntmps64
    go_wp2_with fail
    go_ret
    exact ⟨rfl, (Dn.refl _).alloc _⟩
  · go_enter Tryd.func64, Tryd.ntmps64
    go_wp2_with fail
    go_ret
    exact ⟨rfl, (Dn.refl _).alloc _⟩
/-- What a text is read as: an end, and the error. -/
def EP (s : ByteArray) (i d e : Int) : Prop :=
  (s = sP ∧ i = 1 ∧ d = 0 ∧ e = 0) ∨ (s = sM ∧ i = -1 ∧ d = 0 ∧ e = 0) ∨
  (s ≠ sP ∧ s ≠ sM ∧ i = 0 ∧ ((pOk s.data.toList ∧ Fits (pVal s.data.toList) d e) ∨ (¬ pOk s.data.toList ∧ d = 0 ∧ e = 5)))
end Go.Proofs.YtcdkeiolblifkaaDoor
