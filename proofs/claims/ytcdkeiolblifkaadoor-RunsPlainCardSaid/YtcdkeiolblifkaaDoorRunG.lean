/-
  WALKS OF circa/runs: Parse. (Printed by wip/gen/run9.py.)
-/
import Derived.Test.YtcdkeiolblifkaaDoorRunD
import Derived.Test.YtcdkeiolblifkaaDoorEndE
import Derived.Test.YtcdkeiolblifkaaDoorRunBlk
import Derived.LoopN
namespace Go.Proofs.YtcdkeiolblifkaaDoor
open Go.RowKit
set_option linter.unusedVariables false
set_option linter.unusedSimpArgs false
/-- What the library's variables hold: for runs.Parse some number in bytealg.MaxLen too. -/
structure EnvR (w : World) : Prop where
  i : EnvI w
  m : ∃ m, w.cell? ⟨0, 0, none⟩ = some (.int .i64 m)
theorem EnvR.dn {w w' : World} (h : EnvR w) (k : Dn w w') : EnvR w' := ⟨h.i.dn k, h.m.elim fun m hm => ⟨m, k.cell hm⟩⟩
/-- What ends.Parse makes of a text, as letters. -/
def PIs (s : ByteArray) (i d r : Int) : Prop := ∀ W, EnvR W → Calls Tryd.prog 44 #[.string s] W fun o w' => o = .returned (.tuple #[.agg #[.int .i8 i, .int .i64 d], .int .i64 r]) ∧ Dn W w'
set_option maxHeartbeats 4000000 in
set_option maxRecDepth 100000 in
theorem rnBP_1 (s t : ByteArray) (i1 d1 i2 d2 r1 r2 : Int) (HA : Hid (PIs s i1 d1 r1)) (h1 : r1 ≠ 0) (w : World) (hE : EnvR w) :
    Calls Tryd.prog 45 #[.string s, .string t, .func (.func 44) #[] #[]] w fun ro w' => ro = .returned (.tuple #[.agg #[.int .i8 0, .int .i64 0, .int .i8 0, .int .i64 0], .int .i64 r1]) ∧ Dn w w' := by
  have t1 : (r1 != 0) = true := by simpa using h1
  clear h1
  go_enter Tryd.func45, Tryd.ntmps45
  go_wp2_with fail
  obtain ⟨W1, hW1⟩ : ∃ W1, W1 = w.alloc (.cells #[.int .i8 0, .int .i64 0, .int .i8 0, .int .i64 0] 75) := ⟨_, rfl⟩
  have uW1 : Dn w W1 := by rw [hW1]; exact (Dn.refl _).alloc _
  have c2 : W1.cell? ⟨w.heap.size, 0, none⟩ = some (.int .i8 0) := by rw [hW1]; simp [go_sem]
  have c3 : W1.cell? ⟨w.heap.size, 1, none⟩ = some (.int .i64 0) := by rw [hW1]; simp [go_sem]
  have c4 : W1.cell? ⟨w.heap.size, 2, none⟩ = some (.int .i8 0) := by rw [hW1]; simp [go_sem]
  have c5 : W1.cell? ⟨w.heap.size, 3, none⟩ = some (.int .i64 0) := by rw [hW1]; simp [go_sem]
  have l6 : w.heap.size < W1.heap.size := by rw [hW1]; simp <;> omega
  have f7 : W1.frozen? ⟨w.heap.size, 0, none⟩ = false := by rw [hW1]; simp [go_sem]
  have f8 : W1.frozen? ⟨w.heap.size, 1, none⟩ = false := by rw [hW1]; simp [go_sem]
  have f9 : W1.frozen? ⟨w.heap.size, 2, none⟩ = false := by rw [hW1]; simp [go_sem]
  have f10 : W1.frozen? ⟨w.heap.size, 3, none⟩ = false := by rw [hW1]; simp [go_sem]
  rw [← hW1]
  clear hW1
  refine (HA.out _ (hE.dn uW1)).mono ?_
  rintro e w1 ⟨rfl, qw1⟩
  have f11 := (qw1.frozen (a := ⟨w.heap.size, 0, none⟩) l6).trans f7
  have f12 := (qw1.frozen (a := ⟨w.heap.size, 1, none⟩) l6).trans f8
  have f13 := (qw1.frozen (a := ⟨w.heap.size, 2, none⟩) l6).trans f9
  have f14 := (qw1.frozen (a := ⟨w.heap.size, 3, none⟩) l6).trans f10
  have l15 := Nat.lt_of_lt_of_le l6 qw1.size
  have c16 := qw1.cell c2
  have c17 := qw1.cell c3
  have c18 := qw1.cell c4
  have c19 := qw1.cell c5
  clear f7 f8 f9 f10 l6 c2 c3 c4 c5
  have uw1 := uW1.trans qw1
  clear qw1 uW1
  go_wp2_with fail
  have hC : C4 w1 (w.heap.size) (.int .i8 0) (.int .i64 0) (.int .i8 0) (.int .i64 0) := ⟨c16, c17, c18, c19, f11, f12, f13, f14, l15⟩
  have hZ := fun o : Obj => (hC.fill (.int .i8 0) (.int .i64 0) (.int .i8 0) (.int .i64 0)).alloc o
  have z0 := fun o : Obj => (hZ o).c0
  have y0 := fun o : Obj => (hZ o).f0
  have z1 := fun o : Obj => (hZ o).c1
  have y1 := fun o : Obj => (hZ o).f1
  have z2 := fun o : Obj => (hZ o).c2
  have y2 := fun o : Obj => (hZ o).f2
  have z3 := fun o : Obj => (hZ o).c3
  have y3 := fun o : Obj => (hZ o).f3
  exact bodyPost_ret (v := .tuple #[.agg #[.int .i8 0, .int .i64 0, .int .i8 0, .int .i64 0], .int .i64 r1]) (by simp [results, Tryd.results45, go_sem, z0, z1, z2, z3, y0, y1, y2, y3, c16, c17, c18, c19, f11, f12, f13, f14] <;> omega) rfl ⟨rfl, (((((uw1.setCell (by simp <;> omega) _).setCell (by simp <;> omega) _).setCell (by simp <;> omega) _).setCell (by simp <;> omega) _).alloc _)⟩
set_option maxHeartbeats 4000000 in
set_option maxRecDepth 100000 in
theorem rnBP_2 (s t : ByteArray) (i1 d1 i2 d2 r1 r2 : Int) (HA : Hid (PIs s i1 d1 0)) (HB : Hid (PIs t i2 d2 r2)) (h1 : r2 ≠ 0) (w : World) (hE : EnvR w) :
    Calls Tryd.prog 45 #[.string s, .string t, .func (.func 44) #[] #[]] w fun ro w' => ro = .returned (.tuple #[.agg #[.int .i8 0, .int .i64 0, .int .i8 0, .int .i64 0], .int .i64 r2]) ∧ Dn w w' := by
  have t1 : (r2 != 0) = true := by simpa using h1
  clear h1
  go_enter Tryd.func45, Tryd.ntmps45
  go_wp2_with fail
  obtain ⟨W1, hW1⟩ : ∃ W1, W1 = w.alloc (.cells #[.int .i8 0, .int .i64 0, .int .i8 0, .int .i64 0] 75) := ⟨_, rfl⟩
  have uW1 : Dn w W1 := by rw [hW1]; exact (Dn.refl _).alloc _
  have c2 : W1.cell? ⟨w.heap.size, 0, none⟩ = some (.int .i8 0) := by rw [hW1]; simp [go_sem]
  have c3 : W1.cell? ⟨w.heap.size, 1, none⟩ = some (.int .i64 0) := by rw [hW1]; simp [go_sem]
  have c4 : W1.cell? ⟨w.heap.size, 2, none⟩ = some (.int .i8 0) := by rw [hW1]; simp [go_sem]
  have c5 : W1.cell? ⟨w.heap.size, 3, none⟩ = some (.int .i64 0) := by rw [hW1]; simp [go_sem]
  have l6 : w.heap.size < W1.heap.size := by rw [hW1]; simp <;> omega
  have f7 : W1.frozen? ⟨w.heap.size, 0, none⟩ = false := by rw [hW1]; simp [go_sem]
  have f8 : W1.frozen? ⟨w.heap.size, 1, none⟩ = false := by rw [hW1]; simp [go_sem]
  have f9 : W1.frozen? ⟨w.heap.size, 2, none⟩ = false := by rw [hW1]; simp [go_sem]
  have f10 : W1.frozen? ⟨w.heap.size, 3, none⟩ = false := by rw [hW1]; simp [go_sem]
  rw [← hW1]
  clear hW1
  refine (HA.out _ (hE.dn uW1)).mono ?_
  rintro e w1 ⟨rfl, qw1⟩
  have f11 := (qw1.frozen (a := ⟨w.heap.size, 0, none⟩) l6).trans f7
  have f12 := (qw1.frozen (a := ⟨w.heap.size, 1, none⟩) l6).trans f8
  have f13 := (qw1.frozen (a := ⟨w.heap.size, 2, none⟩) l6).trans f9
  have f14 := (qw1.frozen (a := ⟨w.heap.size, 3, none⟩) l6).trans f10
  have l15 := Nat.lt_of_lt_of_le l6 qw1.size
  have c16 := qw1.cell c2
  have c17 := qw1.cell c3
  have c18 := qw1.cell c4
  have c19 := qw1.cell c5
  clear f7 f8 f9 f10 l6 c2 c3 c4 c5
  have uw1 := uW1.trans qw1
  clear qw1 uW1
  go_wp2_with fail
  obtain ⟨W20, hW20⟩ : ∃ W20, W20 = w1.alloc (.cells #[.int .i8 i1, .int .i64 d1] 27) := ⟨_, rfl⟩
  have uW20 : Dn w1 W20 := by rw [hW20]; exact (Dn.refl _).alloc _
  have f21 := (uW20.frozen (a := ⟨w.heap.size, 0, none⟩) l15).trans f11
  have f22 := (uW20.frozen (a := ⟨w.heap.size, 1, none⟩) l15).trans f12
  have f23 := (uW20.frozen (a := ⟨w.heap.size, 2, none⟩) l15).trans f13
  have f24 := (uW20.frozen (a := ⟨w.heap.size, 3, none⟩) l15).trans f14
  have l25 := Nat.lt_of_lt_of_le l15 uW20.size
  have c26 := uW20.cell c16
  have c27 := uW20.cell c17
  have c28 := uW20.cell c18
  have c29 := uW20.cell c19
  clear f11 f12 f13 f14 l15 c16 c17 c18 c19
  have c30 : W20.cell? ⟨w1.heap.size, 0, none⟩ = some (.int .i8 i1) := by rw [hW20]; simp [go_sem]
  have c31 : W20.cell? ⟨w1.heap.size, 1, none⟩ = some (.int .i64 d1) := by rw [hW20]; simp [go_sem]
  have l32 : w1.heap.size < W20.heap.size := by rw [hW20]; simp <;> omega
  rw [← hW20]
  clear hW20
  have vW20 := uw1.trans uW20
  clear uW20 uw1
  refine (HB.out _ (hE.dn vW20)).mono ?_
  rintro e w2 ⟨rfl, qw2⟩
  have f33 := (qw2.frozen (a := ⟨w.heap.size, 0, none⟩) l25).trans f21
  have f34 := (qw2.frozen (a := ⟨w.heap.size, 1, none⟩) l25).trans f22
  have f35 := (qw2.frozen (a := ⟨w.heap.size, 2, none⟩) l25).trans f23
  have f36 := (qw2.frozen (a := ⟨w.heap.size, 3, none⟩) l25).trans f24
  have l37 := Nat.lt_of_lt_of_le l25 qw2.size
  have c38 := qw2.cell c26
  have c39 := qw2.cell c27
  have c40 := qw2.cell c28
  have c41 := qw2.cell c29
  have l42 := Nat.lt_of_lt_of_le l32 qw2.size
  have c43 := qw2.cell c30
  have c44 := qw2.cell c31
  clear f21 f22 f23 f24 l25 c26 c27 c28 c29 l32 c30 c31
  have uw2 := vW20.trans qw2
  clear qw2 vW20
  go_wp2_with fail
  have hC : C4 w2 (w.heap.size) (.int .i8 0) (.int .i64 0) (.int .i8 0) (.int .i64 0) := ⟨c38, c39, c40, c41, f33, f34, f35, f36, l37⟩
  have hZ := fun o : Obj => (hC.fill (.int .i8 0) (.int .i64 0) (.int .i8 0) (.int .i64 0)).alloc o
  have z0 := fun o : Obj => (hZ o).c0
  have y0 := fun o : Obj => (hZ o).f0
  have z1 := fun o : Obj => (hZ o).c1
  have y1 := fun o : Obj => (hZ o).f1
  have z2 := fun o : Obj => (hZ o).c2
  have y2 := fun o : Obj => (hZ o).f2
  have z3 := fun o : Obj => (hZ o).c3
  have y3 := fun o : Obj => (hZ o).f3
  exact bodyPost_ret (v := .tuple #[.agg #[.int .i8 0, .int .i64 0, .int .i8 0, .int .i64 0], .int .i64 r2]) (by simp [results, Tryd.results45, go_sem, z0, z1, z2, z3, y0, y1, y2, y3, c38, c39, c40, c41, f33, f34, f35, f36] <;> omega) rfl ⟨rfl, (((((uw2.setCell (by simp <;> omega) _).setCell (by simp <;> omega) _).setCell (by simp <;> omega) _).setCell (by simp <;> omega) _).alloc _)⟩
set_option maxHeartbeats 4000000 in
set_option maxRecDepth 100000 in
theorem rnBP_3 (s t : ByteArray) (i1 d1 i2 d2 r1 r2 : Int) (HA : Hid (PIs s i1 d1 0)) (HB : Hid (PIs t i2 d2 0)) (w : World) (hE : EnvR w) :
    Calls Tryd.prog 45 #[.string s, .string t, .func (.func 44) #[] #[]] w fun ro w' => ro = .returned (.tuple #[.agg #[.int .i8 i1, .int .i64 d1, .int .i8 i2, .int .i64 d2], .int .i64 0]) ∧ Dn w w' := by
  go_enter Tryd.func45, Tryd.ntmps45
  go_wp2_with fail
  obtain ⟨W1, hW1⟩ : ∃ W1, W1 = w.alloc (.cells #[.int .i8 0, .int .i64 0, .int .i8 0, .int .i64 0] 75) := ⟨_, rfl⟩
  have uW1 : Dn w W1 := by rw [hW1]; exact (Dn.refl _).alloc _
  have c2 : W1.cell? ⟨w.heap.size, 0, none⟩ = some (.int .i8 0) := by rw [hW1]; simp [go_sem]
  have c3 : W1.cell? ⟨w.heap.size, 1, none⟩ = some (.int .i64 0) := by rw [hW1]; simp [go_sem]
  have c4 : W1.cell? ⟨w.heap.size, 2, none⟩ = some (.int .i8 0) := by rw [hW1]; simp [go_sem]
  have c5 : W1.cell? ⟨w.heap.size, 3, none⟩ = some (.int .i64 0) := by rw [hW1]; simp [go_sem]
  have l6 : w.heap.size < W1.heap.size := by rw [hW1]; simp <;> omega
  have f7 : W1.frozen? ⟨w.heap.size, 0, none⟩ = false := by rw [hW1]; simp [go_sem]
  have f8 : W1.frozen? ⟨w.heap.size, 1, none⟩ = false := by rw [hW1]; simp [go_sem]
  have f9 : W1.frozen? ⟨w.heap.size, 2, none⟩ = false := by rw [hW1]; simp [go_sem]
  have f10 : W1.frozen? ⟨w.heap.size, 3, none⟩ = false := by rw [hW1]; simp [go_sem]
  rw [← hW1]
  clear hW1
  refine (HA.out _ (hE.dn uW1)).mono ?_
  rintro e w1 ⟨rfl, qw1⟩
  have f11 := (qw1.frozen (a := ⟨w.heap.size, 0, none⟩) l6).trans f7
  have f12 := (qw1.frozen (a := ⟨w.heap.size, 1, none⟩) l6).trans f8
  have f13 := (qw1.frozen (a := ⟨w.heap.size, 2, none⟩) l6).trans f9
  have f14 := (qw1.frozen (a := ⟨w.heap.size, 3, none⟩) l6).trans f10
  have l15 := Nat.lt_of_lt_of_le l6 qw1.size
  have c16 := qw1.cell c2
  have c17 := qw1.cell c3
  have c18 := qw1.cell c4
  have c19 := qw1.cell c5
  clear f7 f8 f9 f10 l6 c2 c3 c4 c5
  have uw1 := uW1.trans qw1
  clear qw1 uW1
  go_wp2_with fail
  obtain ⟨W20, hW20⟩ : ∃ W20, W20 = w1.alloc (.cells #[.int .i8 i1, .int .i64 d1] 27) := ⟨_, rfl⟩
  have uW20 : Dn w1 W20 := by rw [hW20]; exact (Dn.refl _).alloc _
  have f21 := (uW20.frozen (a := ⟨w.heap.size, 0, none⟩) l15).trans f11
  have f22 := (uW20.frozen (a := ⟨w.heap.size, 1, none⟩) l15).trans f12
  have f23 := (uW20.frozen (a := ⟨w.heap.size, 2, none⟩) l15).trans f13
  have f24 := (uW20.frozen (a := ⟨w.heap.size, 3, none⟩) l15).trans f14
  have l25 := Nat.lt_of_lt_of_le l15 uW20.size
  have c26 := uW20.cell c16
  have c27 := uW20.cell c17
  have c28 := uW20.cell c18
  have c29 := uW20.cell c19
  clear f11 f12 f13 f14 l15 c16 c17 c18 c19
  have c30 : W20.cell? ⟨w1.heap.size, 0, none⟩ = some (.int .i8 i1) := by rw [hW20]; simp [go_sem]
  have c31 : W20.cell? ⟨w1.heap.size, 1, none⟩ = some (.int .i64 d1) := by rw [hW20]; simp [go_sem]
  have l32 : w1.heap.size < W20.heap.size := by rw [hW20]; simp <;> omega
  rw [← hW20]
  clear hW20
  have vW20 := uw1.trans uW20
  clear uW20 uw1
  refine (HB.out _ (hE.dn vW20)).mono ?_
  rintro e w2 ⟨rfl, qw2⟩
  have f33 := (qw2.frozen (a := ⟨w.heap.size, 0, none⟩) l25).trans f21
  have f34 := (qw2.frozen (a := ⟨w.heap.size, 1, none⟩) l25).trans f22
  have f35 := (qw2.frozen (a := ⟨w.heap.size, 2, none⟩) l25).trans f23
  have f36 := (qw2.frozen (a := ⟨w.heap.size, 3, none⟩) l25).trans f24
  have l37 := Nat.lt_of_lt_of_le l25 qw2.size
  have c38 := qw2.cell c26
  have c39 := qw2.cell c27
  have c40 := qw2.cell c28
  have c41 := qw2.cell c29
  have l42 := Nat.lt_of_lt_of_le l32 qw2.size
  have c43 := qw2.cell c30
  have c44 := qw2.cell c31
  clear f21 f22 f23 f24 l25 c26 c27 c28 c29 l32 c30 c31
  have uw2 := vW20.trans qw2
  clear qw2 vW20
  go_wp2_with fail
  have hC : C4 w2 (w.heap.size) (.int .i8 0) (.int .i64 0) (.int .i8 0) (.int .i64 0) := ⟨c38, c39, c40, c41, f33, f34, f35, f36, l37⟩
  have hZ := fun o : Obj => (hC.fill (.int .i8 i1) (.int .i64 d1) (.int .i8 i2) (.int .i64 d2)).alloc o
  have z0 := fun o : Obj => (hZ o).c0
  have y0 := fun o : Obj => (hZ o).f0
  have z1 := fun o : Obj => (hZ o).c1
  have y1 := fun o : Obj => (hZ o).f1
  have z2 := fun o : Obj => (hZ o).c2
  have y2 := fun o : Obj => (hZ o).f2
  have z3 := fun o : Obj => (hZ o).c3
  have y3 := fun o : Obj => (hZ o).f3
  exact bodyPost_ret (v := .tuple #[.agg #[.int .i8 i1, .int .i64 d1, .int .i8 i2, .int .i64 d2], .int .i64 0]) (by simp [results, Tryd.results45, go_sem, z0, z1, z2, z3, y0, y1, y2, y3, c38, c39, c40, c41, f33, f34, f35, f36] <;> omega) rfl ⟨rfl, (((((uw2.setCell (by simp <;> omega) _).setCell (by simp <;> omega) _).setCell (by simp <;> omega) _).setCell (by simp <;> omega) _).alloc _)⟩
set_option maxHeartbeats 4000000 in
set_option maxRecDepth 100000 in
theorem rnP_0 (s lo hi : ByteArray) (i1 d1 i2 d2 r1 r2 m : Int) (HC : Hid (∀ W, EnvR W → Calls Tryd.prog 43 #[.string s, .string ⟨#[46, 46]⟩] W fun o w' => o = .returned (.tuple #[.string lo, .string hi, .bool false]) ∧ Dn W w')) (w : World) (hE : EnvR w) :
    Calls Tryd.prog 15 #[.string s] w fun ro w' => ro = .returned (.tuple #[.agg #[.int .i8 0, .int .i64 0, .int .i8 0, .int .i64 0], .int .i64 5]) ∧ Dn w w' := by
  go_enter Tryd.func15, Tryd.ntmps15
  go_wp2_with fail
  obtain ⟨W1, hW1⟩ : ∃ W1, W1 = w.alloc (.cells #[.int .i8 0, .int .i64 0, .int .i8 0, .int .i64 0] 29) := ⟨_, rfl⟩
  have uW1 : Dn w W1 := by rw [hW1]; exact (Dn.refl _).alloc _
  have c2 : W1.cell? ⟨w.heap.size, 0, none⟩ = some (.int .i8 0) := by rw [hW1]; simp [go_sem]
  have c3 : W1.cell? ⟨w.heap.size, 1, none⟩ = some (.int .i64 0) := by rw [hW1]; simp [go_sem]
  have c4 : W1.cell? ⟨w.heap.size, 2, none⟩ = some (.int .i8 0) := by rw [hW1]; simp [go_sem]
  have c5 : W1.cell? ⟨w.heap.size, 3, none⟩ = some (.int .i64 0) := by rw [hW1]; simp [go_sem]
  have l6 : w.heap.size < W1.heap.size := by rw [hW1]; simp <;> omega
  have f7 : W1.frozen? ⟨w.heap.size, 0, none⟩ = false := by rw [hW1]; simp [go_sem]
  have f8 : W1.frozen? ⟨w.heap.size, 1, none⟩ = false := by rw [hW1]; simp [go_sem]
  have f9 : W1.frozen? ⟨w.heap.size, 2, none⟩ = false := by rw [hW1]; simp [go_sem]
  have f10 : W1.frozen? ⟨w.heap.size, 3, none⟩ = false := by rw [hW1]; simp [go_sem]
  rw [← hW1]
  clear hW1
  refine (HC.out _ (hE.dn uW1)).mono ?_
  rintro e w1 ⟨rfl, qw1⟩
  have f11 := (qw1.frozen (a := ⟨w.heap.size, 0, none⟩) l6).trans f7
  have f12 := (qw1.frozen (a := ⟨w.heap.size, 1, none⟩) l6).trans f8
  have f13 := (qw1.frozen (a := ⟨w.heap.size, 2, none⟩) l6).trans f9
  have f14 := (qw1.frozen (a := ⟨w.heap.size, 3, none⟩) l6).trans f10
  have l15 := Nat.lt_of_lt_of_le l6 qw1.size
  have c16 := qw1.cell c2
  have c17 := qw1.cell c3
  have c18 := qw1.cell c4
  have c19 := qw1.cell c5
  clear f7 f8 f9 f10 l6 c2 c3 c4 c5
  have uw1 := uW1.trans qw1
  clear qw1 uW1
  go_wp2_with fail
  exact bodyPost_ret (v := .tuple #[.agg #[.int .i8 0, .int .i64 0, .int .i8 0, .int .i64 0], .int .i64 5]) (by simp [results, Tryd.results15, go_sem, c16, c17, c18, c19, f11, f12, f13, f14] <;> omega) rfl ⟨rfl, ((((uw1.setCell (by simp <;> omega) _).setCell (by simp <;> omega) _).setCell (by simp <;> omega) _).setCell (by simp <;> omega) _)⟩
set_option maxHeartbeats 4000000 in
set_option maxRecDepth 100000 in
theorem rnP_1 (s lo hi : ByteArray) (i1 d1 i2 d2 r1 r2 m : Int) (HC : Hid (∀ W, EnvR W → Calls Tryd.prog 43 #[.string s, .string ⟨#[46, 46]⟩] W fun o w' => o = .returned (.tuple #[.string lo, .string hi, .bool true]) ∧ Dn W w')) (HP : Hid (PIs lo i1 d1 5)) (w : World) (hE : EnvR w) :
    Calls Tryd.prog 15 #[.string s] w fun ro w' => ro = .returned (.tuple #[.agg #[.int .i8 0, .int .i64 0, .int .i8 0, .int .i64 0], .int .i64 5]) ∧ Dn w w' := by
  go_enter Tryd.func15, Tryd.ntmps15
  go_wp2_with fail
  obtain ⟨W1, hW1⟩ : ∃ W1, W1 = w.alloc (.cells #[.int .i8 0, .int .i64 0, .int .i8 0, .int .i64 0] 29) := ⟨_, rfl⟩
  have uW1 : Dn w W1 := by rw [hW1]; exact (Dn.refl _).alloc _
  have c2 : W1.cell? ⟨w.heap.size, 0, none⟩ = some (.int .i8 0) := by rw [hW1]; simp [go_sem]
  have c3 : W1.cell? ⟨w.heap.size, 1, none⟩ = some (.int .i64 0) := by rw [hW1]; simp [go_sem]
  have c4 : W1.cell? ⟨w.heap.size, 2, none⟩ = some (.int .i8 0) := by rw [hW1]; simp [go_sem]
  have c5 : W1.cell? ⟨w.heap.size, 3, none⟩ = some (.int .i64 0) := by rw [hW1]; simp [go_sem]
  have l6 : w.heap.size < W1.heap.size := by rw [hW1]; simp <;> omega
  have f7 : W1.frozen? ⟨w.heap.size, 0, none⟩ = false := by rw [hW1]; simp [go_sem]
  have f8 : W1.frozen? ⟨w.heap.size, 1, none⟩ = false := by rw [hW1]; simp [go_sem]
  have f9 : W1.frozen? ⟨w.heap.size, 2, none⟩ = false := by rw [hW1]; simp [go_sem]
  have f10 : W1.frozen? ⟨w.heap.size, 3, none⟩ = false := by rw [hW1]; simp [go_sem]
  rw [← hW1]
  clear hW1
  refine (HC.out _ (hE.dn uW1)).mono ?_
  rintro e w1 ⟨rfl, qw1⟩
  have f11 := (qw1.frozen (a := ⟨w.heap.size, 0, none⟩) l6).trans f7
  have f12 := (qw1.frozen (a := ⟨w.heap.size, 1, none⟩) l6).trans f8
  have f13 := (qw1.frozen (a := ⟨w.heap.size, 2, none⟩) l6).trans f9
  have f14 := (qw1.frozen (a := ⟨w.heap.size, 3, none⟩) l6).trans f10
  have l15 := Nat.lt_of_lt_of_le l6 qw1.size
  have c16 := qw1.cell c2
  have c17 := qw1.cell c3
  have c18 := qw1.cell c4
  have c19 := qw1.cell c5
  clear f7 f8 f9 f10 l6 c2 c3 c4 c5
  have uw1 := uW1.trans qw1
  clear qw1 uW1
  go_wp2_with fail
  obtain ⟨W20, hW20⟩ : ∃ W20, W20 = w1.alloc (.cells #[.string lo, .string hi] 9) := ⟨_, rfl⟩
  have uW20 : Dn w1 W20 := by rw [hW20]; exact (Dn.refl _).alloc _
  have f21 := (uW20.frozen (a := ⟨w.heap.size, 0, none⟩) l15).trans f11
  have f22 := (uW20.frozen (a := ⟨w.heap.size, 1, none⟩) l15).trans f12
  have f23 := (uW20.frozen (a := ⟨w.heap.size, 2, none⟩) l15).trans f13
  have f24 := (uW20.frozen (a := ⟨w.heap.size, 3, none⟩) l15).trans f14
  have l25 := Nat.lt_of_lt_of_le l15 uW20.size
  have c26 := uW20.cell c16
  have c27 := uW20.cell c17
  have c28 := uW20.cell c18
  have c29 := uW20.cell c19
  clear f11 f12 f13 f14 l15 c16 c17 c18 c19
  have c30 : W20.cell? ⟨w1.heap.size, 0, none⟩ = some (.string lo) := by rw [hW20]; simp [go_sem]
  have c31 : W20.cell? ⟨w1.heap.size, 1, none⟩ = some (.string hi) := by rw [hW20]; simp [go_sem]
  have l32 : w1.heap.size < W20.heap.size := by rw [hW20]; simp <;> omega
  rw [← hW20]
  clear hW20
  have vW20 := uw1.trans uW20
  clear uW20 uw1
  refine wp_loop_rounds 3 ?_
  rw [rounds_succ]
  go_wp2_with fail
  refine (HP.out _ (hE.dn vW20)).mono ?_
  rintro e w2 ⟨rfl, qw2⟩
  have f33 := (qw2.frozen (a := ⟨w.heap.size, 0, none⟩) l25).trans f21
  have f34 := (qw2.frozen (a := ⟨w.heap.size, 1, none⟩) l25).trans f22
  have f35 := (qw2.frozen (a := ⟨w.heap.size, 2, none⟩) l25).trans f23
  have f36 := (qw2.frozen (a := ⟨w.heap.size, 3, none⟩) l25).trans f24
  have l37 := Nat.lt_of_lt_of_le l25 qw2.size
  have c38 := qw2.cell c26
  have c39 := qw2.cell c27
  have c40 := qw2.cell c28
  have c41 := qw2.cell c29
  have l42 := Nat.lt_of_lt_of_le l32 qw2.size
  have c43 := qw2.cell c30
  have c44 := qw2.cell c31
  clear f21 f22 f23 f24 l25 c26 c27 c28 c29 l32 c30 c31
  have uw2 := vW20.trans qw2
  clear qw2 vW20
  go_wp2_with fail
  have hC : C4 w2 (w.heap.size) (.int .i8 0) (.int .i64 0) (.int .i8 0) (.int .i64 0) := ⟨c38, c39, c40, c41, f33, f34, f35, f36, l37⟩
  have hZ := fun o : Obj => (hC.fill (.int .i8 0) (.int .i64 0) (.int .i8 0) (.int .i64 0)).alloc o
  have z0 := fun o : Obj => (hZ o).c0
  have y0 := fun o : Obj => (hZ o).f0
  have z1 := fun o : Obj => (hZ o).c1
  have y1 := fun o : Obj => (hZ o).f1
  have z2 := fun o : Obj => (hZ o).c2
  have y2 := fun o : Obj => (hZ o).f2
  have z3 := fun o : Obj => (hZ o).c3
  have y3 := fun o : Obj => (hZ o).f3
  exact bodyPost_ret (v := .tuple #[.agg #[.int .i8 0, .int .i64 0, .int .i8 0, .int .i64 0], .int .i64 5]) (by simp [results, Tryd.results15, go_sem, z0, z1, z2, z3, y0, y1, y2, y3, c38, c39, c40, c41, f33, f34, f35, f36] <;> omega) rfl ⟨rfl, (((((uw2.setCell (by simp <;> omega) _).setCell (by simp <;> omega) _).setCell (by simp <;> omega) _).setCell (by simp <;> omega) _).alloc _)⟩
set_option maxHeartbeats 4000000 in
set_option maxRecDepth 100000 in
theorem rnP_2 (s lo hi : ByteArray) (i1 d1 i2 d2 r1 r2 m : Int) (HC : Hid (∀ W, EnvR W → Calls Tryd.prog 43 #[.string s, .string ⟨#[46, 46]⟩] W fun o w' => o = .returned (.tuple #[.string lo, .string hi, .bool true]) ∧ Dn W w')) (HP : Hid (PIs lo i1 d1 r1)) (HQ : Hid (PIs hi i2 d2 5)) (h1 : r1 ≠ 5) (w : World) (hE : EnvR w) :
    Calls Tryd.prog 15 #[.string s] w fun ro w' => ro = .returned (.tuple #[.agg #[.int .i8 0, .int .i64 0, .int .i8 0, .int .i64 0], .int .i64 5]) ∧ Dn w w' := by
  have t1 : (r1 == 5) = false := by simpa using h1
  clear h1
  go_enter Tryd.func15, Tryd.ntmps15
  go_wp2_with fail
  obtain ⟨W1, hW1⟩ : ∃ W1, W1 = w.alloc (.cells #[.int .i8 0, .int .i64 0, .int .i8 0, .int .i64 0] 29) := ⟨_, rfl⟩
  have uW1 : Dn w W1 := by rw [hW1]; exact (Dn.refl _).alloc _
  have c2 : W1.cell? ⟨w.heap.size, 0, none⟩ = some (.int .i8 0) := by rw [hW1]; simp [go_sem]
  have c3 : W1.cell? ⟨w.heap.size, 1, none⟩ = some (.int .i64 0) := by rw [hW1]; simp [go_sem]
  have c4 : W1.cell? ⟨w.heap.size, 2, none⟩ = some (.int .i8 0) := by rw [hW1]; simp [go_sem]
  have c5 : W1.cell? ⟨w.heap.size, 3, none⟩ = some (.int .i64 0) := by rw [hW1]; simp [go_sem]
  have l6 : w.heap.size < W1.heap.size := by rw [hW1]; simp <;> omega
  have f7 : W1.frozen? ⟨w.heap.size, 0, none⟩ = false := by rw [hW1]; simp [go_sem]
  have f8 : W1.frozen? ⟨w.heap.size, 1, none⟩ = false := by rw [hW1]; simp [go_sem]
  have f9 : W1.frozen? ⟨w.heap.size, 2, none⟩ = false := by rw [hW1]; simp [go_sem]
  have f10 : W1.frozen? ⟨w.heap.size, 3, none⟩ = false := by rw [hW1]; simp [go_sem]
  rw [← hW1]
  clear hW1
  refine (HC.out _ (hE.dn uW1)).mono ?_
  rintro e w1 ⟨rfl, qw1⟩
  have f11 := (qw1.frozen (a := ⟨w.heap.size, 0, none⟩) l6).trans f7
  have f12 := (qw1.frozen (a := ⟨w.heap.size, 1, none⟩) l6).trans f8
  have f13 := (qw1.frozen (a := ⟨w.heap.size, 2, none⟩) l6).trans f9
  have f14 := (qw1.frozen (a := ⟨w.heap.size, 3, none⟩) l6).trans f10
  have l15 := Nat.lt_of_lt_of_le l6 qw1.size
  have c16 := qw1.cell c2
  have c17 := qw1.cell c3
  have c18 := qw1.cell c4
  have c19 := qw1.cell c5
  clear f7 f8 f9 f10 l6 c2 c3 c4 c5
  have uw1 := uW1.trans qw1
  clear qw1 uW1
  go_wp2_with fail
  obtain ⟨W20, hW20⟩ : ∃ W20, W20 = w1.alloc (.cells #[.string lo, .string hi] 9) := ⟨_, rfl⟩
  have uW20 : Dn w1 W20 := by rw [hW20]; exact (Dn.refl _).alloc _
  have f21 := (uW20.frozen (a := ⟨w.heap.size, 0, none⟩) l15).trans f11
  have f22 := (uW20.frozen (a := ⟨w.heap.size, 1, none⟩) l15).trans f12
  have f23 := (uW20.frozen (a := ⟨w.heap.size, 2, none⟩) l15).trans f13
  have f24 := (uW20.frozen (a := ⟨w.heap.size, 3, none⟩) l15).trans f14
  have l25 := Nat.lt_of_lt_of_le l15 uW20.size
  have c26 := uW20.cell c16
  have c27 := uW20.cell c17
  have c28 := uW20.cell c18
  have c29 := uW20.cell c19
  clear f11 f12 f13 f14 l15 c16 c17 c18 c19
  have c30 : W20.cell? ⟨w1.heap.size, 0, none⟩ = some (.string lo) := by rw [hW20]; simp [go_sem]
  have c31 : W20.cell? ⟨w1.heap.size, 1, none⟩ = some (.string hi) := by rw [hW20]; simp [go_sem]
  have l32 : w1.heap.size < W20.heap.size := by rw [hW20]; simp <;> omega
  rw [← hW20]
  clear hW20
  have vW20 := uw1.trans uW20
  clear uW20 uw1
  refine wp_loop_rounds 3 ?_
  rw [rounds_succ]
  go_wp2_with fail
  refine (HP.out _ (hE.dn vW20)).mono ?_
  rintro e w2 ⟨rfl, qw2⟩
  have f33 := (qw2.frozen (a := ⟨w.heap.size, 0, none⟩) l25).trans f21
  have f34 := (qw2.frozen (a := ⟨w.heap.size, 1, none⟩) l25).trans f22
  have f35 := (qw2.frozen (a := ⟨w.heap.size, 2, none⟩) l25).trans f23
  have f36 := (qw2.frozen (a := ⟨w.heap.size, 3, none⟩) l25).trans f24
  have l37 := Nat.lt_of_lt_of_le l25 qw2.size
  have c38 := qw2.cell c26
  have c39 := qw2.cell c27
  have c40 := qw2.cell c28
  have c41 := qw2.cell c29
  have l42 := Nat.lt_of_lt_of_le l32 qw2.size
  have c43 := qw2.cell c30
  have c44 := qw2.cell c31
  clear f21 f22 f23 f24 l25 c26 c27 c28 c29 l32 c30 c31
  have uw2 := vW20.trans qw2
  clear qw2 vW20
  go_wp2_with fail
  obtain ⟨W45, hW45⟩ : ∃ W45, W45 = w2.alloc (.cells #[.int .i8 i1, .int .i64 d1] 27) := ⟨_, rfl⟩
  have uW45 : Dn w2 W45 := by rw [hW45]; exact (Dn.refl _).alloc _
  have f46 := (uW45.frozen (a := ⟨w.heap.size, 0, none⟩) l37).trans f33
  have f47 := (uW45.frozen (a := ⟨w.heap.size, 1, none⟩) l37).trans f34
  have f48 := (uW45.frozen (a := ⟨w.heap.size, 2, none⟩) l37).trans f35
  have f49 := (uW45.frozen (a := ⟨w.heap.size, 3, none⟩) l37).trans f36
  have l50 := Nat.lt_of_lt_of_le l37 uW45.size
  have c51 := uW45.cell c38
  have c52 := uW45.cell c39
  have c53 := uW45.cell c40
  have c54 := uW45.cell c41
  have l55 := Nat.lt_of_lt_of_le l42 uW45.size
  have c56 := uW45.cell c43
  have c57 := uW45.cell c44
  clear f33 f34 f35 f36 l37 c38 c39 c40 c41 l42 c43 c44
  have c58 : W45.cell? ⟨w2.heap.size, 0, none⟩ = some (.int .i8 i1) := by rw [hW45]; simp [go_sem]
  have c59 : W45.cell? ⟨w2.heap.size, 1, none⟩ = some (.int .i64 d1) := by rw [hW45]; simp [go_sem]
  have l60 : w2.heap.size < W45.heap.size := by rw [hW45]; simp <;> omega
  rw [← hW45]
  clear hW45
  have vW45 := uw2.trans uW45
  clear uW45 uw2
  rw [rounds_succ]
  go_wp2_with fail
  refine (HQ.out _ (hE.dn vW45)).mono ?_
  rintro e w3 ⟨rfl, qw3⟩
  have f61 := (qw3.frozen (a := ⟨w.heap.size, 0, none⟩) l50).trans f46
  have f62 := (qw3.frozen (a := ⟨w.heap.size, 1, none⟩) l50).trans f47
  have f63 := (qw3.frozen (a := ⟨w.heap.size, 2, none⟩) l50).trans f48
  have f64 := (qw3.frozen (a := ⟨w.heap.size, 3, none⟩) l50).trans f49
  have l65 := Nat.lt_of_lt_of_le l50 qw3.size
  have c66 := qw3.cell c51
  have c67 := qw3.cell c52
  have c68 := qw3.cell c53
  have c69 := qw3.cell c54
  have l70 := Nat.lt_of_lt_of_le l55 qw3.size
  have c71 := qw3.cell c56
  have c72 := qw3.cell c57
  have l73 := Nat.lt_of_lt_of_le l60 qw3.size
  have c74 := qw3.cell c58
  have c75 := qw3.cell c59
  clear f46 f47 f48 f49 l50 c51 c52 c53 c54 l55 c56 c57 l60 c58 c59
  have uw3 := vW45.trans qw3
  clear qw3 vW45
  go_wp2_with fail
  have hC : C4 w3 (w.heap.size) (.int .i8 0) (.int .i64 0) (.int .i8 0) (.int .i64 0) := ⟨c66, c67, c68, c69, f61, f62, f63, f64, l65⟩
  have hZ := fun o : Obj => (hC.fill (.int .i8 0) (.int .i64 0) (.int .i8 0) (.int .i64 0)).alloc o
  have z0 := fun o : Obj => (hZ o).c0
  have y0 := fun o : Obj => (hZ o).f0
  have z1 := fun o : Obj => (hZ o).c1
  have y1 := fun o : Obj => (hZ o).f1
  have z2 := fun o : Obj => (hZ o).c2
  have y2 := fun o : Obj => (hZ o).f2
  have z3 := fun o : Obj => (hZ o).c3
  have y3 := fun o : Obj => (hZ o).f3
  exact bodyPost_ret (v := .tuple #[.agg #[.int .i8 0, .int .i64 0, .int .i8 0, .int .i64 0], .int .i64 5]) (by simp [results, Tryd.results15, go_sem, z0, z1, z2, z3, y0, y1, y2, y3, c66, c67, c68, c69, f61, f62, f63, f64] <;> omega) rfl ⟨rfl, (((((uw3.setCell (by simp <;> omega) _).setCell (by simp <;> omega) _).setCell (by simp <;> omega) _).setCell (by simp <;> omega) _).alloc _)⟩
set_option maxHeartbeats 4000000 in
set_option maxRecDepth 100000 in
theorem rnP_3 (s lo hi : ByteArray) (i1 d1 i2 d2 r1 r2 m : Int) (HC : Hid (∀ W, EnvR W → Calls Tryd.prog 43 #[.string s, .string ⟨#[46, 46]⟩] W fun o w' => o = .returned (.tuple #[.string lo, .string hi, .bool true]) ∧ Dn W w')) (HP : Hid (PIs lo i1 d1 r1)) (HQ : Hid (PIs hi i2 d2 r2)) (HB : Hid (∀ W, EnvR W → Calls Tryd.prog 45 #[.string lo, .string hi, .func (.func 44) #[] #[]] W fun o w' => o = .returned (.tuple #[.agg #[.int .i8 0, .int .i64 0, .int .i8 0, .int .i64 0], .int .i64 m]) ∧ Dn W w')) (h1 : r1 ≠ 5) (h2 : r2 ≠ 5) (h3 : m ≠ 0) (w : World) (hE : EnvR w) :
    Calls Tryd.prog 15 #[.string s] w fun ro w' => ro = .returned (.tuple #[.agg #[.int .i8 0, .int .i64 0, .int .i8 0, .int .i64 0], .int .i64 m]) ∧ Dn w w' := by
  have t1 : (r1 == 5) = false := by simpa using h1
  have t2 : (r2 == 5) = false := by simpa using h2
  have t3 : (m != 0) = true := by simpa using h3
  clear h1 h2 h3
  go_enter Tryd.func15, Tryd.ntmps15
  go_wp2_with fail
  obtain ⟨W1, hW1⟩ : ∃ W1, W1 = w.alloc (.cells #[.int .i8 0, .int .i64 0, .int .i8 0, .int .i64 0] 29) := ⟨_, rfl⟩
  have uW1 : Dn w W1 := by rw [hW1]; exact (Dn.refl _).alloc _
  have c2 : W1.cell? ⟨w.heap.size, 0, none⟩ = some (.int .i8 0) := by rw [hW1]; simp [go_sem]
  have c3 : W1.cell? ⟨w.heap.size, 1, none⟩ = some (.int .i64 0) := by rw [hW1]; simp [go_sem]
  have c4 : W1.cell? ⟨w.heap.size, 2, none⟩ = some (.int .i8 0) := by rw [hW1]; simp [go_sem]
  have c5 : W1.cell? ⟨w.heap.size, 3, none⟩ = some (.int .i64 0) := by rw [hW1]; simp [go_sem]
  have l6 : w.heap.size < W1.heap.size := by rw [hW1]; simp <;> omega
  have f7 : W1.frozen? ⟨w.heap.size, 0, none⟩ = false := by rw [hW1]; simp [go_sem]
  have f8 : W1.frozen? ⟨w.heap.size, 1, none⟩ = false := by rw [hW1]; simp [go_sem]
  have f9 : W1.frozen? ⟨w.heap.size, 2, none⟩ = false := by rw [hW1]; simp [go_sem]
  have f10 : W1.frozen? ⟨w.heap.size, 3, none⟩ = false := by rw [hW1]; simp [go_sem]
  rw [← hW1]
  clear hW1
  refine (HC.out _ (hE.dn uW1)).mono ?_
  rintro e w1 ⟨rfl, qw1⟩
  have f11 := (qw1.frozen (a := ⟨w.heap.size, 0, none⟩) l6).trans f7
  have f12 := (qw1.frozen (a := ⟨w.heap.size, 1, none⟩) l6).trans f8
  have f13 := (qw1.frozen (a := ⟨w.heap.size, 2, none⟩) l6).trans f9
  have f14 := (qw1.frozen (a := ⟨w.heap.size, 3, none⟩) l6).trans f10
  have l15 := Nat.lt_of_lt_of_le l6 qw1.size
  have c16 := qw1.cell c2
  have c17 := qw1.cell c3
  have c18 := qw1.cell c4
  have c19 := qw1.cell c5
  clear f7 f8 f9 f10 l6 c2 c3 c4 c5
  have uw1 := uW1.trans qw1
  clear qw1 uW1
  go_wp2_with fail
  obtain ⟨W20, hW20⟩ : ∃ W20, W20 = w1.alloc (.cells #[.string lo, .string hi] 9) := ⟨_, rfl⟩
  have uW20 : Dn w1 W20 := by rw [hW20]; exact (Dn.refl _).alloc _
  have f21 := (uW20.frozen (a := ⟨w.heap.size, 0, none⟩) l15).trans f11
  have f22 := (uW20.frozen (a := ⟨w.heap.size, 1, none⟩) l15).trans f12
  have f23 := (uW20.frozen (a := ⟨w.heap.size, 2, none⟩) l15).trans f13
  have f24 := (uW20.frozen (a := ⟨w.heap.size, 3, none⟩) l15).trans f14
  have l25 := Nat.lt_of_lt_of_le l15 uW20.size
  have c26 := uW20.cell c16
  have c27 := uW20.cell c17
  have c28 := uW20.cell c18
  have c29 := uW20.cell c19
  clear f11 f12 f13 f14 l15 c16 c17 c18 c19
  have c30 : W20.cell? ⟨w1.heap.size, 0, none⟩ = some (.string lo) := by rw [hW20]; simp [go_sem]
  have c31 : W20.cell? ⟨w1.heap.size, 1, none⟩ = some (.string hi) := by rw [hW20]; simp [go_sem]
  have l32 : w1.heap.size < W20.heap.size := by rw [hW20]; simp <;> omega
  rw [← hW20]
  clear hW20
  have vW20 := uw1.trans uW20
  clear uW20 uw1
  refine wp_loop_rounds 3 ?_
  rw [rounds_succ]
  go_wp2_with fail
  refine (HP.out _ (hE.dn vW20)).mono ?_
  rintro e w2 ⟨rfl, qw2⟩
  have f33 := (qw2.frozen (a := ⟨w.heap.size, 0, none⟩) l25).trans f21
  have f34 := (qw2.frozen (a := ⟨w.heap.size, 1, none⟩) l25).trans f22
  have f35 := (qw2.frozen (a := ⟨w.heap.size, 2, none⟩) l25).trans f23
  have f36 := (qw2.frozen (a := ⟨w.heap.size, 3, none⟩) l25).trans f24
  have l37 := Nat.lt_of_lt_of_le l25 qw2.size
  have c38 := qw2.cell c26
  have c39 := qw2.cell c27
  have c40 := qw2.cell c28
  have c41 := qw2.cell c29
  have l42 := Nat.lt_of_lt_of_le l32 qw2.size
  have c43 := qw2.cell c30
  have c44 := qw2.cell c31
  clear f21 f22 f23 f24 l25 c26 c27 c28 c29 l32 c30 c31
  have uw2 := vW20.trans qw2
  clear qw2 vW20
  go_wp2_with fail
  obtain ⟨W45, hW45⟩ : ∃ W45, W45 = w2.alloc (.cells #[.int .i8 i1, .int .i64 d1] 27) := ⟨_, rfl⟩
  have uW45 : Dn w2 W45 := by rw [hW45]; exact (Dn.refl _).alloc _
  have f46 := (uW45.frozen (a := ⟨w.heap.size, 0, none⟩) l37).trans f33
  have f47 := (uW45.frozen (a := ⟨w.heap.size, 1, none⟩) l37).trans f34
  have f48 := (uW45.frozen (a := ⟨w.heap.size, 2, none⟩) l37).trans f35
  have f49 := (uW45.frozen (a := ⟨w.heap.size, 3, none⟩) l37).trans f36
  have l50 := Nat.lt_of_lt_of_le l37 uW45.size
  have c51 := uW45.cell c38
  have c52 := uW45.cell c39
  have c53 := uW45.cell c40
  have c54 := uW45.cell c41
  have l55 := Nat.lt_of_lt_of_le l42 uW45.size
  have c56 := uW45.cell c43
  have c57 := uW45.cell c44
  clear f33 f34 f35 f36 l37 c38 c39 c40 c41 l42 c43 c44
  have c58 : W45.cell? ⟨w2.heap.size, 0, none⟩ = some (.int .i8 i1) := by rw [hW45]; simp [go_sem]
  have c59 : W45.cell? ⟨w2.heap.size, 1, none⟩ = some (.int .i64 d1) := by rw [hW45]; simp [go_sem]
  have l60 : w2.heap.size < W45.heap.size := by rw [hW45]; simp <;> omega
  rw [← hW45]
  clear hW45
  have vW45 := uw2.trans uW45
  clear uW45 uw2
  rw [rounds_succ]
  go_wp2_with fail
  refine (HQ.out _ (hE.dn vW45)).mono ?_
  rintro e w3 ⟨rfl, qw3⟩
  have f61 := (qw3.frozen (a := ⟨w.heap.size, 0, none⟩) l50).trans f46
  have f62 := (qw3.frozen (a := ⟨w.heap.size, 1, none⟩) l50).trans f47
  have f63 := (qw3.frozen (a := ⟨w.heap.size, 2, none⟩) l50).trans f48
  have f64 := (qw3.frozen (a := ⟨w.heap.size, 3, none⟩) l50).trans f49
  have l65 := Nat.lt_of_lt_of_le l50 qw3.size
  have c66 := qw3.cell c51
  have c67 := qw3.cell c52
  have c68 := qw3.cell c53
  have c69 := qw3.cell c54
  have l70 := Nat.lt_of_lt_of_le l55 qw3.size
  have c71 := qw3.cell c56
  have c72 := qw3.cell c57
  have l73 := Nat.lt_of_lt_of_le l60 qw3.size
  have c74 := qw3.cell c58
  have c75 := qw3.cell c59
  clear f46 f47 f48 f49 l50 c51 c52 c53 c54 l55 c56 c57 l60 c58 c59
  have uw3 := vW45.trans qw3
  clear qw3 vW45
  go_wp2_with fail
  obtain ⟨W76, hW76⟩ : ∃ W76, W76 = w3.alloc (.cells #[.int .i8 i2, .int .i64 d2] 27) := ⟨_, rfl⟩
  have uW76 : Dn w3 W76 := by rw [hW76]; exact (Dn.refl _).alloc _
  have f77 := (uW76.frozen (a := ⟨w.heap.size, 0, none⟩) l65).trans f61
  have f78 := (uW76.frozen (a := ⟨w.heap.size, 1, none⟩) l65).trans f62
  have f79 := (uW76.frozen (a := ⟨w.heap.size, 2, none⟩) l65).trans f63
  have f80 := (uW76.frozen (a := ⟨w.heap.size, 3, none⟩) l65).trans f64
  have l81 := Nat.lt_of_lt_of_le l65 uW76.size
  have c82 := uW76.cell c66
  have c83 := uW76.cell c67
  have c84 := uW76.cell c68
  have c85 := uW76.cell c69
  have l86 := Nat.lt_of_lt_of_le l70 uW76.size
  have c87 := uW76.cell c71
  have c88 := uW76.cell c72
  have l89 := Nat.lt_of_lt_of_le l73 uW76.size
  have c90 := uW76.cell c74
  have c91 := uW76.cell c75
  clear f61 f62 f63 f64 l65 c66 c67 c68 c69 l70 c71 c72 l73 c74 c75
  have c92 : W76.cell? ⟨w3.heap.size, 0, none⟩ = some (.int .i8 i2) := by rw [hW76]; simp [go_sem]
  have c93 : W76.cell? ⟨w3.heap.size, 1, none⟩ = some (.int .i64 d2) := by rw [hW76]; simp [go_sem]
  have l94 : w3.heap.size < W76.heap.size := by rw [hW76]; simp <;> omega
  rw [← hW76]
  clear hW76
  have vW76 := uw3.trans uW76
  clear uW76 uw3
  rw [rounds_succ]
  go_wp2_with fail
  refine (HB.out _ (hE.dn vW76)).mono ?_
  rintro e w4 ⟨rfl, qw4⟩
  have f95 := (qw4.frozen (a := ⟨w.heap.size, 0, none⟩) l81).trans f77
  have f96 := (qw4.frozen (a := ⟨w.heap.size, 1, none⟩) l81).trans f78
  have f97 := (qw4.frozen (a := ⟨w.heap.size, 2, none⟩) l81).trans f79
  have f98 := (qw4.frozen (a := ⟨w.heap.size, 3, none⟩) l81).trans f80
  have l99 := Nat.lt_of_lt_of_le l81 qw4.size
  have c100 := qw4.cell c82
  have c101 := qw4.cell c83
  have c102 := qw4.cell c84
  have c103 := qw4.cell c85
  have l104 := Nat.lt_of_lt_of_le l86 qw4.size
  have c105 := qw4.cell c87
  have c106 := qw4.cell c88
  have l107 := Nat.lt_of_lt_of_le l89 qw4.size
  have c108 := qw4.cell c90
  have c109 := qw4.cell c91
  have l110 := Nat.lt_of_lt_of_le l94 qw4.size
  have c111 := qw4.cell c92
  have c112 := qw4.cell c93
  clear f77 f78 f79 f80 l81 c82 c83 c84 c85 l86 c87 c88 l89 c90 c91 l94 c92 c93
  have uw4 := vW76.trans qw4
  clear qw4 vW76
  go_wp2_with fail
  have hC : C4 w4 (w.heap.size) (.int .i8 0) (.int .i64 0) (.int .i8 0) (.int .i64 0) := ⟨c100, c101, c102, c103, f95, f96, f97, f98, l99⟩
  have hZ := fun o : Obj => (hC.fill (.int .i8 0) (.int .i64 0) (.int .i8 0) (.int .i64 0)).alloc o
  have z0 := fun o : Obj => (hZ o).c0
  have y0 := fun o : Obj => (hZ o).f0
  have z1 := fun o : Obj => (hZ o).c1
  have y1 := fun o : Obj => (hZ o).f1
  have z2 := fun o : Obj => (hZ o).c2
  have y2 := fun o : Obj => (hZ o).f2
  have z3 := fun o : Obj => (hZ o).c3
  have y3 := fun o : Obj => (hZ o).f3
  exact bodyPost_ret (v := .tuple #[.agg #[.int .i8 0, .int .i64 0, .int .i8 0, .int .i64 0], .int .i64 m]) (by simp [results, Tryd.results15, go_sem, z0, z1, z2, z3, y0, y1, y2, y3, c100, c101, c102, c103, f95, f96, f97, f98] <;> omega) rfl ⟨rfl, (((((uw4.setCell (by simp <;> omega) _).setCell (by simp <;> omega) _).setCell (by simp <;> omega) _).setCell (by simp <;> omega) _).alloc _)⟩
set_option maxHeartbeats 4000000 in
set_option maxRecDepth 100000 in
theorem rnP_4 (s lo hi : ByteArray) (i1 d1 i2 d2 r1 r2 m : Int) (HC : Hid (∀ W, EnvR W → Calls Tryd.prog 43 #[.string s, .string ⟨#[46, 46]⟩] W fun o w' => o = .returned (.tuple #[.string lo, .string hi, .bool true]) ∧ Dn W w')) (HP : Hid (PIs lo i1 d1 0)) (HQ : Hid (PIs hi i2 d2 0)) (HB : Hid (∀ W, EnvR W → Calls Tryd.prog 45 #[.string lo, .string hi, .func (.func 44) #[] #[]] W fun o w' => o = .returned (.tuple #[.agg #[.int .i8 i1, .int .i64 d1, .int .i8 i2, .int .i64 d2], .int .i64 0]) ∧ Dn W w')) (HK : Hid (ChkIs i1 d1 i2 d2 m)) (h1 : m ≠ 0) (w : World) (hE : EnvR w) :
    Calls Tryd.prog 15 #[.string s] w fun ro w' => ro = .returned (.tuple #[.agg #[.int .i8 0, .int .i64 0, .int .i8 0, .int .i64 0], .int .i64 m]) ∧ Dn w w' := by
  have t1 : (m != 0) = true := by simpa using h1
  clear h1
  go_enter Tryd.func15, Tryd.ntmps15
  go_wp2_with fail
  obtain ⟨W1, hW1⟩ : ∃ W1, W1 = w.alloc (.cells #[.int .i8 0, .int .i64 0, .int .i8 0, .int .i64 0] 29) := ⟨_, rfl⟩
  have uW1 : Dn w W1 := by rw [hW1]; exact (Dn.refl _).alloc _
  have c2 : W1.cell? ⟨w.heap.size, 0, none⟩ = some (.int .i8 0) := by rw [hW1]; simp [go_sem]
  have c3 : W1.cell? ⟨w.heap.size, 1, none⟩ = some (.int .i64 0) := by rw [hW1]; simp [go_sem]
  have c4 : W1.cell? ⟨w.heap.size, 2, none⟩ = some (.int .i8 0) := by rw [hW1]; simp [go_sem]
  have c5 : W1.cell? ⟨w.heap.size, 3, none⟩ = some (.int .i64 0) := by rw [hW1]; simp [go_sem]
  have l6 : w.heap.size < W1.heap.size := by rw [hW1]; simp <;> omega
  have f7 : W1.frozen? ⟨w.heap.size, 0, none⟩ = false := by rw [hW1]; simp [go_sem]
  have f8 : W1.frozen? ⟨w.heap.size, 1, none⟩ = false := by rw [hW1]; simp [go_sem]
  have f9 : W1.frozen? ⟨w.heap.size, 2, none⟩ = false := by rw [hW1]; simp [go_sem]
  have f10 : W1.frozen? ⟨w.heap.size, 3, none⟩ = false := by rw [hW1]; simp [go_sem]
  rw [← hW1]
  clear hW1
  refine (HC.out _ (hE.dn uW1)).mono ?_
  rintro e w1 ⟨rfl, qw1⟩
  have f11 := (qw1.frozen (a := ⟨w.heap.size, 0, none⟩) l6).trans f7
  have f12 := (qw1.frozen (a := ⟨w.heap.size, 1, none⟩) l6).trans f8
  have f13 := (qw1.frozen (a := ⟨w.heap.size, 2, none⟩) l6).trans f9
  have f14 := (qw1.frozen (a := ⟨w.heap.size, 3, none⟩) l6).trans f10
  have l15 := Nat.lt_of_lt_of_le l6 qw1.size
  have c16 := qw1.cell c2
  have c17 := qw1.cell c3
  have c18 := qw1.cell c4
  have c19 := qw1.cell c5
  clear f7 f8 f9 f10 l6 c2 c3 c4 c5
  have uw1 := uW1.trans qw1
  clear qw1 uW1
  go_wp2_with fail
  obtain ⟨W20, hW20⟩ : ∃ W20, W20 = w1.alloc (.cells #[.string lo, .string hi] 9) := ⟨_, rfl⟩
  have uW20 : Dn w1 W20 := by rw [hW20]; exact (Dn.refl _).alloc _
  have f21 := (uW20.frozen (a := ⟨w.heap.size, 0, none⟩) l15).trans f11
  have f22 := (uW20.frozen (a := ⟨w.heap.size, 1, none⟩) l15).trans f12
  have f23 := (uW20.frozen (a := ⟨w.heap.size, 2, none⟩) l15).trans f13
  have f24 := (uW20.frozen (a := ⟨w.heap.size, 3, none⟩) l15).trans f14
  have l25 := Nat.lt_of_lt_of_le l15 uW20.size
  have c26 := uW20.cell c16
  have c27 := uW20.cell c17
  have c28 := uW20.cell c18
  have c29 := uW20.cell c19
  clear f11 f12 f13 f14 l15 c16 c17 c18 c19
  have c30 : W20.cell? ⟨w1.heap.size, 0, none⟩ = some (.string lo) := by rw [hW20]; simp [go_sem]
  have c31 : W20.cell? ⟨w1.heap.size, 1, none⟩ = some (.string hi) := by rw [hW20]; simp [go_sem]
  have l32 : w1.heap.size < W20.heap.size := by rw [hW20]; simp <;> omega
  rw [← hW20]
  clear hW20
  have vW20 := uw1.trans uW20
  clear uW20 uw1
  refine wp_loop_rounds 3 ?_
  rw [rounds_succ]
  go_wp2_with fail
  refine (HP.out _ (hE.dn vW20)).mono ?_
  rintro e w2 ⟨rfl, qw2⟩
  have f33 := (qw2.frozen (a := ⟨w.heap.size, 0, none⟩) l25).trans f21
  have f34 := (qw2.frozen (a := ⟨w.heap.size, 1, none⟩) l25).trans f22
  have f35 := (qw2.frozen (a := ⟨w.heap.size, 2, none⟩) l25).trans f23
  have f36 := (qw2.frozen (a := ⟨w.heap.size, 3, none⟩) l25).trans f24
  have l37 := Nat.lt_of_lt_of_le l25 qw2.size
  have c38 := qw2.cell c26
  have c39 := qw2.cell c27
  have c40 := qw2.cell c28
  have c41 := qw2.cell c29
  have l42 := Nat.lt_of_lt_of_le l32 qw2.size
  have c43 := qw2.cell c30
  have c44 := qw2.cell c31
  clear f21 f22 f23 f24 l25 c26 c27 c28 c29 l32 c30 c31
  have uw2 := vW20.trans qw2
  clear qw2 vW20
  go_wp2_with fail
  obtain ⟨W45, hW45⟩ : ∃ W45, W45 = w2.alloc (.cells #[.int .i8 i1, .int .i64 d1] 27) := ⟨_, rfl⟩
  have uW45 : Dn w2 W45 := by rw [hW45]; exact (Dn.refl _).alloc _
  have f46 := (uW45.frozen (a := ⟨w.heap.size, 0, none⟩) l37).trans f33
  have f47 := (uW45.frozen (a := ⟨w.heap.size, 1, none⟩) l37).trans f34
  have f48 := (uW45.frozen (a := ⟨w.heap.size, 2, none⟩) l37).trans f35
  have f49 := (uW45.frozen (a := ⟨w.heap.size, 3, none⟩) l37).trans f36
  have l50 := Nat.lt_of_lt_of_le l37 uW45.size
  have c51 := uW45.cell c38
  have c52 := uW45.cell c39
  have c53 := uW45.cell c40
  have c54 := uW45.cell c41
  have l55 := Nat.lt_of_lt_of_le l42 uW45.size
  have c56 := uW45.cell c43
  have c57 := uW45.cell c44
  clear f33 f34 f35 f36 l37 c38 c39 c40 c41 l42 c43 c44
  have c58 : W45.cell? ⟨w2.heap.size, 0, none⟩ = some (.int .i8 i1) := by rw [hW45]; simp [go_sem]
  have c59 : W45.cell? ⟨w2.heap.size, 1, none⟩ = some (.int .i64 d1) := by rw [hW45]; simp [go_sem]
  have l60 : w2.heap.size < W45.heap.size := by rw [hW45]; simp <;> omega
  rw [← hW45]
  clear hW45
  have vW45 := uw2.trans uW45
  clear uW45 uw2
  rw [rounds_succ]
  go_wp2_with fail
  refine (HQ.out _ (hE.dn vW45)).mono ?_
  rintro e w3 ⟨rfl, qw3⟩
  have f61 := (qw3.frozen (a := ⟨w.heap.size, 0, none⟩) l50).trans f46
  have f62 := (qw3.frozen (a := ⟨w.heap.size, 1, none⟩) l50).trans f47
  have f63 := (qw3.frozen (a := ⟨w.heap.size, 2, none⟩) l50).trans f48
  have f64 := (qw3.frozen (a := ⟨w.heap.size, 3, none⟩) l50).trans f49
  have l65 := Nat.lt_of_lt_of_le l50 qw3.size
  have c66 := qw3.cell c51
  have c67 := qw3.cell c52
  have c68 := qw3.cell c53
  have c69 := qw3.cell c54
  have l70 := Nat.lt_of_lt_of_le l55 qw3.size
  have c71 := qw3.cell c56
  have c72 := qw3.cell c57
  have l73 := Nat.lt_of_lt_of_le l60 qw3.size
  have c74 := qw3.cell c58
  have c75 := qw3.cell c59
  clear f46 f47 f48 f49 l50 c51 c52 c53 c54 l55 c56 c57 l60 c58 c59
  have uw3 := vW45.trans qw3
  clear qw3 vW45
  go_wp2_with fail
  obtain ⟨W76, hW76⟩ : ∃ W76, W76 = w3.alloc (.cells #[.int .i8 i2, .int .i64 d2] 27) := ⟨_, rfl⟩
  have uW76 : Dn w3 W76 := by rw [hW76]; exact (Dn.refl _).alloc _
  have f77 := (uW76.frozen (a := ⟨w.heap.size, 0, none⟩) l65).trans f61
  have f78 := (uW76.frozen (a := ⟨w.heap.size, 1, none⟩) l65).trans f62
  have f79 := (uW76.frozen (a := ⟨w.heap.size, 2, none⟩) l65).trans f63
  have f80 := (uW76.frozen (a := ⟨w.heap.size, 3, none⟩) l65).trans f64
  have l81 := Nat.lt_of_lt_of_le l65 uW76.size
  have c82 := uW76.cell c66
  have c83 := uW76.cell c67
  have c84 := uW76.cell c68
  have c85 := uW76.cell c69
  have l86 := Nat.lt_of_lt_of_le l70 uW76.size
  have c87 := uW76.cell c71
  have c88 := uW76.cell c72
  have l89 := Nat.lt_of_lt_of_le l73 uW76.size
  have c90 := uW76.cell c74
  have c91 := uW76.cell c75
  clear f61 f62 f63 f64 l65 c66 c67 c68 c69 l70 c71 c72 l73 c74 c75
  have c92 : W76.cell? ⟨w3.heap.size, 0, none⟩ = some (.int .i8 i2) := by rw [hW76]; simp [go_sem]
  have c93 : W76.cell? ⟨w3.heap.size, 1, none⟩ = some (.int .i64 d2) := by rw [hW76]; simp [go_sem]
  have l94 : w3.heap.size < W76.heap.size := by rw [hW76]; simp <;> omega
  rw [← hW76]
  clear hW76
  have vW76 := uw3.trans uW76
  clear uW76 uw3
  rw [rounds_succ]
  go_wp2_with fail
  refine (HB.out _ (hE.dn vW76)).mono ?_
  rintro e w4 ⟨rfl, qw4⟩
  have f95 := (qw4.frozen (a := ⟨w.heap.size, 0, none⟩) l81).trans f77
  have f96 := (qw4.frozen (a := ⟨w.heap.size, 1, none⟩) l81).trans f78
  have f97 := (qw4.frozen (a := ⟨w.heap.size, 2, none⟩) l81).trans f79
  have f98 := (qw4.frozen (a := ⟨w.heap.size, 3, none⟩) l81).trans f80
  have l99 := Nat.lt_of_lt_of_le l81 qw4.size
  have c100 := qw4.cell c82
  have c101 := qw4.cell c83
  have c102 := qw4.cell c84
  have c103 := qw4.cell c85
  have l104 := Nat.lt_of_lt_of_le l86 qw4.size
  have c105 := qw4.cell c87
  have c106 := qw4.cell c88
  have l107 := Nat.lt_of_lt_of_le l89 qw4.size
  have c108 := qw4.cell c90
  have c109 := qw4.cell c91
  have l110 := Nat.lt_of_lt_of_le l94 qw4.size
  have c111 := qw4.cell c92
  have c112 := qw4.cell c93
  clear f77 f78 f79 f80 l81 c82 c83 c84 c85 l86 c87 c88 l89 c90 c91 l94 c92 c93
  have uw4 := vW76.trans qw4
  clear qw4 vW76
  go_wp2_with fail
  obtain ⟨W113, hW113⟩ : ∃ W113, W113 = (w4.alloc (.cells #[.int .i8 i1, .int .i64 d1, .int .i8 i2, .int .i64 d2] 75)).alloc (.cells #[.int .i8 i1, .int .i64 d1, .int .i8 i2, .int .i64 d2] 29) := ⟨_, rfl⟩
  have uW113 : Dn w4 W113 := by rw [hW113]; exact ((Dn.refl _).alloc _).alloc _
  have f114 := (uW113.frozen (a := ⟨w.heap.size, 0, none⟩) l99).trans f95
  have f115 := (uW113.frozen (a := ⟨w.heap.size, 1, none⟩) l99).trans f96
  have f116 := (uW113.frozen (a := ⟨w.heap.size, 2, none⟩) l99).trans f97
  have f117 := (uW113.frozen (a := ⟨w.heap.size, 3, none⟩) l99).trans f98
  have l118 := Nat.lt_of_lt_of_le l99 uW113.size
  have c119 := uW113.cell c100
  have c120 := uW113.cell c101
  have c121 := uW113.cell c102
  have c122 := uW113.cell c103
  have l123 := Nat.lt_of_lt_of_le l104 uW113.size
  have c124 := uW113.cell c105
  have c125 := uW113.cell c106
  have l126 := Nat.lt_of_lt_of_le l107 uW113.size
  have c127 := uW113.cell c108
  have c128 := uW113.cell c109
  have l129 := Nat.lt_of_lt_of_le l110 uW113.size
  have c130 := uW113.cell c111
  have c131 := uW113.cell c112
  clear f95 f96 f97 f98 l99 c100 c101 c102 c103 l104 c105 c106 l107 c108 c109 l110 c111 c112
  have c132 : W113.cell? ⟨w4.heap.size, 0, none⟩ = some (.int .i8 i1) := by rw [hW113]; simp [go_sem]
  have c133 : W113.cell? ⟨w4.heap.size, 1, none⟩ = some (.int .i64 d1) := by rw [hW113]; simp [go_sem]
  have c134 : W113.cell? ⟨w4.heap.size, 2, none⟩ = some (.int .i8 i2) := by rw [hW113]; simp [go_sem]
  have c135 : W113.cell? ⟨w4.heap.size, 3, none⟩ = some (.int .i64 d2) := by rw [hW113]; simp [go_sem]
  have l136 : w4.heap.size < W113.heap.size := by rw [hW113]; simp <;> omega
  have c137 : W113.cell? ⟨w4.heap.size + 1, 0, none⟩ = some (.int .i8 i1) := by rw [hW113]; simp [go_sem]
  have c138 : W113.cell? ⟨w4.heap.size + 1, 1, none⟩ = some (.int .i64 d1) := by rw [hW113]; simp [go_sem]
  have c139 : W113.cell? ⟨w4.heap.size + 1, 2, none⟩ = some (.int .i8 i2) := by rw [hW113]; simp [go_sem]
  have c140 : W113.cell? ⟨w4.heap.size + 1, 3, none⟩ = some (.int .i64 d2) := by rw [hW113]; simp [go_sem]
  have l141 : w4.heap.size + 1 < W113.heap.size := by rw [hW113]; simp <;> omega
  rw [← hW113]
  clear hW113
  have vW113 := uw4.trans uW113
  clear uW113 uw4
  refine (HK.out _).mono ?_
  rintro e w5 ⟨rfl, qw5⟩
  have f142 := (qw5.frozen (a := ⟨w.heap.size, 0, none⟩) l118).trans f114
  have f143 := (qw5.frozen (a := ⟨w.heap.size, 1, none⟩) l118).trans f115
  have f144 := (qw5.frozen (a := ⟨w.heap.size, 2, none⟩) l118).trans f116
  have f145 := (qw5.frozen (a := ⟨w.heap.size, 3, none⟩) l118).trans f117
  have l146 := Nat.lt_of_lt_of_le l118 qw5.size
  have c147 := qw5.cell c119
  have c148 := qw5.cell c120
  have c149 := qw5.cell c121
  have c150 := qw5.cell c122
  have l151 := Nat.lt_of_lt_of_le l123 qw5.size
  have c152 := qw5.cell c124
  have c153 := qw5.cell c125
  have l154 := Nat.lt_of_lt_of_le l126 qw5.size
  have c155 := qw5.cell c127
  have c156 := qw5.cell c128
  have l157 := Nat.lt_of_lt_of_le l129 qw5.size
  have c158 := qw5.cell c130
  have c159 := qw5.cell c131
  have l160 := Nat.lt_of_lt_of_le l136 qw5.size
  have c161 := qw5.cell c132
  have c162 := qw5.cell c133
  have c163 := qw5.cell c134
  have c164 := qw5.cell c135
  have l165 := Nat.lt_of_lt_of_le l141 qw5.size
  have c166 := qw5.cell c137
  have c167 := qw5.cell c138
  have c168 := qw5.cell c139
  have c169 := qw5.cell c140
  clear f114 f115 f116 f117 l118 c119 c120 c121 c122 l123 c124 c125 l126 c127 c128 l129 c130 c131 l136 c132 c133 c134 c135 l141 c137 c138 c139 c140
  have uw5 := vW113.trans qw5
  clear qw5 vW113
  go_wp2_with fail
  exact bodyPost_ret (v := .tuple #[.agg #[.int .i8 0, .int .i64 0, .int .i8 0, .int .i64 0], .int .i64 m]) (by simp [results, Tryd.results15, go_sem, c147, c148, c149, c150, c152, c153, c155, c156, c158, c159, c161, c162, c163, c164, c166, c167, c168, c169, f142, f143, f144, f145] <;> omega) rfl ⟨rfl, ((((uw5.setCell (by simp <;> omega) _).setCell (by simp <;> omega) _).setCell (by simp <;> omega) _).setCell (by simp <;> omega) _)⟩
set_option maxHeartbeats 4000000 in
set_option maxRecDepth 100000 in
theorem rnP_5 (s lo hi : ByteArray) (i1 d1 i2 d2 r1 r2 m : Int) (HC : Hid (∀ W, EnvR W → Calls Tryd.prog 43 #[.string s, .string ⟨#[46, 46]⟩] W fun o w' => o = .returned (.tuple #[.string lo, .string hi, .bool true]) ∧ Dn W w')) (HP : Hid (PIs lo i1 d1 0)) (HQ : Hid (PIs hi i2 d2 0)) (HB : Hid (∀ W, EnvR W → Calls Tryd.prog 45 #[.string lo, .string hi, .func (.func 44) #[] #[]] W fun o w' => o = .returned (.tuple #[.agg #[.int .i8 i1, .int .i64 d1, .int .i8 i2, .int .i64 d2], .int .i64 0]) ∧ Dn W w')) (HK : Hid (ChkIs i1 d1 i2 d2 0)) (w : World) (hE : EnvR w) :
    Calls Tryd.prog 15 #[.string s] w fun ro w' => ro = .returned (.tuple #[.agg #[.int .i8 i1, .int .i64 d1, .int .i8 i2, .int .i64 d2], .int .i64 0]) ∧ Dn w w' := by
  go_enter Tryd.func15, Tryd.ntmps15
  go_wp2_with fail
  obtain ⟨W1, hW1⟩ : ∃ W1, W1 = w.alloc (.cells #[.int .i8 0, .int .i64 0, .int .i8 0, .int .i64 0] 29) := ⟨_, rfl⟩
  have uW1 : Dn w W1 := by rw [hW1]; exact (Dn.refl _).alloc _
  have c2 : W1.cell? ⟨w.heap.size, 0, none⟩ = some (.int .i8 0) := by rw [hW1]; simp [go_sem]
  have c3 : W1.cell? ⟨w.heap.size, 1, none⟩ = some (.int .i64 0) := by rw [hW1]; simp [go_sem]
  have c4 : W1.cell? ⟨w.heap.size, 2, none⟩ = some (.int .i8 0) := by rw [hW1]; simp [go_sem]
  have c5 : W1.cell? ⟨w.heap.size, 3, none⟩ = some (.int .i64 0) := by rw [hW1]; simp [go_sem]
  have l6 : w.heap.size < W1.heap.size := by rw [hW1]; simp <;> omega
  have f7 : W1.frozen? ⟨w.heap.size, 0, none⟩ = false := by rw [hW1]; simp [go_sem]
  have f8 : W1.frozen? ⟨w.heap.size, 1, none⟩ = false := by rw [hW1]; simp [go_sem]
  have f9 : W1.frozen? ⟨w.heap.size, 2, none⟩ = false := by rw [hW1]; simp [go_sem]
  have f10 : W1.frozen? ⟨w.heap.size, 3, none⟩ = false := by rw [hW1]; simp [go_sem]
  rw [← hW1]
  clear hW1
  refine (HC.out _ (hE.dn uW1)).mono ?_
  rintro e w1 ⟨rfl, qw1⟩
  have f11 := (qw1.frozen (a := ⟨w.heap.size, 0, none⟩) l6).trans f7
  have f12 := (qw1.frozen (a := ⟨w.heap.size, 1, none⟩) l6).trans f8
  have f13 := (qw1.frozen (a := ⟨w.heap.size, 2, none⟩) l6).trans f9
  have f14 := (qw1.frozen (a := ⟨w.heap.size, 3, none⟩) l6).trans f10
  have l15 := Nat.lt_of_lt_of_le l6 qw1.size
  have c16 := qw1.cell c2
  have c17 := qw1.cell c3
  have c18 := qw1.cell c4
  have c19 := qw1.cell c5
  clear f7 f8 f9 f10 l6 c2 c3 c4 c5
  have uw1 := uW1.trans qw1
  clear qw1 uW1
  go_wp2_with fail
  obtain ⟨W20, hW20⟩ : ∃ W20, W20 = w1.alloc (.cells #[.string lo, .string hi] 9) := ⟨_, rfl⟩
  have uW20 : Dn w1 W20 := by rw [hW20]; exact (Dn.refl _).alloc _
  have f21 := (uW20.frozen (a := ⟨w.heap.size, 0, none⟩) l15).trans f11
  have f22 := (uW20.frozen (a := ⟨w.heap.size, 1, none⟩) l15).trans f12
  have f23 := (uW20.frozen (a := ⟨w.heap.size, 2, none⟩) l15).trans f13
  have f24 := (uW20.frozen (a := ⟨w.heap.size, 3, none⟩) l15).trans f14
  have l25 := Nat.lt_of_lt_of_le l15 uW20.size
  have c26 := uW20.cell c16
  have c27 := uW20.cell c17
  have c28 := uW20.cell c18
  have c29 := uW20.cell c19
  clear f11 f12 f13 f14 l15 c16 c17 c18 c19
  have c30 : W20.cell? ⟨w1.heap.size, 0, none⟩ = some (.string lo) := by rw [hW20]; simp [go_sem]
  have c31 : W20.cell? ⟨w1.heap.size, 1, none⟩ = some (.string hi) := by rw [hW20]; simp [go_sem]
  have l32 : w1.heap.size < W20.heap.size := by rw [hW20]; simp <;> omega
  rw [← hW20]
  clear hW20
  have vW20 := uw1.trans uW20
  clear uW20 uw1
  refine wp_loop_rounds 3 ?_
  rw [rounds_succ]
  go_wp2_with fail
  refine (HP.out _ (hE.dn vW20)).mono ?_
  rintro e w2 ⟨rfl, qw2⟩
  have f33 := (qw2.frozen (a := ⟨w.heap.size, 0, none⟩) l25).trans f21
  have f34 := (qw2.frozen (a := ⟨w.heap.size, 1, none⟩) l25).trans f22
  have f35 := (qw2.frozen (a := ⟨w.heap.size, 2, none⟩) l25).trans f23
  have f36 := (qw2.frozen (a := ⟨w.heap.size, 3, none⟩) l25).trans f24
  have l37 := Nat.lt_of_lt_of_le l25 qw2.size
  have c38 := qw2.cell c26
  have c39 := qw2.cell c27
  have c40 := qw2.cell c28
  have c41 := qw2.cell c29
  have l42 := Nat.lt_of_lt_of_le l32 qw2.size
  have c43 := qw2.cell c30
  have c44 := qw2.cell c31
  clear f21 f22 f23 f24 l25 c26 c27 c28 c29 l32 c30 c31
  have uw2 := vW20.trans qw2
  clear qw2 vW20
  go_wp2_with fail
  obtain ⟨W45, hW45⟩ : ∃ W45, W45 = w2.alloc (.cells #[.int .i8 i1, .int .i64 d1] 27) := ⟨_, rfl⟩
  have uW45 : Dn w2 W45 := by rw [hW45]; exact (Dn.refl _).alloc _
  have f46 := (uW45.frozen (a := ⟨w.heap.size, 0, none⟩) l37).trans f33
  have f47 := (uW45.frozen (a := ⟨w.heap.size, 1, none⟩) l37).trans f34
  have f48 := (uW45.frozen (a := ⟨w.heap.size, 2, none⟩) l37).trans f35
  have f49 := (uW45.frozen (a := ⟨w.heap.size, 3, none⟩) l37).trans f36
  have l50 := Nat.lt_of_lt_of_le l37 uW45.size
  have c51 := uW45.cell c38
  have c52 := uW45.cell c39
  have c53 := uW45.cell c40
  have c54 := uW45.cell c41
  have l55 := Nat.lt_of_lt_of_le l42 uW45.size
  have c56 := uW45.cell c43
  have c57 := uW45.cell c44
  clear f33 f34 f35 f36 l37 c38 c39 c40 c41 l42 c43 c44
  have c58 : W45.cell? ⟨w2.heap.size, 0, none⟩ = some (.int .i8 i1) := by rw [hW45]; simp [go_sem]
  have c59 : W45.cell? ⟨w2.heap.size, 1, none⟩ = some (.int .i64 d1) := by rw [hW45]; simp [go_sem]
  have l60 : w2.heap.size < W45.heap.size := by rw [hW45]; simp <;> omega
  rw [← hW45]
  clear hW45
  have vW45 := uw2.trans uW45
  clear uW45 uw2
  rw [rounds_succ]
  go_wp2_with fail
  refine (HQ.out _ (hE.dn vW45)).mono ?_
  rintro e w3 ⟨rfl, qw3⟩
  have f61 := (qw3.frozen (a := ⟨w.heap.size, 0, none⟩) l50).trans f46
  have f62 := (qw3.frozen (a := ⟨w.heap.size, 1, none⟩) l50).trans f47
  have f63 := (qw3.frozen (a := ⟨w.heap.size, 2, none⟩) l50).trans f48
  have f64 := (qw3.frozen (a := ⟨w.heap.size, 3, none⟩) l50).trans f49
  have l65 := Nat.lt_of_lt_of_le l50 qw3.size
  have c66 := qw3.cell c51
  have c67 := qw3.cell c52
  have c68 := qw3.cell c53
  have c69 := qw3.cell c54
  have l70 := Nat.lt_of_lt_of_le l55 qw3.size
  have c71 := qw3.cell c56
  have c72 := qw3.cell c57
  have l73 := Nat.lt_of_lt_of_le l60 qw3.size
  have c74 := qw3.cell c58
  have c75 := qw3.cell c59
  clear f46 f47 f48 f49 l50 c51 c52 c53 c54 l55 c56 c57 l60 c58 c59
  have uw3 := vW45.trans qw3
  clear qw3 vW45
  go_wp2_with fail
  obtain ⟨W76, hW76⟩ : ∃ W76, W76 = w3.alloc (.cells #[.int .i8 i2, .int .i64 d2] 27) := ⟨_, rfl⟩
  have uW76 : Dn w3 W76 := by rw [hW76]; exact (Dn.refl _).alloc _
  have f77 := (uW76.frozen (a := ⟨w.heap.size, 0, none⟩) l65).trans f61
  have f78 := (uW76.frozen (a := ⟨w.heap.size, 1, none⟩) l65).trans f62
  have f79 := (uW76.frozen (a := ⟨w.heap.size, 2, none⟩) l65).trans f63
  have f80 := (uW76.frozen (a := ⟨w.heap.size, 3, none⟩) l65).trans f64
  have l81 := Nat.lt_of_lt_of_le l65 uW76.size
  have c82 := uW76.cell c66
  have c83 := uW76.cell c67
  have c84 := uW76.cell c68
  have c85 := uW76.cell c69
  have l86 := Nat.lt_of_lt_of_le l70 uW76.size
  have c87 := uW76.cell c71
  have c88 := uW76.cell c72
  have l89 := Nat.lt_of_lt_of_le l73 uW76.size
  have c90 := uW76.cell c74
  have c91 := uW76.cell c75
  clear f61 f62 f63 f64 l65 c66 c67 c68 c69 l70 c71 c72 l73 c74 c75
  have c92 : W76.cell? ⟨w3.heap.size, 0, none⟩ = some (.int .i8 i2) := by rw [hW76]; simp [go_sem]
  have c93 : W76.cell? ⟨w3.heap.size, 1, none⟩ = some (.int .i64 d2) := by rw [hW76]; simp [go_sem]
  have l94 : w3.heap.size < W76.heap.size := by rw [hW76]; simp <;> omega
  rw [← hW76]
  clear hW76
  have vW76 := uw3.trans uW76
  clear uW76 uw3
  rw [rounds_succ]
  go_wp2_with fail
  refine (HB.out _ (hE.dn vW76)).mono ?_
  rintro e w4 ⟨rfl, qw4⟩
  have f95 := (qw4.frozen (a := ⟨w.heap.size, 0, none⟩) l81).trans f77
  have f96 := (qw4.frozen (a := ⟨w.heap.size, 1, none⟩) l81).trans f78
  have f97 := (qw4.frozen (a := ⟨w.heap.size, 2, none⟩) l81).trans f79
  have f98 := (qw4.frozen (a := ⟨w.heap.size, 3, none⟩) l81).trans f80
  have l99 := Nat.lt_of_lt_of_le l81 qw4.size
  have c100 := qw4.cell c82
  have c101 := qw4.cell c83
  have c102 := qw4.cell c84
  have c103 := qw4.cell c85
  have l104 := Nat.lt_of_lt_of_le l86 qw4.size
  have c105 := qw4.cell c87
  have c106 := qw4.cell c88
  have l107 := Nat.lt_of_lt_of_le l89 qw4.size
  have c108 := qw4.cell c90
  have c109 := qw4.cell c91
  have l110 := Nat.lt_of_lt_of_le l94 qw4.size
  have c111 := qw4.cell c92
  have c112 := qw4.cell c93
  clear f77 f78 f79 f80 l81 c82 c83 c84 c85 l86 c87 c88 l89 c90 c91 l94 c92 c93
  have uw4 := vW76.trans qw4
  clear qw4 vW76
  go_wp2_with fail
  obtain ⟨W113, hW113⟩ : ∃ W113, W113 = (w4.alloc (.cells #[.int .i8 i1, .int .i64 d1, .int .i8 i2, .int .i64 d2] 75)).alloc (.cells #[.int .i8 i1, .int .i64 d1, .int .i8 i2, .int .i64 d2] 29) := ⟨_, rfl⟩
  have uW113 : Dn w4 W113 := by rw [hW113]; exact ((Dn.refl _).alloc _).alloc _
  have f114 := (uW113.frozen (a := ⟨w.heap.size, 0, none⟩) l99).trans f95
  have f115 := (uW113.frozen (a := ⟨w.heap.size, 1, none⟩) l99).trans f96
  have f116 := (uW113.frozen (a := ⟨w.heap.size, 2, none⟩) l99).trans f97
  have f117 := (uW113.frozen (a := ⟨w.heap.size, 3, none⟩) l99).trans f98
  have l118 := Nat.lt_of_lt_of_le l99 uW113.size
  have c119 := uW113.cell c100
  have c120 := uW113.cell c101
  have c121 := uW113.cell c102
  have c122 := uW113.cell c103
  have l123 := Nat.lt_of_lt_of_le l104 uW113.size
  have c124 := uW113.cell c105
  have c125 := uW113.cell c106
  have l126 := Nat.lt_of_lt_of_le l107 uW113.size
  have c127 := uW113.cell c108
  have c128 := uW113.cell c109
  have l129 := Nat.lt_of_lt_of_le l110 uW113.size
  have c130 := uW113.cell c111
  have c131 := uW113.cell c112
  clear f95 f96 f97 f98 l99 c100 c101 c102 c103 l104 c105 c106 l107 c108 c109 l110 c111 c112
  have c132 : W113.cell? ⟨w4.heap.size, 0, none⟩ = some (.int .i8 i1) := by rw [hW113]; simp [go_sem]
  have c133 : W113.cell? ⟨w4.heap.size, 1, none⟩ = some (.int .i64 d1) := by rw [hW113]; simp [go_sem]
  have c134 : W113.cell? ⟨w4.heap.size, 2, none⟩ = some (.int .i8 i2) := by rw [hW113]; simp [go_sem]
  have c135 : W113.cell? ⟨w4.heap.size, 3, none⟩ = some (.int .i64 d2) := by rw [hW113]; simp [go_sem]
  have l136 : w4.heap.size < W113.heap.size := by rw [hW113]; simp <;> omega
  have c137 : W113.cell? ⟨w4.heap.size + 1, 0, none⟩ = some (.int .i8 i1) := by rw [hW113]; simp [go_sem]
  have c138 : W113.cell? ⟨w4.heap.size + 1, 1, none⟩ = some (.int .i64 d1) := by rw [hW113]; simp [go_sem]
  have c139 : W113.cell? ⟨w4.heap.size + 1, 2, none⟩ = some (.int .i8 i2) := by rw [hW113]; simp [go_sem]
  have c140 : W113.cell? ⟨w4.heap.size + 1, 3, none⟩ = some (.int .i64 d2) := by rw [hW113]; simp [go_sem]
  have l141 : w4.heap.size + 1 < W113.heap.size := by rw [hW113]; simp <;> omega
  rw [← hW113]
  clear hW113
  have vW113 := uw4.trans uW113
  clear uW113 uw4
  refine (HK.out _).mono ?_
  rintro e w5 ⟨rfl, qw5⟩
  have f142 := (qw5.frozen (a := ⟨w.heap.size, 0, none⟩) l118).trans f114
  have f143 := (qw5.frozen (a := ⟨w.heap.size, 1, none⟩) l118).trans f115
  have f144 := (qw5.frozen (a := ⟨w.heap.size, 2, none⟩) l118).trans f116
  have f145 := (qw5.frozen (a := ⟨w.heap.size, 3, none⟩) l118).trans f117
  have l146 := Nat.lt_of_lt_of_le l118 qw5.size
  have c147 := qw5.cell c119
  have c148 := qw5.cell c120
  have c149 := qw5.cell c121
  have c150 := qw5.cell c122
  have l151 := Nat.lt_of_lt_of_le l123 qw5.size
  have c152 := qw5.cell c124
  have c153 := qw5.cell c125
  have l154 := Nat.lt_of_lt_of_le l126 qw5.size
  have c155 := qw5.cell c127
  have c156 := qw5.cell c128
  have l157 := Nat.lt_of_lt_of_le l129 qw5.size
  have c158 := qw5.cell c130
  have c159 := qw5.cell c131
  have l160 := Nat.lt_of_lt_of_le l136 qw5.size
  have c161 := qw5.cell c132
  have c162 := qw5.cell c133
  have c163 := qw5.cell c134
  have c164 := qw5.cell c135
  have l165 := Nat.lt_of_lt_of_le l141 qw5.size
  have c166 := qw5.cell c137
  have c167 := qw5.cell c138
  have c168 := qw5.cell c139
  have c169 := qw5.cell c140
  clear f114 f115 f116 f117 l118 c119 c120 c121 c122 l123 c124 c125 l126 c127 c128 l129 c130 c131 l136 c132 c133 c134 c135 l141 c137 c138 c139 c140
  have uw5 := vW113.trans qw5
  clear qw5 vW113
  go_wp2_with fail
  exact bodyPost_ret (v := .tuple #[.agg #[.int .i8 i1, .int .i64 d1, .int .i8 i2, .int .i64 d2], .int .i64 0]) (by simp [results, Tryd.results15, go_sem, c147, c148, c149, c150, c152, c153, c155, c156, c158, c159, c161, c162, c163, c164, c166, c167, c168, c169, f142, f143, f144, f145] <;> omega) rfl ⟨rfl, ((((uw5.setCell (by simp <;> omega) _).setCell (by simp <;> omega) _).setCell (by simp <;> omega) _).setCell (by simp <;> omega) _)⟩
end Go.Proofs.YtcdkeiolblifkaaDoor
