/- Walks and laws that the claim's theorem leans on: part 8. -/
import Derived.Test.YtoghoddjkdoohaaGreatDoorZOf1
import Derived.Test.YtoghoddjkdoohaaGreatDoorZOf4
import Derived.Test.YtoghoddjkdoohaaGreatDoorZOf5
import Derived.Test.YtoghoddjkdoohaaGreatDoorZOf6
import Derived.Test.YtoghoddjkdoohaaGreatDoorZOf7
import Derived.LoopN
namespace Go.Proofs.YtoghoddjkdoohaaGreatDoor
set_option maxHeartbeats 4000000
set_option maxRecDepth 100000
open Go.RowKit
set_option linter.unusedVariables false
set_option linter.unusedSimpArgs false
structure EnvR (w : World) : Prop where
 i : EnvI w
 m : ∃ m, w.cell? ⟨2, 0, none⟩ = some (.int .i64 m)
theorem EnvR.dn {w w' : World} (h : EnvR w) (k : Dn w w') : EnvR w' := ⟨h.i.dn k, h.m.elim fun m hm => ⟨m, k.cell hm⟩⟩
def PIs (s : ByteArray) (i d r : Int) : Prop := ∀ W, EnvR W → Calls Tryz.prog 115 #[.string s] W fun o w' => o = .returned (.tuple #[.agg #[.int .i8 i, .int .i64 d], .int .i64 r]) ∧ Dn W w'
theorem preOf37x1 (w : World) : ∃ W1, W1 = w.alloc (.cells #[.int .i8 0, .int .i64 0, .int .i8 0, .int .i64 0] 139) ∧ (Dn w W1) ∧ (W1.cell? ⟨w.heap.size, 0, none⟩ = some (.int .i8 0)) ∧ (W1.cell? ⟨w.heap.size, 1, none⟩ = some (.int .i64 0)) ∧ (W1.cell? ⟨w.heap.size, 2, none⟩ = some (.int .i8 0)) ∧ (W1.cell? ⟨w.heap.size, 3, none⟩ = some (.int .i64 0)) ∧ (w.heap.size < W1.heap.size) ∧ (W1.frozen? ⟨w.heap.size, 0, none⟩ = false) ∧ (W1.frozen? ⟨w.heap.size, 1, none⟩ = false) ∧ (W1.frozen? ⟨w.heap.size, 2, none⟩ = false) ∧ (W1.frozen? ⟨w.heap.size, 3, none⟩ = false) := by
  obtain ⟨W1, hW1⟩ : ∃ W1, W1 = w.alloc (.cells #[.int .i8 0, .int .i64 0, .int .i8 0, .int .i64 0] 139) := ⟨_, rfl⟩
  exact ⟨W1, hW1, (by rw [hW1]; exact (Dn.refl _).alloc _), (by rw [hW1]; simp [go_sem]), (by rw [hW1]; simp [go_sem]), (by rw [hW1]; simp [go_sem]), (by rw [hW1]; simp [go_sem]), (by rw [hW1]; simp <;> omega), (by rw [hW1]; simp [go_sem]), (by rw [hW1]; simp [go_sem]), (by rw [hW1]; simp [go_sem]), (by rw [hW1]; simp [go_sem])⟩
theorem rnBP_1 (s t : ByteArray) (i1 d1 i2 d2 r1 r2 : Int) (HA : Hid (PIs s i1 d1 r1)) (h1 : r1 ≠ 0) (w : World) (hE : EnvR w) :
  Calls Tryz.prog 116 #[.string s, .string t, .func (.func 115) #[] #[]] w fun ro w' => ro = .returned (.tuple #[.agg #[.int .i8 0, .int .i64 0, .int .i8 0, .int .i64 0], .int .i64 r1]) ∧ Dn w w' := by
 have t1 : (r1 != 0) = true := by simpa using h1
 clear h1
 go_enter Tryz.func116, Tryz.ntmps116
 go_wp2_with fail
 obtain ⟨W1, hW1, uW1, c2, c3, c4, c5, l6, f7, f8, f9, f10⟩ := preOf37x1 w 
 rw [← hW1]
 clear hW1
 refine (HA.out _ (hE.dn uW1)).mono ?_
 rintro e w1 ⟨rfl, qw1⟩
 have f11 := (qw1.frozen (a := ⟨w.heap.size, 0, none⟩) l6).trans f7
 have f12 := (qw1.frozen (a := ⟨w.heap.size, 1, none⟩) l6).trans f8
 have f13 := (qw1.frozen (a := ⟨w.heap.size, 2, none⟩) l6).trans f9
 have f14 := (qw1.frozen (a := ⟨w.heap.size, 3, none⟩) l6).trans f10
 have a4 := nlt l6 qw1.size
 obtain ⟨a0, a1, a2, a3⟩ := mv4 qw1.cell c2 c3 c4 c5
 clear f7 f8 f9 f10 l6 c2 c3 c4 c5
 have uw1 := uW1.trans qw1
 clear qw1 uW1
 go_wp2_with fail
 have hC : C4 w1 (w.heap.size) (.int .i8 0) (.int .i64 0) (.int .i8 0) (.int .i64 0) := ⟨a0, a1, a2, a3, f11, f12, f13, f14, a4⟩
 have hZ := fun o : Obj => (hC.fill (.int .i8 0) (.int .i64 0) (.int .i8 0) (.int .i64 0)).alloc o
 have z0 := fun o : Obj => (hZ o).c0
 have y0 := fun o : Obj => (hZ o).f0
 have z1 := fun o : Obj => (hZ o).c1
 have y1 := fun o : Obj => (hZ o).f1
 have z2 := fun o : Obj => (hZ o).c2
 have y2 := fun o : Obj => (hZ o).f2
 have z3 := fun o : Obj => (hZ o).c3
 have y3 := fun o : Obj => (hZ o).f3
 exact bodyPost_ret (v := .tuple #[.agg #[.int .i8 0, .int .i64 0, .int .i8 0, .int .i64 0], .int .i64 r1]) (by simp [results, Tryz.results116, go_sem, z0, z1, z2, z3, y0, y1, y2, y3, a0, a1, a2, a3, f11, f12, f13, f14] <;> omega) rfl ⟨rfl, (((((uw1.setCell (by simp <;> omega) _).setCell (by simp <;> omega) _).setCell (by simp <;> omega) _).setCell (by simp <;> omega) _).alloc _)⟩
theorem rnBP_2 (s t : ByteArray) (i1 d1 i2 d2 r1 r2 : Int) (HA : Hid (PIs s i1 d1 0)) (HB : Hid (PIs t i2 d2 r2)) (h1 : r2 ≠ 0) (w : World) (hE : EnvR w) :
  Calls Tryz.prog 116 #[.string s, .string t, .func (.func 115) #[] #[]] w fun ro w' => ro = .returned (.tuple #[.agg #[.int .i8 0, .int .i64 0, .int .i8 0, .int .i64 0], .int .i64 r2]) ∧ Dn w w' := by
 have t1 : (r2 != 0) = true := by simpa using h1
 clear h1
 go_enter Tryz.func116, Tryz.ntmps116
 go_wp2_with fail
 obtain ⟨W1, hW1, uW1, c2, c3, c4, c5, l6, f7, f8, f9, f10⟩ := preOf37x1 w 
 rw [← hW1]
 clear hW1
 refine (HA.out _ (hE.dn uW1)).mono ?_
 rintro e w1 ⟨rfl, qw1⟩
 have f11 := (qw1.frozen (a := ⟨w.heap.size, 0, none⟩) l6).trans f7
 have f12 := (qw1.frozen (a := ⟨w.heap.size, 1, none⟩) l6).trans f8
 have f13 := (qw1.frozen (a := ⟨w.heap.size, 2, none⟩) l6).trans f9
 have f14 := (qw1.frozen (a := ⟨w.heap.size, 3, none⟩) l6).trans f10
 have a0 := nlt l6 qw1.size
 obtain ⟨a2, a3, a4, a5⟩ := mv4 qw1.cell c2 c3 c4 c5
 clear f7 f8 f9 f10 l6 c2 c3 c4 c5
 have uw1 := uW1.trans qw1
 clear qw1 uW1
 go_wp2_with fail
 obtain ⟨W20, hW20⟩ : ∃ W20, W20 = w1.alloc (.cells #[.int .i8 i1, .int .i64 d1] 41) := ⟨_, rfl⟩
 have uW20 : Dn w1 W20 := by rw [hW20]; exact (Dn.refl _).alloc _
 have f21 := (uW20.frozen (a := ⟨w.heap.size, 0, none⟩) a0).trans f11
 have f22 := (uW20.frozen (a := ⟨w.heap.size, 1, none⟩) a0).trans f12
 have f23 := (uW20.frozen (a := ⟨w.heap.size, 2, none⟩) a0).trans f13
 have f24 := (uW20.frozen (a := ⟨w.heap.size, 3, none⟩) a0).trans f14
 have a1 := nlt a0 uW20.size
 obtain ⟨a6, a7, a8, a9⟩ := mv4 uW20.cell a2 a3 a4 a5
 clear f11 f12 f13 f14 a0 a2 a3 a4 a5
 have aA : W20.cell? ⟨w1.heap.size, 0, none⟩ = some (.int .i8 i1) := by rw [hW20]; simp [go_sem]
 have aB : W20.cell? ⟨w1.heap.size, 1, none⟩ = some (.int .i64 d1) := by rw [hW20]; simp [go_sem]
 have aC : w1.heap.size < W20.heap.size := by rw [hW20]; simp <;> omega
 rw [← hW20]
 clear hW20
 have vW20 := uw1.trans uW20
 clear uW20 uw1
 refine (HB.out _ (hE.dn vW20)).mono ?_
 rintro e w2 ⟨rfl, qw2⟩
 have f33 := (qw2.frozen (a := ⟨w.heap.size, 0, none⟩) a1).trans f21
 have f34 := (qw2.frozen (a := ⟨w.heap.size, 1, none⟩) a1).trans f22
 have f35 := (qw2.frozen (a := ⟨w.heap.size, 2, none⟩) a1).trans f23
 have f36 := (qw2.frozen (a := ⟨w.heap.size, 3, none⟩) a1).trans f24
 have aH := nlt a1 qw2.size
 have aI := nlt aC qw2.size
 obtain ⟨aD, aE, aF, aG, aJ, aK⟩ := mv6 qw2.cell a6 a7 a8 a9 aA aB
 clear f21 f22 f23 f24 a1 a6 a7 a8 a9 aC aA aB
 have uw2 := vW20.trans qw2
 clear qw2 vW20
 go_wp2_with fail
 have hC : C4 w2 (w.heap.size) (.int .i8 0) (.int .i64 0) (.int .i8 0) (.int .i64 0) := ⟨aD, aE, aF, aG, f33, f34, f35, f36, aH⟩
 have hZ := fun o : Obj => (hC.fill (.int .i8 0) (.int .i64 0) (.int .i8 0) (.int .i64 0)).alloc o
 have z0 := fun o : Obj => (hZ o).c0
 have y0 := fun o : Obj => (hZ o).f0
 have z1 := fun o : Obj => (hZ o).c1
 have y1 := fun o : Obj => (hZ o).f1
 have z2 := fun o : Obj => (hZ o).c2
 have y2 := fun o : Obj => (hZ o).f2
 have z3 := fun o : Obj => (hZ o).c3
 have y3 := fun o : Obj => (hZ o).f3
 exact bodyPost_ret (v := .tuple #[.agg #[.int .i8 0, .int .i64 0, .int .i8 0, .int .i64 0], .int .i64 r2]) (by simp [results, Tryz.results116, go_sem, z0, z1, z2, z3, y0, y1, y2, y3, aD, aE, aF, aG, f33, f34, f35, f36] <;> omega) rfl ⟨rfl, (((((uw2.setCell (by simp <;> omega) _).setCell (by simp <;> omega) _).setCell (by simp <;> omega) _).setCell (by simp <;> omega) _).alloc _)⟩
theorem rnBP_3 (s t : ByteArray) (i1 d1 i2 d2 r1 r2 : Int) (HA : Hid (PIs s i1 d1 0)) (HB : Hid (PIs t i2 d2 0)) (w : World) (hE : EnvR w) :
  Calls Tryz.prog 116 #[.string s, .string t, .func (.func 115) #[] #[]] w fun ro w' => ro = .returned (.tuple #[.agg #[.int .i8 i1, .int .i64 d1, .int .i8 i2, .int .i64 d2], .int .i64 0]) ∧ Dn w w' := by
 go_enter Tryz.func116, Tryz.ntmps116
 go_wp2_with fail
 obtain ⟨W1, hW1, uW1, c2, c3, c4, c5, l6, f7, f8, f9, f10⟩ := preOf37x1 w 
 rw [← hW1]
 clear hW1
 refine (HA.out _ (hE.dn uW1)).mono ?_
 rintro e w1 ⟨rfl, qw1⟩
 have f11 := (qw1.frozen (a := ⟨w.heap.size, 0, none⟩) l6).trans f7
 have f12 := (qw1.frozen (a := ⟨w.heap.size, 1, none⟩) l6).trans f8
 have f13 := (qw1.frozen (a := ⟨w.heap.size, 2, none⟩) l6).trans f9
 have f14 := (qw1.frozen (a := ⟨w.heap.size, 3, none⟩) l6).trans f10
 have a0 := nlt l6 qw1.size
 obtain ⟨a2, a3, a4, a5⟩ := mv4 qw1.cell c2 c3 c4 c5
 clear f7 f8 f9 f10 l6 c2 c3 c4 c5
 have uw1 := uW1.trans qw1
 clear qw1 uW1
 go_wp2_with fail
 obtain ⟨W20, hW20⟩ : ∃ W20, W20 = w1.alloc (.cells #[.int .i8 i1, .int .i64 d1] 41) := ⟨_, rfl⟩
 have uW20 : Dn w1 W20 := by rw [hW20]; exact (Dn.refl _).alloc _
 have f21 := (uW20.frozen (a := ⟨w.heap.size, 0, none⟩) a0).trans f11
 have f22 := (uW20.frozen (a := ⟨w.heap.size, 1, none⟩) a0).trans f12
 have f23 := (uW20.frozen (a := ⟨w.heap.size, 2, none⟩) a0).trans f13
 have f24 := (uW20.frozen (a := ⟨w.heap.size, 3, none⟩) a0).trans f14
 have a1 := nlt a0 uW20.size
 obtain ⟨a6, a7, a8, a9⟩ := mv4 uW20.cell a2 a3 a4 a5
 clear f11 f12 f13 f14 a0 a2 a3 a4 a5
 have aA : W20.cell? ⟨w1.heap.size, 0, none⟩ = some (.int .i8 i1) := by rw [hW20]; simp [go_sem]
 have aB : W20.cell? ⟨w1.heap.size, 1, none⟩ = some (.int .i64 d1) := by rw [hW20]; simp [go_sem]
 have aC : w1.heap.size < W20.heap.size := by rw [hW20]; simp <;> omega
 rw [← hW20]
 clear hW20
 have vW20 := uw1.trans uW20
 clear uW20 uw1
 refine (HB.out _ (hE.dn vW20)).mono ?_
 rintro e w2 ⟨rfl, qw2⟩
 have f33 := (qw2.frozen (a := ⟨w.heap.size, 0, none⟩) a1).trans f21
 have f34 := (qw2.frozen (a := ⟨w.heap.size, 1, none⟩) a1).trans f22
 have f35 := (qw2.frozen (a := ⟨w.heap.size, 2, none⟩) a1).trans f23
 have f36 := (qw2.frozen (a := ⟨w.heap.size, 3, none⟩) a1).trans f24
 have aH := nlt a1 qw2.size
 have aI := nlt aC qw2.size
 obtain ⟨aD, aE, aF, aG, aJ, aK⟩ := mv6 qw2.cell a6 a7 a8 a9 aA aB
 clear f21 f22 f23 f24 a1 a6 a7 a8 a9 aC aA aB
 have uw2 := vW20.trans qw2
 clear qw2 vW20
 go_wp2_with fail
 have hC : C4 w2 (w.heap.size) (.int .i8 0) (.int .i64 0) (.int .i8 0) (.int .i64 0) := ⟨aD, aE, aF, aG, f33, f34, f35, f36, aH⟩
 have hZ := fun o : Obj => (hC.fill (.int .i8 i1) (.int .i64 d1) (.int .i8 i2) (.int .i64 d2)).alloc o
 have z0 := fun o : Obj => (hZ o).c0
 have y0 := fun o : Obj => (hZ o).f0
 have z1 := fun o : Obj => (hZ o).c1
 have y1 := fun o : Obj => (hZ o).f1
 have z2 := fun o : Obj => (hZ o).c2
 have y2 := fun o : Obj => (hZ o).f2
 have z3 := fun o : Obj => (hZ o).c3
 have y3 := fun o : Obj => (hZ o).f3
 exact bodyPost_ret (v := .tuple #[.agg #[.int .i8 i1, .int .i64 d1, .int .i8 i2, .int .i64 d2], .int .i64 0]) (by simp [results, Tryz.results116, go_sem, z0, z1, z2, z3, y0, y1, y2, y3, aD, aE, aF, aG, f33, f34, f35, f36] <;> omega) rfl ⟨rfl, (((((uw2.setCell (by simp <;> omega) _).setCell (by simp <;> omega) _).setCell (by simp <;> omega) _).setCell (by simp <;> omega) _).alloc _)⟩
theorem preOf37x2 (w : World) : ∃ W1, W1 = w.alloc (.cells #[.int .i8 0, .int .i64 0, .int .i8 0, .int .i64 0] 45) ∧ (Dn w W1) ∧ (W1.cell? ⟨w.heap.size, 0, none⟩ = some (.int .i8 0)) ∧ (W1.cell? ⟨w.heap.size, 1, none⟩ = some (.int .i64 0)) ∧ (W1.cell? ⟨w.heap.size, 2, none⟩ = some (.int .i8 0)) ∧ (W1.cell? ⟨w.heap.size, 3, none⟩ = some (.int .i64 0)) ∧ (w.heap.size < W1.heap.size) ∧ (W1.frozen? ⟨w.heap.size, 0, none⟩ = false) ∧ (W1.frozen? ⟨w.heap.size, 1, none⟩ = false) ∧ (W1.frozen? ⟨w.heap.size, 2, none⟩ = false) ∧ (W1.frozen? ⟨w.heap.size, 3, none⟩ = false) := by
  obtain ⟨W1, hW1⟩ : ∃ W1, W1 = w.alloc (.cells #[.int .i8 0, .int .i64 0, .int .i8 0, .int .i64 0] 45) := ⟨_, rfl⟩
  exact ⟨W1, hW1, (by rw [hW1]; exact (Dn.refl _).alloc _), (by rw [hW1]; simp [go_sem]), (by rw [hW1]; simp [go_sem]), (by rw [hW1]; simp [go_sem]), (by rw [hW1]; simp [go_sem]), (by rw [hW1]; simp <;> omega), (by rw [hW1]; simp [go_sem]), (by rw [hW1]; simp [go_sem]), (by rw [hW1]; simp [go_sem]), (by rw [hW1]; simp [go_sem])⟩
theorem rnP_0 (s lo hi : ByteArray) (i1 d1 i2 d2 r1 r2 m : Int) (HC : Hid (∀ W, EnvR W → Calls Tryz.prog 114 #[.string s, .string ⟨#[46, 46]⟩] W fun o w' => o = .returned (.tuple #[.string lo, .string hi, .bool false]) ∧ Dn W w')) (w : World) (hE : EnvR w) :
  Calls Tryz.prog 77 #[.string s] w fun ro w' => ro = .returned (.tuple #[.agg #[.int .i8 0, .int .i64 0, .int .i8 0, .int .i64 0], .int .i64 5]) ∧ Dn w w' := by
 go_enter Tryz.func77, Tryz.ntmps77
 go_wp2_with fail
 obtain ⟨W1, hW1, uW1, c2, c3, c4, c5, l6, f7, f8, f9, f10⟩ := preOf37x2 w 
 rw [← hW1]
 clear hW1
 refine (HC.out _ (hE.dn uW1)).mono ?_
 rintro e w1 ⟨rfl, qw1⟩
 have f11 := (qw1.frozen (a := ⟨w.heap.size, 0, none⟩) l6).trans f7
 have f12 := (qw1.frozen (a := ⟨w.heap.size, 1, none⟩) l6).trans f8
 have f13 := (qw1.frozen (a := ⟨w.heap.size, 2, none⟩) l6).trans f9
 have f14 := (qw1.frozen (a := ⟨w.heap.size, 3, none⟩) l6).trans f10
 have a4 := nlt l6 qw1.size
 obtain ⟨a0, a1, a2, a3⟩ := mv4 qw1.cell c2 c3 c4 c5
 clear f7 f8 f9 f10 l6 c2 c3 c4 c5
 have uw1 := uW1.trans qw1
 clear qw1 uW1
 go_wp2_with fail
 exact bodyPost_ret (v := .tuple #[.agg #[.int .i8 0, .int .i64 0, .int .i8 0, .int .i64 0], .int .i64 5]) (by simp [results, Tryz.results77, go_sem, a0, a1, a2, a3, f11, f12, f13, f14] <;> omega) rfl ⟨rfl, ((((uw1.setCell (by simp <;> omega) _).setCell (by simp <;> omega) _).setCell (by simp <;> omega) _).setCell (by simp <;> omega) _)⟩
theorem rnP_1 (s lo hi : ByteArray) (i1 d1 i2 d2 r1 r2 m : Int) (HC : Hid (∀ W, EnvR W → Calls Tryz.prog 114 #[.string s, .string ⟨#[46, 46]⟩] W fun o w' => o = .returned (.tuple #[.string lo, .string hi, .bool true]) ∧ Dn W w')) (HP : Hid (PIs lo i1 d1 5)) (w : World) (hE : EnvR w) :
  Calls Tryz.prog 77 #[.string s] w fun ro w' => ro = .returned (.tuple #[.agg #[.int .i8 0, .int .i64 0, .int .i8 0, .int .i64 0], .int .i64 5]) ∧ Dn w w' := by
 go_enter Tryz.func77, Tryz.ntmps77
 go_wp2_with fail
 obtain ⟨W1, hW1, uW1, c2, c3, c4, c5, l6, f7, f8, f9, f10⟩ := preOf37x2 w 
 rw [← hW1]
 clear hW1
 refine (HC.out _ (hE.dn uW1)).mono ?_
 rintro e w1 ⟨rfl, qw1⟩
 have f11 := (qw1.frozen (a := ⟨w.heap.size, 0, none⟩) l6).trans f7
 have f12 := (qw1.frozen (a := ⟨w.heap.size, 1, none⟩) l6).trans f8
 have f13 := (qw1.frozen (a := ⟨w.heap.size, 2, none⟩) l6).trans f9
 have f14 := (qw1.frozen (a := ⟨w.heap.size, 3, none⟩) l6).trans f10
 have a0 := nlt l6 qw1.size
 obtain ⟨a2, a3, a4, a5⟩ := mv4 qw1.cell c2 c3 c4 c5
 clear f7 f8 f9 f10 l6 c2 c3 c4 c5
 have uw1 := uW1.trans qw1
 clear qw1 uW1
 go_wp2_with fail
 obtain ⟨W20, hW20⟩ : ∃ W20, W20 = w1.alloc (.cells #[.string lo, .string hi] 9) := ⟨_, rfl⟩
 have uW20 : Dn w1 W20 := by rw [hW20]; exact (Dn.refl _).alloc _
 have f21 := (uW20.frozen (a := ⟨w.heap.size, 0, none⟩) a0).trans f11
 have f22 := (uW20.frozen (a := ⟨w.heap.size, 1, none⟩) a0).trans f12
 have f23 := (uW20.frozen (a := ⟨w.heap.size, 2, none⟩) a0).trans f13
 have f24 := (uW20.frozen (a := ⟨w.heap.size, 3, none⟩) a0).trans f14
 have a1 := nlt a0 uW20.size
 obtain ⟨a6, a7, a8, a9⟩ := mv4 uW20.cell a2 a3 a4 a5
 clear f11 f12 f13 f14 a0 a2 a3 a4 a5
 have aA : W20.cell? ⟨w1.heap.size, 0, none⟩ = some (.string lo) := by rw [hW20]; simp [go_sem]
 have aB : W20.cell? ⟨w1.heap.size, 1, none⟩ = some (.string hi) := by rw [hW20]; simp [go_sem]
 have aC : w1.heap.size < W20.heap.size := by rw [hW20]; simp <;> omega
 rw [← hW20]
 clear hW20
 have vW20 := uw1.trans uW20
 clear uW20 uw1
 refine wp_loop_rounds 3 ?_
 rw [rounds_succ]
 go_wp2_with fail
 refine (HP.out _ (hE.dn vW20)).mono ?_
 rintro e w2 ⟨rfl, qw2⟩
 have f33 := (qw2.frozen (a := ⟨w.heap.size, 0, none⟩) a1).trans f21
 have f34 := (qw2.frozen (a := ⟨w.heap.size, 1, none⟩) a1).trans f22
 have f35 := (qw2.frozen (a := ⟨w.heap.size, 2, none⟩) a1).trans f23
 have f36 := (qw2.frozen (a := ⟨w.heap.size, 3, none⟩) a1).trans f24
 have aH := nlt a1 qw2.size
 have aI := nlt aC qw2.size
 obtain ⟨aD, aE, aF, aG, aJ, aK⟩ := mv6 qw2.cell a6 a7 a8 a9 aA aB
 clear f21 f22 f23 f24 a1 a6 a7 a8 a9 aC aA aB
 have uw2 := vW20.trans qw2
 clear qw2 vW20
 go_wp2_with fail
 have hC : C4 w2 (w.heap.size) (.int .i8 0) (.int .i64 0) (.int .i8 0) (.int .i64 0) := ⟨aD, aE, aF, aG, f33, f34, f35, f36, aH⟩
 have hZ := fun o : Obj => (hC.fill (.int .i8 0) (.int .i64 0) (.int .i8 0) (.int .i64 0)).alloc o
 have z0 := fun o : Obj => (hZ o).c0
 have y0 := fun o : Obj => (hZ o).f0
 have z1 := fun o : Obj => (hZ o).c1
 have y1 := fun o : Obj => (hZ o).f1
 have z2 := fun o : Obj => (hZ o).c2
 have y2 := fun o : Obj => (hZ o).f2
 have z3 := fun o : Obj => (hZ o).c3
 have y3 := fun o : Obj => (hZ o).f3
 exact bodyPost_ret (v := .tuple #[.agg #[.int .i8 0, .int .i64 0, .int .i8 0, .int .i64 0], .int .i64 5]) (by simp [results, Tryz.results77, go_sem, z0, z1, z2, z3, y0, y1, y2, y3, aD, aE, aF, aG, f33, f34, f35, f36] <;> omega) rfl ⟨rfl, (((((uw2.setCell (by simp <;> omega) _).setCell (by simp <;> omega) _).setCell (by simp <;> omega) _).setCell (by simp <;> omega) _).alloc _)⟩
theorem rnP_2 (s lo hi : ByteArray) (i1 d1 i2 d2 r1 r2 m : Int) (HC : Hid (∀ W, EnvR W → Calls Tryz.prog 114 #[.string s, .string ⟨#[46, 46]⟩] W fun o w' => o = .returned (.tuple #[.string lo, .string hi, .bool true]) ∧ Dn W w')) (HP : Hid (PIs lo i1 d1 r1)) (HQ : Hid (PIs hi i2 d2 5)) (h1 : r1 ≠ 5) (w : World) (hE : EnvR w) :
  Calls Tryz.prog 77 #[.string s] w fun ro w' => ro = .returned (.tuple #[.agg #[.int .i8 0, .int .i64 0, .int .i8 0, .int .i64 0], .int .i64 5]) ∧ Dn w w' := by
 have t1 : (r1 == 5) = false := by simpa using h1
 clear h1
 go_enter Tryz.func77, Tryz.ntmps77
 go_wp2_with fail
 obtain ⟨W1, hW1, uW1, c2, c3, c4, c5, l6, f7, f8, f9, f10⟩ := preOf37x2 w 
 rw [← hW1]
 clear hW1
 refine (HC.out _ (hE.dn uW1)).mono ?_
 rintro e w1 ⟨rfl, qw1⟩
 have f11 := (qw1.frozen (a := ⟨w.heap.size, 0, none⟩) l6).trans f7
 have f12 := (qw1.frozen (a := ⟨w.heap.size, 1, none⟩) l6).trans f8
 have f13 := (qw1.frozen (a := ⟨w.heap.size, 2, none⟩) l6).trans f9
 have f14 := (qw1.frozen (a := ⟨w.heap.size, 3, none⟩) l6).trans f10
 have a0 := nlt l6 qw1.size
 obtain ⟨a4, a5, a6, a7⟩ := mv4 qw1.cell c2 c3 c4 c5
 clear f7 f8 f9 f10 l6 c2 c3 c4 c5
 have uw1 := uW1.trans qw1
 clear qw1 uW1
 go_wp2_with fail
 obtain ⟨W20, hW20⟩ : ∃ W20, W20 = w1.alloc (.cells #[.string lo, .string hi] 9) := ⟨_, rfl⟩
 have uW20 : Dn w1 W20 := by rw [hW20]; exact (Dn.refl _).alloc _
 have f21 := (uW20.frozen (a := ⟨w.heap.size, 0, none⟩) a0).trans f11
 have f22 := (uW20.frozen (a := ⟨w.heap.size, 1, none⟩) a0).trans f12
 have f23 := (uW20.frozen (a := ⟨w.heap.size, 2, none⟩) a0).trans f13
 have f24 := (uW20.frozen (a := ⟨w.heap.size, 3, none⟩) a0).trans f14
 have a1 := nlt a0 uW20.size
 obtain ⟨a8, a9, aA, aB⟩ := mv4 uW20.cell a4 a5 a6 a7
 clear f11 f12 f13 f14 a0 a4 a5 a6 a7
 have aC : W20.cell? ⟨w1.heap.size, 0, none⟩ = some (.string lo) := by rw [hW20]; simp [go_sem]
 have aD : W20.cell? ⟨w1.heap.size, 1, none⟩ = some (.string hi) := by rw [hW20]; simp [go_sem]
 have aE : w1.heap.size < W20.heap.size := by rw [hW20]; simp <;> omega
 rw [← hW20]
 clear hW20
 have vW20 := uw1.trans uW20
 clear uW20 uw1
 refine wp_loop_rounds 3 ?_
 rw [rounds_succ]
 go_wp2_with fail
 refine (HP.out _ (hE.dn vW20)).mono ?_
 rintro e w2 ⟨rfl, qw2⟩
 have f33 := (qw2.frozen (a := ⟨w.heap.size, 0, none⟩) a1).trans f21
 have f34 := (qw2.frozen (a := ⟨w.heap.size, 1, none⟩) a1).trans f22
 have f35 := (qw2.frozen (a := ⟨w.heap.size, 2, none⟩) a1).trans f23
 have f36 := (qw2.frozen (a := ⟨w.heap.size, 3, none⟩) a1).trans f24
 have a2 := nlt a1 qw2.size
 have aJ := nlt aE qw2.size
 obtain ⟨aF, aG, aH, aI, aK, aL⟩ := mv6 qw2.cell a8 a9 aA aB aC aD
 clear f21 f22 f23 f24 a1 a8 a9 aA aB aE aC aD
 have uw2 := vW20.trans qw2
 clear qw2 vW20
 go_wp2_with fail
 obtain ⟨W45, hW45⟩ : ∃ W45, W45 = w2.alloc (.cells #[.int .i8 i1, .int .i64 d1] 41) := ⟨_, rfl⟩
 have uW45 : Dn w2 W45 := by rw [hW45]; exact (Dn.refl _).alloc _
 have f46 := (uW45.frozen (a := ⟨w.heap.size, 0, none⟩) a2).trans f33
 have f47 := (uW45.frozen (a := ⟨w.heap.size, 1, none⟩) a2).trans f34
 have f48 := (uW45.frozen (a := ⟨w.heap.size, 2, none⟩) a2).trans f35
 have f49 := (uW45.frozen (a := ⟨w.heap.size, 3, none⟩) a2).trans f36
 have a3 := nlt a2 uW45.size
 have aQ := nlt aJ uW45.size
 obtain ⟨aM, aN, aO, aP, aR, aS⟩ := mv6 uW45.cell aF aG aH aI aK aL
 clear f33 f34 f35 f36 a2 aF aG aH aI aJ aK aL
 have aT : W45.cell? ⟨w2.heap.size, 0, none⟩ = some (.int .i8 i1) := by rw [hW45]; simp [go_sem]
 have aU : W45.cell? ⟨w2.heap.size, 1, none⟩ = some (.int .i64 d1) := by rw [hW45]; simp [go_sem]
 have aV : w2.heap.size < W45.heap.size := by rw [hW45]; simp <;> omega
 rw [← hW45]
 clear hW45
 have vW45 := uw2.trans uW45
 clear uW45 uw2
 rw [rounds_succ]
 go_wp2_with fail
 refine (HQ.out _ (hE.dn vW45)).mono ?_
 rintro e w3 ⟨rfl, qw3⟩
 have f61 := (qw3.frozen (a := ⟨w.heap.size, 0, none⟩) a3).trans f46
 have f62 := (qw3.frozen (a := ⟨w.heap.size, 1, none⟩) a3).trans f47
 have f63 := (qw3.frozen (a := ⟨w.heap.size, 2, none⟩) a3).trans f48
 have f64 := (qw3.frozen (a := ⟨w.heap.size, 3, none⟩) a3).trans f49
 have b0 := nlt a3 qw3.size
 have b1 := nlt aQ qw3.size
 have b4 := nlt aV qw3.size
 obtain ⟨aW, aX, aY, aZ, b2, b3, b5, b6⟩ := mv8 qw3.cell aM aN aO aP aR aS aT aU
 clear f46 f47 f48 f49 a3 aM aN aO aP aQ aR aS aV aT aU
 have uw3 := vW45.trans qw3
 clear qw3 vW45
 go_wp2_with fail
 have hC : C4 w3 (w.heap.size) (.int .i8 0) (.int .i64 0) (.int .i8 0) (.int .i64 0) := ⟨aW, aX, aY, aZ, f61, f62, f63, f64, b0⟩
 have hZ := fun o : Obj => (hC.fill (.int .i8 0) (.int .i64 0) (.int .i8 0) (.int .i64 0)).alloc o
 have z0 := fun o : Obj => (hZ o).c0
 have y0 := fun o : Obj => (hZ o).f0
 have z1 := fun o : Obj => (hZ o).c1
 have y1 := fun o : Obj => (hZ o).f1
 have z2 := fun o : Obj => (hZ o).c2
 have y2 := fun o : Obj => (hZ o).f2
 have z3 := fun o : Obj => (hZ o).c3
 have y3 := fun o : Obj => (hZ o).f3
 exact bodyPost_ret (v := .tuple #[.agg #[.int .i8 0, .int .i64 0, .int .i8 0, .int .i64 0], .int .i64 5]) (by simp [results, Tryz.results77, go_sem, z0, z1, z2, z3, y0, y1, y2, y3, aW, aX, aY, aZ, f61, f62, f63, f64] <;> omega) rfl ⟨rfl, (((((uw3.setCell (by simp <;> omega) _).setCell (by simp <;> omega) _).setCell (by simp <;> omega) _).setCell (by simp <;> omega) _).alloc _)⟩
theorem rnP_3 (s lo hi : ByteArray) (i1 d1 i2 d2 r1 r2 m : Int) (HC : Hid (∀ W, EnvR W → Calls Tryz.prog 114 #[.string s, .string ⟨#[46, 46]⟩] W fun o w' => o = .returned (.tuple #[.string lo, .string hi, .bool true]) ∧ Dn W w')) (HP : Hid (PIs lo i1 d1 r1)) (HQ : Hid (PIs hi i2 d2 r2)) (HB : Hid (∀ W, EnvR W → Calls Tryz.prog 116 #[.string lo, .string hi, .func (.func 115) #[] #[]] W fun o w' => o = .returned (.tuple #[.agg #[.int .i8 0, .int .i64 0, .int .i8 0, .int .i64 0], .int .i64 m]) ∧ Dn W w')) (h1 : r1 ≠ 5) (h2 : r2 ≠ 5) (h3 : m ≠ 0) (w : World) (hE : EnvR w) :
  Calls Tryz.prog 77 #[.string s] w fun ro w' => ro = .returned (.tuple #[.agg #[.int .i8 0, .int .i64 0, .int .i8 0, .int .i64 0], .int .i64 m]) ∧ Dn w w' := by
 have t1 : (r1 == 5) = false := by simpa using h1
 have t2 : (r2 == 5) = false := by simpa using h2
 have t3 : (m != 0) = true := by simpa using h3
 clear h1 h2 h3
 go_enter Tryz.func77, Tryz.ntmps77
 go_wp2_with fail
 obtain ⟨W1, hW1, uW1, c2, c3, c4, c5, l6, f7, f8, f9, f10⟩ := preOf37x2 w 
 rw [← hW1]
 clear hW1
 refine (HC.out _ (hE.dn uW1)).mono ?_
 rintro e w1 ⟨rfl, qw1⟩
 have f11 := (qw1.frozen (a := ⟨w.heap.size, 0, none⟩) l6).trans f7
 have f12 := (qw1.frozen (a := ⟨w.heap.size, 1, none⟩) l6).trans f8
 have f13 := (qw1.frozen (a := ⟨w.heap.size, 2, none⟩) l6).trans f9
 have f14 := (qw1.frozen (a := ⟨w.heap.size, 3, none⟩) l6).trans f10
 have a0 := nlt l6 qw1.size
 obtain ⟨a6, a7, a8, a9⟩ := mv4 qw1.cell c2 c3 c4 c5
 clear f7 f8 f9 f10 l6 c2 c3 c4 c5
 have uw1 := uW1.trans qw1
 clear qw1 uW1
 go_wp2_with fail
 obtain ⟨W20, hW20⟩ : ∃ W20, W20 = w1.alloc (.cells #[.string lo, .string hi] 9) := ⟨_, rfl⟩
 have uW20 : Dn w1 W20 := by rw [hW20]; exact (Dn.refl _).alloc _
 have f21 := (uW20.frozen (a := ⟨w.heap.size, 0, none⟩) a0).trans f11
 have f22 := (uW20.frozen (a := ⟨w.heap.size, 1, none⟩) a0).trans f12
 have f23 := (uW20.frozen (a := ⟨w.heap.size, 2, none⟩) a0).trans f13
 have f24 := (uW20.frozen (a := ⟨w.heap.size, 3, none⟩) a0).trans f14
 have a1 := nlt a0 uW20.size
 obtain ⟨aA, aB, aC, aD⟩ := mv4 uW20.cell a6 a7 a8 a9
 clear f11 f12 f13 f14 a0 a6 a7 a8 a9
 have aE : W20.cell? ⟨w1.heap.size, 0, none⟩ = some (.string lo) := by rw [hW20]; simp [go_sem]
 have aF : W20.cell? ⟨w1.heap.size, 1, none⟩ = some (.string hi) := by rw [hW20]; simp [go_sem]
 have aG : w1.heap.size < W20.heap.size := by rw [hW20]; simp <;> omega
 rw [← hW20]
 clear hW20
 have vW20 := uw1.trans uW20
 clear uW20 uw1
 refine wp_loop_rounds 3 ?_
 rw [rounds_succ]
 go_wp2_with fail
 refine (HP.out _ (hE.dn vW20)).mono ?_
 rintro e w2 ⟨rfl, qw2⟩
 have f33 := (qw2.frozen (a := ⟨w.heap.size, 0, none⟩) a1).trans f21
 have f34 := (qw2.frozen (a := ⟨w.heap.size, 1, none⟩) a1).trans f22
 have f35 := (qw2.frozen (a := ⟨w.heap.size, 2, none⟩) a1).trans f23
 have f36 := (qw2.frozen (a := ⟨w.heap.size, 3, none⟩) a1).trans f24
 have a2 := nlt a1 qw2.size
 have aL := nlt aG qw2.size
 obtain ⟨aH, aI, aJ, aK, aM, aN⟩ := mv6 qw2.cell aA aB aC aD aE aF
 clear f21 f22 f23 f24 a1 aA aB aC aD aG aE aF
 have uw2 := vW20.trans qw2
 clear qw2 vW20
 go_wp2_with fail
 obtain ⟨W45, hW45⟩ : ∃ W45, W45 = w2.alloc (.cells #[.int .i8 i1, .int .i64 d1] 41) := ⟨_, rfl⟩
 have uW45 : Dn w2 W45 := by rw [hW45]; exact (Dn.refl _).alloc _
 have f46 := (uW45.frozen (a := ⟨w.heap.size, 0, none⟩) a2).trans f33
 have f47 := (uW45.frozen (a := ⟨w.heap.size, 1, none⟩) a2).trans f34
 have f48 := (uW45.frozen (a := ⟨w.heap.size, 2, none⟩) a2).trans f35
 have f49 := (uW45.frozen (a := ⟨w.heap.size, 3, none⟩) a2).trans f36
 have a3 := nlt a2 uW45.size
 have aS := nlt aL uW45.size
 obtain ⟨aO, aP, aQ, aR, aT, aU⟩ := mv6 uW45.cell aH aI aJ aK aM aN
 clear f33 f34 f35 f36 a2 aH aI aJ aK aL aM aN
 have aV : W45.cell? ⟨w2.heap.size, 0, none⟩ = some (.int .i8 i1) := by rw [hW45]; simp [go_sem]
 have aW : W45.cell? ⟨w2.heap.size, 1, none⟩ = some (.int .i64 d1) := by rw [hW45]; simp [go_sem]
 have aX : w2.heap.size < W45.heap.size := by rw [hW45]; simp <;> omega
 rw [← hW45]
 clear hW45
 have vW45 := uw2.trans uW45
 clear uW45 uw2
 rw [rounds_succ]
 go_wp2_with fail
 refine (HQ.out _ (hE.dn vW45)).mono ?_
 rintro e w3 ⟨rfl, qw3⟩
 have f61 := (qw3.frozen (a := ⟨w.heap.size, 0, none⟩) a3).trans f46
 have f62 := (qw3.frozen (a := ⟨w.heap.size, 1, none⟩) a3).trans f47
 have f63 := (qw3.frozen (a := ⟨w.heap.size, 2, none⟩) a3).trans f48
 have f64 := (qw3.frozen (a := ⟨w.heap.size, 3, none⟩) a3).trans f49
 have a4 := nlt a3 qw3.size
 have b2 := nlt aS qw3.size
 have b5 := nlt aX qw3.size
 obtain ⟨aY, aZ, b0, b1, b3, b4, b6, b7⟩ := mv8 qw3.cell aO aP aQ aR aT aU aV aW
 clear f46 f47 f48 f49 a3 aO aP aQ aR aS aT aU aX aV aW
 have uw3 := vW45.trans qw3
 clear qw3 vW45
 go_wp2_with fail
 obtain ⟨W76, hW76⟩ : ∃ W76, W76 = w3.alloc (.cells #[.int .i8 i2, .int .i64 d2] 41) := ⟨_, rfl⟩
 have uW76 : Dn w3 W76 := by rw [hW76]; exact (Dn.refl _).alloc _
 have f77 := (uW76.frozen (a := ⟨w.heap.size, 0, none⟩) a4).trans f61
 have f78 := (uW76.frozen (a := ⟨w.heap.size, 1, none⟩) a4).trans f62
 have f79 := (uW76.frozen (a := ⟨w.heap.size, 2, none⟩) a4).trans f63
 have f80 := (uW76.frozen (a := ⟨w.heap.size, 3, none⟩) a4).trans f64
 have a5 := nlt a4 uW76.size
 have bC := nlt b2 uW76.size
 have bF := nlt b5 uW76.size
 obtain ⟨b8, b9, bA, bB, bD, bE, bG, bH⟩ := mv8 uW76.cell aY aZ b0 b1 b3 b4 b6 b7
 clear f61 f62 f63 f64 a4 aY aZ b0 b1 b2 b3 b4 b5 b6 b7
 have bI : W76.cell? ⟨w3.heap.size, 0, none⟩ = some (.int .i8 i2) := by rw [hW76]; simp [go_sem]
 have bJ : W76.cell? ⟨w3.heap.size, 1, none⟩ = some (.int .i64 d2) := by rw [hW76]; simp [go_sem]
 have bK : w3.heap.size < W76.heap.size := by rw [hW76]; simp <;> omega
 rw [← hW76]
 clear hW76
 have vW76 := uw3.trans uW76
 clear uW76 uw3
 rw [rounds_succ]
 go_wp2_with fail
 refine (HB.out _ (hE.dn vW76)).mono ?_
 rintro e w4 ⟨rfl, qw4⟩
 have f95 := (qw4.frozen (a := ⟨w.heap.size, 0, none⟩) a5).trans f77
 have f96 := (qw4.frozen (a := ⟨w.heap.size, 1, none⟩) a5).trans f78
 have f97 := (qw4.frozen (a := ⟨w.heap.size, 2, none⟩) a5).trans f79
 have f98 := (qw4.frozen (a := ⟨w.heap.size, 3, none⟩) a5).trans f80
 have bP := nlt a5 qw4.size
 have bQ := nlt bC qw4.size
 have bT := nlt bF qw4.size
 have bW := nlt bK qw4.size
 obtain ⟨bL, bM, bN, bO, bR, bS, bU, bV, bX, bY⟩ := mv10 qw4.cell b8 b9 bA bB bD bE bG bH bI bJ
 clear f77 f78 f79 f80 a5 b8 b9 bA bB bC bD bE bF bG bH bK bI bJ
 have uw4 := vW76.trans qw4
 clear qw4 vW76
 go_wp2_with fail
 have hC : C4 w4 (w.heap.size) (.int .i8 0) (.int .i64 0) (.int .i8 0) (.int .i64 0) := ⟨bL, bM, bN, bO, f95, f96, f97, f98, bP⟩
 have hZ := fun o : Obj => (hC.fill (.int .i8 0) (.int .i64 0) (.int .i8 0) (.int .i64 0)).alloc o
 have z0 := fun o : Obj => (hZ o).c0
 have y0 := fun o : Obj => (hZ o).f0
 have z1 := fun o : Obj => (hZ o).c1
 have y1 := fun o : Obj => (hZ o).f1
 have z2 := fun o : Obj => (hZ o).c2
 have y2 := fun o : Obj => (hZ o).f2
 have z3 := fun o : Obj => (hZ o).c3
 have y3 := fun o : Obj => (hZ o).f3
 exact bodyPost_ret (v := .tuple #[.agg #[.int .i8 0, .int .i64 0, .int .i8 0, .int .i64 0], .int .i64 m]) (by simp [results, Tryz.results77, go_sem, z0, z1, z2, z3, y0, y1, y2, y3, bL, bM, bN, bO, f95, f96, f97, f98] <;> omega) rfl ⟨rfl, (((((uw4.setCell (by simp <;> omega) _).setCell (by simp <;> omega) _).setCell (by simp <;> omega) _).setCell (by simp <;> omega) _).alloc _)⟩
theorem rnP_4 (s lo hi : ByteArray) (i1 d1 i2 d2 r1 r2 m : Int) (HC : Hid (∀ W, EnvR W → Calls Tryz.prog 114 #[.string s, .string ⟨#[46, 46]⟩] W fun o w' => o = .returned (.tuple #[.string lo, .string hi, .bool true]) ∧ Dn W w')) (HP : Hid (PIs lo i1 d1 0)) (HQ : Hid (PIs hi i2 d2 0)) (HB : Hid (∀ W, EnvR W → Calls Tryz.prog 116 #[.string lo, .string hi, .func (.func 115) #[] #[]] W fun o w' => o = .returned (.tuple #[.agg #[.int .i8 i1, .int .i64 d1, .int .i8 i2, .int .i64 d2], .int .i64 0]) ∧ Dn W w')) (HK : Hid (ChkIs i1 d1 i2 d2 m)) (h1 : m ≠ 0) (w : World) (hE : EnvR w) :
  Calls Tryz.prog 77 #[.string s] w fun ro w' => ro = .returned (.tuple #[.agg #[.int .i8 0, .int .i64 0, .int .i8 0, .int .i64 0], .int .i64 m]) ∧ Dn w w' := by
 have t1 : (m != 0) = true := by simpa using h1
 clear h1
 go_enter Tryz.func77, Tryz.ntmps77
 go_wp2_with fail
 obtain ⟨W1, hW1, uW1, c2, c3, c4, c5, l6, f7, f8, f9, f10⟩ := preOf37x2 w 
 rw [← hW1]
 clear hW1
 refine (HC.out _ (hE.dn uW1)).mono ?_
 rintro e w1 ⟨rfl, qw1⟩
 have f11 := (qw1.frozen (a := ⟨w.heap.size, 0, none⟩) l6).trans f7
 have f12 := (qw1.frozen (a := ⟨w.heap.size, 1, none⟩) l6).trans f8
 have f13 := (qw1.frozen (a := ⟨w.heap.size, 2, none⟩) l6).trans f9
 have f14 := (qw1.frozen (a := ⟨w.heap.size, 3, none⟩) l6).trans f10
 have a0 := nlt l6 qw1.size
 obtain ⟨a8, a9, aA, aB⟩ := mv4 qw1.cell c2 c3 c4 c5
 clear f7 f8 f9 f10 l6 c2 c3 c4 c5
 have uw1 := uW1.trans qw1
 clear qw1 uW1
 go_wp2_with fail
 obtain ⟨W20, hW20⟩ : ∃ W20, W20 = w1.alloc (.cells #[.string lo, .string hi] 9) := ⟨_, rfl⟩
 have uW20 : Dn w1 W20 := by rw [hW20]; exact (Dn.refl _).alloc _
 have f21 := (uW20.frozen (a := ⟨w.heap.size, 0, none⟩) a0).trans f11
 have f22 := (uW20.frozen (a := ⟨w.heap.size, 1, none⟩) a0).trans f12
 have f23 := (uW20.frozen (a := ⟨w.heap.size, 2, none⟩) a0).trans f13
 have f24 := (uW20.frozen (a := ⟨w.heap.size, 3, none⟩) a0).trans f14
 have a1 := nlt a0 uW20.size
 obtain ⟨aC, aD, aE, aF⟩ := mv4 uW20.cell a8 a9 aA aB
 clear f11 f12 f13 f14 a0 a8 a9 aA aB
 have aG : W20.cell? ⟨w1.heap.size, 0, none⟩ = some (.string lo) := by rw [hW20]; simp [go_sem]
 have aH : W20.cell? ⟨w1.heap.size, 1, none⟩ = some (.string hi) := by rw [hW20]; simp [go_sem]
 have aI : w1.heap.size < W20.heap.size := by rw [hW20]; simp <;> omega
 rw [← hW20]
 clear hW20
 have vW20 := uw1.trans uW20
 clear uW20 uw1
 refine wp_loop_rounds 3 ?_
 rw [rounds_succ]
 go_wp2_with fail
 refine (HP.out _ (hE.dn vW20)).mono ?_
 rintro e w2 ⟨rfl, qw2⟩
 have f33 := (qw2.frozen (a := ⟨w.heap.size, 0, none⟩) a1).trans f21
 have f34 := (qw2.frozen (a := ⟨w.heap.size, 1, none⟩) a1).trans f22
 have f35 := (qw2.frozen (a := ⟨w.heap.size, 2, none⟩) a1).trans f23
 have f36 := (qw2.frozen (a := ⟨w.heap.size, 3, none⟩) a1).trans f24
 have a2 := nlt a1 qw2.size
 have aN := nlt aI qw2.size
 obtain ⟨aJ, aK, aL, aM, aO, aP⟩ := mv6 qw2.cell aC aD aE aF aG aH
 clear f21 f22 f23 f24 a1 aC aD aE aF aI aG aH
 have uw2 := vW20.trans qw2
 clear qw2 vW20
 go_wp2_with fail
 obtain ⟨W45, hW45⟩ : ∃ W45, W45 = w2.alloc (.cells #[.int .i8 i1, .int .i64 d1] 41) := ⟨_, rfl⟩
 have uW45 : Dn w2 W45 := by rw [hW45]; exact (Dn.refl _).alloc _
 have f46 := (uW45.frozen (a := ⟨w.heap.size, 0, none⟩) a2).trans f33
 have f47 := (uW45.frozen (a := ⟨w.heap.size, 1, none⟩) a2).trans f34
 have f48 := (uW45.frozen (a := ⟨w.heap.size, 2, none⟩) a2).trans f35
 have f49 := (uW45.frozen (a := ⟨w.heap.size, 3, none⟩) a2).trans f36
 have a3 := nlt a2 uW45.size
 have aU := nlt aN uW45.size
 obtain ⟨aQ, aR, aS, aT, aV, aW⟩ := mv6 uW45.cell aJ aK aL aM aO aP
 clear f33 f34 f35 f36 a2 aJ aK aL aM aN aO aP
 have aX : W45.cell? ⟨w2.heap.size, 0, none⟩ = some (.int .i8 i1) := by rw [hW45]; simp [go_sem]
 have aY : W45.cell? ⟨w2.heap.size, 1, none⟩ = some (.int .i64 d1) := by rw [hW45]; simp [go_sem]
 have aZ : w2.heap.size < W45.heap.size := by rw [hW45]; simp <;> omega
 rw [← hW45]
 clear hW45
 have vW45 := uw2.trans uW45
 clear uW45 uw2
 rw [rounds_succ]
 go_wp2_with fail
 refine (HQ.out _ (hE.dn vW45)).mono ?_
 rintro e w3 ⟨rfl, qw3⟩
 have f61 := (qw3.frozen (a := ⟨w.heap.size, 0, none⟩) a3).trans f46
 have f62 := (qw3.frozen (a := ⟨w.heap.size, 1, none⟩) a3).trans f47
 have f63 := (qw3.frozen (a := ⟨w.heap.size, 2, none⟩) a3).trans f48
 have f64 := (qw3.frozen (a := ⟨w.heap.size, 3, none⟩) a3).trans f49
 have a4 := nlt a3 qw3.size
 have b4 := nlt aU qw3.size
 have b7 := nlt aZ qw3.size
 obtain ⟨b0, b1, b2, b3, b5, b6, b8, b9⟩ := mv8 qw3.cell aQ aR aS aT aV aW aX aY
 clear f46 f47 f48 f49 a3 aQ aR aS aT aU aV aW aZ aX aY
 have uw3 := vW45.trans qw3
 clear qw3 vW45
 go_wp2_with fail
 obtain ⟨W76, hW76⟩ : ∃ W76, W76 = w3.alloc (.cells #[.int .i8 i2, .int .i64 d2] 41) := ⟨_, rfl⟩
 have uW76 : Dn w3 W76 := by rw [hW76]; exact (Dn.refl _).alloc _
 have f77 := (uW76.frozen (a := ⟨w.heap.size, 0, none⟩) a4).trans f61
 have f78 := (uW76.frozen (a := ⟨w.heap.size, 1, none⟩) a4).trans f62
 have f79 := (uW76.frozen (a := ⟨w.heap.size, 2, none⟩) a4).trans f63
 have f80 := (uW76.frozen (a := ⟨w.heap.size, 3, none⟩) a4).trans f64
 have a5 := nlt a4 uW76.size
 have bE := nlt b4 uW76.size
 have bH := nlt b7 uW76.size
 obtain ⟨bA, bB, bC, bD, bF, bG, bI, bJ⟩ := mv8 uW76.cell b0 b1 b2 b3 b5 b6 b8 b9
 clear f61 f62 f63 f64 a4 b0 b1 b2 b3 b4 b5 b6 b7 b8 b9
 have bK : W76.cell? ⟨w3.heap.size, 0, none⟩ = some (.int .i8 i2) := by rw [hW76]; simp [go_sem]
 have bL : W76.cell? ⟨w3.heap.size, 1, none⟩ = some (.int .i64 d2) := by rw [hW76]; simp [go_sem]
 have bM : w3.heap.size < W76.heap.size := by rw [hW76]; simp <;> omega
 rw [← hW76]
 clear hW76
 have vW76 := uw3.trans uW76
 clear uW76 uw3
 rw [rounds_succ]
 go_wp2_with fail
 refine (HB.out _ (hE.dn vW76)).mono ?_
 rintro e w4 ⟨rfl, qw4⟩
 have f95 := (qw4.frozen (a := ⟨w.heap.size, 0, none⟩) a5).trans f77
 have f96 := (qw4.frozen (a := ⟨w.heap.size, 1, none⟩) a5).trans f78
 have f97 := (qw4.frozen (a := ⟨w.heap.size, 2, none⟩) a5).trans f79
 have f98 := (qw4.frozen (a := ⟨w.heap.size, 3, none⟩) a5).trans f80
 have a6 := nlt a5 qw4.size
 have bR := nlt bE qw4.size
 have bU := nlt bH qw4.size
 have bX := nlt bM qw4.size
 obtain ⟨bN, bO, bP, bQ, bS, bT, bV, bW, bY, bZ⟩ := mv10 qw4.cell bA bB bC bD bF bG bI bJ bK bL
 clear f77 f78 f79 f80 a5 bA bB bC bD bE bF bG bH bI bJ bM bK bL
 have uw4 := vW76.trans qw4
 clear qw4 vW76
 go_wp2_with fail
 obtain ⟨W113, hW113⟩ : ∃ W113, W113 = (w4.alloc (.cells #[.int .i8 i1, .int .i64 d1, .int .i8 i2, .int .i64 d2] 139)).alloc (.cells #[.int .i8 i1, .int .i64 d1, .int .i8 i2, .int .i64 d2] 45) := ⟨_, rfl⟩
 have uW113 : Dn w4 W113 := by rw [hW113]; exact ((Dn.refl _).alloc _).alloc _
 have f114 := (uW113.frozen (a := ⟨w.heap.size, 0, none⟩) a6).trans f95
 have f115 := (uW113.frozen (a := ⟨w.heap.size, 1, none⟩) a6).trans f96
 have f116 := (uW113.frozen (a := ⟨w.heap.size, 2, none⟩) a6).trans f97
 have f117 := (uW113.frozen (a := ⟨w.heap.size, 3, none⟩) a6).trans f98
 have a7 := nlt a6 uW113.size
 have c8 := nlt bR uW113.size
 have cB := nlt bU uW113.size
 have cF := nlt bX uW113.size
 obtain ⟨c0, c1, c6, c7, c9, cA, cC, cE, cG, cH⟩ := mv10 uW113.cell bN bO bP bQ bS bT bV bW bY bZ
 clear f95 f96 f97 f98 a6 bN bO bP bQ bR bS bT bU bV bW bX bY bZ
 have cI : W113.cell? ⟨w4.heap.size, 0, none⟩ = some (.int .i8 i1) := by rw [hW113]; simp [go_sem]
 have cJ : W113.cell? ⟨w4.heap.size, 1, none⟩ = some (.int .i64 d1) := by rw [hW113]; simp [go_sem]
 have cK : W113.cell? ⟨w4.heap.size, 2, none⟩ = some (.int .i8 i2) := by rw [hW113]; simp [go_sem]
 have cL : W113.cell? ⟨w4.heap.size, 3, none⟩ = some (.int .i64 d2) := by rw [hW113]; simp [go_sem]
 have cM : w4.heap.size < W113.heap.size := by rw [hW113]; simp <;> omega
 have cN : W113.cell? ⟨w4.heap.size + 1, 0, none⟩ = some (.int .i8 i1) := by rw [hW113]; simp [go_sem]
 have cO : W113.cell? ⟨w4.heap.size + 1, 1, none⟩ = some (.int .i64 d1) := by rw [hW113]; simp [go_sem]
 have cP : W113.cell? ⟨w4.heap.size + 1, 2, none⟩ = some (.int .i8 i2) := by rw [hW113]; simp [go_sem]
 have cQ : W113.cell? ⟨w4.heap.size + 1, 3, none⟩ = some (.int .i64 d2) := by rw [hW113]; simp [go_sem]
 have cR : w4.heap.size + 1 < W113.heap.size := by rw [hW113]; simp <;> omega
 rw [← hW113]
 clear hW113
 have vW113 := uw4.trans uW113
 clear uW113 uw4
 refine (HK.out _).mono ?_
 rintro e w5 ⟨rfl, qw5⟩
 have f142 := (qw5.frozen (a := ⟨w.heap.size, 0, none⟩) a7).trans f114
 have f143 := (qw5.frozen (a := ⟨w.heap.size, 1, none⟩) a7).trans f115
 have f144 := (qw5.frozen (a := ⟨w.heap.size, 2, none⟩) a7).trans f116
 have f145 := (qw5.frozen (a := ⟨w.heap.size, 3, none⟩) a7).trans f117
 have dC := nlt a7 qw5.size
 have dD := nlt c8 qw5.size
 have dE := nlt cB qw5.size
 have dF := nlt cF qw5.size
 have dG := nlt cM qw5.size
 have dH := nlt cR qw5.size
 obtain ⟨cS, cT, cU, cV, cW, cX, cY, cZ, d0, d3, d4, d5, d6, d7, d8, d9⟩ := mv16 qw5.cell c0 c1 c6 c7 c9 cA cC cE cG cH cI cJ cK cL cN cO
 have dA := qw5.cell cP
 have dB := qw5.cell cQ
 clear f114 f115 f116 f117 a7 c0 c1 c6 c7 c8 c9 cA cB cC cE cF cG cH cM cI cJ cK cL cR cN cO cP cQ
 have uw5 := vW113.trans qw5
 clear qw5 vW113
 go_wp2_with fail
 exact bodyPost_ret (v := .tuple #[.agg #[.int .i8 0, .int .i64 0, .int .i8 0, .int .i64 0], .int .i64 m]) (by simp [results, Tryz.results77, go_sem, cS, cT, cU, cV, cW, cX, cY, cZ, d0, d3, d4, d5, d6, d7, d8, d9, dA, dB, f142, f143, f144, f145] <;> omega) rfl ⟨rfl, ((((uw5.setCell (by simp <;> omega) _).setCell (by simp <;> omega) _).setCell (by simp <;> omega) _).setCell (by simp <;> omega) _)⟩
theorem rnP_5 (s lo hi : ByteArray) (i1 d1 i2 d2 r1 r2 m : Int) (HC : Hid (∀ W, EnvR W → Calls Tryz.prog 114 #[.string s, .string ⟨#[46, 46]⟩] W fun o w' => o = .returned (.tuple #[.string lo, .string hi, .bool true]) ∧ Dn W w')) (HP : Hid (PIs lo i1 d1 0)) (HQ : Hid (PIs hi i2 d2 0)) (HB : Hid (∀ W, EnvR W → Calls Tryz.prog 116 #[.string lo, .string hi, .func (.func 115) #[] #[]] W fun o w' => o = .returned (.tuple #[.agg #[.int .i8 i1, .int .i64 d1, .int .i8 i2, .int .i64 d2], .int .i64 0]) ∧ Dn W w')) (HK : Hid (ChkIs i1 d1 i2 d2 0)) (w : World) (hE : EnvR w) :
  Calls Tryz.prog 77 #[.string s] w fun ro w' => ro = .returned (.tuple #[.agg #[.int .i8 i1, .int .i64 d1, .int .i8 i2, .int .i64 d2], .int .i64 0]) ∧ Dn w w' := by
 go_enter Tryz.func77, Tryz.ntmps77
 go_wp2_with fail
 obtain ⟨W1, hW1, uW1, c2, c3, c4, c5, l6, f7, f8, f9, f10⟩ := preOf37x2 w 
 rw [← hW1]
 clear hW1
 refine (HC.out _ (hE.dn uW1)).mono ?_
 rintro e w1 ⟨rfl, qw1⟩
 have f11 := (qw1.frozen (a := ⟨w.heap.size, 0, none⟩) l6).trans f7
 have f12 := (qw1.frozen (a := ⟨w.heap.size, 1, none⟩) l6).trans f8
 have f13 := (qw1.frozen (a := ⟨w.heap.size, 2, none⟩) l6).trans f9
 have f14 := (qw1.frozen (a := ⟨w.heap.size, 3, none⟩) l6).trans f10
 have a0 := nlt l6 qw1.size
 obtain ⟨a8, a9, aA, aB⟩ := mv4 qw1.cell c2 c3 c4 c5
 clear f7 f8 f9 f10 l6 c2 c3 c4 c5
 have uw1 := uW1.trans qw1
 clear qw1 uW1
 go_wp2_with fail
 obtain ⟨W20, hW20⟩ : ∃ W20, W20 = w1.alloc (.cells #[.string lo, .string hi] 9) := ⟨_, rfl⟩
 have uW20 : Dn w1 W20 := by rw [hW20]; exact (Dn.refl _).alloc _
 have f21 := (uW20.frozen (a := ⟨w.heap.size, 0, none⟩) a0).trans f11
 have f22 := (uW20.frozen (a := ⟨w.heap.size, 1, none⟩) a0).trans f12
 have f23 := (uW20.frozen (a := ⟨w.heap.size, 2, none⟩) a0).trans f13
 have f24 := (uW20.frozen (a := ⟨w.heap.size, 3, none⟩) a0).trans f14
 have a1 := nlt a0 uW20.size
 obtain ⟨aC, aD, aE, aF⟩ := mv4 uW20.cell a8 a9 aA aB
 clear f11 f12 f13 f14 a0 a8 a9 aA aB
 have aG : W20.cell? ⟨w1.heap.size, 0, none⟩ = some (.string lo) := by rw [hW20]; simp [go_sem]
 have aH : W20.cell? ⟨w1.heap.size, 1, none⟩ = some (.string hi) := by rw [hW20]; simp [go_sem]
 have aI : w1.heap.size < W20.heap.size := by rw [hW20]; simp <;> omega
 rw [← hW20]
 clear hW20
 have vW20 := uw1.trans uW20
 clear uW20 uw1
 refine wp_loop_rounds 3 ?_
 rw [rounds_succ]
 go_wp2_with fail
 refine (HP.out _ (hE.dn vW20)).mono ?_
 rintro e w2 ⟨rfl, qw2⟩
 have f33 := (qw2.frozen (a := ⟨w.heap.size, 0, none⟩) a1).trans f21
 have f34 := (qw2.frozen (a := ⟨w.heap.size, 1, none⟩) a1).trans f22
 have f35 := (qw2.frozen (a := ⟨w.heap.size, 2, none⟩) a1).trans f23
 have f36 := (qw2.frozen (a := ⟨w.heap.size, 3, none⟩) a1).trans f24
 have a2 := nlt a1 qw2.size
 have aN := nlt aI qw2.size
 obtain ⟨aJ, aK, aL, aM, aO, aP⟩ := mv6 qw2.cell aC aD aE aF aG aH
 clear f21 f22 f23 f24 a1 aC aD aE aF aI aG aH
 have uw2 := vW20.trans qw2
 clear qw2 vW20
 go_wp2_with fail
 obtain ⟨W45, hW45⟩ : ∃ W45, W45 = w2.alloc (.cells #[.int .i8 i1, .int .i64 d1] 41) := ⟨_, rfl⟩
 have uW45 : Dn w2 W45 := by rw [hW45]; exact (Dn.refl _).alloc _
 have f46 := (uW45.frozen (a := ⟨w.heap.size, 0, none⟩) a2).trans f33
 have f47 := (uW45.frozen (a := ⟨w.heap.size, 1, none⟩) a2).trans f34
 have f48 := (uW45.frozen (a := ⟨w.heap.size, 2, none⟩) a2).trans f35
 have f49 := (uW45.frozen (a := ⟨w.heap.size, 3, none⟩) a2).trans f36
 have a3 := nlt a2 uW45.size
 have aU := nlt aN uW45.size
 obtain ⟨aQ, aR, aS, aT, aV, aW⟩ := mv6 uW45.cell aJ aK aL aM aO aP
 clear f33 f34 f35 f36 a2 aJ aK aL aM aN aO aP
 have aX : W45.cell? ⟨w2.heap.size, 0, none⟩ = some (.int .i8 i1) := by rw [hW45]; simp [go_sem]
 have aY : W45.cell? ⟨w2.heap.size, 1, none⟩ = some (.int .i64 d1) := by rw [hW45]; simp [go_sem]
 have aZ : w2.heap.size < W45.heap.size := by rw [hW45]; simp <;> omega
 rw [← hW45]
 clear hW45
 have vW45 := uw2.trans uW45
 clear uW45 uw2
 rw [rounds_succ]
 go_wp2_with fail
 refine (HQ.out _ (hE.dn vW45)).mono ?_
 rintro e w3 ⟨rfl, qw3⟩
 have f61 := (qw3.frozen (a := ⟨w.heap.size, 0, none⟩) a3).trans f46
 have f62 := (qw3.frozen (a := ⟨w.heap.size, 1, none⟩) a3).trans f47
 have f63 := (qw3.frozen (a := ⟨w.heap.size, 2, none⟩) a3).trans f48
 have f64 := (qw3.frozen (a := ⟨w.heap.size, 3, none⟩) a3).trans f49
 have a4 := nlt a3 qw3.size
 have b4 := nlt aU qw3.size
 have b7 := nlt aZ qw3.size
 obtain ⟨b0, b1, b2, b3, b5, b6, b8, b9⟩ := mv8 qw3.cell aQ aR aS aT aV aW aX aY
 clear f46 f47 f48 f49 a3 aQ aR aS aT aU aV aW aZ aX aY
 have uw3 := vW45.trans qw3
 clear qw3 vW45
 go_wp2_with fail
 obtain ⟨W76, hW76⟩ : ∃ W76, W76 = w3.alloc (.cells #[.int .i8 i2, .int .i64 d2] 41) := ⟨_, rfl⟩
 have uW76 : Dn w3 W76 := by rw [hW76]; exact (Dn.refl _).alloc _
 have f77 := (uW76.frozen (a := ⟨w.heap.size, 0, none⟩) a4).trans f61
 have f78 := (uW76.frozen (a := ⟨w.heap.size, 1, none⟩) a4).trans f62
 have f79 := (uW76.frozen (a := ⟨w.heap.size, 2, none⟩) a4).trans f63
 have f80 := (uW76.frozen (a := ⟨w.heap.size, 3, none⟩) a4).trans f64
 have a5 := nlt a4 uW76.size
 have bE := nlt b4 uW76.size
 have bH := nlt b7 uW76.size
 obtain ⟨bA, bB, bC, bD, bF, bG, bI, bJ⟩ := mv8 uW76.cell b0 b1 b2 b3 b5 b6 b8 b9
 clear f61 f62 f63 f64 a4 b0 b1 b2 b3 b4 b5 b6 b7 b8 b9
 have bK : W76.cell? ⟨w3.heap.size, 0, none⟩ = some (.int .i8 i2) := by rw [hW76]; simp [go_sem]
 have bL : W76.cell? ⟨w3.heap.size, 1, none⟩ = some (.int .i64 d2) := by rw [hW76]; simp [go_sem]
 have bM : w3.heap.size < W76.heap.size := by rw [hW76]; simp <;> omega
 rw [← hW76]
 clear hW76
 have vW76 := uw3.trans uW76
 clear uW76 uw3
 rw [rounds_succ]
 go_wp2_with fail
 refine (HB.out _ (hE.dn vW76)).mono ?_
 rintro e w4 ⟨rfl, qw4⟩
 have f95 := (qw4.frozen (a := ⟨w.heap.size, 0, none⟩) a5).trans f77
 have f96 := (qw4.frozen (a := ⟨w.heap.size, 1, none⟩) a5).trans f78
 have f97 := (qw4.frozen (a := ⟨w.heap.size, 2, none⟩) a5).trans f79
 have f98 := (qw4.frozen (a := ⟨w.heap.size, 3, none⟩) a5).trans f80
 have a6 := nlt a5 qw4.size
 have bR := nlt bE qw4.size
 have bU := nlt bH qw4.size
 have bX := nlt bM qw4.size
 obtain ⟨bN, bO, bP, bQ, bS, bT, bV, bW, bY, bZ⟩ := mv10 qw4.cell bA bB bC bD bF bG bI bJ bK bL
 clear f77 f78 f79 f80 a5 bA bB bC bD bE bF bG bH bI bJ bM bK bL
 have uw4 := vW76.trans qw4
 clear qw4 vW76
 go_wp2_with fail
 obtain ⟨W113, hW113⟩ : ∃ W113, W113 = (w4.alloc (.cells #[.int .i8 i1, .int .i64 d1, .int .i8 i2, .int .i64 d2] 139)).alloc (.cells #[.int .i8 i1, .int .i64 d1, .int .i8 i2, .int .i64 d2] 45) := ⟨_, rfl⟩
 have uW113 : Dn w4 W113 := by rw [hW113]; exact ((Dn.refl _).alloc _).alloc _
 have f114 := (uW113.frozen (a := ⟨w.heap.size, 0, none⟩) a6).trans f95
 have f115 := (uW113.frozen (a := ⟨w.heap.size, 1, none⟩) a6).trans f96
 have f116 := (uW113.frozen (a := ⟨w.heap.size, 2, none⟩) a6).trans f97
 have f117 := (uW113.frozen (a := ⟨w.heap.size, 3, none⟩) a6).trans f98
 have a7 := nlt a6 uW113.size
 have c8 := nlt bR uW113.size
 have cB := nlt bU uW113.size
 have cF := nlt bX uW113.size
 obtain ⟨c0, c1, c6, c7, c9, cA, cC, cE, cG, cH⟩ := mv10 uW113.cell bN bO bP bQ bS bT bV bW bY bZ
 clear f95 f96 f97 f98 a6 bN bO bP bQ bR bS bT bU bV bW bX bY bZ
 have cI : W113.cell? ⟨w4.heap.size, 0, none⟩ = some (.int .i8 i1) := by rw [hW113]; simp [go_sem]
 have cJ : W113.cell? ⟨w4.heap.size, 1, none⟩ = some (.int .i64 d1) := by rw [hW113]; simp [go_sem]
 have cK : W113.cell? ⟨w4.heap.size, 2, none⟩ = some (.int .i8 i2) := by rw [hW113]; simp [go_sem]
 have cL : W113.cell? ⟨w4.heap.size, 3, none⟩ = some (.int .i64 d2) := by rw [hW113]; simp [go_sem]
 have cM : w4.heap.size < W113.heap.size := by rw [hW113]; simp <;> omega
 have cN : W113.cell? ⟨w4.heap.size + 1, 0, none⟩ = some (.int .i8 i1) := by rw [hW113]; simp [go_sem]
 have cO : W113.cell? ⟨w4.heap.size + 1, 1, none⟩ = some (.int .i64 d1) := by rw [hW113]; simp [go_sem]
 have cP : W113.cell? ⟨w4.heap.size + 1, 2, none⟩ = some (.int .i8 i2) := by rw [hW113]; simp [go_sem]
 have cQ : W113.cell? ⟨w4.heap.size + 1, 3, none⟩ = some (.int .i64 d2) := by rw [hW113]; simp [go_sem]
 have cR : w4.heap.size + 1 < W113.heap.size := by rw [hW113]; simp <;> omega
 rw [← hW113]
 clear hW113
 have vW113 := uw4.trans uW113
 clear uW113 uw4
 refine (HK.out _).mono ?_
 rintro e w5 ⟨rfl, qw5⟩
 have f142 := (qw5.frozen (a := ⟨w.heap.size, 0, none⟩) a7).trans f114
 have f143 := (qw5.frozen (a := ⟨w.heap.size, 1, none⟩) a7).trans f115
 have f144 := (qw5.frozen (a := ⟨w.heap.size, 2, none⟩) a7).trans f116
 have f145 := (qw5.frozen (a := ⟨w.heap.size, 3, none⟩) a7).trans f117
 have dC := nlt a7 qw5.size
 have dD := nlt c8 qw5.size
 have dE := nlt cB qw5.size
 have dF := nlt cF qw5.size
 have dG := nlt cM qw5.size
 have dH := nlt cR qw5.size
 obtain ⟨cS, cT, cU, cV, cW, cX, cY, cZ, d0, d3, d4, d5, d6, d7, d8, d9⟩ := mv16 qw5.cell c0 c1 c6 c7 c9 cA cC cE cG cH cI cJ cK cL cN cO
 have dA := qw5.cell cP
 have dB := qw5.cell cQ
 clear f114 f115 f116 f117 a7 c0 c1 c6 c7 c8 c9 cA cB cC cE cF cG cH cM cI cJ cK cL cR cN cO cP cQ
 have uw5 := vW113.trans qw5
 clear qw5 vW113
 go_wp2_with fail
 exact bodyPost_ret (v := .tuple #[.agg #[.int .i8 i1, .int .i64 d1, .int .i8 i2, .int .i64 d2], .int .i64 0]) (by simp [results, Tryz.results77, go_sem, cS, cT, cU, cV, cW, cX, cY, cZ, d0, d3, d4, d5, d6, d7, d8, d9, dA, dB, f142, f143, f144, f145] <;> omega) rfl ⟨rfl, ((((uw5.setCell (by simp <;> omega) _).setCell (by simp <;> omega) _).setCell (by simp <;> omega) _).setCell (by simp <;> omega) _)⟩
def F9 (a b c d : Int) (is : Bool) (e f g h : Int) (there : Bool) : Prop := (there = true ∧ is = true ∧ a = e ∧ b = f ∧ c = g ∧ d = h) ∨ (there = false ∧ is = false ∧ a = 0 ∧ b = 0 ∧ c = 0 ∧ d = 0)
def G9 (a b c d r e f g h bad : Int) : Prop := (bad = 0 ∧ r = 0 ∧ a = e ∧ b = f ∧ c = g ∧ d = h) ∨ (bad ≠ 0 ∧ r = bad ∧ a = 0 ∧ b = 0 ∧ c = 0 ∧ d = 0)
instance decF9 (a b c d : Int) (is : Bool) (e f g h : Int) (there : Bool) : Decidable (F9 a b c d is e f g h there) := by unfold F9; infer_instance
instance decG9 (a b c d r e f g h bad : Int) : Decidable (G9 a b c d r e f g h bad) := by unfold G9; infer_instance
theorem eMin_is (i d j f : Int) (w : World) : Calls Tryz.prog 124 #[.agg #[.int .i8 i, .int .i64 d], .agg #[.int .i8 j, .int .i64 f]] w fun e w' => e = .returned (.agg #[.int .i8 (mnI i d j f), .int .i64 (mnD i d j f)]) ∧ Up w w' := by
 unfold mnI mnD
 by_cases h : eC j f i d < 0
 · rw [if_pos h, if_pos h]; exact eMin_2 i d j f w h
 · rw [if_neg h, if_neg h]; exact eMin_1 i d j f w h
theorem eMax_is (i d j f : Int) (w : World) : Calls Tryz.prog 125 #[.agg #[.int .i8 i, .int .i64 d], .agg #[.int .i8 j, .int .i64 f]] w fun e w' => e = .returned (.agg #[.int .i8 (mxI i d j f), .int .i64 (mxD i d j f)]) ∧ Up w w' := by
 unfold mxI mxD
 by_cases h : 0 < eC j f i d
 · rw [if_pos h, if_pos h]; exact eMax_2 i d j f w h
 · rw [if_neg h, if_neg h]; exact eMax_1 i d j f w h
def JnR (a b c d e f g h i1 d1 i2 d2 : Int) (is : Bool) : Prop :=
 (Tch a b c d e f g h ∧ is = true ∧ i1 = mnI a b e f ∧ d1 = mnD a b e f ∧ i2 = mxI c d g h ∧ d2 = mxD c d g h) ∨ (¬ Tch a b c d e f g h ∧ is = false ∧ i1 = 0 ∧ d1 = 0 ∧ i2 = 0 ∧ d2 = 0)
def CmR (a b c d e f g h i1 d1 i2 d2 : Int) (is : Bool) : Prop :=
 (Meet a b c d e f g h ∧ is = true ∧ i1 = mxI a b e f ∧ d1 = mxD a b e f ∧ i2 = mnI c d g h ∧ d2 = mnD c d g h) ∨ (¬ Meet a b c d e f g h ∧ is = false ∧ i1 = 0 ∧ d1 = 0 ∧ i2 = 0 ∧ d2 = 0)
instance decJnR (a b c d e f g h i1 d1 i2 d2 : Int) (is : Bool) : Decidable (JnR a b c d e f g h i1 d1 i2 d2 is) := by unfold JnR; infer_instance
instance decCmR (a b c d e f g h i1 d1 i2 d2 : Int) (is : Bool) : Decidable (CmR a b c d e f g h i1 d1 i2 d2 is) := by unfold CmR; infer_instance
theorem rnJoin (a b c d e f g h i1 d1 i2 d2 : Int) (is : Bool) (w : World) (hb : I64 b) (hd : I64 d) (hf : I64 f) (hh : I64 h) (k : JnR a b c d e f g h i1 d1 i2 d2 is) :
   Calls Tryz.prog 84 #[.agg #[.int .i8 a, .int .i64 b, .int .i8 c, .int .i64 d], .agg #[.int .i8 e, .int .i64 f, .int .i8 g, .int .i64 h]] w fun ro w' => ro = .returned (.tuple #[.agg #[.int .i8 i1, .int .i64 d1, .int .i8 i2, .int .i64 d2], .bool is]) ∧ Dn w w' := by
 have HT := Lib.hid (fun W => rnTouch a b c d e f g h W hb hd hf hh)
 rcases k with ⟨k, rfl, rfl, rfl, rfl, rfl⟩ | ⟨k, rfl, rfl, rfl, rfl, rfl⟩
 · rw [decide_eq_true k] at HT
   exact rnJoin_yes a b c d e f g h _ _ _ _ HT (Lib.hid fun W => eMin_is a b e f W) (Lib.hid fun W => eMax_is c d g h W) w
 · rw [decide_eq_false k] at HT
   exact rnJoin_no a b c d e f g h HT w
theorem rnCommon (a b c d e f g h i1 d1 i2 d2 : Int) (is : Bool) (w : World) (hb : I64 b) (hd : I64 d) (hf : I64 f) (hh : I64 h) (k : CmR a b c d e f g h i1 d1 i2 d2 is) :
   Calls Tryz.prog 105 #[.agg #[.int .i8 a, .int .i64 b, .int .i8 c, .int .i64 d], .agg #[.int .i8 e, .int .i64 f, .int .i8 g, .int .i64 h]] w fun ro w' => ro = .returned (.tuple #[.agg #[.int .i8 i1, .int .i64 d1, .int .i8 i2, .int .i64 d2], .bool is]) ∧ Dn w w' := by
 have HR := Lib.hid (fun W => rnRight a b c d e f g h W hb hd hf hh)
 have HM := Lib.hid (fun W => eMax_is a b e f W)
 have HX := Lib.hid (fun W => eMin_is c d g h W)
 by_cases h0 : RnOk a b c d ∧ RnOk e f g h
 · rw [decide_eq_true h0] at HR
   have hok := common_ok hb hd hf hh h0.1 h0.2
   have herr := rnErr_ok (a := mxI a b e f) (b := mxD a b e f) (c := mnI c d g h) (d := mnD c d g h) (mx_i64 hb hf) (mn_i64 hd hh)
   have HC : Hid (ChkIs (mxI a b e f) (mxD a b e f) (mnI c d g h) (mnD c d g h) (rnErr (mxI a b e f) (mxD a b e f) (mnI c d g h) (mnD c d g h))) := Lib.hid (rnChk _ _ _ _)
   rcases k with ⟨k, rfl, rfl, rfl, rfl, rfl⟩ | ⟨k, rfl, rfl, rfl, rfl, rfl⟩
   · rw [herr.2 (hok.2 k)] at HC
     exact rnCom_3 a b c d e f g h _ _ _ _ HM HX HR HC w
   · exact rnCom_2 a b c d e f g h _ _ _ _ HM HX HR _ HC (fun hc => k (hok.1 (herr.1 hc))) w
 · rw [decide_eq_false h0] at HR
   rcases k with ⟨k, rfl, rfl, rfl, rfl, rfl⟩ | ⟨k, rfl, rfl, rfl, rfl, rfl⟩
   · exact absurd ⟨k.1, k.2.1⟩ h0
   · exact rnCom_1 a b c d e f g h _ _ _ _ HM HX HR w
def RP (s : ByteArray) (q0 q1 q2 q3 r : Int) : Prop :=
 ((Lib.cut s.data.toList [46, 46]).2.2 = false ∧ q0 = 0 ∧ q1 = 0 ∧ q2 = 0 ∧ q3 = 0 ∧ r = 5) ∨
 ((Lib.cut s.data.toList [46, 46]).2.2 = true ∧ ∃ i1 d1 r1 i2 d2 r2, EP ⟨(Lib.cut s.data.toList [46, 46]).1.toArray⟩ i1 d1 r1 ∧ EP ⟨(Lib.cut s.data.toList [46, 46]).2.1.toArray⟩ i2 d2 r2 ∧
  (((r1 = 5 ∨ r2 = 5) ∧ q0 = 0 ∧ q1 = 0 ∧ q2 = 0 ∧ q3 = 0 ∧ r = 5) ∨ (r1 ≠ 5 ∧ r2 ≠ 5 ∧ (r1 ≠ 0 ∨ r2 ≠ 0) ∧ q0 = 0 ∧ q1 = 0 ∧ q2 = 0 ∧ q3 = 0 ∧ r = 15) ∨
   (r1 = 0 ∧ r2 = 0 ∧ rnErr i1 d1 i2 d2 ≠ 0 ∧ q0 = 0 ∧ q1 = 0 ∧ q2 = 0 ∧ q3 = 0 ∧ r = rnErr i1 d1 i2 d2) ∨ (r1 = 0 ∧ r2 = 0 ∧ rnErr i1 d1 i2 d2 = 0 ∧ q0 = i1 ∧ q1 = d1 ∧ q2 = i2 ∧ q3 = d2 ∧ r = 0)))
theorem ep_err {s : ByteArray} {i d r : Int} (h : EP s i d r) : r = 0 ∨ r = 5 ∨ r = 15 := by
 rcases h with ⟨_, _, _, rfl⟩ | ⟨_, _, _, rfl⟩ | ⟨_, _, _, ⟨_, ⟨_, _, rfl⟩ | ⟨_, _, rfl⟩⟩ | ⟨_, _, rfl⟩⟩ <;> simp
theorem ep_i64 {s : ByteArray} {i d r : Int} (h : EP s i d r) : I64 d := by
 rcases h with ⟨_, _, rfl, _⟩ | ⟨_, _, rfl, _⟩ | ⟨_, _, _, ⟨_, hf⟩ | ⟨_, rfl, _⟩⟩
 · decide
 · decide
 · exact hf.i64
 · decide
theorem cut_size (s : ByteArray) : (Lib.cut s.data.toList [46, 46]).1.length ≤ s.size ∧ (Lib.cut s.data.toList [46, 46]).2.1.length ≤ s.size := by
 have hs : s.data.toList.length = s.size := by simp
 unfold Lib.cut
 split
 · constructor
   · rw [← hs]; simp only [List.length_take]; omega
   · rw [← hs]; simp only [List.length_drop]; omega
 · exact ⟨by rw [← hs]; exact Nat.le_refl _, by simp⟩
theorem rnParse (s : ByteArray) (q0 q1 q2 q3 r : Int) (w : World) (hs : s.size ≤ 1000) (h : RP s q0 q1 q2 q3 r) (hE : EnvR w) :
   Calls Tryz.prog 77 #[.string s] w fun ro w' => ro = .returned (.tuple #[.agg #[.int .i8 q0, .int .i64 q1, .int .i8 q2, .int .i64 q3], .int .i64 r]) ∧ Dn w w' := by
 have hz := cut_size s
 have HC : Hid (∀ W, EnvR W → Calls Tryz.prog 114 #[.string s, .string ⟨#[46, 46]⟩] W fun o w' => o = .returned (.tuple #[.string ⟨(Lib.cut s.data.toList [46, 46]).1.toArray⟩, .string ⟨(Lib.cut s.data.toList [46, 46]).2.1.toArray⟩, .bool (Lib.cut s.data.toList [46, 46]).2.2]) ∧ Dn W w') :=
   Lib.hid fun W hW => by
     obtain ⟨m, hm⟩ := hW.m
     refine (Tryz.strings_Cut s ⟨#[46, 46]⟩ m W (by omega) hm).mono ?_
     rintro o w' ⟨rfl, n, rfl⟩
     exact ⟨rfl, dn_drewN W n⟩
 generalize hcut : Lib.cut s.data.toList [46, 46] = C at *
 obtain ⟨lo, hi, fd⟩ := C
 dsimp only at *
 unfold RP at h
 rw [hcut] at h
 dsimp only at h
 rcases h with ⟨rfl, rfl, rfl, rfl, rfl, rfl⟩ | ⟨rfl, i1, d1, r1, i2, d2, r2, h1, h2, hx⟩
 · exact rnP_0 s _ _ 0 0 0 0 0 0 0 HC w hE
 · have s1 : (⟨lo.toArray⟩ : ByteArray).size ≤ 1000 := by have := hz.1; simp [ByteArray.size]; omega
   have s2 : (⟨hi.toArray⟩ : ByteArray).size ≤ 1000 := by have := hz.2; simp [ByteArray.size]; omega
   have H1 : Hid (PIs ⟨lo.toArray⟩ i1 d1 r1) := Lib.hid fun W hW => eParse _ i1 d1 r1 W s1 h1 hW.i
   have H2 : Hid (PIs ⟨hi.toArray⟩ i2 d2 r2) := Lib.hid fun W hW => eParse _ i2 d2 r2 W s2 h2 hW.i
   have e1 := ep_err h1
   have e2 := ep_err h2
   have HK : Hid (ChkIs i1 d1 i2 d2 (rnErr i1 d1 i2 d2)) := Lib.hid (rnChk i1 d1 i2 d2)
   rcases hx with ⟨h5, rfl, rfl, rfl, rfl, rfl⟩ | ⟨n1, n2, h0, rfl, rfl, rfl, rfl, rfl⟩ | ⟨rfl, rfl, hk, rfl, rfl, rfl, rfl, rfl⟩ | ⟨rfl, rfl, hk, rfl, rfl, rfl, rfl, rfl⟩
   · by_cases h51 : r1 = 5
     · subst h51; exact rnP_1 s _ _ i1 d1 0 0 0 0 0 HC H1 w hE
     · have h52 : r2 = 5 := by omega
       subst h52; exact rnP_2 s _ _ i1 d1 i2 d2 r1 0 0 HC H1 H2 h51 w hE
   · by_cases z1 : r1 = 0
     · have z2 : r2 = 15 := by omega
       subst z1; subst z2
       exact rnP_3 s _ _ i1 d1 i2 d2 0 15 15 HC H1 H2 (Lib.hid fun W hW => rnBP_2 _ _ i1 d1 i2 d2 0 15 H1 H2 (by decide) W hW) (by decide) (by decide) (by decide) w hE
     · have z2 : r1 = 15 := by omega
       subst z2
       exact rnP_3 s _ _ i1 d1 i2 d2 15 r2 15 HC H1 H2 (Lib.hid fun W hW => rnBP_1 _ _ i1 d1 0 0 15 0 H1 (by decide) W hW) (by decide) n2 (by decide) w hE
   · exact rnP_4 s _ _ i1 d1 i2 d2 0 0 _ HC H1 H2 (Lib.hid fun W hW => rnBP_3 _ _ i1 d1 i2 d2 0 0 H1 H2 W hW) HK hk w hE
   · rw [hk] at HK
     exact rnP_5 s _ _ _ _ _ _ 0 0 0 HC H1 H2 (Lib.hid fun W hW => rnBP_3 _ _ _ _ _ _ 0 0 H1 H2 W hW) HK w hE
end Go.Proofs.YtoghoddjkdoohaaGreatDoor
