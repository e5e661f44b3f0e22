/- Walks and laws that the claim's theorem leans on: part 10. -/
import Derived.Test.YteodjglbpfmikaaGreatDoorZAx1
import Derived.Test.YteodjglbpfmikaaGreatDoorZAx2
import Derived.Test.YteodjglbpfmikaaGreatDoorZAx4
import Derived.Test.YteodjglbpfmikaaGreatDoorZAx5
import Derived.Test.YteodjglbpfmikaaGreatDoorZAx9
import Derived.Laws.AppendOwnNone
import Derived.Laws.OwnMore
namespace Go.Proofs.YteodjglbpfmikaaGreatDoor
set_option maxHeartbeats 4000000
set_option maxRecDepth 100000
open Go.RowKit
set_option linter.unusedVariables false
set_option linter.unusedSimpArgs false
def Sft (i d k j f r : Int) : Prop := (i ≠ 0 ∧ j = i ∧ f = d ∧ r = 0) ∨ (i = 0 ∧ j = 0 ∧ Fits (d + k) f r)
theorem lt_of_cell {w : World} {b j : Nat} {v : Value} (h : w.cell? ⟨b, j, none⟩ = some v) : b < w.heap.size := by
 rcases Nat.lt_or_ge b w.heap.size with hb | hb
 · exact hb
 · simp [World.cell?, Array.getElem?_eq_none hb] at h
theorem rnS_inf (i d k : Int) (bk : Nat) (h1 : i ≠ 0) (w : World) :
  Calls Tryz.prog 40 #[.agg #[.int .i8 i, .int .i64 d], .pointer (some ⟨bk, 0, none⟩)] w fun ro w' => ro = .returned (.tuple #[.agg #[.int .i8 i, .int .i64 d], .int .i64 0]) ∧ Dn w w' := by
 have t1 : (i != 0) = true := by simpa using h1
 clear h1
 go_enter Tryz.func40, Tryz.ntmps40
 go_wp2_with fail
 exact bodyPost_ret (v := .tuple #[.agg #[.int .i8 i, .int .i64 d], .int .i64 0]) (by simp [results, Tryz.results40, go_sem]) rfl ⟨rfl, ((Dn.refl _).alloc _).alloc _⟩
theorem rnS_day (d k f r : Int) (bk : Nat) (HA : Hid (∀ W, Calls Tryz.prog 41 #[.int .i64 d, .int .i64 k] W fun o w' => o = .returned (.tuple #[.int .i64 f, .int .i64 r]) ∧ Up W w')) (w : World) (hk : w.cell? ⟨bk, 0, none⟩ = some (.int .i64 k)) :
  Calls Tryz.prog 40 #[.agg #[.int .i8 0, .int .i64 d], .pointer (some ⟨bk, 0, none⟩)] w fun ro w' => ro = .returned (.tuple #[.agg #[.int .i8 0, .int .i64 f], .int .i64 r]) ∧ Dn w w' := by
 have hl := lt_of_cell hk
 have hk2 : ((w.alloc (.cells #[.int .i8 0, .int .i64 d] 28)).alloc (.cells #[.int .i8 0, .int .i64 0] 28)).cell? ⟨bk, 0, none⟩ = some (.int .i64 k) := (((Dn.refl _).alloc _).alloc _).cell hk
 go_enter Tryz.func40, Tryz.ntmps40
 go_wp2_with fail
 clear hk2
 obtain ⟨W1, hW1⟩ : ∃ W1, W1 = (w.alloc (.cells #[.int .i8 0, .int .i64 d] 28)).alloc (.cells #[.int .i8 0, .int .i64 0] 28) := ⟨_, rfl⟩
 have uW1 : Dn w W1 := by rw [hW1]; exact ((Dn.refl _).alloc _).alloc _
 have l2 := nlt hl uW1.size
 have c3 := uW1.cell hk
 clear hl hk
 have c4 : W1.cell? ⟨w.heap.size, 0, none⟩ = some (.int .i8 0) := by rw [hW1]; simp [go_sem]
 have c5 : W1.cell? ⟨w.heap.size, 1, none⟩ = some (.int .i64 d) := by rw [hW1]; simp [go_sem]
 have l6 : w.heap.size < W1.heap.size := by rw [hW1]; simp <;> omega
 have c7 : W1.cell? ⟨w.heap.size + 1, 0, none⟩ = some (.int .i8 0) := by rw [hW1]; simp [go_sem]
 have c8 : W1.cell? ⟨w.heap.size + 1, 1, none⟩ = some (.int .i64 0) := by rw [hW1]; simp [go_sem]
 have l9 : w.heap.size + 1 < W1.heap.size := by rw [hW1]; simp <;> omega
 have f10 : W1.frozen? ⟨w.heap.size + 1, 0, none⟩ = false := by rw [hW1]; simp [go_sem]
 have f11 : W1.frozen? ⟨w.heap.size + 1, 1, none⟩ = false := by rw [hW1]; simp [go_sem]
 rw [← hW1]
 clear hW1
 refine (HA.out _).mono ?_
 rintro e w1 ⟨rfl, qw1⟩
 replace qw1 := qw1.dn
 have a1 := nlt l2 qw1.size
 have a3 := nlt l6 qw1.size
 obtain ⟨a2, a4, a5⟩ := mv3 qw1.cell c3 c4 c5
 have f17 := (qw1.frozen (a := ⟨w.heap.size + 1, 0, none⟩) l9).trans f10
 have f18 := (qw1.frozen (a := ⟨w.heap.size + 1, 1, none⟩) l9).trans f11
 have a0 := nlt l9 qw1.size
 have a6 := qw1.cell c7
 have a7 := qw1.cell c8
 clear l2 c3 l6 c4 c5 f10 f11 l9 c7 c8
 have uw1 := uW1.trans qw1
 clear qw1 uW1
 go_wp2_with fail
 refine (eOf f _).mono ?_
 rintro e w2 ⟨rfl, qw2⟩
 replace qw2 := qw2.dn
 have aD := nlt a1 qw2.size
 have aE := nlt a3 qw2.size
 obtain ⟨a8, a9, aA⟩ := mv3 qw2.cell a2 a4 a5
 have f27 := (qw2.frozen (a := ⟨w.heap.size + 1, 0, none⟩) a0).trans f17
 have f28 := (qw2.frozen (a := ⟨w.heap.size + 1, 1, none⟩) a0).trans f18
 have aF := nlt a0 qw2.size
 have aB := qw2.cell a6
 have aC := qw2.cell a7
 clear a1 a2 a3 a4 a5 f17 f18 a0 a6 a7
 have uw2 := uw1.trans qw2
 clear qw2 uw1
 go_wp2_with fail
 exact bodyPost_ret (v := .tuple #[.agg #[.int .i8 0, .int .i64 f], .int .i64 r]) (by simp [results, Tryz.results40, go_sem, a8, a9, aA, aB, aC, f27, f28] <;> omega) rfl ⟨rfl, ((uw2.setCell (by simp <;> omega) _).setCell (by simp <;> omega) _)⟩
theorem rnS (i d k j f r : Int) (bk : Nat) (w : World) (hd : I64 d) (hkk : I64 k) (h : Sft i d k j f r) (hk : w.cell? ⟨bk, 0, none⟩ = some (.int .i64 k)) :
   Calls Tryz.prog 40 #[.agg #[.int .i8 i, .int .i64 d], .pointer (some ⟨bk, 0, none⟩)] w fun ro w' => ro = .returned (.tuple #[.agg #[.int .i8 j, .int .i64 f], .int .i64 r]) ∧ Dn w w' := by
 rcases h with ⟨h0, rfl, rfl, rfl⟩ | ⟨rfl, rfl, hf⟩
 · exact rnS_inf _ _ k bk h0 w
 · exact rnS_day d k f r bk (Lib.hid fun W => add_any d k _ f r W hd hkk rfl hf) w hk
theorem rnB_1 (i1 d1 i2 d2 k j1 f1 j2 f2 r1 r2 : Int) (bk : Nat) (HA : Hid (∀ W, W.cell? ⟨bk, 0, none⟩ = some (.int .i64 k) → Calls Tryz.prog 40 #[.agg #[.int .i8 i1, .int .i64 d1], .pointer (some ⟨bk, 0, none⟩)] W fun o w' => o = .returned (.tuple #[.agg #[.int .i8 j1, .int .i64 f1], .int .i64 r1]) ∧ Dn W w')) (h1 : r1 ≠ 0) (w : World) (hk : w.cell? ⟨bk, 0, none⟩ = some (.int .i64 k)) :
  Calls Tryz.prog 39 #[.agg #[.int .i8 i1, .int .i64 d1], .agg #[.int .i8 i2, .int .i64 d2], .func (.func 40) #[] #[.pointer (some ⟨bk, 0, none⟩)]] w fun ro w' => ro = .returned (.tuple #[.agg #[.int .i8 0, .int .i64 0, .int .i8 0, .int .i64 0], .int .i64 r1]) ∧ Dn w w' := by
 have hl := lt_of_cell hk
 have t1 : (r1 != 0) = true := by simpa using h1
 clear h1
 go_enter Tryz.func39, Tryz.ntmps39
 go_wp2_with fail
 obtain ⟨W1, hW1⟩ : ∃ W1, W1 = ((w.alloc (.cells #[.int .i8 i1, .int .i64 d1] 28)).alloc (.cells #[.int .i8 i2, .int .i64 d2] 28)).alloc (.cells #[.int .i8 0, .int .i64 0, .int .i8 0, .int .i64 0] 82) := ⟨_, rfl⟩
 have uW1 : Dn w W1 := by rw [hW1]; exact (((Dn.refl _).alloc _).alloc _).alloc _
 have l2 := nlt hl uW1.size
 have c3 := uW1.cell hk
 clear hl hk
 have c4 : W1.cell? ⟨w.heap.size, 0, none⟩ = some (.int .i8 i1) := by rw [hW1]; simp [go_sem]
 have c5 : W1.cell? ⟨w.heap.size, 1, none⟩ = some (.int .i64 d1) := by rw [hW1]; simp [go_sem]
 have l6 : w.heap.size < W1.heap.size := by rw [hW1]; simp <;> omega
 have c7 : W1.cell? ⟨w.heap.size + 1, 0, none⟩ = some (.int .i8 i2) := by rw [hW1]; simp [go_sem]
 have c8 : W1.cell? ⟨w.heap.size + 1, 1, none⟩ = some (.int .i64 d2) := by rw [hW1]; simp [go_sem]
 have l9 : w.heap.size + 1 < W1.heap.size := by rw [hW1]; simp <;> omega
 have a1 : W1.cell? ⟨w.heap.size + 1 + 1, 0, none⟩ = some (.int .i8 0) := by rw [hW1]; simp [go_sem]
 have a2 : W1.cell? ⟨w.heap.size + 1 + 1, 1, none⟩ = some (.int .i64 0) := by rw [hW1]; simp [go_sem]
 have a3 : W1.cell? ⟨w.heap.size + 1 + 1, 2, none⟩ = some (.int .i8 0) := by rw [hW1]; simp [go_sem]
 have a4 : W1.cell? ⟨w.heap.size + 1 + 1, 3, none⟩ = some (.int .i64 0) := by rw [hW1]; simp [go_sem]
 have a0 : w.heap.size + 1 + 1 < W1.heap.size := by rw [hW1]; simp <;> omega
 have f15 : W1.frozen? ⟨w.heap.size + 1 + 1, 0, none⟩ = false := by rw [hW1]; simp [go_sem]
 have f16 : W1.frozen? ⟨w.heap.size + 1 + 1, 1, none⟩ = false := by rw [hW1]; simp [go_sem]
 have f17 : W1.frozen? ⟨w.heap.size + 1 + 1, 2, none⟩ = false := by rw [hW1]; simp [go_sem]
 have f18 : W1.frozen? ⟨w.heap.size + 1 + 1, 3, none⟩ = false := by rw [hW1]; simp [go_sem]
 rw [← hW1]
 clear hW1
 refine (HA.out _ c3).mono ?_
 rintro e w1 ⟨rfl, qw1⟩
 have aA := nlt l2 qw1.size
 have aC := nlt l6 qw1.size
 have aF := nlt l9 qw1.size
 obtain ⟨aB, aD, aE, aG, aH⟩ := mv5 qw1.cell c3 c4 c5 c7 c8
 have f27 := (qw1.frozen (a := ⟨w.heap.size + 1 + 1, 0, none⟩) a0).trans f15
 have f28 := (qw1.frozen (a := ⟨w.heap.size + 1 + 1, 1, none⟩) a0).trans f16
 have f29 := (qw1.frozen (a := ⟨w.heap.size + 1 + 1, 2, none⟩) a0).trans f17
 have f30 := (qw1.frozen (a := ⟨w.heap.size + 1 + 1, 3, none⟩) a0).trans f18
 have a9 := nlt a0 qw1.size
 obtain ⟨a5, a6, a7, a8⟩ := mv4 qw1.cell a1 a2 a3 a4
 clear l2 c3 l6 c4 c5 l9 c7 c8 f15 f16 f17 f18 a0 a1 a2 a3 a4
 have uw1 := uW1.trans qw1
 clear qw1 uW1
 go_wp2_with fail
 have hC : C4 w1 (w.heap.size + 1 + 1) (.int .i8 0) (.int .i64 0) (.int .i8 0) (.int .i64 0) := ⟨a5, a6, a7, a8, f27, f28, f29, f30, a9⟩
 have hZ := fun o : Obj => (hC.fill (.int .i8 0) (.int .i64 0) (.int .i8 0) (.int .i64 0)).alloc o
 have z0 := fun o : Obj => (hZ o).c0
 have y0 := fun o : Obj => (hZ o).f0
 have z1 := fun o : Obj => (hZ o).c1
 have y1 := fun o : Obj => (hZ o).f1
 have z2 := fun o : Obj => (hZ o).c2
 have y2 := fun o : Obj => (hZ o).f2
 have z3 := fun o : Obj => (hZ o).c3
 have y3 := fun o : Obj => (hZ o).f3
 exact bodyPost_ret (v := .tuple #[.agg #[.int .i8 0, .int .i64 0, .int .i8 0, .int .i64 0], .int .i64 r1]) (by simp [results, Tryz.results39, go_sem, z0, z1, z2, z3, y0, y1, y2, y3, a5, a6, a7, a8, f27, f28, f29, f30] <;> omega) rfl ⟨rfl, (((((uw1.setCell (by simp <;> omega) _).setCell (by simp <;> omega) _).setCell (by simp <;> omega) _).setCell (by simp <;> omega) _).alloc _)⟩
theorem rnB_2 (i1 d1 i2 d2 k j1 f1 j2 f2 r1 r2 : Int) (bk : Nat) (HA : Hid (∀ W, W.cell? ⟨bk, 0, none⟩ = some (.int .i64 k) → Calls Tryz.prog 40 #[.agg #[.int .i8 i1, .int .i64 d1], .pointer (some ⟨bk, 0, none⟩)] W fun o w' => o = .returned (.tuple #[.agg #[.int .i8 j1, .int .i64 f1], .int .i64 0]) ∧ Dn W w')) (HB : Hid (∀ W, W.cell? ⟨bk, 0, none⟩ = some (.int .i64 k) → Calls Tryz.prog 40 #[.agg #[.int .i8 i2, .int .i64 d2], .pointer (some ⟨bk, 0, none⟩)] W fun o w' => o = .returned (.tuple #[.agg #[.int .i8 j2, .int .i64 f2], .int .i64 r2]) ∧ Dn W w')) (h1 : r2 ≠ 0) (w : World) (hk : w.cell? ⟨bk, 0, none⟩ = some (.int .i64 k)) :
  Calls Tryz.prog 39 #[.agg #[.int .i8 i1, .int .i64 d1], .agg #[.int .i8 i2, .int .i64 d2], .func (.func 40) #[] #[.pointer (some ⟨bk, 0, none⟩)]] w fun ro w' => ro = .returned (.tuple #[.agg #[.int .i8 0, .int .i64 0, .int .i8 0, .int .i64 0], .int .i64 r2]) ∧ Dn w w' := by
 have hl := lt_of_cell hk
 have t1 : (r2 != 0) = true := by simpa using h1
 clear h1
 go_enter Tryz.func39, Tryz.ntmps39
 go_wp2_with fail
 obtain ⟨W1, hW1⟩ : ∃ W1, W1 = ((w.alloc (.cells #[.int .i8 i1, .int .i64 d1] 28)).alloc (.cells #[.int .i8 i2, .int .i64 d2] 28)).alloc (.cells #[.int .i8 0, .int .i64 0, .int .i8 0, .int .i64 0] 82) := ⟨_, rfl⟩
 have uW1 : Dn w W1 := by rw [hW1]; exact (((Dn.refl _).alloc _).alloc _).alloc _
 have l2 := nlt hl uW1.size
 have c3 := uW1.cell hk
 clear hl hk
 have c4 : W1.cell? ⟨w.heap.size, 0, none⟩ = some (.int .i8 i1) := by rw [hW1]; simp [go_sem]
 have c5 : W1.cell? ⟨w.heap.size, 1, none⟩ = some (.int .i64 d1) := by rw [hW1]; simp [go_sem]
 have l6 : w.heap.size < W1.heap.size := by rw [hW1]; simp <;> omega
 have c7 : W1.cell? ⟨w.heap.size + 1, 0, none⟩ = some (.int .i8 i2) := by rw [hW1]; simp [go_sem]
 have c8 : W1.cell? ⟨w.heap.size + 1, 1, none⟩ = some (.int .i64 d2) := by rw [hW1]; simp [go_sem]
 have l9 : w.heap.size + 1 < W1.heap.size := by rw [hW1]; simp <;> omega
 have a4 : W1.cell? ⟨w.heap.size + 1 + 1, 0, none⟩ = some (.int .i8 0) := by rw [hW1]; simp [go_sem]
 have a5 : W1.cell? ⟨w.heap.size + 1 + 1, 1, none⟩ = some (.int .i64 0) := by rw [hW1]; simp [go_sem]
 have a6 : W1.cell? ⟨w.heap.size + 1 + 1, 2, none⟩ = some (.int .i8 0) := by rw [hW1]; simp [go_sem]
 have a7 : W1.cell? ⟨w.heap.size + 1 + 1, 3, none⟩ = some (.int .i64 0) := by rw [hW1]; simp [go_sem]
 have a0 : w.heap.size + 1 + 1 < W1.heap.size := by rw [hW1]; simp <;> omega
 have f15 : W1.frozen? ⟨w.heap.size + 1 + 1, 0, none⟩ = false := by rw [hW1]; simp [go_sem]
 have f16 : W1.frozen? ⟨w.heap.size + 1 + 1, 1, none⟩ = false := by rw [hW1]; simp [go_sem]
 have f17 : W1.frozen? ⟨w.heap.size + 1 + 1, 2, none⟩ = false := by rw [hW1]; simp [go_sem]
 have f18 : W1.frozen? ⟨w.heap.size + 1 + 1, 3, none⟩ = false := by rw [hW1]; simp [go_sem]
 rw [← hW1]
 clear hW1
 refine (HA.out _ c3).mono ?_
 rintro e w1 ⟨rfl, qw1⟩
 have a8 := nlt l2 qw1.size
 have aA := nlt l6 qw1.size
 have aD := nlt l9 qw1.size
 obtain ⟨a9, aB, aC, aE, aF⟩ := mv5 qw1.cell c3 c4 c5 c7 c8
 have f27 := (qw1.frozen (a := ⟨w.heap.size + 1 + 1, 0, none⟩) a0).trans f15
 have f28 := (qw1.frozen (a := ⟨w.heap.size + 1 + 1, 1, none⟩) a0).trans f16
 have f29 := (qw1.frozen (a := ⟨w.heap.size + 1 + 1, 2, none⟩) a0).trans f17
 have f30 := (qw1.frozen (a := ⟨w.heap.size + 1 + 1, 3, none⟩) a0).trans f18
 have a1 := nlt a0 qw1.size
 obtain ⟨aG, aH, aI, aJ⟩ := mv4 qw1.cell a4 a5 a6 a7
 clear l2 c3 l6 c4 c5 l9 c7 c8 f15 f16 f17 f18 a0 a4 a5 a6 a7
 have uw1 := uW1.trans qw1
 clear qw1 uW1
 go_wp2_with fail
 obtain ⟨W36, hW36⟩ : ∃ W36, W36 = w1.alloc (.cells #[.int .i8 j1, .int .i64 f1] 28) := ⟨_, rfl⟩
 have uW36 : Dn w1 W36 := by rw [hW36]; exact (Dn.refl _).alloc _
 have aK := nlt a8 uW36.size
 have aL := nlt aA uW36.size
 have aO := nlt aD uW36.size
 obtain ⟨a3, aM, aN, aP, aQ⟩ := mv5 uW36.cell a9 aB aC aE aF
 have f45 := (uW36.frozen (a := ⟨w.heap.size + 1 + 1, 0, none⟩) a1).trans f27
 have f46 := (uW36.frozen (a := ⟨w.heap.size + 1 + 1, 1, none⟩) a1).trans f28
 have f47 := (uW36.frozen (a := ⟨w.heap.size + 1 + 1, 2, none⟩) a1).trans f29
 have f48 := (uW36.frozen (a := ⟨w.heap.size + 1 + 1, 3, none⟩) a1).trans f30
 have a2 := nlt a1 uW36.size
 obtain ⟨aR, aS, aT, c53⟩ := mv4 uW36.cell aG aH aI aJ
 clear a8 a9 aA aB aC aD aE aF f27 f28 f29 f30 a1 aG aH aI aJ
 have aU : W36.cell? ⟨w1.heap.size, 0, none⟩ = some (.int .i8 j1) := by rw [hW36]; simp [go_sem]
 have aV : W36.cell? ⟨w1.heap.size, 1, none⟩ = some (.int .i64 f1) := by rw [hW36]; simp [go_sem]
 have aW : w1.heap.size < W36.heap.size := by rw [hW36]; simp <;> omega
 rw [← hW36]
 clear hW36
 have vW36 := uw1.trans uW36
 clear uW36 uw1
 refine (HB.out _ a3).mono ?_
 rintro e w2 ⟨rfl, qw2⟩
 have b3 := nlt aK qw2.size
 have b5 := nlt aL qw2.size
 have b8 := nlt aO qw2.size
 obtain ⟨b4, b6, b7, b9, bA⟩ := mv5 qw2.cell a3 aM aN aP aQ
 have f65 := (qw2.frozen (a := ⟨w.heap.size + 1 + 1, 0, none⟩) a2).trans f45
 have f66 := (qw2.frozen (a := ⟨w.heap.size + 1 + 1, 1, none⟩) a2).trans f46
 have f67 := (qw2.frozen (a := ⟨w.heap.size + 1 + 1, 2, none⟩) a2).trans f47
 have f68 := (qw2.frozen (a := ⟨w.heap.size + 1 + 1, 3, none⟩) a2).trans f48
 have b2 := nlt a2 qw2.size
 have bB := nlt aW qw2.size
 obtain ⟨aX, aY, aZ, b0, bC, bD⟩ := mv6 qw2.cell aR aS aT c53 aU aV
 clear aK a3 aL aM aN aO aP aQ f45 f46 f47 f48 a2 aR aS aT c53 aW aU aV
 have uw2 := vW36.trans qw2
 clear qw2 vW36
 go_wp2_with fail
 have hC : C4 w2 (w.heap.size + 1 + 1) (.int .i8 0) (.int .i64 0) (.int .i8 0) (.int .i64 0) := ⟨aX, aY, aZ, b0, f65, f66, f67, f68, b2⟩
 have hZ := fun o : Obj => (hC.fill (.int .i8 0) (.int .i64 0) (.int .i8 0) (.int .i64 0)).alloc o
 have z0 := fun o : Obj => (hZ o).c0
 have y0 := fun o : Obj => (hZ o).f0
 have z1 := fun o : Obj => (hZ o).c1
 have y1 := fun o : Obj => (hZ o).f1
 have z2 := fun o : Obj => (hZ o).c2
 have y2 := fun o : Obj => (hZ o).f2
 have z3 := fun o : Obj => (hZ o).c3
 have y3 := fun o : Obj => (hZ o).f3
 exact bodyPost_ret (v := .tuple #[.agg #[.int .i8 0, .int .i64 0, .int .i8 0, .int .i64 0], .int .i64 r2]) (by simp [results, Tryz.results39, go_sem, z0, z1, z2, z3, y0, y1, y2, y3, aX, aY, aZ, b0, f65, f66, f67, f68] <;> omega) rfl ⟨rfl, (((((uw2.setCell (by simp <;> omega) _).setCell (by simp <;> omega) _).setCell (by simp <;> omega) _).setCell (by simp <;> omega) _).alloc _)⟩
theorem rnB_3 (i1 d1 i2 d2 k j1 f1 j2 f2 r1 r2 : Int) (bk : Nat) (HA : Hid (∀ W, W.cell? ⟨bk, 0, none⟩ = some (.int .i64 k) → Calls Tryz.prog 40 #[.agg #[.int .i8 i1, .int .i64 d1], .pointer (some ⟨bk, 0, none⟩)] W fun o w' => o = .returned (.tuple #[.agg #[.int .i8 j1, .int .i64 f1], .int .i64 0]) ∧ Dn W w')) (HB : Hid (∀ W, W.cell? ⟨bk, 0, none⟩ = some (.int .i64 k) → Calls Tryz.prog 40 #[.agg #[.int .i8 i2, .int .i64 d2], .pointer (some ⟨bk, 0, none⟩)] W fun o w' => o = .returned (.tuple #[.agg #[.int .i8 j2, .int .i64 f2], .int .i64 0]) ∧ Dn W w')) (w : World) (hk : w.cell? ⟨bk, 0, none⟩ = some (.int .i64 k)) :
  Calls Tryz.prog 39 #[.agg #[.int .i8 i1, .int .i64 d1], .agg #[.int .i8 i2, .int .i64 d2], .func (.func 40) #[] #[.pointer (some ⟨bk, 0, none⟩)]] w fun ro w' => ro = .returned (.tuple #[.agg #[.int .i8 j1, .int .i64 f1, .int .i8 j2, .int .i64 f2], .int .i64 0]) ∧ Dn w w' := by
 have hl := lt_of_cell hk
 go_enter Tryz.func39, Tryz.ntmps39
 go_wp2_with fail
 obtain ⟨W1, hW1⟩ : ∃ W1, W1 = ((w.alloc (.cells #[.int .i8 i1, .int .i64 d1] 28)).alloc (.cells #[.int .i8 i2, .int .i64 d2] 28)).alloc (.cells #[.int .i8 0, .int .i64 0, .int .i8 0, .int .i64 0] 82) := ⟨_, rfl⟩
 have uW1 : Dn w W1 := by rw [hW1]; exact (((Dn.refl _).alloc _).alloc _).alloc _
 have l2 := nlt hl uW1.size
 have c3 := uW1.cell hk
 clear hl hk
 have c4 : W1.cell? ⟨w.heap.size, 0, none⟩ = some (.int .i8 i1) := by rw [hW1]; simp [go_sem]
 have c5 : W1.cell? ⟨w.heap.size, 1, none⟩ = some (.int .i64 d1) := by rw [hW1]; simp [go_sem]
 have l6 : w.heap.size < W1.heap.size := by rw [hW1]; simp <;> omega
 have c7 : W1.cell? ⟨w.heap.size + 1, 0, none⟩ = some (.int .i8 i2) := by rw [hW1]; simp [go_sem]
 have c8 : W1.cell? ⟨w.heap.size + 1, 1, none⟩ = some (.int .i64 d2) := by rw [hW1]; simp [go_sem]
 have l9 : w.heap.size + 1 < W1.heap.size := by rw [hW1]; simp <;> omega
 have a4 : W1.cell? ⟨w.heap.size + 1 + 1, 0, none⟩ = some (.int .i8 0) := by rw [hW1]; simp [go_sem]
 have a5 : W1.cell? ⟨w.heap.size + 1 + 1, 1, none⟩ = some (.int .i64 0) := by rw [hW1]; simp [go_sem]
 have a6 : W1.cell? ⟨w.heap.size + 1 + 1, 2, none⟩ = some (.int .i8 0) := by rw [hW1]; simp [go_sem]
 have a7 : W1.cell? ⟨w.heap.size + 1 + 1, 3, none⟩ = some (.int .i64 0) := by rw [hW1]; simp [go_sem]
 have a0 : w.heap.size + 1 + 1 < W1.heap.size := by rw [hW1]; simp <;> omega
 have f15 : W1.frozen? ⟨w.heap.size + 1 + 1, 0, none⟩ = false := by rw [hW1]; simp [go_sem]
 have f16 : W1.frozen? ⟨w.heap.size + 1 + 1, 1, none⟩ = false := by rw [hW1]; simp [go_sem]
 have f17 : W1.frozen? ⟨w.heap.size + 1 + 1, 2, none⟩ = false := by rw [hW1]; simp [go_sem]
 have f18 : W1.frozen? ⟨w.heap.size + 1 + 1, 3, none⟩ = false := by rw [hW1]; simp [go_sem]
 rw [← hW1]
 clear hW1
 refine (HA.out _ c3).mono ?_
 rintro e w1 ⟨rfl, qw1⟩
 have a8 := nlt l2 qw1.size
 have aA := nlt l6 qw1.size
 have aD := nlt l9 qw1.size
 obtain ⟨a9, aB, aC, aE, aF⟩ := mv5 qw1.cell c3 c4 c5 c7 c8
 have f27 := (qw1.frozen (a := ⟨w.heap.size + 1 + 1, 0, none⟩) a0).trans f15
 have f28 := (qw1.frozen (a := ⟨w.heap.size + 1 + 1, 1, none⟩) a0).trans f16
 have f29 := (qw1.frozen (a := ⟨w.heap.size + 1 + 1, 2, none⟩) a0).trans f17
 have f30 := (qw1.frozen (a := ⟨w.heap.size + 1 + 1, 3, none⟩) a0).trans f18
 have a1 := nlt a0 qw1.size
 obtain ⟨aG, aH, aI, aJ⟩ := mv4 qw1.cell a4 a5 a6 a7
 clear l2 c3 l6 c4 c5 l9 c7 c8 f15 f16 f17 f18 a0 a4 a5 a6 a7
 have uw1 := uW1.trans qw1
 clear qw1 uW1
 go_wp2_with fail
 obtain ⟨W36, hW36⟩ : ∃ W36, W36 = w1.alloc (.cells #[.int .i8 j1, .int .i64 f1] 28) := ⟨_, rfl⟩
 have uW36 : Dn w1 W36 := by rw [hW36]; exact (Dn.refl _).alloc _
 have aK := nlt a8 uW36.size
 have aL := nlt aA uW36.size
 have aO := nlt aD uW36.size
 obtain ⟨a3, aM, aN, aP, aQ⟩ := mv5 uW36.cell a9 aB aC aE aF
 have f45 := (uW36.frozen (a := ⟨w.heap.size + 1 + 1, 0, none⟩) a1).trans f27
 have f46 := (uW36.frozen (a := ⟨w.heap.size + 1 + 1, 1, none⟩) a1).trans f28
 have f47 := (uW36.frozen (a := ⟨w.heap.size + 1 + 1, 2, none⟩) a1).trans f29
 have f48 := (uW36.frozen (a := ⟨w.heap.size + 1 + 1, 3, none⟩) a1).trans f30
 have a2 := nlt a1 uW36.size
 obtain ⟨aR, aS, aT, c53⟩ := mv4 uW36.cell aG aH aI aJ
 clear a8 a9 aA aB aC aD aE aF f27 f28 f29 f30 a1 aG aH aI aJ
 have aU : W36.cell? ⟨w1.heap.size, 0, none⟩ = some (.int .i8 j1) := by rw [hW36]; simp [go_sem]
 have aV : W36.cell? ⟨w1.heap.size, 1, none⟩ = some (.int .i64 f1) := by rw [hW36]; simp [go_sem]
 have aW : w1.heap.size < W36.heap.size := by rw [hW36]; simp <;> omega
 rw [← hW36]
 clear hW36
 have vW36 := uw1.trans uW36
 clear uW36 uw1
 refine (HB.out _ a3).mono ?_
 rintro e w2 ⟨rfl, qw2⟩
 have b3 := nlt aK qw2.size
 have b5 := nlt aL qw2.size
 have b8 := nlt aO qw2.size
 obtain ⟨b4, b6, b7, b9, bA⟩ := mv5 qw2.cell a3 aM aN aP aQ
 have f65 := (qw2.frozen (a := ⟨w.heap.size + 1 + 1, 0, none⟩) a2).trans f45
 have f66 := (qw2.frozen (a := ⟨w.heap.size + 1 + 1, 1, none⟩) a2).trans f46
 have f67 := (qw2.frozen (a := ⟨w.heap.size + 1 + 1, 2, none⟩) a2).trans f47
 have f68 := (qw2.frozen (a := ⟨w.heap.size + 1 + 1, 3, none⟩) a2).trans f48
 have b2 := nlt a2 qw2.size
 have bB := nlt aW qw2.size
 obtain ⟨aX, aY, aZ, b0, bC, bD⟩ := mv6 qw2.cell aR aS aT c53 aU aV
 clear aK a3 aL aM aN aO aP aQ f45 f46 f47 f48 a2 aR aS aT c53 aW aU aV
 have uw2 := vW36.trans qw2
 clear qw2 vW36
 go_wp2_with fail
 have hC : C4 w2 (w.heap.size + 1 + 1) (.int .i8 0) (.int .i64 0) (.int .i8 0) (.int .i64 0) := ⟨aX, aY, aZ, b0, f65, f66, f67, f68, b2⟩
 have hZ := fun o : Obj => (hC.fill (.int .i8 j1) (.int .i64 f1) (.int .i8 j2) (.int .i64 f2)).alloc o
 have z0 := fun o : Obj => (hZ o).c0
 have y0 := fun o : Obj => (hZ o).f0
 have z1 := fun o : Obj => (hZ o).c1
 have y1 := fun o : Obj => (hZ o).f1
 have z2 := fun o : Obj => (hZ o).c2
 have y2 := fun o : Obj => (hZ o).f2
 have z3 := fun o : Obj => (hZ o).c3
 have y3 := fun o : Obj => (hZ o).f3
 exact bodyPost_ret (v := .tuple #[.agg #[.int .i8 j1, .int .i64 f1, .int .i8 j2, .int .i64 f2], .int .i64 0]) (by simp [results, Tryz.results39, go_sem, z0, z1, z2, z3, y0, y1, y2, y3, aX, aY, aZ, b0, f65, f66, f67, f68] <;> omega) rfl ⟨rfl, (((((uw2.setCell (by simp <;> omega) _).setCell (by simp <;> omega) _).setCell (by simp <;> omega) _).setCell (by simp <;> omega) _).alloc _)⟩
theorem preAx52x1 (w : World) (a b c d k : Int) : ∃ W1, W1 = ((w.alloc (.cells #[.int .i8 a, .int .i64 b, .int .i8 c, .int .i64 d] 30)).alloc (.cells #[.int .i64 k] 2)).alloc (.cells #[.int .i8 0, .int .i64 0, .int .i8 0, .int .i64 0] 30) ∧ (Dn w W1) ∧ (W1.cell? ⟨w.heap.size, 0, none⟩ = some (.int .i8 a)) ∧ (W1.cell? ⟨w.heap.size, 1, none⟩ = some (.int .i64 b)) ∧ (W1.cell? ⟨w.heap.size, 2, none⟩ = some (.int .i8 c)) ∧ (W1.cell? ⟨w.heap.size, 3, none⟩ = some (.int .i64 d)) ∧ (w.heap.size < W1.heap.size) ∧ (W1.cell? ⟨w.heap.size + 1, 0, none⟩ = some (.int .i64 k)) ∧ (w.heap.size + 1 < W1.heap.size) ∧ (W1.cell? ⟨w.heap.size + 1 + 1, 0, none⟩ = some (.int .i8 0)) ∧ (W1.cell? ⟨w.heap.size + 1 + 1, 1, none⟩ = some (.int .i64 0)) ∧ (W1.cell? ⟨w.heap.size + 1 + 1, 2, none⟩ = some (.int .i8 0)) ∧ (W1.cell? ⟨w.heap.size + 1 + 1, 3, none⟩ = some (.int .i64 0)) ∧ (w.heap.size + 1 + 1 < W1.heap.size) ∧ (W1.frozen? ⟨w.heap.size + 1 + 1, 0, none⟩ = false) ∧ (W1.frozen? ⟨w.heap.size + 1 + 1, 1, none⟩ = false) ∧ (W1.frozen? ⟨w.heap.size + 1 + 1, 2, none⟩ = false) ∧ (W1.frozen? ⟨w.heap.size + 1 + 1, 3, none⟩ = false) := by
  obtain ⟨W1, hW1⟩ : ∃ W1, W1 = ((w.alloc (.cells #[.int .i8 a, .int .i64 b, .int .i8 c, .int .i64 d] 30)).alloc (.cells #[.int .i64 k] 2)).alloc (.cells #[.int .i8 0, .int .i64 0, .int .i8 0, .int .i64 0] 30) := ⟨_, rfl⟩
  exact ⟨W1, hW1, (by rw [hW1]; exact (((Dn.refl _).alloc _).alloc _).alloc _), (by rw [hW1]; simp [go_sem]), (by rw [hW1]; simp [go_sem]), (by rw [hW1]; simp [go_sem]), (by rw [hW1]; simp [go_sem]), (by rw [hW1]; simp <;> omega), (by rw [hW1]; simp [go_sem]), (by rw [hW1]; simp <;> omega), (by rw [hW1]; simp [go_sem]), (by rw [hW1]; simp [go_sem]), (by rw [hW1]; simp [go_sem]), (by rw [hW1]; simp [go_sem]), (by rw [hW1]; simp <;> omega), (by rw [hW1]; simp [go_sem]), (by rw [hW1]; simp [go_sem]), (by rw [hW1]; simp [go_sem]), (by rw [hW1]; simp [go_sem])⟩
theorem rnSh_bad (a b c d k m : Int) (HC : Hid (ChkIs a b c d m)) (h1 : m ≠ 0) (w : World) :
  Calls Tryz.prog 6 #[.agg #[.int .i8 a, .int .i64 b, .int .i8 c, .int .i64 d], .int .i64 k] w fun ro w' => ro = .returned (.tuple #[.agg #[.int .i8 0, .int .i64 0, .int .i8 0, .int .i64 0], .int .i64 m]) ∧ Dn w w' := by
 have t1 : (m != 0) = true := by simpa using h1
 clear h1
 have hmf : ∀ (fn : Fn) (first cap : Array Value) (w : World), (Instr.makeFunc fn first cap).run Tryz.prog w = .ok (.func fn first cap) w := fun _ _ _ _ => rfl
 go_enter Tryz.func6, Tryz.ntmps6
 go_wp2_with fail
 obtain ⟨W1, hW1, uW1, c2, c3, c4, c5, l6, c7, l8, c9, a1, a2, a3, a0, f14, f15, f16, f17⟩ := preAx52x1 w a b c d k
 rw [← hW1]
 clear hW1
 refine (HC.out _).mono ?_
 rintro e w1 ⟨rfl, qw1⟩
 have aD := nlt l6 qw1.size
 have aE := nlt l8 qw1.size
 obtain ⟨a4, a5, a6, a7, a8⟩ := mv5 qw1.cell c2 c3 c4 c5 c7
 have f25 := (qw1.frozen (a := ⟨w.heap.size + 1 + 1, 0, none⟩) a0).trans f14
 have f26 := (qw1.frozen (a := ⟨w.heap.size + 1 + 1, 1, none⟩) a0).trans f15
 have f27 := (qw1.frozen (a := ⟨w.heap.size + 1 + 1, 2, none⟩) a0).trans f16
 have f28 := (qw1.frozen (a := ⟨w.heap.size + 1 + 1, 3, none⟩) a0).trans f17
 have aF := nlt a0 qw1.size
 obtain ⟨a9, aA, aB, aC⟩ := mv4 qw1.cell c9 a1 a2 a3
 clear l6 c2 c3 c4 c5 l8 c7 f14 f15 f16 f17 a0 c9 a1 a2 a3
 have uw1 := uW1.trans qw1
 clear qw1 uW1
 go_wp2_with fail
 exact bodyPost_ret (v := .tuple #[.agg #[.int .i8 0, .int .i64 0, .int .i8 0, .int .i64 0], .int .i64 m]) (by simp [results, Tryz.results6, go_sem, a4, a5, a6, a7, a8, a9, aA, aB, aC, f25, f26, f27, f28] <;> omega) rfl ⟨rfl, ((((uw1.setCell (by simp <;> omega) _).setCell (by simp <;> omega) _).setCell (by simp <;> omega) _).setCell (by simp <;> omega) _)⟩
theorem rnSh_any (a b c d k q0 q1 q2 q3 r : Int) (HC : Hid (ChkIs a b c d 0)) (HB : Hid (∀ W B, W.cell? ⟨B, 0, none⟩ = some (.int .i64 k) → Calls Tryz.prog 39 #[.agg #[.int .i8 a, .int .i64 b], .agg #[.int .i8 c, .int .i64 d], .func (.func 40) #[] #[.pointer (some ⟨B, 0, none⟩)]] W fun o w' => o = .returned (.tuple #[.agg #[.int .i8 q0, .int .i64 q1, .int .i8 q2, .int .i64 q3], .int .i64 r]) ∧ Dn W w')) (w : World) :
  Calls Tryz.prog 6 #[.agg #[.int .i8 a, .int .i64 b, .int .i8 c, .int .i64 d], .int .i64 k] w fun ro w' => ro = .returned (.tuple #[.agg #[.int .i8 q0, .int .i64 q1, .int .i8 q2, .int .i64 q3], .int .i64 r]) ∧ Dn w w' := by
 have hmf : ∀ (fn : Fn) (first cap : Array Value) (w : World), (Instr.makeFunc fn first cap).run Tryz.prog w = .ok (.func fn first cap) w := fun _ _ _ _ => rfl
 go_enter Tryz.func6, Tryz.ntmps6
 go_wp2_with fail
 obtain ⟨W1, hW1, uW1, c2, c3, c4, c5, l6, c7, l8, c9, a2, a3, a4, a0, f14, f15, f16, f17⟩ := preAx52x1 w a b c d k
 rw [← hW1]
 clear hW1
 refine (HC.out _).mono ?_
 rintro e w1 ⟨rfl, qw1⟩
 have a5 := nlt l6 qw1.size
 have aA := nlt l8 qw1.size
 obtain ⟨a6, a7, a8, a9, aB⟩ := mv5 qw1.cell c2 c3 c4 c5 c7
 have f25 := (qw1.frozen (a := ⟨w.heap.size + 1 + 1, 0, none⟩) a0).trans f14
 have f26 := (qw1.frozen (a := ⟨w.heap.size + 1 + 1, 1, none⟩) a0).trans f15
 have f27 := (qw1.frozen (a := ⟨w.heap.size + 1 + 1, 2, none⟩) a0).trans f16
 have f28 := (qw1.frozen (a := ⟨w.heap.size + 1 + 1, 3, none⟩) a0).trans f17
 have a1 := nlt a0 qw1.size
 obtain ⟨aC, aD, aE, aF⟩ := mv4 qw1.cell c9 a2 a3 a4
 clear l6 c2 c3 c4 c5 l8 c7 f14 f15 f16 f17 a0 c9 a2 a3 a4
 have uw1 := uW1.trans qw1
 clear qw1 uW1
 go_wp2_with fail
 refine (HB.out _ _ (by assumption)).mono ?_
 rintro e w2 ⟨rfl, qw2⟩
 have aL := nlt a5 qw2.size
 have aQ := nlt aA qw2.size
 obtain ⟨aM, aN, aO, aP, aR⟩ := mv5 qw2.cell a6 a7 a8 a9 aB
 have f41 := (qw2.frozen (a := ⟨w.heap.size + 1 + 1, 0, none⟩) a1).trans f25
 have f42 := (qw2.frozen (a := ⟨w.heap.size + 1 + 1, 1, none⟩) a1).trans f26
 have f43 := (qw2.frozen (a := ⟨w.heap.size + 1 + 1, 2, none⟩) a1).trans f27
 have f44 := (qw2.frozen (a := ⟨w.heap.size + 1 + 1, 3, none⟩) a1).trans f28
 have aK := nlt a1 qw2.size
 obtain ⟨aG, aH, aI, aJ⟩ := mv4 qw2.cell aC aD aE aF
 clear a5 a6 a7 a8 a9 aA aB f25 f26 f27 f28 a1 aC aD aE aF
 have uw2 := uw1.trans qw2
 clear qw2 uw1
 go_wp2_with fail
 have hC : C4 w2 (w.heap.size + 1 + 1) (.int .i8 0) (.int .i64 0) (.int .i8 0) (.int .i64 0) := ⟨aG, aH, aI, aJ, f41, f42, f43, f44, aK⟩
 have hZ := fun o : Obj => (hC.fill (.int .i8 q0) (.int .i64 q1) (.int .i8 q2) (.int .i64 q3)).alloc o
 have z0 := fun o : Obj => (hZ o).c0
 have y0 := fun o : Obj => (hZ o).f0
 have z1 := fun o : Obj => (hZ o).c1
 have y1 := fun o : Obj => (hZ o).f1
 have z2 := fun o : Obj => (hZ o).c2
 have y2 := fun o : Obj => (hZ o).f2
 have z3 := fun o : Obj => (hZ o).c3
 have y3 := fun o : Obj => (hZ o).f3
 exact bodyPost_ret (v := .tuple #[.agg #[.int .i8 q0, .int .i64 q1, .int .i8 q2, .int .i64 q3], .int .i64 r]) (by simp [results, Tryz.results6, go_sem, z0, z1, z2, z3, y0, y1, y2, y3, aG, aH, aI, aJ, f41, f42, f43, f44] <;> omega) rfl ⟨rfl, (((((uw2.setCell (by simp <;> omega) _).setCell (by simp <;> omega) _).setCell (by simp <;> omega) _).setCell (by simp <;> omega) _).alloc _)⟩
def ShR (a b c d k q0 q1 q2 q3 r : Int) : Prop :=
 (rnErr a b c d ≠ 0 ∧ q0 = 0 ∧ q1 = 0 ∧ q2 = 0 ∧ q3 = 0 ∧ r = rnErr a b c d) ∨
 (rnErr a b c d = 0 ∧ ∃ j1 f1 r1 j2 f2 r2, Sft a b k j1 f1 r1 ∧ Sft c d k j2 f2 r2 ∧
  ((r1 ≠ 0 ∧ q0 = 0 ∧ q1 = 0 ∧ q2 = 0 ∧ q3 = 0 ∧ r = r1) ∨ (r1 = 0 ∧ r2 ≠ 0 ∧ q0 = 0 ∧ q1 = 0 ∧ q2 = 0 ∧ q3 = 0 ∧ r = r2) ∨ (r1 = 0 ∧ r2 = 0 ∧ q0 = j1 ∧ q1 = f1 ∧ q2 = j2 ∧ q3 = f2 ∧ r = 0)))
theorem rnShift (a b c d k q0 q1 q2 q3 r : Int) (w : World) (hb : I64 b) (hd : I64 d) (hk : I64 k) (h : ShR a b c d k q0 q1 q2 q3 r) :
   Calls Tryz.prog 6 #[.agg #[.int .i8 a, .int .i64 b, .int .i8 c, .int .i64 d], .int .i64 k] w fun ro w' => ro = .returned (.tuple #[.agg #[.int .i8 q0, .int .i64 q1, .int .i8 q2, .int .i64 q3], .int .i64 r]) ∧ Dn w w' := by
 have HC : Hid (ChkIs a b c d (rnErr a b c d)) := Lib.hid (rnChk a b c d)
 rcases h with ⟨h0, rfl, rfl, rfl, rfl, rfl⟩ | ⟨h0, j1, f1, r1, j2, f2, r2, s1, s2, hx⟩
 · exact rnSh_bad a b c d k _ HC h0 w
 · rw [h0] at HC
   have H1 := fun bk => Lib.hid (fun W hc => rnS a b k j1 f1 r1 bk W hb hk s1 hc)
   have H2 := fun bk => Lib.hid (fun W hc => rnS c d k j2 f2 r2 bk W hd hk s2 hc)
   rcases hx with ⟨h1, rfl, rfl, rfl, rfl, rfl⟩ | ⟨rfl, h1, rfl, rfl, rfl, rfl, rfl⟩ | ⟨rfl, rfl, rfl, rfl, rfl, rfl, rfl⟩
   · exact rnSh_any a b c d k _ _ _ _ _ HC (Lib.hid fun W B hc => rnB_1 a b c d k j1 f1 j2 f2 _ 0 B (H1 B) h1 W hc) w
   · exact rnSh_any a b c d k _ _ _ _ _ HC (Lib.hid fun W B hc => rnB_2 a b c d k j1 f1 j2 f2 0 _ B (H1 B) (H2 B) h1 W hc) w
   · exact rnSh_any a b c d k _ _ _ _ _ HC (Lib.hid fun W B hc => rnB_3 a b c d k _ _ _ _ 0 0 B (H1 B) (H2 B) W hc) w
def F9 (a b c d : Int) (is : Bool) (e f g h : Int) (there : Bool) : Prop := (there = true ∧ is = true ∧ a = e ∧ b = f ∧ c = g ∧ d = h) ∨ (there = false ∧ is = false ∧ a = 0 ∧ b = 0 ∧ c = 0 ∧ d = 0)
def G9 (a b c d r e f g h bad : Int) : Prop := (bad = 0 ∧ r = 0 ∧ a = e ∧ b = f ∧ c = g ∧ d = h) ∨ (bad ≠ 0 ∧ r = bad ∧ a = 0 ∧ b = 0 ∧ c = 0 ∧ d = 0)
instance decF9 (a b c d : Int) (is : Bool) (e f g h : Int) (there : Bool) : Decidable (F9 a b c d is e f g h there) := by unfold F9; infer_instance
instance decG9 (a b c d r e f g h bad : Int) : Decidable (G9 a b c d r e f g h bad) := by unfold G9; infer_instance
theorem eMin_is (i d j f : Int) (w : World) : Calls Tryz.prog 151 #[.agg #[.int .i8 i, .int .i64 d], .agg #[.int .i8 j, .int .i64 f]] w fun e w' => e = .returned (.agg #[.int .i8 (mnI i d j f), .int .i64 (mnD i d j f)]) ∧ Up w w' := by
 unfold mnI mnD
 by_cases h : eC j f i d < 0
 · rw [if_pos h, if_pos h]; exact eMin_2 i d j f w h
 · rw [if_neg h, if_neg h]; exact eMin_1 i d j f w h
theorem eMax_is (i d j f : Int) (w : World) : Calls Tryz.prog 152 #[.agg #[.int .i8 i, .int .i64 d], .agg #[.int .i8 j, .int .i64 f]] w fun e w' => e = .returned (.agg #[.int .i8 (mxI i d j f), .int .i64 (mxD i d j f)]) ∧ Up w w' := by
 unfold mxI mxD
 by_cases h : 0 < eC j f i d
 · rw [if_pos h, if_pos h]; exact eMax_2 i d j f w h
 · rw [if_neg h, if_neg h]; exact eMax_1 i d j f w h
def JnR (a b c d e f g h i1 d1 i2 d2 : Int) (is : Bool) : Prop :=
 (Tch a b c d e f g h ∧ is = true ∧ i1 = mnI a b e f ∧ d1 = mnD a b e f ∧ i2 = mxI c d g h ∧ d2 = mxD c d g h) ∨ (¬ Tch a b c d e f g h ∧ is = false ∧ i1 = 0 ∧ d1 = 0 ∧ i2 = 0 ∧ d2 = 0)
def CmR (a b c d e f g h i1 d1 i2 d2 : Int) (is : Bool) : Prop :=
 (Meet a b c d e f g h ∧ is = true ∧ i1 = mxI a b e f ∧ d1 = mxD a b e f ∧ i2 = mnI c d g h ∧ d2 = mnD c d g h) ∨ (¬ Meet a b c d e f g h ∧ is = false ∧ i1 = 0 ∧ d1 = 0 ∧ i2 = 0 ∧ d2 = 0)
instance decJnR (a b c d e f g h i1 d1 i2 d2 : Int) (is : Bool) : Decidable (JnR a b c d e f g h i1 d1 i2 d2 is) := by unfold JnR; infer_instance
instance decCmR (a b c d e f g h i1 d1 i2 d2 : Int) (is : Bool) : Decidable (CmR a b c d e f g h i1 d1 i2 d2 is) := by unfold CmR; infer_instance
theorem rnJoin (a b c d e f g h i1 d1 i2 d2 : Int) (is : Bool) (w : World) (hb : I64 b) (hd : I64 d) (hf : I64 f) (hh : I64 h) (k : JnR a b c d e f g h i1 d1 i2 d2 is) :
   Calls Tryz.prog 117 #[.agg #[.int .i8 a, .int .i64 b, .int .i8 c, .int .i64 d], .agg #[.int .i8 e, .int .i64 f, .int .i8 g, .int .i64 h]] w fun ro w' => ro = .returned (.tuple #[.agg #[.int .i8 i1, .int .i64 d1, .int .i8 i2, .int .i64 d2], .bool is]) ∧ Dn w w' := by
 have HT := Lib.hid (fun W => rnTouch a b c d e f g h W hb hd hf hh)
 rcases k with ⟨k, rfl, rfl, rfl, rfl, rfl⟩ | ⟨k, rfl, rfl, rfl, rfl, rfl⟩
 · rw [decide_eq_true k] at HT
   exact rnJoin_yes a b c d e f g h _ _ _ _ HT (Lib.hid fun W => eMin_is a b e f W) (Lib.hid fun W => eMax_is c d g h W) w
 · rw [decide_eq_false k] at HT
   exact rnJoin_no a b c d e f g h HT w
theorem rnCommon (a b c d e f g h i1 d1 i2 d2 : Int) (is : Bool) (w : World) (hb : I64 b) (hd : I64 d) (hf : I64 f) (hh : I64 h) (k : CmR a b c d e f g h i1 d1 i2 d2 is) :
   Calls Tryz.prog 134 #[.agg #[.int .i8 a, .int .i64 b, .int .i8 c, .int .i64 d], .agg #[.int .i8 e, .int .i64 f, .int .i8 g, .int .i64 h]] w fun ro w' => ro = .returned (.tuple #[.agg #[.int .i8 i1, .int .i64 d1, .int .i8 i2, .int .i64 d2], .bool is]) ∧ Dn w w' := by
 have HR := Lib.hid (fun W => rnRight a b c d e f g h W hb hd hf hh)
 have HM := Lib.hid (fun W => eMax_is a b e f W)
 have HX := Lib.hid (fun W => eMin_is c d g h W)
 by_cases h0 : RnOk a b c d ∧ RnOk e f g h
 · rw [decide_eq_true h0] at HR
   have hok := common_ok hb hd hf hh h0.1 h0.2
   have herr := rnErr_ok (a := mxI a b e f) (b := mxD a b e f) (c := mnI c d g h) (d := mnD c d g h) (mx_i64 hb hf) (mn_i64 hd hh)
   have HC : Hid (ChkIs (mxI a b e f) (mxD a b e f) (mnI c d g h) (mnD c d g h) (rnErr (mxI a b e f) (mxD a b e f) (mnI c d g h) (mnD c d g h))) := Lib.hid (rnChk _ _ _ _)
   rcases k with ⟨k, rfl, rfl, rfl, rfl, rfl⟩ | ⟨k, rfl, rfl, rfl, rfl, rfl⟩
   · rw [herr.2 (hok.2 k)] at HC
     exact rnCom_3 a b c d e f g h _ _ _ _ HM HX HR HC w
   · exact rnCom_2 a b c d e f g h _ _ _ _ HM HX HR _ HC (fun hc => k (hok.1 (herr.1 hc))) w
 · rw [decide_eq_false h0] at HR
   rcases k with ⟨k, rfl, rfl, rfl, rfl, rfl⟩ | ⟨k, rfl, rfl, rfl, rfl, rfl⟩
   · exact absurd ⟨k.1, k.2.1⟩ h0
   · exact rnCom_1 a b c d e f g h _ _ _ _ HM HX HR w
abbrev Rn := Int × Int × Int × Int
def rc (r : Rn) : List Value := [.int .i8 r.1, .int .i64 r.2.1, .int .i8 r.2.2.1, .int .i64 r.2.2.2]
theorem infoRun : (Tryz.prog.info? 30).map (fun i => (i.zero, i.size, i.bytes)) = some (some (.agg #[.int .i8 0, .int .i64 0, .int .i8 0, .int .i64 0]), 4, 32) := by kernel_rfl
structure OwnR (w : World) (base : Nat) (v : Value) (rs : List Rn) : Prop where
 own : w.ownsRow base 30 4 v rs.length (rs.flatMap rc)
 ok : ∀ r ∈ rs, I64 r.2.1 ∧ I64 r.2.2.2
theorem OwnR.nil (w : World) (base : Nat) : OwnR w base (.slice none 0 0) [] := ⟨World.ownsRow_nil _ _ _ _, fun _ h => by cases h⟩
theorem OwnR.kept {w w' : World} {base : Nat} {v : Value} {rs : List Rn} {row : Option Nat} (h : OwnR w base v rs) (hg : w.grownBy w' row) (hr : ∀ k, row = some k → k < base) : OwnR w' base v rs :=
 ⟨h.own.kept hg (by
  cases hv : v.ownBlock with
  | none => exact Or.inl rfl
  | some g =>
    right
    intro e
    have := (h.own.lt g hv).1
    have := hr g e.symm
    omega), h.ok⟩
theorem OwnR.dn {w w' : World} {base : Nat} {v : Value} {rs : List Rn} (h : OwnR w base v rs) (k : Dn w w') : OwnR w' base v rs := h.kept (grown_dn k none) (fun _ e => by cases e)
theorem OwnR.row {w : World} {base : Nat} {v : Value} {rs : List Rn} (h : OwnR w base v rs) : ∀ k, v.ownBlock = some k → base ≤ k := fun k hk => (h.own.lt k hk).1
theorem rc_get : ∀ (rs : List Rn) (i j : Nat) (r : Rn), rs[i]? = some r → j < 4 → (rs.flatMap rc)[i * 4 + j]? = (rc r)[j]?
 | [], i, j, r, h, _ => by simp at h
 | x :: rs, 0, j, r, h, hj => by
   simp at h
   subst h
   simp only [List.flatMap_cons]
   rw [List.getElem?_append_left (by simp [rc]; omega)]
   simp
 | x :: rs, i + 1, j, r, h, hj => by
   have := rc_get rs i j r (by simpa using h) hj
   simp only [List.flatMap_cons]
   rw [List.getElem?_append_right (by simp [rc]; omega)]
   have e : (i + 1) * 4 + j - (rc x).length = i * 4 + j := by simp [rc]; omega
   rw [e]; exact this
theorem OwnR.form {w : World} {base : Nat} {v : Value} {rs : List Rn} (h : OwnR w base v rs) (hn : rs ≠ []) : ∃ g cap, v = .slice (some ⟨g, 0, none⟩) rs.length cap ∧ base ≤ g ∧ rs.length ≤ cap ∧
   ∀ (i : Nat) (r : Rn), rs[i]? = some r → ∀ j u, (rc r)[j]? = some u → w.cell? ⟨g, i * 4 + j, none⟩ = some u := by
 rcases h.own.2 with ⟨rfl, h0⟩ | ⟨g, cap, cur, rfl, hb, hg, h1, h2, h3, h4⟩
 · exact absurd (List.length_eq_zero_iff.1 h0) hn
 · refine ⟨g, cap, rfl, hb, h1, fun i r hi j u hu => ?_⟩
   have hj : j < 4 := by
    rcases Nat.lt_or_ge j 4 with h | h
    · exact h
    · rw [List.getElem?_eq_none (by simp [rc]; omega)] at hu; cases hu
   have := h.own.cells (g := g) rfl (i * 4 + j) u (by rw [rc_get rs i j r hi hj]; exact hu)
   have hadd : (⟨g, 0, none⟩ : Addr).add (i * 4 + j) = ⟨g, i * 4 + j, none⟩ := by unfold Addr.add; split <;> simp_all
   rwa [hadd] at this
structure Rq where
 a : Int
 b : Int
 c : Int
 d : Int
deriving DecidableEq
def Rq.lo (x : Rq) : Int := key x.a x.b
def Rq.hi (x : Rq) : Int := key x.c x.d
def Rq.ok (x : Rq) : Prop := I64 x.b ∧ I64 x.d ∧ RnOk x.a x.b x.c x.d
def Sep : List Rq → Prop
 | [] => True
 | x :: t => x.ok ∧ (∀ y ∈ t, x.hi + 1 < y.lo) ∧ Sep t
def Mem (k : Int) (L : List Rq) : Prop := ∃ x ∈ L, x.lo ≤ k ∧ k ≤ x.hi
theorem mem_cons {k : Int} {x : Rq} {t : List Rq} : Mem k (x :: t) ↔ (x.lo ≤ k ∧ k ≤ x.hi) ∨ Mem k t := by
 constructor
 · rintro ⟨y, h, k1⟩
   rcases List.mem_cons.1 h with h | h
   · subst h; exact .inl k1
   · exact .inr ⟨y, h, k1⟩
 · rintro (h | ⟨y, h, k1⟩)
   · exact ⟨x, List.mem_cons_self, h⟩
   · exact ⟨y, List.mem_cons_of_mem _ h, k1⟩
theorem mem_append {k : Int} {s t : List Rq} : Mem k (s ++ t) ↔ Mem k s ∨ Mem k t := by
 constructor
 · rintro ⟨y, h, k1⟩
   rcases List.mem_append.1 h with h | h
   · exact .inl ⟨y, h, k1⟩
   · exact .inr ⟨y, h, k1⟩
 · rintro (⟨y, h, k1⟩ | ⟨y, h, k1⟩)
   · exact ⟨y, List.mem_append.2 (.inl h), k1⟩
   · exact ⟨y, List.mem_append.2 (.inr h), k1⟩
theorem Rq.ok_le {x : Rq} (h : x.ok) : x.lo ≤ x.hi := h.2.2.2.2.2.2
def chkFrom : Option Rq → List Rq → Int
 | _, [] => 0
 | p, x :: t => if rnErr x.a x.b x.c x.d ≠ 0 then rnErr x.a x.b x.c x.d else
   match p with
   | none => chkFrom (some x) t
   | some q => if q.hi + 1 < x.lo then chkFrom (some x) t else 12
def chkL (l : List Rq) : Int := if 4096 < l.length then 3 else chkFrom none l
def jnR (x y : Rq) : Rq := ⟨mnI x.a x.b y.a y.b, mnD x.a x.b y.a y.b, mxI x.c x.d y.c y.d, mxD x.c x.d y.c y.d⟩
def inR (x y : Rq) : Rq := ⟨mxI x.a x.b y.a y.b, mxD x.a x.b y.a y.b, mnI x.c x.d y.c y.d, mnD x.c x.d y.c y.d⟩
def TchR (x y : Rq) : Prop := x.ok ∧ y.ok ∧ y.lo ≤ x.hi + 1 ∧ x.lo ≤ y.hi + 1
def MeetR (x y : Rq) : Prop := x.ok ∧ y.ok ∧ y.lo ≤ x.hi ∧ x.lo ≤ y.hi
instance decRqOk (x : Rq) : Decidable x.ok := by unfold Rq.ok; infer_instance
instance decTchR (x y : Rq) : Decidable (TchR x y) := by unfold TchR; infer_instance
instance decMeetR (x y : Rq) : Decidable (MeetR x y) := by unfold MeetR; infer_instance
theorem inR_lo {x y : Rq} (hx : x.ok) (hy : y.ok) : (inR x y).lo = max x.lo y.lo := mx_key hx.1 hy.1
theorem inR_hi {x y : Rq} (hx : x.ok) (hy : y.ok) : (inR x y).hi = min x.hi y.hi := mn_key hx.2.1 hy.2.1
theorem mn_ge0 {i d j f : Int} (h : 0 ≤ i) (k : 0 ≤ j) : 0 ≤ mnI i d j f := by unfold mnI; split <;> assumption
theorem mx_le0 {i d j f : Int} (h : i ≤ 0) (k : j ≤ 0) : mxI i d j f ≤ 0 := by unfold mxI; split <;> assumption
theorem inR_ok {x y : Rq} (hm : MeetR x y) : (inR x y).ok := by
 obtain ⟨hx, hy, m1, m2⟩ := hm
 have l := inR_lo hx hy
 have h := inR_hi hx hy
 have k1 := Rq.ok_le hx
 have k2 := Rq.ok_le hy
 have k : (inR x y).lo ≤ (inR x y).hi := by omega
 obtain ⟨a1, a2, a3, a4, a5, a6, a7⟩ := hx
 obtain ⟨b1, b2, b3, b4, b5, b6, b7⟩ := hy
 exact ⟨mx_i64 a1 b1, mn_i64 a2 b2, mx_ok a3 b3, mn_ok a4 b4, mx_le0 a5 b5, mn_ge0 a6 b6, k⟩
def jn : Rq → List Rq → List Rq
 | p, [] => [p]
 | p, r :: t => if TchR p r then jn (jnR p r) t else p :: jn r t
def joinedL : List Rq → List Rq
 | [] => []
 | x :: t => jn x t
theorem Sep.all {l : List Rq} (h : Sep l) : ∀ x ∈ l, x.ok := by
 induction l with
 | nil => intro x hx; cases hx
 | cons y t ih =>
   intro x hx
   rcases List.mem_cons.1 hx with hx | hx
   · subst hx; exact h.1
   · exact ih h.2.2 x hx
def cmn : List Rq → List Rq → List Rq
 | [], _ => []
 | _ :: _, [] => []
 | x :: s, y :: t => (if MeetR x y then [inR x y] else []) ++ (if x.hi < y.hi then cmn s (y :: t) else cmn (x :: s) t)
termination_by s t => s.length + t.length
def ltR (x y : Rq) : Prop := x.lo < y.lo ∨ x.lo = y.lo ∧ x.hi < y.hi
instance decLtR (x y : Rq) : Decidable (ltR x y) := by unfold ltR; infer_instance
theorem Sep.append : ∀ {u v : List Rq}, Sep u → Sep v → (∀ x ∈ u, ∀ y ∈ v, x.hi + 1 < y.lo) → Sep (u ++ v)
 | [], _, _, hv, _ => hv
 | x :: t, v, hu, hv, h => ⟨hu.1, fun y hy => by
   rcases List.mem_append.1 hy with hy | hy
   · exact hu.2.1 y hy
   · exact h x List.mem_cons_self y hy, Sep.append hu.2.2 hv (fun z hz => h z (List.mem_cons_of_mem _ hz))⟩
def WtP (a b : List Rq) : Prop := ∀ x ∈ a, ∃ y ∈ b, y.lo ≤ x.lo ∧ x.hi ≤ y.hi
theorem rq_err {x : Rq} (h1 : I64 x.b) (h2 : I64 x.d) : rnErr x.a x.b x.c x.d = 0 ↔ x.ok := by
 rw [rnErr_ok h1 h2]; exact ⟨fun h => ⟨h1, h2, h⟩, fun h => h.2.2⟩
theorem chkFrom_sep : ∀ {l : List Rq} {q : Rq}, (∀ x ∈ l, I64 x.b ∧ I64 x.d) → chkFrom (some q) l = 0 → Sep l ∧ ∀ y ∈ l, q.hi + 1 < y.lo
 | [], _, _, _ => ⟨trivial, fun _ h => (nomatch h)⟩
 | x :: t, q, hv, h => by
   have hx := hv x List.mem_cons_self
   unfold chkFrom at h
   by_cases h1 : rnErr x.a x.b x.c x.d ≠ 0
   · rw [if_pos h1] at h; exact absurd h h1
   · rw [if_neg h1] at h
     have ox := (rq_err hx.1 hx.2).1 (by omega)
     have kx := Rq.ok_le ox
     by_cases h2 : q.hi + 1 < x.lo
     · simp only [h2, if_true] at h
       obtain ⟨a1, a2⟩ := chkFrom_sep (fun y hy => hv y (List.mem_cons_of_mem _ hy)) h
       refine ⟨⟨ox, a2, a1⟩, fun y hy => ?_⟩
       rcases List.mem_cons.1 hy with e | e
       · subst e; exact h2
       · have := a2 y e; omega
     · simp only [h2, if_false] at h; exact absurd h (by decide)
theorem chk_sep {l : List Rq} (hv : ∀ x ∈ l, I64 x.b ∧ I64 x.d) (h : chkFrom none l = 0) : Sep l := by
 cases l with
 | nil => trivial
 | cons x t =>
   have hx := hv x List.mem_cons_self
   unfold chkFrom at h
   by_cases h1 : rnErr x.a x.b x.c x.d ≠ 0
   · rw [if_pos h1] at h; exact absurd h h1
   · rw [if_neg h1] at h
     have a := chkFrom_sep (fun y hy => hv y (List.mem_cons_of_mem _ hy)) h
     exact ⟨(rq_err hx.1 hx.2).1 (by omega), a.2, a.1⟩
theorem order_prog {p x : Rq} (hp : p.ok) (hx : x.ok) : (ltR x p ∨ TchR p x) ↔ ¬ p.hi + 1 < x.lo := by
 have kp := Rq.ok_le hp
 have kx := Rq.ok_le hx
 unfold ltR TchR
 constructor
 · rintro (q | q)
   · omega
   · have := q.2.2; omega
 · intro q
   by_cases q2 : p.lo ≤ x.hi + 1
   · exact .inr ⟨hp, hx, by omega, q2⟩
   · left; omega
def cntP : Int → List Rq → Int × Int
 | acc, [] => (acc, 0)
 | acc, x :: t => if I64 (x.d - x.b + 1) then (if I64 (acc + (x.d - x.b + 1)) then cntP (acc + (x.d - x.b + 1)) t else (0, 15)) else (0, 15)
def HasL (l : List Rq) (k : Int) : Prop := ∃ x ∈ l, x.ok ∧ x.lo ≤ k ∧ k ≤ x.hi
def El (w : World) (g o k : Nat) (x : Rq) : Prop :=
 w.cell? ⟨g, o + k * 4, none⟩ = some (.int .i8 x.a) ∧ w.cell? ⟨g, o + k * 4 + 1, none⟩ = some (.int .i64 x.b) ∧ w.cell? ⟨g, o + k * 4 + 2, none⟩ = some (.int .i8 x.c) ∧ w.cell? ⟨g, o + k * 4 + 3, none⟩ = some (.int .i64 x.d)
theorem El.dn {w w' : World} {g o k : Nat} {x : Rq} (h : El w g o k x) (q : Dn w w') : El w' g o k x := ⟨q.cell h.1, q.cell h.2.1, q.cell h.2.2.1, q.cell h.2.2.2⟩
structure Row (w : World) (p : Option Addr) (L : List Rq) : Prop where
 h : L = [] ∨ ∃ g o, p = some ⟨g, o, none⟩ ∧ g < w.heap.size ∧ ∀ k x, L[k]? = some x → El w g o k x
theorem Row.dn {w w' : World} {p : Option Addr} {L : List Rq} (h : Row w p L) (q : Dn w w') : Row w' p L := by
 rcases h.h with h | ⟨g, o, e, hl, h⟩
 · exact ⟨.inl h⟩
 · exact ⟨.inr ⟨g, o, e, Nat.lt_of_lt_of_le hl q.size, fun k x hx => (h k x hx).dn q⟩⟩
theorem Row.nil (w : World) (p : Option Addr) : Row w p [] := ⟨.inl rfl⟩
theorem Row.at {w : World} {p : Option Addr} {L : List Rq} (h : Row w p L) (hn : 0 < L.length) : ∃ g o, p = some ⟨g, o, none⟩ ∧ g < w.heap.size ∧ ∀ k x, L[k]? = some x → El w g o k x := by
 rcases h.h with h | h
 · subst h; simp at hn
 · exact h
structure Cs (w : World) (g o : Nat) (L : List Rq) : Prop where
 lt : g < w.heap.size
 el : ∀ k x, L[k]? = some x → El w g o k x
theorem Cs.dn {w w' : World} {g o : Nat} {L : List Rq} (h : Cs w g o L) (q : Dn w w') : Cs w' g o L := ⟨Nat.lt_of_lt_of_le h.lt q.size, fun k x hx => (h.el k x hx).dn q⟩
theorem Cs.row {w : World} {g o : Nat} {L : List Rq} (h : Cs w g o L) : Row w (some ⟨g, o, none⟩) L := ⟨.inr ⟨g, o, rfl, h.lt, h.el⟩⟩
theorem Row.cs {w : World} {p : Option Addr} {L : List Rq} (h : Row w p L) (hn : 0 < L.length) : ∃ g o, p = some ⟨g, o, none⟩ ∧ Cs w g o L := by
 obtain ⟨g, o, e, h1, h2⟩ := h.at hn
 exact ⟨g, o, e, h1, h2⟩
def I6 (L : List Rq) : Prop := ∀ x ∈ L, I64 x.b ∧ I64 x.d
theorem I6.at {L : List Rq} (h : I6 L) {k : Nat} {x : Rq} (hx : L[k]? = some x) : I64 x.b ∧ I64 x.d := h x (List.mem_of_getElem? hx)
def prv (L : List Rq) (k : Nat) : Option Rq := if k = 0 then none else L[k - 1]?
theorem chk_at {L : List Rq} {k : Nat} {x : Rq} (h : L[k]? = some x) : chkFrom (prv L k) (L.drop k) = if rnErr x.a x.b x.c x.d ≠ 0 then rnErr x.a x.b x.c x.d else
  match prv L k with
  | none => chkFrom (prv L (k + 1)) (L.drop (k + 1))
  | some q => if q.hi + 1 < x.lo then chkFrom (prv L (k + 1)) (L.drop (k + 1)) else 12 := by
 obtain ⟨hl, rfl⟩ := List.getElem?_eq_some_iff.1 h
 have h2 : prv L (k + 1) = some L[k] := by simp [prv]
 rw [List.drop_eq_getElem_cons hl, h2]
 rfl
theorem chk_bad {L : List Rq} {k : Nat} {x : Rq} (h : L[k]? = some x) (he : rnErr x.a x.b x.c x.d ≠ 0) : chkFrom (prv L k) (L.drop k) = rnErr x.a x.b x.c x.d := by
 rw [chk_at h, if_pos he]
theorem chk_first {L : List Rq} {k : Nat} {x : Rq} (h : L[k]? = some x) (hk : k = 0) (he : rnErr x.a x.b x.c x.d = 0) : chkFrom (prv L k) (L.drop k) = chkFrom (prv L (k + 1)) (L.drop (k + 1)) := by
 subst hk
 rw [chk_at h, if_neg (by simpa using he)]
 simp [prv]
theorem chk_order {L : List Rq} {k : Nat} {q x : Rq} (h : L[k]? = some x) (hk : 0 < k) (hq : L[k - 1]? = some q) (he : rnErr x.a x.b x.c x.d = 0) (ho : ¬ q.hi + 1 < x.lo) : chkFrom (prv L k) (L.drop k) = 12 := by
 have : prv L k = some q := by simp [prv, hq]; omega
 rw [chk_at h, if_neg (by simpa using he), this]
 simp [ho]
theorem chk_next {L : List Rq} {k : Nat} {q x : Rq} (h : L[k]? = some x) (hk : 0 < k) (hq : L[k - 1]? = some q) (he : rnErr x.a x.b x.c x.d = 0) (ho : q.hi + 1 < x.lo) : chkFrom (prv L k) (L.drop k) = chkFrom (prv L (k + 1)) (L.drop (k + 1)) := by
 have : prv L k = some q := by simp [prv, hq]; omega
 rw [chk_at h, if_neg (by simpa using he), this]
 simp [ho]
theorem chk_end {L : List Rq} : chkFrom (prv L L.length) (L.drop L.length) = 0 := by
 simp [chkFrom]
def OkTo (L : List Rq) (k : Nat) : Prop := ∀ i x, L[i]? = some x → i < k → x.ok
theorem OkTo.zero (L : List Rq) : OkTo L 0 := fun _ _ _ h => absurd h (by omega)
theorem OkTo.step {L : List Rq} {k : Nat} {x : Rq} (h : OkTo L k) (hx : L[k]? = some x) (hk : x.ok) : OkTo L (k + 1) := fun i y hy hi => by
 rcases Nat.lt_or_ge i k with h1 | h1
 · exact h i y hy h1
 · obtain rfl : i = k := by omega
   rw [hx] at hy; cases hy; exact hk
theorem OkTo.all {L : List Rq} (h : OkTo L L.length) : ∀ x ∈ L, x.ok := fun x hx => by
 obtain ⟨i, hi, rfl⟩ := List.getElem_of_mem hx
 exact h i _ (by simp [hi]) hi
theorem tch_iff {p x : Rq} (hp : I64 p.b ∧ I64 p.d) (hx : I64 x.b ∧ I64 x.d) : Tch p.a p.b p.c p.d x.a x.b x.c x.d ↔ TchR p x :=
 ⟨fun h => ⟨⟨hp.1, hp.2, h.1⟩, ⟨hx.1, hx.2, h.2.1⟩, h.2.2⟩, fun h => ⟨h.1.2.2, h.2.1.2.2, h.2.2⟩⟩
theorem meet_iff {p x : Rq} (hp : I64 p.b ∧ I64 p.d) (hx : I64 x.b ∧ I64 x.d) : Meet p.a p.b p.c p.d x.a x.b x.c x.d ↔ MeetR p x :=
 ⟨fun h => ⟨⟨hp.1, hp.2, h.1⟩, ⟨hx.1, hx.2, h.2.1⟩, h.2.2⟩, fun h => ⟨h.1.2.2, h.2.1.2.2, h.2.2⟩⟩
theorem cmp_ltR {x p : Rq} (hx : I64 x.b ∧ I64 x.d) (hp : I64 p.b ∧ I64 p.d) : 0 < or2 (eC p.a p.b x.a x.b) (eC p.c p.d x.c x.d) ↔ ltR x p := by
 have h1 := eC_gt (i := p.a) (j := x.a) hp.1 hx.1
 have h2 := eC_gt (i := p.c) (j := x.c) hp.2 hx.2
 have h3 := eC_lt (i := p.a) (j := x.a) hp.1 hx.1
 unfold or2 ltR Rq.lo Rq.hi
 split <;> omega
def qc (x : Rq) : List Value := [.int .i8 x.a, .int .i64 x.b, .int .i8 x.c, .int .i64 x.d]
structure OwnQ (w : World) (base : Nat) (v : Value) (L : List Rq) : Prop where
 own : w.ownsRow base 30 4 v L.length (L.flatMap qc)
theorem OwnQ.nil (w : World) (base : Nat) : OwnQ w base (.slice none 0 0) [] := ⟨World.ownsRow_nil _ _ _ _⟩
theorem OwnQ.row {w : World} {base : Nat} {v : Value} {L : List Rq} (h : OwnQ w base v L) : ∀ k, v.ownBlock = some k → base ≤ k ∧ k < w.heap.size := fun k hk => h.own.lt k hk
theorem OwnQ.kept {w w' : World} {base : Nat} {v : Value} {L : List Rq} {row : Option Nat} (h : OwnQ w base v L) (hg : w.grownBy w' row) (hr : ∀ k, row = some k → k < base) : OwnQ w' base v L :=
 ⟨h.own.kept hg (by
  cases hv : v.ownBlock with
  | none => exact Or.inl rfl
  | some g =>
    right
    intro e
    have := (h.own.lt g hv).1
    have := hr g e.symm
    omega)⟩
theorem OwnQ.dn {w w' : World} {base : Nat} {v : Value} {L : List Rq} (h : OwnQ w base v L) (k : Dn w w') : OwnQ w' base v L := h.kept (grown_dn k none) (fun _ e => by cases e)
theorem OwnQ.base {w : World} {b c : Nat} {v : Value} {L : List Rq} (h : OwnQ w b v L) (k : c ≤ b) : OwnQ w c v L := by
 refine ⟨h.own.1, ?_⟩
 rcases h.own.2 with hn | ⟨g, cap, cur, hv, hbg, rest⟩
 · exact .inl hn
 · exact .inr ⟨g, cap, cur, hv, Nat.le_trans k hbg, rest⟩
theorem qc_get : ∀ (L : List Rq) (i j : Nat) (r : Rq), L[i]? = some r → j < 4 → (L.flatMap qc)[i * 4 + j]? = (qc r)[j]?
 | [], i, j, r, h, _ => by simp at h
 | x :: L, 0, j, r, h, hj => by
   simp at h
   subst h
   simp only [List.flatMap_cons]
   rw [List.getElem?_append_left (by simp [qc]; omega)]
   simp
 | x :: L, i + 1, j, r, h, hj => by
   have := qc_get L i j r (by simpa using h) hj
   simp only [List.flatMap_cons]
   rw [List.getElem?_append_right (by simp [qc]; omega)]
   have e : (i + 1) * 4 + j - (qc x).length = i * 4 + j := by simp [qc]; omega
   rw [e]; exact this
theorem OwnQ.form {w : World} {base : Nat} {v : Value} {L : List Rq} (h : OwnQ w base v L) : (v = .slice none 0 0 ∧ L = []) ∨ ∃ g cap, v = .slice (some ⟨g, 0, none⟩) L.length cap ∧ base ≤ g ∧ L.length ≤ cap ∧ cap ≤ maxLen ∧ Cs w g 0 L := by
 rcases h.own.2 with ⟨rfl, h0⟩ | ⟨g, cap, cur, rfl, hb, hg, h1, h2, h3, h4⟩
 · exact .inl ⟨rfl, List.length_eq_zero_iff.1 h0⟩
 · refine .inr ⟨g, cap, rfl, hb, h1, h2, (Array.getElem?_eq_some_iff.1 hg).1, fun i r hi => ?_⟩
   have c : ∀ j u, (qc r)[j]? = some u → w.cell? ⟨g, i * 4 + j, none⟩ = some u := fun j u hu => by
     have hj : j < 4 := by
      rcases Nat.lt_or_ge j 4 with h | h
      · exact h
      · rw [List.getElem?_eq_none (by simp [qc]; omega)] at hu; cases hu
     have hl : i * 4 + j < L.length * 4 := by
      obtain ⟨hi', _⟩ := List.getElem?_eq_some_iff.1 hi
      omega
     rw [h.own.cellAt _ hl, qc_get L i j r hi hj]; exact hu
   refine ⟨?_, ?_, ?_, ?_⟩
   · simpa using c 0 _ rfl
   · simpa using c 1 _ rfl
   · simpa using c 2 _ rfl
   · simpa using c 3 _ rfl
theorem OwnQ.rowOf {w : World} {base : Nat} {v : Value} {L : List Rq} (h : OwnQ w base v L) : ∃ p cap, v = .slice p L.length cap ∧ L.length ≤ cap ∧ Row w p L := by
 rcases h.form with ⟨rfl, rfl⟩ | ⟨g, cap, rfl, _, h1, _, hc⟩
 · exact ⟨_, _, rfl, Nat.le_refl _, Row.nil _ _⟩
 · exact ⟨_, _, rfl, h1, hc.row⟩
theorem list_run {ops : Array Oper} {rest : List Oper} {o : Oper} {a : Act} {Q : Exit → Act → World → Prop} (hgd : o.guard = none) (s x : Operand)
   (ho : o.op = .call { callee := .builtin .append, args := #[s, x], argTypes := #[48, 48] }) (w : World) (base : Nat) (v : Value) (L : List Rq) (a0 b0 c0 d0 : Int) (hs : a.eval s = v) (hown : OwnQ w base v L)
   (hx : a.eval x = .slice (some ⟨w.heap.size, 0, none⟩) 1 1) (hl : L.length ≤ 1000000) (hb : base ≤ w.heap.size)
   (h : ∀ v' w', OwnQ w' base v' (L ++ [⟨a0, b0, c0, d0⟩]) → (∀ b, b < w.heap.size → (∀ k, v.ownBlock = some k → b ≠ k) → w'.heap[b]? = w.heap[b]?) → (∀ w0, Dn w0 w → base = w0.heap.size → Dn w0 w') → wpList Tryz.prog ops Q rest (a.put o.dst v') w') :
   wpList Tryz.prog ops Q (o :: rest) a (w.alloc (.cells #[.int .i8 a0, .int .i64 b0, .int .i8 c0, .int .i64 d0] 30)) := by
 obtain ⟨i0, hi, hz0, hz1, hz2⟩ := info_parts infoRun
 refine wpList_append_own (w.alloc (.cells #[.int .i8 a0, .int .i64 b0, .int .i8 c0, .int .i64 d0] 30)) hgd s x 48 ho base 30 i0 _ 4 32 Tryz.underlying48 hi hz0 hz1 hz2 rfl (by decide) v _ _ hs (hown.own.alloc _) ⟨w.heap.size, 0, none⟩ 1 1 (qc ⟨a0, b0, c0, d0⟩) hx rfl ?_ ?_ ?_ ?_ ?_ ?_
 · intro j u hj
   match j, hj with
   | 0, hj => simp [qc] at hj; subst hj; simp [Addr.add]
   | 1, hj => simp [qc] at hj; subst hj; simp [Addr.add]
   | 2, hj => simp [qc] at hj; subst hj; simp [Addr.add]
   | 3, hj => simp [qc] at hj; subst hj; simp [Addr.add]
   | n + 4, hj => simp [qc] at hj
 · intro u hu; simp [qc] at hu; rcases hu with rfl | rfl | rfl | rfl <;> rfl
 · unfold maxLen; omega
 · omega
 · simp; omega
 · intro v' w' k1 k2 _
   have hall : w.grownBy w' v.ownBlock := by
     have := World.grownBy_alloc w (.cells #[.int .i8 a0, .int .i64 b0, .int .i8 c0, .int .i64 d0] 30) v.ownBlock
     exact grown_trans this k2
   refine h v' w' ⟨?_⟩ ?_ ?_
   · simpa using k1
   · intro b hb1 hb2
     exact hall.block b hb1 (fun e => hb2 b e.symm rfl)
   · intro w0 hd e
     exact ⟨hd.below.trans ⟨hall.os, hall.tape, hall.output, hall.size, fun i hi => hall.block i (Nat.lt_of_lt_of_le hi hd.size) (fun e2 => by have := (hown.own.lt i e2.symm).1; omega)⟩⟩
theorem OwnQ.put {w : World} {base g cap n : Nat} {L : List Rq} (h : OwnQ w base (.slice (some ⟨g, 0, none⟩) n cap) L) (hn : n = L.length) {k : Nat} (hk : k < L.length) (x : Rq) :
  OwnQ ((((w.setCell ⟨g, k * 4, none⟩ (.int .i8 x.a)).setCell ⟨g, k * 4 + 1, none⟩ (.int .i64 x.b)).setCell ⟨g, k * 4 + 2, none⟩ (.int .i8 x.c)).setCell ⟨g, k * 4 + 3, none⟩ (.int .i64 x.d)) base (.slice (some ⟨g, 0, none⟩) n cap) (L.set k x) := by
 subst hn
 have h1 := (h.own.stored (k * 4) (.int .i8 x.a)).1
 have h2 := (h1.stored (k * 4 + 1) (.int .i64 x.b)).1
 have h3 := (h2.stored (k * 4 + 2) (.int .i8 x.c)).1
 have h4 := (h3.stored (k * 4 + 3) (.int .i64 x.d)).1
 have e : ((((L.flatMap qc).set (k * 4) (.int .i8 x.a)).set (k * 4 + 1) (.int .i64 x.b)).set (k * 4 + 2) (.int .i8 x.c)).set (k * 4 + 3) (.int .i64 x.d) = (L.set k x).flatMap qc := by
  clear h1 h2 h3 h4 h
  induction L generalizing k with
  | nil => simp at hk
  | cons y t ih =>
    cases k with
    | zero => simp [qc]
    | succ k =>
      have := ih (by simpa using hk) 
      rw [List.set_cons_succ, List.flatMap_cons, List.flatMap_cons, ← this]
      have l4 : (qc y).length = 4 := rfl
      have e0 : (k + 1) * 4 = 4 + k * 4 := by omega
      simp only [e0, Nat.add_assoc]
      rw [List.set_append_right _ _ (by omega), List.set_append_right _ _ (by omega), List.set_append_right _ _ (by omega), List.set_append_right _ _ (by omega)]
      simp only [l4, Nat.add_sub_cancel_left]
 refine ⟨?_⟩
 rw [← e]
 simpa using h4
theorem OwnQ.frozen {w : World} {base g cap n : Nat} {L : List Rq} (h : OwnQ w base (.slice (some ⟨g, 0, none⟩) n cap) L) (hn : n = L.length) (j : Nat) : w.frozen? ⟨g, j, none⟩ = false := by
 subst hn; exact h.own.frozenAt j
end Go.Proofs.YteodjglbpfmikaaGreatDoor
