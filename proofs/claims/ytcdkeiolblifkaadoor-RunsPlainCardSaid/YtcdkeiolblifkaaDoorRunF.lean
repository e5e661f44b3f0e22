/-
  WALKS OF circa/runs: Shift. (Printed by wip/gen/run9.py.)
-/
import Derived.Test.YtcdkeiolblifkaaDoorRunD
import Derived.Test.YtcdkeiolblifkaaDoorRunBlk
namespace Go.Proofs.YtcdkeiolblifkaaDoor
open Go.RowKit
set_option linter.unusedVariables false
set_option linter.unusedSimpArgs false
/-- An end that is moved by k, with its error. -/
def Sft (i d k j f r : Int) : Prop := (i ≠ 0 ∧ j = i ∧ f = d ∧ r = 0) ∨ (i = 0 ∧ j = 0 ∧ Fits (d + k) f r)
theorem lt_of_cell {w : World} {b j : Nat} {v : Value} (h : w.cell? ⟨b, j, none⟩ = some v) : b < w.heap.size := by
  rcases Nat.lt_or_ge b w.heap.size with hb | hb
  · exact hb
  · simp [World.cell?, Array.getElem?_eq_none hb] at h
set_option maxHeartbeats 4000000 in
set_option maxRecDepth 100000 in
theorem rnS_inf (i d k : Int) (bk : Nat) (h1 : i ≠ 0) (w : World) :
    Calls Tryd.prog 56 #[.agg #[.int .i8 i, .int .i64 d], .pointer (some ⟨bk, 0, none⟩)] w fun ro w' => ro = .returned (.tuple #[.agg #[.int .i8 i, .int .i64 d], .int .i64 0]) ∧ Dn w w' := by
  have t1 : (i != 0) = true := by simpa using h1
  clear h1
  go_enter Tryd.func56, Tryd.ntmps56
  go_wp2_with fail
  exact bodyPost_ret (v := .tuple #[.agg #[.int .i8 i, .int .i64 d], .int .i64 0]) (by simp [results, Tryd.results56, go_sem]) rfl ⟨rfl, ((Dn.refl _).alloc _).alloc _⟩
set_option maxHeartbeats 4000000 in
set_option maxRecDepth 100000 in
theorem rnS_day (d k f r : Int) (bk : Nat) (HA : Hid (∀ W, Calls Tryd.prog 54 #[.int .i64 d, .int .i64 k] W fun o w' => o = .returned (.tuple #[.int .i64 f, .int .i64 r]) ∧ Up W w')) (w : World) (hk : w.cell? ⟨bk, 0, none⟩ = some (.int .i64 k)) :
    Calls Tryd.prog 56 #[.agg #[.int .i8 0, .int .i64 d], .pointer (some ⟨bk, 0, none⟩)] w fun ro w' => ro = .returned (.tuple #[.agg #[.int .i8 0, .int .i64 f], .int .i64 r]) ∧ Dn w w' := by
  have hl := lt_of_cell hk
  have hk2 : ((w.alloc (.cells #[.int .i8 0, .int .i64 d] 27)).alloc (.cells #[.int .i8 0, .int .i64 0] 27)).cell? ⟨bk, 0, none⟩ = some (.int .i64 k) := (((Dn.refl _).alloc _).alloc _).cell hk
  go_enter Tryd.func56, Tryd.ntmps56
  go_wp2_with fail
  clear hk2
  obtain ⟨W1, hW1⟩ : ∃ W1, W1 = (w.alloc (.cells #[.int .i8 0, .int .i64 d] 27)).alloc (.cells #[.int .i8 0, .int .i64 0] 27) := ⟨_, rfl⟩
  have uW1 : Dn w W1 := by rw [hW1]; exact ((Dn.refl _).alloc _).alloc _
  have l2 := Nat.lt_of_lt_of_le hl uW1.size
  have c3 := uW1.cell hk
  clear hl hk
  have c4 : W1.cell? ⟨w.heap.size, 0, none⟩ = some (.int .i8 0) := by rw [hW1]; simp [go_sem]
  have c5 : W1.cell? ⟨w.heap.size, 1, none⟩ = some (.int .i64 d) := by rw [hW1]; simp [go_sem]
  have l6 : w.heap.size < W1.heap.size := by rw [hW1]; simp <;> omega
  have c7 : W1.cell? ⟨w.heap.size + 1, 0, none⟩ = some (.int .i8 0) := by rw [hW1]; simp [go_sem]
  have c8 : W1.cell? ⟨w.heap.size + 1, 1, none⟩ = some (.int .i64 0) := by rw [hW1]; simp [go_sem]
  have l9 : w.heap.size + 1 < W1.heap.size := by rw [hW1]; simp <;> omega
  have f10 : W1.frozen? ⟨w.heap.size + 1, 0, none⟩ = false := by rw [hW1]; simp [go_sem]
  have f11 : W1.frozen? ⟨w.heap.size + 1, 1, none⟩ = false := by rw [hW1]; simp [go_sem]
  rw [← hW1]
  clear hW1
  refine (HA.out _).mono ?_
  rintro e w1 ⟨rfl, qw1⟩
  replace qw1 := qw1.dn
  have l12 := Nat.lt_of_lt_of_le l2 qw1.size
  have c13 := qw1.cell c3
  have l14 := Nat.lt_of_lt_of_le l6 qw1.size
  have c15 := qw1.cell c4
  have c16 := qw1.cell c5
  have f17 := (qw1.frozen (a := ⟨w.heap.size + 1, 0, none⟩) l9).trans f10
  have f18 := (qw1.frozen (a := ⟨w.heap.size + 1, 1, none⟩) l9).trans f11
  have l19 := Nat.lt_of_lt_of_le l9 qw1.size
  have c20 := qw1.cell c7
  have c21 := qw1.cell c8
  clear l2 c3 l6 c4 c5 f10 f11 l9 c7 c8
  have uw1 := uW1.trans qw1
  clear qw1 uW1
  go_wp2_with fail
  refine (eOf f _).mono ?_
  rintro e w2 ⟨rfl, qw2⟩
  replace qw2 := qw2.dn
  have l22 := Nat.lt_of_lt_of_le l12 qw2.size
  have c23 := qw2.cell c13
  have l24 := Nat.lt_of_lt_of_le l14 qw2.size
  have c25 := qw2.cell c15
  have c26 := qw2.cell c16
  have f27 := (qw2.frozen (a := ⟨w.heap.size + 1, 0, none⟩) l19).trans f17
  have f28 := (qw2.frozen (a := ⟨w.heap.size + 1, 1, none⟩) l19).trans f18
  have l29 := Nat.lt_of_lt_of_le l19 qw2.size
  have c30 := qw2.cell c20
  have c31 := qw2.cell c21
  clear l12 c13 l14 c15 c16 f17 f18 l19 c20 c21
  have uw2 := uw1.trans qw2
  clear qw2 uw1
  go_wp2_with fail
  exact bodyPost_ret (v := .tuple #[.agg #[.int .i8 0, .int .i64 f], .int .i64 r]) (by simp [results, Tryd.results56, go_sem, c23, c25, c26, c30, c31, f27, f28] <;> omega) rfl ⟨rfl, ((uw2.setCell (by simp <;> omega) _).setCell (by simp <;> omega) _)⟩
theorem rnS (i d k j f r : Int) (bk : Nat) (w : World) (hd : I64 d) (hkk : I64 k) (h : Sft i d k j f r) (hk : w.cell? ⟨bk, 0, none⟩ = some (.int .i64 k)) :
    Calls Tryd.prog 56 #[.agg #[.int .i8 i, .int .i64 d], .pointer (some ⟨bk, 0, none⟩)] w fun ro w' => ro = .returned (.tuple #[.agg #[.int .i8 j, .int .i64 f], .int .i64 r]) ∧ Dn w w' := by
  rcases h with ⟨h0, rfl, rfl, rfl⟩ | ⟨rfl, rfl, hf⟩
  · exact rnS_inf _ _ k bk h0 w
  · exact rnS_day d k f r bk (Lib.hid fun W => add_any d k _ f r W hd hkk rfl hf) w hk
set_option maxHeartbeats 4000000 in
set_option maxRecDepth 100000 in
theorem rnB_1 (i1 d1 i2 d2 k j1 f1 j2 f2 r1 r2 : Int) (bk : Nat) (HA : Hid (∀ W, W.cell? ⟨bk, 0, none⟩ = some (.int .i64 k) → Calls Tryd.prog 56 #[.agg #[.int .i8 i1, .int .i64 d1], .pointer (some ⟨bk, 0, none⟩)] W fun o w' => o = .returned (.tuple #[.agg #[.int .i8 j1, .int .i64 f1], .int .i64 r1]) ∧ Dn W w')) (h1 : r1 ≠ 0) (w : World) (hk : w.cell? ⟨bk, 0, none⟩ = some (.int .i64 k)) :
    Calls Tryd.prog 55 #[.agg #[.int .i8 i1, .int .i64 d1], .agg #[.int .i8 i2, .int .i64 d2], .func (.func 56) #[] #[.pointer (some ⟨bk, 0, none⟩)]] w fun ro w' => ro = .returned (.tuple #[.agg #[.int .i8 0, .int .i64 0, .int .i8 0, .int .i64 0], .int .i64 r1]) ∧ Dn w w' := by
  have hl := lt_of_cell hk
  have t1 : (r1 != 0) = true := by simpa using h1
  clear h1
  go_enter Tryd.func55, Tryd.ntmps55
  go_wp2_with fail
  obtain ⟨W1, hW1⟩ : ∃ W1, W1 = ((w.alloc (.cells #[.int .i8 i1, .int .i64 d1] 27)).alloc (.cells #[.int .i8 i2, .int .i64 d2] 27)).alloc (.cells #[.int .i8 0, .int .i64 0, .int .i8 0, .int .i64 0] 75) := ⟨_, rfl⟩
  have uW1 : Dn w W1 := by rw [hW1]; exact (((Dn.refl _).alloc _).alloc _).alloc _
  have l2 := Nat.lt_of_lt_of_le hl uW1.size
  have c3 := uW1.cell hk
  clear hl hk
  have c4 : W1.cell? ⟨w.heap.size, 0, none⟩ = some (.int .i8 i1) := by rw [hW1]; simp [go_sem]
  have c5 : W1.cell? ⟨w.heap.size, 1, none⟩ = some (.int .i64 d1) := by rw [hW1]; simp [go_sem]
  have l6 : w.heap.size < W1.heap.size := by rw [hW1]; simp <;> omega
  have c7 : W1.cell? ⟨w.heap.size + 1, 0, none⟩ = some (.int .i8 i2) := by rw [hW1]; simp [go_sem]
  have c8 : W1.cell? ⟨w.heap.size + 1, 1, none⟩ = some (.int .i64 d2) := by rw [hW1]; simp [go_sem]
  have l9 : w.heap.size + 1 < W1.heap.size := by rw [hW1]; simp <;> omega
  have c10 : W1.cell? ⟨w.heap.size + 1 + 1, 0, none⟩ = some (.int .i8 0) := by rw [hW1]; simp [go_sem]
  have c11 : W1.cell? ⟨w.heap.size + 1 + 1, 1, none⟩ = some (.int .i64 0) := by rw [hW1]; simp [go_sem]
  have c12 : W1.cell? ⟨w.heap.size + 1 + 1, 2, none⟩ = some (.int .i8 0) := by rw [hW1]; simp [go_sem]
  have c13 : W1.cell? ⟨w.heap.size + 1 + 1, 3, none⟩ = some (.int .i64 0) := by rw [hW1]; simp [go_sem]
  have l14 : w.heap.size + 1 + 1 < W1.heap.size := by rw [hW1]; simp <;> omega
  have f15 : W1.frozen? ⟨w.heap.size + 1 + 1, 0, none⟩ = false := by rw [hW1]; simp [go_sem]
  have f16 : W1.frozen? ⟨w.heap.size + 1 + 1, 1, none⟩ = false := by rw [hW1]; simp [go_sem]
  have f17 : W1.frozen? ⟨w.heap.size + 1 + 1, 2, none⟩ = false := by rw [hW1]; simp [go_sem]
  have f18 : W1.frozen? ⟨w.heap.size + 1 + 1, 3, none⟩ = false := by rw [hW1]; simp [go_sem]
  rw [← hW1]
  clear hW1
  refine (HA.out _ c3).mono ?_
  rintro e w1 ⟨rfl, qw1⟩
  have l19 := Nat.lt_of_lt_of_le l2 qw1.size
  have c20 := qw1.cell c3
  have l21 := Nat.lt_of_lt_of_le l6 qw1.size
  have c22 := qw1.cell c4
  have c23 := qw1.cell c5
  have l24 := Nat.lt_of_lt_of_le l9 qw1.size
  have c25 := qw1.cell c7
  have c26 := qw1.cell c8
  have f27 := (qw1.frozen (a := ⟨w.heap.size + 1 + 1, 0, none⟩) l14).trans f15
  have f28 := (qw1.frozen (a := ⟨w.heap.size + 1 + 1, 1, none⟩) l14).trans f16
  have f29 := (qw1.frozen (a := ⟨w.heap.size + 1 + 1, 2, none⟩) l14).trans f17
  have f30 := (qw1.frozen (a := ⟨w.heap.size + 1 + 1, 3, none⟩) l14).trans f18
  have l31 := Nat.lt_of_lt_of_le l14 qw1.size
  have c32 := qw1.cell c10
  have c33 := qw1.cell c11
  have c34 := qw1.cell c12
  have c35 := qw1.cell c13
  clear l2 c3 l6 c4 c5 l9 c7 c8 f15 f16 f17 f18 l14 c10 c11 c12 c13
  have uw1 := uW1.trans qw1
  clear qw1 uW1
  go_wp2_with fail
  have hC : C4 w1 (w.heap.size + 1 + 1) (.int .i8 0) (.int .i64 0) (.int .i8 0) (.int .i64 0) := ⟨c32, c33, c34, c35, f27, f28, f29, f30, l31⟩
  have hZ := fun o : Obj => (hC.fill (.int .i8 0) (.int .i64 0) (.int .i8 0) (.int .i64 0)).alloc o
  have z0 := fun o : Obj => (hZ o).c0
  have y0 := fun o : Obj => (hZ o).f0
  have z1 := fun o : Obj => (hZ o).c1
  have y1 := fun o : Obj => (hZ o).f1
  have z2 := fun o : Obj => (hZ o).c2
  have y2 := fun o : Obj => (hZ o).f2
  have z3 := fun o : Obj => (hZ o).c3
  have y3 := fun o : Obj => (hZ o).f3
  exact bodyPost_ret (v := .tuple #[.agg #[.int .i8 0, .int .i64 0, .int .i8 0, .int .i64 0], .int .i64 r1]) (by simp [results, Tryd.results55, go_sem, z0, z1, z2, z3, y0, y1, y2, y3, c32, c33, c34, c35, f27, f28, f29, f30] <;> omega) rfl ⟨rfl, (((((uw1.setCell (by simp <;> omega) _).setCell (by simp <;> omega) _).setCell (by simp <;> omega) _).setCell (by simp <;> omega) _).alloc _)⟩
set_option maxHeartbeats 4000000 in
set_option maxRecDepth 100000 in
theorem rnB_2 (i1 d1 i2 d2 k j1 f1 j2 f2 r1 r2 : Int) (bk : Nat) (HA : Hid (∀ W, W.cell? ⟨bk, 0, none⟩ = some (.int .i64 k) → Calls Tryd.prog 56 #[.agg #[.int .i8 i1, .int .i64 d1], .pointer (some ⟨bk, 0, none⟩)] W fun o w' => o = .returned (.tuple #[.agg #[.int .i8 j1, .int .i64 f1], .int .i64 0]) ∧ Dn W w')) (HB : Hid (∀ W, W.cell? ⟨bk, 0, none⟩ = some (.int .i64 k) → Calls Tryd.prog 56 #[.agg #[.int .i8 i2, .int .i64 d2], .pointer (some ⟨bk, 0, none⟩)] W fun o w' => o = .returned (.tuple #[.agg #[.int .i8 j2, .int .i64 f2], .int .i64 r2]) ∧ Dn W w')) (h1 : r2 ≠ 0) (w : World) (hk : w.cell? ⟨bk, 0, none⟩ = some (.int .i64 k)) :
    Calls Tryd.prog 55 #[.agg #[.int .i8 i1, .int .i64 d1], .agg #[.int .i8 i2, .int .i64 d2], .func (.func 56) #[] #[.pointer (some ⟨bk, 0, none⟩)]] w fun ro w' => ro = .returned (.tuple #[.agg #[.int .i8 0, .int .i64 0, .int .i8 0, .int .i64 0], .int .i64 r2]) ∧ Dn w w' := by
  have hl := lt_of_cell hk
  have t1 : (r2 != 0) = true := by simpa using h1
  clear h1
  go_enter Tryd.func55, Tryd.ntmps55
  go_wp2_with fail
  obtain ⟨W1, hW1⟩ : ∃ W1, W1 = ((w.alloc (.cells #[.int .i8 i1, .int .i64 d1] 27)).alloc (.cells #[.int .i8 i2, .int .i64 d2] 27)).alloc (.cells #[.int .i8 0, .int .i64 0, .int .i8 0, .int .i64 0] 75) := ⟨_, rfl⟩
  have uW1 : Dn w W1 := by rw [hW1]; exact (((Dn.refl _).alloc _).alloc _).alloc _
  have l2 := Nat.lt_of_lt_of_le hl uW1.size
  have c3 := uW1.cell hk
  clear hl hk
  have c4 : W1.cell? ⟨w.heap.size, 0, none⟩ = some (.int .i8 i1) := by rw [hW1]; simp [go_sem]
  have c5 : W1.cell? ⟨w.heap.size, 1, none⟩ = some (.int .i64 d1) := by rw [hW1]; simp [go_sem]
  have l6 : w.heap.size < W1.heap.size := by rw [hW1]; simp <;> omega
  have c7 : W1.cell? ⟨w.heap.size + 1, 0, none⟩ = some (.int .i8 i2) := by rw [hW1]; simp [go_sem]
  have c8 : W1.cell? ⟨w.heap.size + 1, 1, none⟩ = some (.int .i64 d2) := by rw [hW1]; simp [go_sem]
  have l9 : w.heap.size + 1 < W1.heap.size := by rw [hW1]; simp <;> omega
  have c10 : W1.cell? ⟨w.heap.size + 1 + 1, 0, none⟩ = some (.int .i8 0) := by rw [hW1]; simp [go_sem]
  have c11 : W1.cell? ⟨w.heap.size + 1 + 1, 1, none⟩ = some (.int .i64 0) := by rw [hW1]; simp [go_sem]
  have c12 : W1.cell? ⟨w.heap.size + 1 + 1, 2, none⟩ = some (.int .i8 0) := by rw [hW1]; simp [go_sem]
  have c13 : W1.cell? ⟨w.heap.size + 1 + 1, 3, none⟩ = some (.int .i64 0) := by rw [hW1]; simp [go_sem]
  have l14 : w.heap.size + 1 + 1 < W1.heap.size := by rw [hW1]; simp <;> omega
  have f15 : W1.frozen? ⟨w.heap.size + 1 + 1, 0, none⟩ = false := by rw [hW1]; simp [go_sem]
  have f16 : W1.frozen? ⟨w.heap.size + 1 + 1, 1, none⟩ = false := by rw [hW1]; simp [go_sem]
  have f17 : W1.frozen? ⟨w.heap.size + 1 + 1, 2, none⟩ = false := by rw [hW1]; simp [go_sem]
  have f18 : W1.frozen? ⟨w.heap.size + 1 + 1, 3, none⟩ = false := by rw [hW1]; simp [go_sem]
  rw [← hW1]
  clear hW1
  refine (HA.out _ c3).mono ?_
  rintro e w1 ⟨rfl, qw1⟩
  have l19 := Nat.lt_of_lt_of_le l2 qw1.size
  have c20 := qw1.cell c3
  have l21 := Nat.lt_of_lt_of_le l6 qw1.size
  have c22 := qw1.cell c4
  have c23 := qw1.cell c5
  have l24 := Nat.lt_of_lt_of_le l9 qw1.size
  have c25 := qw1.cell c7
  have c26 := qw1.cell c8
  have f27 := (qw1.frozen (a := ⟨w.heap.size + 1 + 1, 0, none⟩) l14).trans f15
  have f28 := (qw1.frozen (a := ⟨w.heap.size + 1 + 1, 1, none⟩) l14).trans f16
  have f29 := (qw1.frozen (a := ⟨w.heap.size + 1 + 1, 2, none⟩) l14).trans f17
  have f30 := (qw1.frozen (a := ⟨w.heap.size + 1 + 1, 3, none⟩) l14).trans f18
  have l31 := Nat.lt_of_lt_of_le l14 qw1.size
  have c32 := qw1.cell c10
  have c33 := qw1.cell c11
  have c34 := qw1.cell c12
  have c35 := qw1.cell c13
  clear l2 c3 l6 c4 c5 l9 c7 c8 f15 f16 f17 f18 l14 c10 c11 c12 c13
  have uw1 := uW1.trans qw1
  clear qw1 uW1
  go_wp2_with fail
  obtain ⟨W36, hW36⟩ : ∃ W36, W36 = w1.alloc (.cells #[.int .i8 j1, .int .i64 f1] 27) := ⟨_, rfl⟩
  have uW36 : Dn w1 W36 := by rw [hW36]; exact (Dn.refl _).alloc _
  have l37 := Nat.lt_of_lt_of_le l19 uW36.size
  have c38 := uW36.cell c20
  have l39 := Nat.lt_of_lt_of_le l21 uW36.size
  have c40 := uW36.cell c22
  have c41 := uW36.cell c23
  have l42 := Nat.lt_of_lt_of_le l24 uW36.size
  have c43 := uW36.cell c25
  have c44 := uW36.cell c26
  have f45 := (uW36.frozen (a := ⟨w.heap.size + 1 + 1, 0, none⟩) l31).trans f27
  have f46 := (uW36.frozen (a := ⟨w.heap.size + 1 + 1, 1, none⟩) l31).trans f28
  have f47 := (uW36.frozen (a := ⟨w.heap.size + 1 + 1, 2, none⟩) l31).trans f29
  have f48 := (uW36.frozen (a := ⟨w.heap.size + 1 + 1, 3, none⟩) l31).trans f30
  have l49 := Nat.lt_of_lt_of_le l31 uW36.size
  have c50 := uW36.cell c32
  have c51 := uW36.cell c33
  have c52 := uW36.cell c34
  have c53 := uW36.cell c35
  clear l19 c20 l21 c22 c23 l24 c25 c26 f27 f28 f29 f30 l31 c32 c33 c34 c35
  have c54 : W36.cell? ⟨w1.heap.size, 0, none⟩ = some (.int .i8 j1) := by rw [hW36]; simp [go_sem]
  have c55 : W36.cell? ⟨w1.heap.size, 1, none⟩ = some (.int .i64 f1) := by rw [hW36]; simp [go_sem]
  have l56 : w1.heap.size < W36.heap.size := by rw [hW36]; simp <;> omega
  rw [← hW36]
  clear hW36
  have vW36 := uw1.trans uW36
  clear uW36 uw1
  refine (HB.out _ c38).mono ?_
  rintro e w2 ⟨rfl, qw2⟩
  have l57 := Nat.lt_of_lt_of_le l37 qw2.size
  have c58 := qw2.cell c38
  have l59 := Nat.lt_of_lt_of_le l39 qw2.size
  have c60 := qw2.cell c40
  have c61 := qw2.cell c41
  have l62 := Nat.lt_of_lt_of_le l42 qw2.size
  have c63 := qw2.cell c43
  have c64 := qw2.cell c44
  have f65 := (qw2.frozen (a := ⟨w.heap.size + 1 + 1, 0, none⟩) l49).trans f45
  have f66 := (qw2.frozen (a := ⟨w.heap.size + 1 + 1, 1, none⟩) l49).trans f46
  have f67 := (qw2.frozen (a := ⟨w.heap.size + 1 + 1, 2, none⟩) l49).trans f47
  have f68 := (qw2.frozen (a := ⟨w.heap.size + 1 + 1, 3, none⟩) l49).trans f48
  have l69 := Nat.lt_of_lt_of_le l49 qw2.size
  have c70 := qw2.cell c50
  have c71 := qw2.cell c51
  have c72 := qw2.cell c52
  have c73 := qw2.cell c53
  have l74 := Nat.lt_of_lt_of_le l56 qw2.size
  have c75 := qw2.cell c54
  have c76 := qw2.cell c55
  clear l37 c38 l39 c40 c41 l42 c43 c44 f45 f46 f47 f48 l49 c50 c51 c52 c53 l56 c54 c55
  have uw2 := vW36.trans qw2
  clear qw2 vW36
  go_wp2_with fail
  have hC : C4 w2 (w.heap.size + 1 + 1) (.int .i8 0) (.int .i64 0) (.int .i8 0) (.int .i64 0) := ⟨c70, c71, c72, c73, f65, f66, f67, f68, l69⟩
  have hZ := fun o : Obj => (hC.fill (.int .i8 0) (.int .i64 0) (.int .i8 0) (.int .i64 0)).alloc o
  have z0 := fun o : Obj => (hZ o).c0
  have y0 := fun o : Obj => (hZ o).f0
  have z1 := fun o : Obj => (hZ o).c1
  have y1 := fun o : Obj => (hZ o).f1
  have z2 := fun o : Obj => (hZ o).c2
  have y2 := fun o : Obj => (hZ o).f2
  have z3 := fun o : Obj => (hZ o).c3
  have y3 := fun o : Obj => (hZ o).f3
  exact bodyPost_ret (v := .tuple #[.agg #[.int .i8 0, .int .i64 0, .int .i8 0, .int .i64 0], .int .i64 r2]) (by simp [results, Tryd.results55, go_sem, z0, z1, z2, z3, y0, y1, y2, y3, c70, c71, c72, c73, f65, f66, f67, f68] <;> omega) rfl ⟨rfl, (((((uw2.setCell (by simp <;> omega) _).setCell (by simp <;> omega) _).setCell (by simp <;> omega) _).setCell (by simp <;> omega) _).alloc _)⟩
set_option maxHeartbeats 4000000 in
set_option maxRecDepth 100000 in
theorem rnB_3 (i1 d1 i2 d2 k j1 f1 j2 f2 r1 r2 : Int) (bk : Nat) (HA : Hid (∀ W, W.cell? ⟨bk, 0, none⟩ = some (.int .i64 k) → Calls Tryd.prog 56 #[.agg #[.int .i8 i1, .int .i64 d1], .pointer (some ⟨bk, 0, none⟩)] W fun o w' => o = .returned (.tuple #[.agg #[.int .i8 j1, .int .i64 f1], .int .i64 0]) ∧ Dn W w')) (HB : Hid (∀ W, W.cell? ⟨bk, 0, none⟩ = some (.int .i64 k) → Calls Tryd.prog 56 #[.agg #[.int .i8 i2, .int .i64 d2], .pointer (some ⟨bk, 0, none⟩)] W fun o w' => o = .returned (.tuple #[.agg #[.int .i8 j2, .int .i64 f2], .int .i64 0]) ∧ Dn W w')) (w : World) (hk : w.cell? ⟨bk, 0, none⟩ = some (.int .i64 k)) :
    Calls Tryd.prog 55 #[.agg #[.int .i8 i1, .int .i64 d1], .agg #[.int .i8 i2, .int .i64 d2], .func (.func 56) #[] #[.pointer (some ⟨bk, 0, none⟩)]] w fun ro w' => ro = .returned (.tuple #[.agg #[.int .i8 j1, .int .i64 f1, .int .i8 j2, .int .i64 f2], .int .i64 0]) ∧ Dn w w' := by
  have hl := lt_of_cell hk
  go_enter Tryd.func55, Tryd.ntmps55
  go_wp2_with fail
  obtain ⟨W1, hW1⟩ : ∃ W1, W1 = ((w.alloc (.cells #[.int .i8 i1, .int .i64 d1] 27)).alloc (.cells #[.int .i8 i2, .int .i64 d2] 27)).alloc (.cells #[.int .i8 0, .int .i64 0, .int .i8 0, .int .i64 0] 75) := ⟨_, rfl⟩
  have uW1 : Dn w W1 := by rw [hW1]; exact (((Dn.refl _).alloc _).alloc _).alloc _
  have l2 := Nat.lt_of_lt_of_le hl uW1.size
  have c3 := uW1.cell hk
  clear hl hk
  have c4 : W1.cell? ⟨w.heap.size, 0, none⟩ = some (.int .i8 i1) := by rw [hW1]; simp [go_sem]
  have c5 : W1.cell? ⟨w.heap.size, 1, none⟩ = some (.int .i64 d1) := by rw [hW1]; simp [go_sem]
  have l6 : w.heap.size < W1.heap.size := by rw [hW1]; simp <;> omega
  have c7 : W1.cell? ⟨w.heap.size + 1, 0, none⟩ = some (.int .i8 i2) := by rw [hW1]; simp [go_sem]
  have c8 : W1.cell? ⟨w.heap.size + 1, 1, none⟩ = some (.int .i64 d2) := by rw [hW1]; simp [go_sem]
  have l9 : w.heap.size + 1 < W1.heap.size := by rw [hW1]; simp <;> omega
  have c10 : W1.cell? ⟨w.heap.size + 1 + 1, 0, none⟩ = some (.int .i8 0) := by rw [hW1]; simp [go_sem]
  have c11 : W1.cell? ⟨w.heap.size + 1 + 1, 1, none⟩ = some (.int .i64 0) := by rw [hW1]; simp [go_sem]
  have c12 : W1.cell? ⟨w.heap.size + 1 + 1, 2, none⟩ = some (.int .i8 0) := by rw [hW1]; simp [go_sem]
  have c13 : W1.cell? ⟨w.heap.size + 1 + 1, 3, none⟩ = some (.int .i64 0) := by rw [hW1]; simp [go_sem]
  have l14 : w.heap.size + 1 + 1 < W1.heap.size := by rw [hW1]; simp <;> omega
  have f15 : W1.frozen? ⟨w.heap.size + 1 + 1, 0, none⟩ = false := by rw [hW1]; simp [go_sem]
  have f16 : W1.frozen? ⟨w.heap.size + 1 + 1, 1, none⟩ = false := by rw [hW1]; simp [go_sem]
  have f17 : W1.frozen? ⟨w.heap.size + 1 + 1, 2, none⟩ = false := by rw [hW1]; simp [go_sem]
  have f18 : W1.frozen? ⟨w.heap.size + 1 + 1, 3, none⟩ = false := by rw [hW1]; simp [go_sem]
  rw [← hW1]
  clear hW1
  refine (HA.out _ c3).mono ?_
  rintro e w1 ⟨rfl, qw1⟩
  have l19 := Nat.lt_of_lt_of_le l2 qw1.size
  have c20 := qw1.cell c3
  have l21 := Nat.lt_of_lt_of_le l6 qw1.size
  have c22 := qw1.cell c4
  have c23 := qw1.cell c5
  have l24 := Nat.lt_of_lt_of_le l9 qw1.size
  have c25 := qw1.cell c7
  have c26 := qw1.cell c8
  have f27 := (qw1.frozen (a := ⟨w.heap.size + 1 + 1, 0, none⟩) l14).trans f15
  have f28 := (qw1.frozen (a := ⟨w.heap.size + 1 + 1, 1, none⟩) l14).trans f16
  have f29 := (qw1.frozen (a := ⟨w.heap.size + 1 + 1, 2, none⟩) l14).trans f17
  have f30 := (qw1.frozen (a := ⟨w.heap.size + 1 + 1, 3, none⟩) l14).trans f18
  have l31 := Nat.lt_of_lt_of_le l14 qw1.size
  have c32 := qw1.cell c10
  have c33 := qw1.cell c11
  have c34 := qw1.cell c12
  have c35 := qw1.cell c13
  clear l2 c3 l6 c4 c5 l9 c7 c8 f15 f16 f17 f18 l14 c10 c11 c12 c13
  have uw1 := uW1.trans qw1
  clear qw1 uW1
  go_wp2_with fail
  obtain ⟨W36, hW36⟩ : ∃ W36, W36 = w1.alloc (.cells #[.int .i8 j1, .int .i64 f1] 27) := ⟨_, rfl⟩
  have uW36 : Dn w1 W36 := by rw [hW36]; exact (Dn.refl _).alloc _
  have l37 := Nat.lt_of_lt_of_le l19 uW36.size
  have c38 := uW36.cell c20
  have l39 := Nat.lt_of_lt_of_le l21 uW36.size
  have c40 := uW36.cell c22
  have c41 := uW36.cell c23
  have l42 := Nat.lt_of_lt_of_le l24 uW36.size
  have c43 := uW36.cell c25
  have c44 := uW36.cell c26
  have f45 := (uW36.frozen (a := ⟨w.heap.size + 1 + 1, 0, none⟩) l31).trans f27
  have f46 := (uW36.frozen (a := ⟨w.heap.size + 1 + 1, 1, none⟩) l31).trans f28
  have f47 := (uW36.frozen (a := ⟨w.heap.size + 1 + 1, 2, none⟩) l31).trans f29
  have f48 := (uW36.frozen (a := ⟨w.heap.size + 1 + 1, 3, none⟩) l31).trans f30
  have l49 := Nat.lt_of_lt_of_le l31 uW36.size
  have c50 := uW36.cell c32
  have c51 := uW36.cell c33
  have c52 := uW36.cell c34
  have c53 := uW36.cell c35
  clear l19 c20 l21 c22 c23 l24 c25 c26 f27 f28 f29 f30 l31 c32 c33 c34 c35
  have c54 : W36.cell? ⟨w1.heap.size, 0, none⟩ = some (.int .i8 j1) := by rw [hW36]; simp [go_sem]
  have c55 : W36.cell? ⟨w1.heap.size, 1, none⟩ = some (.int .i64 f1) := by rw [hW36]; simp [go_sem]
  have l56 : w1.heap.size < W36.heap.size := by rw [hW36]; simp <;> omega
  rw [← hW36]
  clear hW36
  have vW36 := uw1.trans uW36
  clear uW36 uw1
  refine (HB.out _ c38).mono ?_
  rintro e w2 ⟨rfl, qw2⟩
  have l57 := Nat.lt_of_lt_of_le l37 qw2.size
  have c58 := qw2.cell c38
  have l59 := Nat.lt_of_lt_of_le l39 qw2.size
  have c60 := qw2.cell c40
  have c61 := qw2.cell c41
  have l62 := Nat.lt_of_lt_of_le l42 qw2.size
  have c63 := qw2.cell c43
  have c64 := qw2.cell c44
  have f65 := (qw2.frozen (a := ⟨w.heap.size + 1 + 1, 0, none⟩) l49).trans f45
  have f66 := (qw2.frozen (a := ⟨w.heap.size + 1 + 1, 1, none⟩) l49).trans f46
  have f67 := (qw2.frozen (a := ⟨w.heap.size + 1 + 1, 2, none⟩) l49).trans f47
  have f68 := (qw2.frozen (a := ⟨w.heap.size + 1 + 1, 3, none⟩) l49).trans f48
  have l69 := Nat.lt_of_lt_of_le l49 qw2.size
  have c70 := qw2.cell c50
  have c71 := qw2.cell c51
  have c72 := qw2.cell c52
  have c73 := qw2.cell c53
  have l74 := Nat.lt_of_lt_of_le l56 qw2.size
  have c75 := qw2.cell c54
  have c76 := qw2.cell c55
  clear l37 c38 l39 c40 c41 l42 c43 c44 f45 f46 f47 f48 l49 c50 c51 c52 c53 l56 c54 c55
  have uw2 := vW36.trans qw2
  clear qw2 vW36
  go_wp2_with fail
  have hC : C4 w2 (w.heap.size + 1 + 1) (.int .i8 0) (.int .i64 0) (.int .i8 0) (.int .i64 0) := ⟨c70, c71, c72, c73, f65, f66, f67, f68, l69⟩
  have hZ := fun o : Obj => (hC.fill (.int .i8 j1) (.int .i64 f1) (.int .i8 j2) (.int .i64 f2)).alloc o
  have z0 := fun o : Obj => (hZ o).c0
  have y0 := fun o : Obj => (hZ o).f0
  have z1 := fun o : Obj => (hZ o).c1
  have y1 := fun o : Obj => (hZ o).f1
  have z2 := fun o : Obj => (hZ o).c2
  have y2 := fun o : Obj => (hZ o).f2
  have z3 := fun o : Obj => (hZ o).c3
  have y3 := fun o : Obj => (hZ o).f3
  exact bodyPost_ret (v := .tuple #[.agg #[.int .i8 j1, .int .i64 f1, .int .i8 j2, .int .i64 f2], .int .i64 0]) (by simp [results, Tryd.results55, go_sem, z0, z1, z2, z3, y0, y1, y2, y3, c70, c71, c72, c73, f65, f66, f67, f68] <;> omega) rfl ⟨rfl, (((((uw2.setCell (by simp <;> omega) _).setCell (by simp <;> omega) _).setCell (by simp <;> omega) _).setCell (by simp <;> omega) _).alloc _)⟩
set_option maxHeartbeats 4000000 in
set_option maxRecDepth 100000 in
theorem rnSh_bad (a b c d k m : Int) (HC : Hid (ChkIs a b c d m)) (h1 : m ≠ 0) (w : World) :
    Calls Tryd.prog 30 #[.agg #[.int .i8 a, .int .i64 b, .int .i8 c, .int .i64 d], .int .i64 k] w fun ro w' => ro = .returned (.tuple #[.agg #[.int .i8 0, .int .i64 0, .int .i8 0, .int .i64 0], .int .i64 m]) ∧ Dn w w' := by
  have t1 : (m != 0) = true := by simpa using h1
  clear h1
  have hmf : ∀ (fn : Fn) (first cap : Array Value) (w : World), (Instr.makeFunc fn first cap).run Tryd.prog w = .ok (.func fn first cap) w := fun _ _ _ _ => rfl
  go_enter Tryd.func30, Tryd.ntmps30
  go_wp2_with fail
  obtain ⟨W1, hW1⟩ : ∃ W1, W1 = ((w.alloc (.cells #[.int .i8 a, .int .i64 b, .int .i8 c, .int .i64 d] 29)).alloc (.cells #[.int .i64 k] 2)).alloc (.cells #[.int .i8 0, .int .i64 0, .int .i8 0, .int .i64 0] 29) := ⟨_, rfl⟩
  have uW1 : Dn w W1 := by rw [hW1]; exact (((Dn.refl _).alloc _).alloc _).alloc _
  have c2 : W1.cell? ⟨w.heap.size, 0, none⟩ = some (.int .i8 a) := by rw [hW1]; simp [go_sem]
  have c3 : W1.cell? ⟨w.heap.size, 1, none⟩ = some (.int .i64 b) := by rw [hW1]; simp [go_sem]
  have c4 : W1.cell? ⟨w.heap.size, 2, none⟩ = some (.int .i8 c) := by rw [hW1]; simp [go_sem]
  have c5 : W1.cell? ⟨w.heap.size, 3, none⟩ = some (.int .i64 d) := by rw [hW1]; simp [go_sem]
  have l6 : w.heap.size < W1.heap.size := by rw [hW1]; simp <;> omega
  have c7 : W1.cell? ⟨w.heap.size + 1, 0, none⟩ = some (.int .i64 k) := by rw [hW1]; simp [go_sem]
  have l8 : w.heap.size + 1 < W1.heap.size := by rw [hW1]; simp <;> omega
  have c9 : W1.cell? ⟨w.heap.size + 1 + 1, 0, none⟩ = some (.int .i8 0) := by rw [hW1]; simp [go_sem]
  have c10 : W1.cell? ⟨w.heap.size + 1 + 1, 1, none⟩ = some (.int .i64 0) := by rw [hW1]; simp [go_sem]
  have c11 : W1.cell? ⟨w.heap.size + 1 + 1, 2, none⟩ = some (.int .i8 0) := by rw [hW1]; simp [go_sem]
  have c12 : W1.cell? ⟨w.heap.size + 1 + 1, 3, none⟩ = some (.int .i64 0) := by rw [hW1]; simp [go_sem]
  have l13 : w.heap.size + 1 + 1 < W1.heap.size := by rw [hW1]; simp <;> omega
  have f14 : W1.frozen? ⟨w.heap.size + 1 + 1, 0, none⟩ = false := by rw [hW1]; simp [go_sem]
  have f15 : W1.frozen? ⟨w.heap.size + 1 + 1, 1, none⟩ = false := by rw [hW1]; simp [go_sem]
  have f16 : W1.frozen? ⟨w.heap.size + 1 + 1, 2, none⟩ = false := by rw [hW1]; simp [go_sem]
  have f17 : W1.frozen? ⟨w.heap.size + 1 + 1, 3, none⟩ = false := by rw [hW1]; simp [go_sem]
  rw [← hW1]
  clear hW1
  refine (HC.out _).mono ?_
  rintro e w1 ⟨rfl, qw1⟩
  have l18 := Nat.lt_of_lt_of_le l6 qw1.size
  have c19 := qw1.cell c2
  have c20 := qw1.cell c3
  have c21 := qw1.cell c4
  have c22 := qw1.cell c5
  have l23 := Nat.lt_of_lt_of_le l8 qw1.size
  have c24 := qw1.cell c7
  have f25 := (qw1.frozen (a := ⟨w.heap.size + 1 + 1, 0, none⟩) l13).trans f14
  have f26 := (qw1.frozen (a := ⟨w.heap.size + 1 + 1, 1, none⟩) l13).trans f15
  have f27 := (qw1.frozen (a := ⟨w.heap.size + 1 + 1, 2, none⟩) l13).trans f16
  have f28 := (qw1.frozen (a := ⟨w.heap.size + 1 + 1, 3, none⟩) l13).trans f17
  have l29 := Nat.lt_of_lt_of_le l13 qw1.size
  have c30 := qw1.cell c9
  have c31 := qw1.cell c10
  have c32 := qw1.cell c11
  have c33 := qw1.cell c12
  clear l6 c2 c3 c4 c5 l8 c7 f14 f15 f16 f17 l13 c9 c10 c11 c12
  have uw1 := uW1.trans qw1
  clear qw1 uW1
  go_wp2_with fail
  exact bodyPost_ret (v := .tuple #[.agg #[.int .i8 0, .int .i64 0, .int .i8 0, .int .i64 0], .int .i64 m]) (by simp [results, Tryd.results30, go_sem, c19, c20, c21, c22, c24, c30, c31, c32, c33, f25, f26, f27, f28] <;> omega) rfl ⟨rfl, ((((uw1.setCell (by simp <;> omega) _).setCell (by simp <;> omega) _).setCell (by simp <;> omega) _).setCell (by simp <;> omega) _)⟩
set_option maxHeartbeats 4000000 in
set_option maxRecDepth 100000 in
theorem rnSh_any (a b c d k q0 q1 q2 q3 r : Int) (HC : Hid (ChkIs a b c d 0)) (HB : Hid (∀ W B, W.cell? ⟨B, 0, none⟩ = some (.int .i64 k) → Calls Tryd.prog 55 #[.agg #[.int .i8 a, .int .i64 b], .agg #[.int .i8 c, .int .i64 d], .func (.func 56) #[] #[.pointer (some ⟨B, 0, none⟩)]] W fun o w' => o = .returned (.tuple #[.agg #[.int .i8 q0, .int .i64 q1, .int .i8 q2, .int .i64 q3], .int .i64 r]) ∧ Dn W w')) (w : World) :
    Calls Tryd.prog 30 #[.agg #[.int .i8 a, .int .i64 b, .int .i8 c, .int .i64 d], .int .i64 k] w fun ro w' => ro = .returned (.tuple #[.agg #[.int .i8 q0, .int .i64 q1, .int .i8 q2, .int .i64 q3], .int .i64 r]) ∧ Dn w w' := by
  have hmf : ∀ (fn : Fn) (first cap : Array Value) (w : World), (Instr.makeFunc fn first cap).run Tryd.prog w = .ok (.func fn first cap) w := fun _ _ _ _ => rfl
  go_enter Tryd.func30, Tryd.ntmps30
  go_wp2_with fail
  obtain ⟨W1, hW1⟩ : ∃ W1, W1 = ((w.alloc (.cells #[.int .i8 a, .int .i64 b, .int .i8 c, .int .i64 d] 29)).alloc (.cells #[.int .i64 k] 2)).alloc (.cells #[.int .i8 0, .int .i64 0, .int .i8 0, .int .i64 0] 29) := ⟨_, rfl⟩
  have uW1 : Dn w W1 := by rw [hW1]; exact (((Dn.refl _).alloc _).alloc _).alloc _
  have c2 : W1.cell? ⟨w.heap.size, 0, none⟩ = some (.int .i8 a) := by rw [hW1]; simp [go_sem]
  have c3 : W1.cell? ⟨w.heap.size, 1, none⟩ = some (.int .i64 b) := by rw [hW1]; simp [go_sem]
  have c4 : W1.cell? ⟨w.heap.size, 2, none⟩ = some (.int .i8 c) := by rw [hW1]; simp [go_sem]
  have c5 : W1.cell? ⟨w.heap.size, 3, none⟩ = some (.int .i64 d) := by rw [hW1]; simp [go_sem]
  have l6 : w.heap.size < W1.heap.size := by rw [hW1]; simp <;> omega
  have c7 : W1.cell? ⟨w.heap.size + 1, 0, none⟩ = some (.int .i64 k) := by rw [hW1]; simp [go_sem]
  have l8 : w.heap.size + 1 < W1.heap.size := by rw [hW1]; simp <;> omega
  have c9 : W1.cell? ⟨w.heap.size + 1 + 1, 0, none⟩ = some (.int .i8 0) := by rw [hW1]; simp [go_sem]
  have c10 : W1.cell? ⟨w.heap.size + 1 + 1, 1, none⟩ = some (.int .i64 0) := by rw [hW1]; simp [go_sem]
  have c11 : W1.cell? ⟨w.heap.size + 1 + 1, 2, none⟩ = some (.int .i8 0) := by rw [hW1]; simp [go_sem]
  have c12 : W1.cell? ⟨w.heap.size + 1 + 1, 3, none⟩ = some (.int .i64 0) := by rw [hW1]; simp [go_sem]
  have l13 : w.heap.size + 1 + 1 < W1.heap.size := by rw [hW1]; simp <;> omega
  have f14 : W1.frozen? ⟨w.heap.size + 1 + 1, 0, none⟩ = false := by rw [hW1]; simp [go_sem]
  have f15 : W1.frozen? ⟨w.heap.size + 1 + 1, 1, none⟩ = false := by rw [hW1]; simp [go_sem]
  have f16 : W1.frozen? ⟨w.heap.size + 1 + 1, 2, none⟩ = false := by rw [hW1]; simp [go_sem]
  have f17 : W1.frozen? ⟨w.heap.size + 1 + 1, 3, none⟩ = false := by rw [hW1]; simp [go_sem]
  rw [← hW1]
  clear hW1
  refine (HC.out _).mono ?_
  rintro e w1 ⟨rfl, qw1⟩
  have l18 := Nat.lt_of_lt_of_le l6 qw1.size
  have c19 := qw1.cell c2
  have c20 := qw1.cell c3
  have c21 := qw1.cell c4
  have c22 := qw1.cell c5
  have l23 := Nat.lt_of_lt_of_le l8 qw1.size
  have c24 := qw1.cell c7
  have f25 := (qw1.frozen (a := ⟨w.heap.size + 1 + 1, 0, none⟩) l13).trans f14
  have f26 := (qw1.frozen (a := ⟨w.heap.size + 1 + 1, 1, none⟩) l13).trans f15
  have f27 := (qw1.frozen (a := ⟨w.heap.size + 1 + 1, 2, none⟩) l13).trans f16
  have f28 := (qw1.frozen (a := ⟨w.heap.size + 1 + 1, 3, none⟩) l13).trans f17
  have l29 := Nat.lt_of_lt_of_le l13 qw1.size
  have c30 := qw1.cell c9
  have c31 := qw1.cell c10
  have c32 := qw1.cell c11
  have c33 := qw1.cell c12
  clear l6 c2 c3 c4 c5 l8 c7 f14 f15 f16 f17 l13 c9 c10 c11 c12
  have uw1 := uW1.trans qw1
  clear qw1 uW1
  go_wp2_with fail
  refine (HB.out _ _ (by assumption)).mono ?_
  rintro e w2 ⟨rfl, qw2⟩
  have l34 := Nat.lt_of_lt_of_le l18 qw2.size
  have c35 := qw2.cell c19
  have c36 := qw2.cell c20
  have c37 := qw2.cell c21
  have c38 := qw2.cell c22
  have l39 := Nat.lt_of_lt_of_le l23 qw2.size
  have c40 := qw2.cell c24
  have f41 := (qw2.frozen (a := ⟨w.heap.size + 1 + 1, 0, none⟩) l29).trans f25
  have f42 := (qw2.frozen (a := ⟨w.heap.size + 1 + 1, 1, none⟩) l29).trans f26
  have f43 := (qw2.frozen (a := ⟨w.heap.size + 1 + 1, 2, none⟩) l29).trans f27
  have f44 := (qw2.frozen (a := ⟨w.heap.size + 1 + 1, 3, none⟩) l29).trans f28
  have l45 := Nat.lt_of_lt_of_le l29 qw2.size
  have c46 := qw2.cell c30
  have c47 := qw2.cell c31
  have c48 := qw2.cell c32
  have c49 := qw2.cell c33
  clear l18 c19 c20 c21 c22 l23 c24 f25 f26 f27 f28 l29 c30 c31 c32 c33
  have uw2 := uw1.trans qw2
  clear qw2 uw1
  go_wp2_with fail
  have hC : C4 w2 (w.heap.size + 1 + 1) (.int .i8 0) (.int .i64 0) (.int .i8 0) (.int .i64 0) := ⟨c46, c47, c48, c49, f41, f42, f43, f44, l45⟩
  have hZ := fun o : Obj => (hC.fill (.int .i8 q0) (.int .i64 q1) (.int .i8 q2) (.int .i64 q3)).alloc o
  have z0 := fun o : Obj => (hZ o).c0
  have y0 := fun o : Obj => (hZ o).f0
  have z1 := fun o : Obj => (hZ o).c1
  have y1 := fun o : Obj => (hZ o).f1
  have z2 := fun o : Obj => (hZ o).c2
  have y2 := fun o : Obj => (hZ o).f2
  have z3 := fun o : Obj => (hZ o).c3
  have y3 := fun o : Obj => (hZ o).f3
  exact bodyPost_ret (v := .tuple #[.agg #[.int .i8 q0, .int .i64 q1, .int .i8 q2, .int .i64 q3], .int .i64 r]) (by simp [results, Tryd.results30, go_sem, z0, z1, z2, z3, y0, y1, y2, y3, c46, c47, c48, c49, f41, f42, f43, f44] <;> omega) rfl ⟨rfl, (((((uw2.setCell (by simp <;> omega) _).setCell (by simp <;> omega) _).setCell (by simp <;> omega) _).setCell (by simp <;> omega) _).alloc _)⟩
/-- What Shift makes of a run. -/
def ShR (a b c d k q0 q1 q2 q3 r : Int) : Prop :=
  (rnErr a b c d ≠ 0 ∧ q0 = 0 ∧ q1 = 0 ∧ q2 = 0 ∧ q3 = 0 ∧ r = rnErr a b c d) ∨
  (rnErr a b c d = 0 ∧ ∃ j1 f1 r1 j2 f2 r2, Sft a b k j1 f1 r1 ∧ Sft c d k j2 f2 r2 ∧
    ((r1 ≠ 0 ∧ q0 = 0 ∧ q1 = 0 ∧ q2 = 0 ∧ q3 = 0 ∧ r = r1) ∨ (r1 = 0 ∧ r2 ≠ 0 ∧ q0 = 0 ∧ q1 = 0 ∧ q2 = 0 ∧ q3 = 0 ∧ r = r2) ∨ (r1 = 0 ∧ r2 = 0 ∧ q0 = j1 ∧ q1 = f1 ∧ q2 = j2 ∧ q3 = f2 ∧ r = 0)))
theorem rnShift (a b c d k q0 q1 q2 q3 r : Int) (w : World) (hb : I64 b) (hd : I64 d) (hk : I64 k) (h : ShR a b c d k q0 q1 q2 q3 r) :
    Calls Tryd.prog 30 #[.agg #[.int .i8 a, .int .i64 b, .int .i8 c, .int .i64 d], .int .i64 k] w fun ro w' => ro = .returned (.tuple #[.agg #[.int .i8 q0, .int .i64 q1, .int .i8 q2, .int .i64 q3], .int .i64 r]) ∧ Dn w w' := by
  have HC : Hid (ChkIs a b c d (rnErr a b c d)) := Lib.hid (rnChk a b c d)
  rcases h with ⟨h0, rfl, rfl, rfl, rfl, rfl⟩ | ⟨h0, j1, f1, r1, j2, f2, r2, s1, s2, hx⟩
  · exact rnSh_bad a b c d k _ HC h0 w
  · rw [h0] at HC
    have H1 := fun bk => Lib.hid (fun W hc => rnS a b k j1 f1 r1 bk W hb hk s1 hc)
    have H2 := fun bk => Lib.hid (fun W hc => rnS c d k j2 f2 r2 bk W hd hk s2 hc)
    rcases hx with ⟨h1, rfl, rfl, rfl, rfl, rfl⟩ | ⟨rfl, h1, rfl, rfl, rfl, rfl, rfl⟩ | ⟨rfl, rfl, rfl, rfl, rfl, rfl, rfl⟩
    · exact rnSh_any a b c d k _ _ _ _ _ HC (Lib.hid fun W B hc => rnB_1 a b c d k j1 f1 j2 f2 _ 0 B (H1 B) h1 W hc) w
    · exact rnSh_any a b c d k _ _ _ _ _ HC (Lib.hid fun W B hc => rnB_2 a b c d k j1 f1 j2 f2 0 _ B (H1 B) (H2 B) h1 W hc) w
    · exact rnSh_any a b c d k _ _ _ _ _ HC (Lib.hid fun W B hc => rnB_3 a b c d k _ _ _ _ 0 0 B (H1 B) (H2 B) W hc) w
end Go.Proofs.YtcdkeiolblifkaaDoor
