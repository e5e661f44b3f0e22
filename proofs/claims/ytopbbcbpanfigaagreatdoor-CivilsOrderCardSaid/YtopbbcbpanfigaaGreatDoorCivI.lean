/-
  WALKS OF circalaw06: CivilsOrder. (Printed by wip/gen/civ7.py.)
-/
import Derived.Test.YtopbbcbpanfigaaGreatDoorCivF
import Derived.Test.YtopbbcbpanfigaaGreatDoorCivH
namespace Go.Proofs.YtopbbcbpanfigaaGreatDoor
open Go.RowKit
set_option linter.unusedVariables false
set_option linter.unusedSimpArgs false
set_option maxHeartbeats 16000000 in
set_option maxRecDepth 100000 in
theorem od6_e2 (y m d s t u : Int) (N P Q : Int) (hN : -1 ≤ N ∧ N ≤ 1) (h0 : N = 0) (h1 : ¬ 0 < N) (h2 : 0 < P) (HAB : Hid (∀ W, Calls Tryz.prog 32 #[.agg #[.int .i64 y, .int .i64 m, .int .i64 d], .agg #[.int .i64 y, .int .i64 m, .int .i64 d]] W fun o w' => o = .returned (.int .i64 N) ∧ Dn W w')) (HR : Hid (∀ W, Calls Tryz.prog 33 #[.agg #[.int .i64 y, .int .i64 m, .int .i64 d], .agg #[.int .i64 y, .int .i64 m, .int .i64 d]] W fun o w' => o = .returned (.int .i64 N) ∧ Dn W w')) (HBA : Hid (∀ W, Calls Tryz.prog 32 #[.agg #[.int .i64 y, .int .i64 m, .int .i64 d], .agg #[.int .i64 y, .int .i64 m, .int .i64 d]] W fun o w' => o = .returned (.int .i64 (-N)) ∧ Dn W w')) (HBC : Hid (∀ W, Calls Tryz.prog 32 #[.agg #[.int .i64 y, .int .i64 m, .int .i64 d], .agg #[.int .i64 s, .int .i64 t, .int .i64 u]] W fun o w' => o = .returned (.int .i64 P) ∧ Dn W w')) (HAC : Hid (∀ W, Calls Tryz.prog 32 #[.agg #[.int .i64 y, .int .i64 m, .int .i64 d], .agg #[.int .i64 s, .int .i64 t, .int .i64 u]] W fun o w' => o = .returned (.int .i64 Q) ∧ Dn W w')) (w : World) (hE : EnvC w) :
    Calls Tryz.prog 8 #[.agg #[.int .i64 y, .int .i64 m, .int .i64 d], .agg #[.int .i64 y, .int .i64 m, .int .i64 d], .agg #[.int .i64 s, .int .i64 t, .int .i64 u]] w fun ro w' => ro = .returned (.bool true) ∧ Dn w w' := by
  subst h0
  have t2 : decide (0 < P) = true := by simpa using h2
  rw [show -(0 : Int) = 0 from rfl] at HBA
  go_enter Tryz.func8, Tryz.ntmps8
  go_wp2_with fail
  obtain ⟨W1, hW1⟩ : ∃ W1, W1 = ((w.alloc (.cells #[.int .i64 y, .int .i64 m, .int .i64 d] 23)).alloc (.cells #[.int .i64 y, .int .i64 m, .int .i64 d] 23)).alloc (.cells #[.int .i64 s, .int .i64 t, .int .i64 u] 23) := ⟨_, rfl⟩
  have uW1 : Dn w W1 := by rw [hW1]; exact (((Dn.refl _).alloc _).alloc _).alloc _
  have c2 : W1.cell? ⟨w.heap.size, 0, none⟩ = some (.int .i64 y) := by rw [hW1]; simp [go_sem]
  have c3 : W1.cell? ⟨w.heap.size, 1, none⟩ = some (.int .i64 m) := by rw [hW1]; simp [go_sem]
  have c4 : W1.cell? ⟨w.heap.size, 2, none⟩ = some (.int .i64 d) := by rw [hW1]; simp [go_sem]
  have l5 : w.heap.size < W1.heap.size := by rw [hW1]; simp <;> omega
  have c6 : W1.cell? ⟨w.heap.size + 1, 0, none⟩ = some (.int .i64 y) := by rw [hW1]; simp [go_sem]
  have c7 : W1.cell? ⟨w.heap.size + 1, 1, none⟩ = some (.int .i64 m) := by rw [hW1]; simp [go_sem]
  have c8 : W1.cell? ⟨w.heap.size + 1, 2, none⟩ = some (.int .i64 d) := by rw [hW1]; simp [go_sem]
  have l9 : w.heap.size + 1 < W1.heap.size := by rw [hW1]; simp <;> omega
  have c10 : W1.cell? ⟨w.heap.size + 1 + 1, 0, none⟩ = some (.int .i64 s) := by rw [hW1]; simp [go_sem]
  have c11 : W1.cell? ⟨w.heap.size + 1 + 1, 1, none⟩ = some (.int .i64 t) := by rw [hW1]; simp [go_sem]
  have c12 : W1.cell? ⟨w.heap.size + 1 + 1, 2, none⟩ = some (.int .i64 u) := by rw [hW1]; simp [go_sem]
  have l13 : w.heap.size + 1 + 1 < W1.heap.size := by rw [hW1]; simp <;> omega
  rw [← hW1]
  clear hW1
  refine (HAB.out _).mono ?_
  rintro e w1 ⟨rfl, qw1⟩
  have l14 := Nat.lt_of_lt_of_le l5 qw1.size
  have c15 := qw1.cell c2
  have c16 := qw1.cell c3
  have c17 := qw1.cell c4
  have l18 := Nat.lt_of_lt_of_le l9 qw1.size
  have c19 := qw1.cell c6
  have c20 := qw1.cell c7
  have c21 := qw1.cell c8
  have l22 := Nat.lt_of_lt_of_le l13 qw1.size
  have c23 := qw1.cell c10
  have c24 := qw1.cell c11
  have c25 := qw1.cell c12
  clear l5 c2 c3 c4 l9 c6 c7 c8 l13 c10 c11 c12
  have uw1 := uW1.trans qw1
  clear qw1 uW1
  go_wp2_with fail
  refine (HR.out _).mono ?_
  rintro e w2 ⟨rfl, qw2⟩
  have l26 := Nat.lt_of_lt_of_le l14 qw2.size
  have c27 := qw2.cell c15
  have c28 := qw2.cell c16
  have c29 := qw2.cell c17
  have l30 := Nat.lt_of_lt_of_le l18 qw2.size
  have c31 := qw2.cell c19
  have c32 := qw2.cell c20
  have c33 := qw2.cell c21
  have l34 := Nat.lt_of_lt_of_le l22 qw2.size
  have c35 := qw2.cell c23
  have c36 := qw2.cell c24
  have c37 := qw2.cell c25
  clear l14 c15 c16 c17 l18 c19 c20 c21 l22 c23 c24 c25
  have uw2 := uw1.trans qw2
  clear qw2 uw1
  go_wp2_with fail
  refine (HBA.out _).mono ?_
  rintro e w3 ⟨rfl, qw3⟩
  have l38 := Nat.lt_of_lt_of_le l26 qw3.size
  have c39 := qw3.cell c27
  have c40 := qw3.cell c28
  have c41 := qw3.cell c29
  have l42 := Nat.lt_of_lt_of_le l30 qw3.size
  have c43 := qw3.cell c31
  have c44 := qw3.cell c32
  have c45 := qw3.cell c33
  have l46 := Nat.lt_of_lt_of_le l34 qw3.size
  have c47 := qw3.cell c35
  have c48 := qw3.cell c36
  have c49 := qw3.cell c37
  clear l26 c27 c28 c29 l30 c31 c32 c33 l34 c35 c36 c37
  have uw3 := uw2.trans qw3
  clear qw3 uw2
  go_wp2_with fail
  refine (HBC.out _).mono ?_
  rintro e w4 ⟨rfl, qw4⟩
  have l50 := Nat.lt_of_lt_of_le l38 qw4.size
  have c51 := qw4.cell c39
  have c52 := qw4.cell c40
  have c53 := qw4.cell c41
  have l54 := Nat.lt_of_lt_of_le l42 qw4.size
  have c55 := qw4.cell c43
  have c56 := qw4.cell c44
  have c57 := qw4.cell c45
  have l58 := Nat.lt_of_lt_of_le l46 qw4.size
  have c59 := qw4.cell c47
  have c60 := qw4.cell c48
  have c61 := qw4.cell c49
  clear l38 c39 c40 c41 l42 c43 c44 c45 l46 c47 c48 c49
  have uw4 := uw3.trans qw4
  clear qw4 uw3
  go_wp2_with fail
  refine (lives6 _ (hE.dn uw4)).mono ?_
  rintro e w5 ⟨rfl, qw5⟩
  have l62 := Nat.lt_of_lt_of_le l50 qw5.size
  have c63 := qw5.cell c51
  have c64 := qw5.cell c52
  have c65 := qw5.cell c53
  have l66 := Nat.lt_of_lt_of_le l54 qw5.size
  have c67 := qw5.cell c55
  have c68 := qw5.cell c56
  have c69 := qw5.cell c57
  have l70 := Nat.lt_of_lt_of_le l58 qw5.size
  have c71 := qw5.cell c59
  have c72 := qw5.cell c60
  have c73 := qw5.cell c61
  clear l50 c51 c52 c53 l54 c55 c56 c57 l58 c59 c60 c61
  have uw5 := uw4.trans qw5
  clear qw5 uw4
  go_wp2_with fail
  go_ret
  exact ⟨retb (by simp), uw5⟩
set_option maxHeartbeats 16000000 in
set_option maxRecDepth 100000 in
theorem od6_e3 (y m d s t u : Int) (N P Q : Int) (hN : -1 ≤ N ∧ N ≤ 1) (h0 : N = 0) (h1 : ¬ 0 < N) (h2 : ¬ 0 < P) (h3 : Q ≤ 0) (HAB : Hid (∀ W, Calls Tryz.prog 32 #[.agg #[.int .i64 y, .int .i64 m, .int .i64 d], .agg #[.int .i64 y, .int .i64 m, .int .i64 d]] W fun o w' => o = .returned (.int .i64 N) ∧ Dn W w')) (HR : Hid (∀ W, Calls Tryz.prog 33 #[.agg #[.int .i64 y, .int .i64 m, .int .i64 d], .agg #[.int .i64 y, .int .i64 m, .int .i64 d]] W fun o w' => o = .returned (.int .i64 N) ∧ Dn W w')) (HBA : Hid (∀ W, Calls Tryz.prog 32 #[.agg #[.int .i64 y, .int .i64 m, .int .i64 d], .agg #[.int .i64 y, .int .i64 m, .int .i64 d]] W fun o w' => o = .returned (.int .i64 (-N)) ∧ Dn W w')) (HBC : Hid (∀ W, Calls Tryz.prog 32 #[.agg #[.int .i64 y, .int .i64 m, .int .i64 d], .agg #[.int .i64 s, .int .i64 t, .int .i64 u]] W fun o w' => o = .returned (.int .i64 P) ∧ Dn W w')) (HAC : Hid (∀ W, Calls Tryz.prog 32 #[.agg #[.int .i64 y, .int .i64 m, .int .i64 d], .agg #[.int .i64 s, .int .i64 t, .int .i64 u]] W fun o w' => o = .returned (.int .i64 Q) ∧ Dn W w')) (w : World) (hE : EnvC w) :
    Calls Tryz.prog 8 #[.agg #[.int .i64 y, .int .i64 m, .int .i64 d], .agg #[.int .i64 y, .int .i64 m, .int .i64 d], .agg #[.int .i64 s, .int .i64 t, .int .i64 u]] w fun ro w' => ro = .returned (.bool true) ∧ Dn w w' := by
  subst h0
  have t2 : decide (0 < P) = false := by simpa using h2
  have t3 : decide (Q ≤ 0) = true := by simpa using h3
  rw [show -(0 : Int) = 0 from rfl] at HBA
  go_enter Tryz.func8, Tryz.ntmps8
  go_wp2_with fail
  obtain ⟨W1, hW1⟩ : ∃ W1, W1 = ((w.alloc (.cells #[.int .i64 y, .int .i64 m, .int .i64 d] 23)).alloc (.cells #[.int .i64 y, .int .i64 m, .int .i64 d] 23)).alloc (.cells #[.int .i64 s, .int .i64 t, .int .i64 u] 23) := ⟨_, rfl⟩
  have uW1 : Dn w W1 := by rw [hW1]; exact (((Dn.refl _).alloc _).alloc _).alloc _
  have c2 : W1.cell? ⟨w.heap.size, 0, none⟩ = some (.int .i64 y) := by rw [hW1]; simp [go_sem]
  have c3 : W1.cell? ⟨w.heap.size, 1, none⟩ = some (.int .i64 m) := by rw [hW1]; simp [go_sem]
  have c4 : W1.cell? ⟨w.heap.size, 2, none⟩ = some (.int .i64 d) := by rw [hW1]; simp [go_sem]
  have l5 : w.heap.size < W1.heap.size := by rw [hW1]; simp <;> omega
  have c6 : W1.cell? ⟨w.heap.size + 1, 0, none⟩ = some (.int .i64 y) := by rw [hW1]; simp [go_sem]
  have c7 : W1.cell? ⟨w.heap.size + 1, 1, none⟩ = some (.int .i64 m) := by rw [hW1]; simp [go_sem]
  have c8 : W1.cell? ⟨w.heap.size + 1, 2, none⟩ = some (.int .i64 d) := by rw [hW1]; simp [go_sem]
  have l9 : w.heap.size + 1 < W1.heap.size := by rw [hW1]; simp <;> omega
  have c10 : W1.cell? ⟨w.heap.size + 1 + 1, 0, none⟩ = some (.int .i64 s) := by rw [hW1]; simp [go_sem]
  have c11 : W1.cell? ⟨w.heap.size + 1 + 1, 1, none⟩ = some (.int .i64 t) := by rw [hW1]; simp [go_sem]
  have c12 : W1.cell? ⟨w.heap.size + 1 + 1, 2, none⟩ = some (.int .i64 u) := by rw [hW1]; simp [go_sem]
  have l13 : w.heap.size + 1 + 1 < W1.heap.size := by rw [hW1]; simp <;> omega
  rw [← hW1]
  clear hW1
  refine (HAB.out _).mono ?_
  rintro e w1 ⟨rfl, qw1⟩
  have l14 := Nat.lt_of_lt_of_le l5 qw1.size
  have c15 := qw1.cell c2
  have c16 := qw1.cell c3
  have c17 := qw1.cell c4
  have l18 := Nat.lt_of_lt_of_le l9 qw1.size
  have c19 := qw1.cell c6
  have c20 := qw1.cell c7
  have c21 := qw1.cell c8
  have l22 := Nat.lt_of_lt_of_le l13 qw1.size
  have c23 := qw1.cell c10
  have c24 := qw1.cell c11
  have c25 := qw1.cell c12
  clear l5 c2 c3 c4 l9 c6 c7 c8 l13 c10 c11 c12
  have uw1 := uW1.trans qw1
  clear qw1 uW1
  go_wp2_with fail
  refine (HR.out _).mono ?_
  rintro e w2 ⟨rfl, qw2⟩
  have l26 := Nat.lt_of_lt_of_le l14 qw2.size
  have c27 := qw2.cell c15
  have c28 := qw2.cell c16
  have c29 := qw2.cell c17
  have l30 := Nat.lt_of_lt_of_le l18 qw2.size
  have c31 := qw2.cell c19
  have c32 := qw2.cell c20
  have c33 := qw2.cell c21
  have l34 := Nat.lt_of_lt_of_le l22 qw2.size
  have c35 := qw2.cell c23
  have c36 := qw2.cell c24
  have c37 := qw2.cell c25
  clear l14 c15 c16 c17 l18 c19 c20 c21 l22 c23 c24 c25
  have uw2 := uw1.trans qw2
  clear qw2 uw1
  go_wp2_with fail
  refine (HBA.out _).mono ?_
  rintro e w3 ⟨rfl, qw3⟩
  have l38 := Nat.lt_of_lt_of_le l26 qw3.size
  have c39 := qw3.cell c27
  have c40 := qw3.cell c28
  have c41 := qw3.cell c29
  have l42 := Nat.lt_of_lt_of_le l30 qw3.size
  have c43 := qw3.cell c31
  have c44 := qw3.cell c32
  have c45 := qw3.cell c33
  have l46 := Nat.lt_of_lt_of_le l34 qw3.size
  have c47 := qw3.cell c35
  have c48 := qw3.cell c36
  have c49 := qw3.cell c37
  clear l26 c27 c28 c29 l30 c31 c32 c33 l34 c35 c36 c37
  have uw3 := uw2.trans qw3
  clear qw3 uw2
  go_wp2_with fail
  refine (HBC.out _).mono ?_
  rintro e w4 ⟨rfl, qw4⟩
  have l50 := Nat.lt_of_lt_of_le l38 qw4.size
  have c51 := qw4.cell c39
  have c52 := qw4.cell c40
  have c53 := qw4.cell c41
  have l54 := Nat.lt_of_lt_of_le l42 qw4.size
  have c55 := qw4.cell c43
  have c56 := qw4.cell c44
  have c57 := qw4.cell c45
  have l58 := Nat.lt_of_lt_of_le l46 qw4.size
  have c59 := qw4.cell c47
  have c60 := qw4.cell c48
  have c61 := qw4.cell c49
  clear l38 c39 c40 c41 l42 c43 c44 c45 l46 c47 c48 c49
  have uw4 := uw3.trans qw4
  clear qw4 uw3
  go_wp2_with fail
  refine (HAC.out _).mono ?_
  rintro e w5 ⟨rfl, qw5⟩
  have l62 := Nat.lt_of_lt_of_le l50 qw5.size
  have c63 := qw5.cell c51
  have c64 := qw5.cell c52
  have c65 := qw5.cell c53
  have l66 := Nat.lt_of_lt_of_le l54 qw5.size
  have c67 := qw5.cell c55
  have c68 := qw5.cell c56
  have c69 := qw5.cell c57
  have l70 := Nat.lt_of_lt_of_le l58 qw5.size
  have c71 := qw5.cell c59
  have c72 := qw5.cell c60
  have c73 := qw5.cell c61
  clear l50 c51 c52 c53 l54 c55 c56 c57 l58 c59 c60 c61
  have uw5 := uw4.trans qw5
  clear qw5 uw4
  go_wp2_with fail
  refine (lives6 _ (hE.dn uw5)).mono ?_
  rintro e w6 ⟨rfl, qw6⟩
  have l74 := Nat.lt_of_lt_of_le l62 qw6.size
  have c75 := qw6.cell c63
  have c76 := qw6.cell c64
  have c77 := qw6.cell c65
  have l78 := Nat.lt_of_lt_of_le l66 qw6.size
  have c79 := qw6.cell c67
  have c80 := qw6.cell c68
  have c81 := qw6.cell c69
  have l82 := Nat.lt_of_lt_of_le l70 qw6.size
  have c83 := qw6.cell c71
  have c84 := qw6.cell c72
  have c85 := qw6.cell c73
  clear l62 c63 c64 c65 l66 c67 c68 c69 l70 c71 c72 c73
  have uw6 := uw5.trans qw6
  clear qw6 uw5
  go_wp2_with fail
  go_ret
  exact ⟨retb (by simp), uw6⟩
set_option maxHeartbeats 16000000 in
set_option maxRecDepth 100000 in
theorem od6_y1 (y m d z n f s t u : Int) (N P Q : Int) (hN : -1 ≤ N ∧ N ≤ 1) (h0 : N ≠ 0) (hk : ¬ y = z) (h1 : 0 < N) (HAB : Hid (∀ W, Calls Tryz.prog 32 #[.agg #[.int .i64 y, .int .i64 m, .int .i64 d], .agg #[.int .i64 z, .int .i64 n, .int .i64 f]] W fun o w' => o = .returned (.int .i64 N) ∧ Dn W w')) (HR : Hid (∀ W, Calls Tryz.prog 33 #[.agg #[.int .i64 y, .int .i64 m, .int .i64 d], .agg #[.int .i64 z, .int .i64 n, .int .i64 f]] W fun o w' => o = .returned (.int .i64 N) ∧ Dn W w')) (HBA : Hid (∀ W, Calls Tryz.prog 32 #[.agg #[.int .i64 z, .int .i64 n, .int .i64 f], .agg #[.int .i64 y, .int .i64 m, .int .i64 d]] W fun o w' => o = .returned (.int .i64 (-N)) ∧ Dn W w')) (HBC : Hid (∀ W, Calls Tryz.prog 32 #[.agg #[.int .i64 z, .int .i64 n, .int .i64 f], .agg #[.int .i64 s, .int .i64 t, .int .i64 u]] W fun o w' => o = .returned (.int .i64 P) ∧ Dn W w')) (HAC : Hid (∀ W, Calls Tryz.prog 32 #[.agg #[.int .i64 y, .int .i64 m, .int .i64 d], .agg #[.int .i64 s, .int .i64 t, .int .i64 u]] W fun o w' => o = .returned (.int .i64 Q) ∧ Dn W w')) (w : World) (hE : EnvC w) :
    Calls Tryz.prog 8 #[.agg #[.int .i64 y, .int .i64 m, .int .i64 d], .agg #[.int .i64 z, .int .i64 n, .int .i64 f], .agg #[.int .i64 s, .int .i64 t, .int .i64 u]] w fun ro w' => ro = .returned (.bool true) ∧ Dn w w' := by
  have t0 : (N == 0) = false := by simpa using h0
  have k0 : (y == z) = false := by simpa using hk
  have t1 : decide (0 < N) = true := by simpa using h1
  have e0 : IntKind.i64.wrap (-N) = -N := IntWalk.i64_in _ (by omega)
  clear h0 h1
  go_enter Tryz.func8, Tryz.ntmps8
  go_wp2_with fail
  obtain ⟨W1, hW1⟩ : ∃ W1, W1 = ((w.alloc (.cells #[.int .i64 y, .int .i64 m, .int .i64 d] 23)).alloc (.cells #[.int .i64 z, .int .i64 n, .int .i64 f] 23)).alloc (.cells #[.int .i64 s, .int .i64 t, .int .i64 u] 23) := ⟨_, rfl⟩
  have uW1 : Dn w W1 := by rw [hW1]; exact (((Dn.refl _).alloc _).alloc _).alloc _
  have c2 : W1.cell? ⟨w.heap.size, 0, none⟩ = some (.int .i64 y) := by rw [hW1]; simp [go_sem]
  have c3 : W1.cell? ⟨w.heap.size, 1, none⟩ = some (.int .i64 m) := by rw [hW1]; simp [go_sem]
  have c4 : W1.cell? ⟨w.heap.size, 2, none⟩ = some (.int .i64 d) := by rw [hW1]; simp [go_sem]
  have l5 : w.heap.size < W1.heap.size := by rw [hW1]; simp <;> omega
  have c6 : W1.cell? ⟨w.heap.size + 1, 0, none⟩ = some (.int .i64 z) := by rw [hW1]; simp [go_sem]
  have c7 : W1.cell? ⟨w.heap.size + 1, 1, none⟩ = some (.int .i64 n) := by rw [hW1]; simp [go_sem]
  have c8 : W1.cell? ⟨w.heap.size + 1, 2, none⟩ = some (.int .i64 f) := by rw [hW1]; simp [go_sem]
  have l9 : w.heap.size + 1 < W1.heap.size := by rw [hW1]; simp <;> omega
  have c10 : W1.cell? ⟨w.heap.size + 1 + 1, 0, none⟩ = some (.int .i64 s) := by rw [hW1]; simp [go_sem]
  have c11 : W1.cell? ⟨w.heap.size + 1 + 1, 1, none⟩ = some (.int .i64 t) := by rw [hW1]; simp [go_sem]
  have c12 : W1.cell? ⟨w.heap.size + 1 + 1, 2, none⟩ = some (.int .i64 u) := by rw [hW1]; simp [go_sem]
  have l13 : w.heap.size + 1 + 1 < W1.heap.size := by rw [hW1]; simp <;> omega
  rw [← hW1]
  clear hW1
  refine (HAB.out _).mono ?_
  rintro e w1 ⟨rfl, qw1⟩
  have l14 := Nat.lt_of_lt_of_le l5 qw1.size
  have c15 := qw1.cell c2
  have c16 := qw1.cell c3
  have c17 := qw1.cell c4
  have l18 := Nat.lt_of_lt_of_le l9 qw1.size
  have c19 := qw1.cell c6
  have c20 := qw1.cell c7
  have c21 := qw1.cell c8
  have l22 := Nat.lt_of_lt_of_le l13 qw1.size
  have c23 := qw1.cell c10
  have c24 := qw1.cell c11
  have c25 := qw1.cell c12
  clear l5 c2 c3 c4 l9 c6 c7 c8 l13 c10 c11 c12
  have uw1 := uW1.trans qw1
  clear qw1 uW1
  go_wp2_with fail
  refine (HR.out _).mono ?_
  rintro e w2 ⟨rfl, qw2⟩
  have l26 := Nat.lt_of_lt_of_le l14 qw2.size
  have c27 := qw2.cell c15
  have c28 := qw2.cell c16
  have c29 := qw2.cell c17
  have l30 := Nat.lt_of_lt_of_le l18 qw2.size
  have c31 := qw2.cell c19
  have c32 := qw2.cell c20
  have c33 := qw2.cell c21
  have l34 := Nat.lt_of_lt_of_le l22 qw2.size
  have c35 := qw2.cell c23
  have c36 := qw2.cell c24
  have c37 := qw2.cell c25
  clear l14 c15 c16 c17 l18 c19 c20 c21 l22 c23 c24 c25
  have uw2 := uw1.trans qw2
  clear qw2 uw1
  go_wp2_with fail
  refine (HBA.out _).mono ?_
  rintro e w3 ⟨rfl, qw3⟩
  have l38 := Nat.lt_of_lt_of_le l26 qw3.size
  have c39 := qw3.cell c27
  have c40 := qw3.cell c28
  have c41 := qw3.cell c29
  have l42 := Nat.lt_of_lt_of_le l30 qw3.size
  have c43 := qw3.cell c31
  have c44 := qw3.cell c32
  have c45 := qw3.cell c33
  have l46 := Nat.lt_of_lt_of_le l34 qw3.size
  have c47 := qw3.cell c35
  have c48 := qw3.cell c36
  have c49 := qw3.cell c37
  clear l26 c27 c28 c29 l30 c31 c32 c33 l34 c35 c36 c37
  have uw3 := uw2.trans qw3
  clear qw3 uw2
  go_wp2_with fail
  refine (lives6 _ (hE.dn uw3)).mono ?_
  rintro e w4 ⟨rfl, qw4⟩
  have l50 := Nat.lt_of_lt_of_le l38 qw4.size
  have c51 := qw4.cell c39
  have c52 := qw4.cell c40
  have c53 := qw4.cell c41
  have l54 := Nat.lt_of_lt_of_le l42 qw4.size
  have c55 := qw4.cell c43
  have c56 := qw4.cell c44
  have c57 := qw4.cell c45
  have l58 := Nat.lt_of_lt_of_le l46 qw4.size
  have c59 := qw4.cell c47
  have c60 := qw4.cell c48
  have c61 := qw4.cell c49
  clear l38 c39 c40 c41 l42 c43 c44 c45 l46 c47 c48 c49
  have uw4 := uw3.trans qw4
  clear qw4 uw3
  go_wp2_with fail
  go_ret
  exact ⟨retb (by simp), uw4⟩
set_option maxHeartbeats 16000000 in
set_option maxRecDepth 100000 in
theorem od6_y2 (y m d z n f s t u : Int) (N P Q : Int) (hN : -1 ≤ N ∧ N ≤ 1) (h0 : N ≠ 0) (hk : ¬ y = z) (h1 : ¬ 0 < N) (h2 : 0 < P) (HAB : Hid (∀ W, Calls Tryz.prog 32 #[.agg #[.int .i64 y, .int .i64 m, .int .i64 d], .agg #[.int .i64 z, .int .i64 n, .int .i64 f]] W fun o w' => o = .returned (.int .i64 N) ∧ Dn W w')) (HR : Hid (∀ W, Calls Tryz.prog 33 #[.agg #[.int .i64 y, .int .i64 m, .int .i64 d], .agg #[.int .i64 z, .int .i64 n, .int .i64 f]] W fun o w' => o = .returned (.int .i64 N) ∧ Dn W w')) (HBA : Hid (∀ W, Calls Tryz.prog 32 #[.agg #[.int .i64 z, .int .i64 n, .int .i64 f], .agg #[.int .i64 y, .int .i64 m, .int .i64 d]] W fun o w' => o = .returned (.int .i64 (-N)) ∧ Dn W w')) (HBC : Hid (∀ W, Calls Tryz.prog 32 #[.agg #[.int .i64 z, .int .i64 n, .int .i64 f], .agg #[.int .i64 s, .int .i64 t, .int .i64 u]] W fun o w' => o = .returned (.int .i64 P) ∧ Dn W w')) (HAC : Hid (∀ W, Calls Tryz.prog 32 #[.agg #[.int .i64 y, .int .i64 m, .int .i64 d], .agg #[.int .i64 s, .int .i64 t, .int .i64 u]] W fun o w' => o = .returned (.int .i64 Q) ∧ Dn W w')) (w : World) (hE : EnvC w) :
    Calls Tryz.prog 8 #[.agg #[.int .i64 y, .int .i64 m, .int .i64 d], .agg #[.int .i64 z, .int .i64 n, .int .i64 f], .agg #[.int .i64 s, .int .i64 t, .int .i64 u]] w fun ro w' => ro = .returned (.bool true) ∧ Dn w w' := by
  have t0 : (N == 0) = false := by simpa using h0
  have k0 : (y == z) = false := by simpa using hk
  have t1 : decide (0 < N) = false := by simpa using h1
  have t2 : decide (0 < P) = true := by simpa using h2
  have e0 : IntKind.i64.wrap (-N) = -N := IntWalk.i64_in _ (by omega)
  clear h0 h1 h2
  go_enter Tryz.func8, Tryz.ntmps8
  go_wp2_with fail
  obtain ⟨W1, hW1⟩ : ∃ W1, W1 = ((w.alloc (.cells #[.int .i64 y, .int .i64 m, .int .i64 d] 23)).alloc (.cells #[.int .i64 z, .int .i64 n, .int .i64 f] 23)).alloc (.cells #[.int .i64 s, .int .i64 t, .int .i64 u] 23) := ⟨_, rfl⟩
  have uW1 : Dn w W1 := by rw [hW1]; exact (((Dn.refl _).alloc _).alloc _).alloc _
  have c2 : W1.cell? ⟨w.heap.size, 0, none⟩ = some (.int .i64 y) := by rw [hW1]; simp [go_sem]
  have c3 : W1.cell? ⟨w.heap.size, 1, none⟩ = some (.int .i64 m) := by rw [hW1]; simp [go_sem]
  have c4 : W1.cell? ⟨w.heap.size, 2, none⟩ = some (.int .i64 d) := by rw [hW1]; simp [go_sem]
  have l5 : w.heap.size < W1.heap.size := by rw [hW1]; simp <;> omega
  have c6 : W1.cell? ⟨w.heap.size + 1, 0, none⟩ = some (.int .i64 z) := by rw [hW1]; simp [go_sem]
  have c7 : W1.cell? ⟨w.heap.size + 1, 1, none⟩ = some (.int .i64 n) := by rw [hW1]; simp [go_sem]
  have c8 : W1.cell? ⟨w.heap.size + 1, 2, none⟩ = some (.int .i64 f) := by rw [hW1]; simp [go_sem]
  have l9 : w.heap.size + 1 < W1.heap.size := by rw [hW1]; simp <;> omega
  have c10 : W1.cell? ⟨w.heap.size + 1 + 1, 0, none⟩ = some (.int .i64 s) := by rw [hW1]; simp [go_sem]
  have c11 : W1.cell? ⟨w.heap.size + 1 + 1, 1, none⟩ = some (.int .i64 t) := by rw [hW1]; simp [go_sem]
  have c12 : W1.cell? ⟨w.heap.size + 1 + 1, 2, none⟩ = some (.int .i64 u) := by rw [hW1]; simp [go_sem]
  have l13 : w.heap.size + 1 + 1 < W1.heap.size := by rw [hW1]; simp <;> omega
  rw [← hW1]
  clear hW1
  refine (HAB.out _).mono ?_
  rintro e w1 ⟨rfl, qw1⟩
  have l14 := Nat.lt_of_lt_of_le l5 qw1.size
  have c15 := qw1.cell c2
  have c16 := qw1.cell c3
  have c17 := qw1.cell c4
  have l18 := Nat.lt_of_lt_of_le l9 qw1.size
  have c19 := qw1.cell c6
  have c20 := qw1.cell c7
  have c21 := qw1.cell c8
  have l22 := Nat.lt_of_lt_of_le l13 qw1.size
  have c23 := qw1.cell c10
  have c24 := qw1.cell c11
  have c25 := qw1.cell c12
  clear l5 c2 c3 c4 l9 c6 c7 c8 l13 c10 c11 c12
  have uw1 := uW1.trans qw1
  clear qw1 uW1
  go_wp2_with fail
  refine (HR.out _).mono ?_
  rintro e w2 ⟨rfl, qw2⟩
  have l26 := Nat.lt_of_lt_of_le l14 qw2.size
  have c27 := qw2.cell c15
  have c28 := qw2.cell c16
  have c29 := qw2.cell c17
  have l30 := Nat.lt_of_lt_of_le l18 qw2.size
  have c31 := qw2.cell c19
  have c32 := qw2.cell c20
  have c33 := qw2.cell c21
  have l34 := Nat.lt_of_lt_of_le l22 qw2.size
  have c35 := qw2.cell c23
  have c36 := qw2.cell c24
  have c37 := qw2.cell c25
  clear l14 c15 c16 c17 l18 c19 c20 c21 l22 c23 c24 c25
  have uw2 := uw1.trans qw2
  clear qw2 uw1
  go_wp2_with fail
  refine (HBA.out _).mono ?_
  rintro e w3 ⟨rfl, qw3⟩
  have l38 := Nat.lt_of_lt_of_le l26 qw3.size
  have c39 := qw3.cell c27
  have c40 := qw3.cell c28
  have c41 := qw3.cell c29
  have l42 := Nat.lt_of_lt_of_le l30 qw3.size
  have c43 := qw3.cell c31
  have c44 := qw3.cell c32
  have c45 := qw3.cell c33
  have l46 := Nat.lt_of_lt_of_le l34 qw3.size
  have c47 := qw3.cell c35
  have c48 := qw3.cell c36
  have c49 := qw3.cell c37
  clear l26 c27 c28 c29 l30 c31 c32 c33 l34 c35 c36 c37
  have uw3 := uw2.trans qw3
  clear qw3 uw2
  go_wp2_with fail
  refine (HBC.out _).mono ?_
  rintro e w4 ⟨rfl, qw4⟩
  have l50 := Nat.lt_of_lt_of_le l38 qw4.size
  have c51 := qw4.cell c39
  have c52 := qw4.cell c40
  have c53 := qw4.cell c41
  have l54 := Nat.lt_of_lt_of_le l42 qw4.size
  have c55 := qw4.cell c43
  have c56 := qw4.cell c44
  have c57 := qw4.cell c45
  have l58 := Nat.lt_of_lt_of_le l46 qw4.size
  have c59 := qw4.cell c47
  have c60 := qw4.cell c48
  have c61 := qw4.cell c49
  clear l38 c39 c40 c41 l42 c43 c44 c45 l46 c47 c48 c49
  have uw4 := uw3.trans qw4
  clear qw4 uw3
  go_wp2_with fail
  refine (lives6 _ (hE.dn uw4)).mono ?_
  rintro e w5 ⟨rfl, qw5⟩
  have l62 := Nat.lt_of_lt_of_le l50 qw5.size
  have c63 := qw5.cell c51
  have c64 := qw5.cell c52
  have c65 := qw5.cell c53
  have l66 := Nat.lt_of_lt_of_le l54 qw5.size
  have c67 := qw5.cell c55
  have c68 := qw5.cell c56
  have c69 := qw5.cell c57
  have l70 := Nat.lt_of_lt_of_le l58 qw5.size
  have c71 := qw5.cell c59
  have c72 := qw5.cell c60
  have c73 := qw5.cell c61
  clear l50 c51 c52 c53 l54 c55 c56 c57 l58 c59 c60 c61
  have uw5 := uw4.trans qw5
  clear qw5 uw4
  go_wp2_with fail
  go_ret
  exact ⟨retb (by simp), uw5⟩
set_option maxHeartbeats 16000000 in
set_option maxRecDepth 100000 in
theorem od6_y3 (y m d z n f s t u : Int) (N P Q : Int) (hN : -1 ≤ N ∧ N ≤ 1) (h0 : N ≠ 0) (hk : ¬ y = z) (h1 : ¬ 0 < N) (h2 : ¬ 0 < P) (h3 : Q ≤ 0) (HAB : Hid (∀ W, Calls Tryz.prog 32 #[.agg #[.int .i64 y, .int .i64 m, .int .i64 d], .agg #[.int .i64 z, .int .i64 n, .int .i64 f]] W fun o w' => o = .returned (.int .i64 N) ∧ Dn W w')) (HR : Hid (∀ W, Calls Tryz.prog 33 #[.agg #[.int .i64 y, .int .i64 m, .int .i64 d], .agg #[.int .i64 z, .int .i64 n, .int .i64 f]] W fun o w' => o = .returned (.int .i64 N) ∧ Dn W w')) (HBA : Hid (∀ W, Calls Tryz.prog 32 #[.agg #[.int .i64 z, .int .i64 n, .int .i64 f], .agg #[.int .i64 y, .int .i64 m, .int .i64 d]] W fun o w' => o = .returned (.int .i64 (-N)) ∧ Dn W w')) (HBC : Hid (∀ W, Calls Tryz.prog 32 #[.agg #[.int .i64 z, .int .i64 n, .int .i64 f], .agg #[.int .i64 s, .int .i64 t, .int .i64 u]] W fun o w' => o = .returned (.int .i64 P) ∧ Dn W w')) (HAC : Hid (∀ W, Calls Tryz.prog 32 #[.agg #[.int .i64 y, .int .i64 m, .int .i64 d], .agg #[.int .i64 s, .int .i64 t, .int .i64 u]] W fun o w' => o = .returned (.int .i64 Q) ∧ Dn W w')) (w : World) (hE : EnvC w) :
    Calls Tryz.prog 8 #[.agg #[.int .i64 y, .int .i64 m, .int .i64 d], .agg #[.int .i64 z, .int .i64 n, .int .i64 f], .agg #[.int .i64 s, .int .i64 t, .int .i64 u]] w fun ro w' => ro = .returned (.bool true) ∧ Dn w w' := by
  have t0 : (N == 0) = false := by simpa using h0
  have k0 : (y == z) = false := by simpa using hk
  have t1 : decide (0 < N) = false := by simpa using h1
  have t2 : decide (0 < P) = false := by simpa using h2
  have t3 : decide (Q ≤ 0) = true := by simpa using h3
  have e0 : IntKind.i64.wrap (-N) = -N := IntWalk.i64_in _ (by omega)
  clear h0 h1 h2 h3
  go_enter Tryz.func8, Tryz.ntmps8
  go_wp2_with fail
  obtain ⟨W1, hW1⟩ : ∃ W1, W1 = ((w.alloc (.cells #[.int .i64 y, .int .i64 m, .int .i64 d] 23)).alloc (.cells #[.int .i64 z, .int .i64 n, .int .i64 f] 23)).alloc (.cells #[.int .i64 s, .int .i64 t, .int .i64 u] 23) := ⟨_, rfl⟩
  have uW1 : Dn w W1 := by rw [hW1]; exact (((Dn.refl _).alloc _).alloc _).alloc _
  have c2 : W1.cell? ⟨w.heap.size, 0, none⟩ = some (.int .i64 y) := by rw [hW1]; simp [go_sem]
  have c3 : W1.cell? ⟨w.heap.size, 1, none⟩ = some (.int .i64 m) := by rw [hW1]; simp [go_sem]
  have c4 : W1.cell? ⟨w.heap.size, 2, none⟩ = some (.int .i64 d) := by rw [hW1]; simp [go_sem]
  have l5 : w.heap.size < W1.heap.size := by rw [hW1]; simp <;> omega
  have c6 : W1.cell? ⟨w.heap.size + 1, 0, none⟩ = some (.int .i64 z) := by rw [hW1]; simp [go_sem]
  have c7 : W1.cell? ⟨w.heap.size + 1, 1, none⟩ = some (.int .i64 n) := by rw [hW1]; simp [go_sem]
  have c8 : W1.cell? ⟨w.heap.size + 1, 2, none⟩ = some (.int .i64 f) := by rw [hW1]; simp [go_sem]
  have l9 : w.heap.size + 1 < W1.heap.size := by rw [hW1]; simp <;> omega
  have c10 : W1.cell? ⟨w.heap.size + 1 + 1, 0, none⟩ = some (.int .i64 s) := by rw [hW1]; simp [go_sem]
  have c11 : W1.cell? ⟨w.heap.size + 1 + 1, 1, none⟩ = some (.int .i64 t) := by rw [hW1]; simp [go_sem]
  have c12 : W1.cell? ⟨w.heap.size + 1 + 1, 2, none⟩ = some (.int .i64 u) := by rw [hW1]; simp [go_sem]
  have l13 : w.heap.size + 1 + 1 < W1.heap.size := by rw [hW1]; simp <;> omega
  rw [← hW1]
  clear hW1
  refine (HAB.out _).mono ?_
  rintro e w1 ⟨rfl, qw1⟩
  have l14 := Nat.lt_of_lt_of_le l5 qw1.size
  have c15 := qw1.cell c2
  have c16 := qw1.cell c3
  have c17 := qw1.cell c4
  have l18 := Nat.lt_of_lt_of_le l9 qw1.size
  have c19 := qw1.cell c6
  have c20 := qw1.cell c7
  have c21 := qw1.cell c8
  have l22 := Nat.lt_of_lt_of_le l13 qw1.size
  have c23 := qw1.cell c10
  have c24 := qw1.cell c11
  have c25 := qw1.cell c12
  clear l5 c2 c3 c4 l9 c6 c7 c8 l13 c10 c11 c12
  have uw1 := uW1.trans qw1
  clear qw1 uW1
  go_wp2_with fail
  refine (HR.out _).mono ?_
  rintro e w2 ⟨rfl, qw2⟩
  have l26 := Nat.lt_of_lt_of_le l14 qw2.size
  have c27 := qw2.cell c15
  have c28 := qw2.cell c16
  have c29 := qw2.cell c17
  have l30 := Nat.lt_of_lt_of_le l18 qw2.size
  have c31 := qw2.cell c19
  have c32 := qw2.cell c20
  have c33 := qw2.cell c21
  have l34 := Nat.lt_of_lt_of_le l22 qw2.size
  have c35 := qw2.cell c23
  have c36 := qw2.cell c24
  have c37 := qw2.cell c25
  clear l14 c15 c16 c17 l18 c19 c20 c21 l22 c23 c24 c25
  have uw2 := uw1.trans qw2
  clear qw2 uw1
  go_wp2_with fail
  refine (HBA.out _).mono ?_
  rintro e w3 ⟨rfl, qw3⟩
  have l38 := Nat.lt_of_lt_of_le l26 qw3.size
  have c39 := qw3.cell c27
  have c40 := qw3.cell c28
  have c41 := qw3.cell c29
  have l42 := Nat.lt_of_lt_of_le l30 qw3.size
  have c43 := qw3.cell c31
  have c44 := qw3.cell c32
  have c45 := qw3.cell c33
  have l46 := Nat.lt_of_lt_of_le l34 qw3.size
  have c47 := qw3.cell c35
  have c48 := qw3.cell c36
  have c49 := qw3.cell c37
  clear l26 c27 c28 c29 l30 c31 c32 c33 l34 c35 c36 c37
  have uw3 := uw2.trans qw3
  clear qw3 uw2
  go_wp2_with fail
  refine (HBC.out _).mono ?_
  rintro e w4 ⟨rfl, qw4⟩
  have l50 := Nat.lt_of_lt_of_le l38 qw4.size
  have c51 := qw4.cell c39
  have c52 := qw4.cell c40
  have c53 := qw4.cell c41
  have l54 := Nat.lt_of_lt_of_le l42 qw4.size
  have c55 := qw4.cell c43
  have c56 := qw4.cell c44
  have c57 := qw4.cell c45
  have l58 := Nat.lt_of_lt_of_le l46 qw4.size
  have c59 := qw4.cell c47
  have c60 := qw4.cell c48
  have c61 := qw4.cell c49
  clear l38 c39 c40 c41 l42 c43 c44 c45 l46 c47 c48 c49
  have uw4 := uw3.trans qw4
  clear qw4 uw3
  go_wp2_with fail
  refine (HAC.out _).mono ?_
  rintro e w5 ⟨rfl, qw5⟩
  have l62 := Nat.lt_of_lt_of_le l50 qw5.size
  have c63 := qw5.cell c51
  have c64 := qw5.cell c52
  have c65 := qw5.cell c53
  have l66 := Nat.lt_of_lt_of_le l54 qw5.size
  have c67 := qw5.cell c55
  have c68 := qw5.cell c56
  have c69 := qw5.cell c57
  have l70 := Nat.lt_of_lt_of_le l58 qw5.size
  have c71 := qw5.cell c59
  have c72 := qw5.cell c60
  have c73 := qw5.cell c61
  clear l50 c51 c52 c53 l54 c55 c56 c57 l58 c59 c60 c61
  have uw5 := uw4.trans qw5
  clear qw5 uw4
  go_wp2_with fail
  refine (lives6 _ (hE.dn uw5)).mono ?_
  rintro e w6 ⟨rfl, qw6⟩
  have l74 := Nat.lt_of_lt_of_le l62 qw6.size
  have c75 := qw6.cell c63
  have c76 := qw6.cell c64
  have c77 := qw6.cell c65
  have l78 := Nat.lt_of_lt_of_le l66 qw6.size
  have c79 := qw6.cell c67
  have c80 := qw6.cell c68
  have c81 := qw6.cell c69
  have l82 := Nat.lt_of_lt_of_le l70 qw6.size
  have c83 := qw6.cell c71
  have c84 := qw6.cell c72
  have c85 := qw6.cell c73
  clear l62 c63 c64 c65 l66 c67 c68 c69 l70 c71 c72 c73
  have uw6 := uw5.trans qw6
  clear qw6 uw5
  go_wp2_with fail
  go_ret
  exact ⟨retb (by simp), uw6⟩
set_option maxHeartbeats 16000000 in
set_option maxRecDepth 100000 in
theorem od6_m1 (y m d n f s t u : Int) (N P Q : Int) (hN : -1 ≤ N ∧ N ≤ 1) (h0 : N ≠ 0) (hk : ¬ m = n) (h1 : 0 < N) (HAB : Hid (∀ W, Calls Tryz.prog 32 #[.agg #[.int .i64 y, .int .i64 m, .int .i64 d], .agg #[.int .i64 y, .int .i64 n, .int .i64 f]] W fun o w' => o = .returned (.int .i64 N) ∧ Dn W w')) (HR : Hid (∀ W, Calls Tryz.prog 33 #[.agg #[.int .i64 y, .int .i64 m, .int .i64 d], .agg #[.int .i64 y, .int .i64 n, .int .i64 f]] W fun o w' => o = .returned (.int .i64 N) ∧ Dn W w')) (HBA : Hid (∀ W, Calls Tryz.prog 32 #[.agg #[.int .i64 y, .int .i64 n, .int .i64 f], .agg #[.int .i64 y, .int .i64 m, .int .i64 d]] W fun o w' => o = .returned (.int .i64 (-N)) ∧ Dn W w')) (HBC : Hid (∀ W, Calls Tryz.prog 32 #[.agg #[.int .i64 y, .int .i64 n, .int .i64 f], .agg #[.int .i64 s, .int .i64 t, .int .i64 u]] W fun o w' => o = .returned (.int .i64 P) ∧ Dn W w')) (HAC : Hid (∀ W, Calls Tryz.prog 32 #[.agg #[.int .i64 y, .int .i64 m, .int .i64 d], .agg #[.int .i64 s, .int .i64 t, .int .i64 u]] W fun o w' => o = .returned (.int .i64 Q) ∧ Dn W w')) (w : World) (hE : EnvC w) :
    Calls Tryz.prog 8 #[.agg #[.int .i64 y, .int .i64 m, .int .i64 d], .agg #[.int .i64 y, .int .i64 n, .int .i64 f], .agg #[.int .i64 s, .int .i64 t, .int .i64 u]] w fun ro w' => ro = .returned (.bool true) ∧ Dn w w' := by
  have t0 : (N == 0) = false := by simpa using h0
  have k0 : (m == n) = false := by simpa using hk
  have t1 : decide (0 < N) = true := by simpa using h1
  have e0 : IntKind.i64.wrap (-N) = -N := IntWalk.i64_in _ (by omega)
  clear h0 h1
  go_enter Tryz.func8, Tryz.ntmps8
  go_wp2_with fail
  obtain ⟨W1, hW1⟩ : ∃ W1, W1 = ((w.alloc (.cells #[.int .i64 y, .int .i64 m, .int .i64 d] 23)).alloc (.cells #[.int .i64 y, .int .i64 n, .int .i64 f] 23)).alloc (.cells #[.int .i64 s, .int .i64 t, .int .i64 u] 23) := ⟨_, rfl⟩
  have uW1 : Dn w W1 := by rw [hW1]; exact (((Dn.refl _).alloc _).alloc _).alloc _
  have c2 : W1.cell? ⟨w.heap.size, 0, none⟩ = some (.int .i64 y) := by rw [hW1]; simp [go_sem]
  have c3 : W1.cell? ⟨w.heap.size, 1, none⟩ = some (.int .i64 m) := by rw [hW1]; simp [go_sem]
  have c4 : W1.cell? ⟨w.heap.size, 2, none⟩ = some (.int .i64 d) := by rw [hW1]; simp [go_sem]
  have l5 : w.heap.size < W1.heap.size := by rw [hW1]; simp <;> omega
  have c6 : W1.cell? ⟨w.heap.size + 1, 0, none⟩ = some (.int .i64 y) := by rw [hW1]; simp [go_sem]
  have c7 : W1.cell? ⟨w.heap.size + 1, 1, none⟩ = some (.int .i64 n) := by rw [hW1]; simp [go_sem]
  have c8 : W1.cell? ⟨w.heap.size + 1, 2, none⟩ = some (.int .i64 f) := by rw [hW1]; simp [go_sem]
  have l9 : w.heap.size + 1 < W1.heap.size := by rw [hW1]; simp <;> omega
  have c10 : W1.cell? ⟨w.heap.size + 1 + 1, 0, none⟩ = some (.int .i64 s) := by rw [hW1]; simp [go_sem]
  have c11 : W1.cell? ⟨w.heap.size + 1 + 1, 1, none⟩ = some (.int .i64 t) := by rw [hW1]; simp [go_sem]
  have c12 : W1.cell? ⟨w.heap.size + 1 + 1, 2, none⟩ = some (.int .i64 u) := by rw [hW1]; simp [go_sem]
  have l13 : w.heap.size + 1 + 1 < W1.heap.size := by rw [hW1]; simp <;> omega
  rw [← hW1]
  clear hW1
  refine (HAB.out _).mono ?_
  rintro e w1 ⟨rfl, qw1⟩
  have l14 := Nat.lt_of_lt_of_le l5 qw1.size
  have c15 := qw1.cell c2
  have c16 := qw1.cell c3
  have c17 := qw1.cell c4
  have l18 := Nat.lt_of_lt_of_le l9 qw1.size
  have c19 := qw1.cell c6
  have c20 := qw1.cell c7
  have c21 := qw1.cell c8
  have l22 := Nat.lt_of_lt_of_le l13 qw1.size
  have c23 := qw1.cell c10
  have c24 := qw1.cell c11
  have c25 := qw1.cell c12
  clear l5 c2 c3 c4 l9 c6 c7 c8 l13 c10 c11 c12
  have uw1 := uW1.trans qw1
  clear qw1 uW1
  go_wp2_with fail
  refine (HR.out _).mono ?_
  rintro e w2 ⟨rfl, qw2⟩
  have l26 := Nat.lt_of_lt_of_le l14 qw2.size
  have c27 := qw2.cell c15
  have c28 := qw2.cell c16
  have c29 := qw2.cell c17
  have l30 := Nat.lt_of_lt_of_le l18 qw2.size
  have c31 := qw2.cell c19
  have c32 := qw2.cell c20
  have c33 := qw2.cell c21
  have l34 := Nat.lt_of_lt_of_le l22 qw2.size
  have c35 := qw2.cell c23
  have c36 := qw2.cell c24
  have c37 := qw2.cell c25
  clear l14 c15 c16 c17 l18 c19 c20 c21 l22 c23 c24 c25
  have uw2 := uw1.trans qw2
  clear qw2 uw1
  go_wp2_with fail
  refine (HBA.out _).mono ?_
  rintro e w3 ⟨rfl, qw3⟩
  have l38 := Nat.lt_of_lt_of_le l26 qw3.size
  have c39 := qw3.cell c27
  have c40 := qw3.cell c28
  have c41 := qw3.cell c29
  have l42 := Nat.lt_of_lt_of_le l30 qw3.size
  have c43 := qw3.cell c31
  have c44 := qw3.cell c32
  have c45 := qw3.cell c33
  have l46 := Nat.lt_of_lt_of_le l34 qw3.size
  have c47 := qw3.cell c35
  have c48 := qw3.cell c36
  have c49 := qw3.cell c37
  clear l26 c27 c28 c29 l30 c31 c32 c33 l34 c35 c36 c37
  have uw3 := uw2.trans qw3
  clear qw3 uw2
  go_wp2_with fail
  refine (lives6 _ (hE.dn uw3)).mono ?_
  rintro e w4 ⟨rfl, qw4⟩
  have l50 := Nat.lt_of_lt_of_le l38 qw4.size
  have c51 := qw4.cell c39
  have c52 := qw4.cell c40
  have c53 := qw4.cell c41
  have l54 := Nat.lt_of_lt_of_le l42 qw4.size
  have c55 := qw4.cell c43
  have c56 := qw4.cell c44
  have c57 := qw4.cell c45
  have l58 := Nat.lt_of_lt_of_le l46 qw4.size
  have c59 := qw4.cell c47
  have c60 := qw4.cell c48
  have c61 := qw4.cell c49
  clear l38 c39 c40 c41 l42 c43 c44 c45 l46 c47 c48 c49
  have uw4 := uw3.trans qw4
  clear qw4 uw3
  go_wp2_with fail
  go_ret
  exact ⟨retb (by simp), uw4⟩
set_option maxHeartbeats 16000000 in
set_option maxRecDepth 100000 in
theorem od6_m2 (y m d n f s t u : Int) (N P Q : Int) (hN : -1 ≤ N ∧ N ≤ 1) (h0 : N ≠ 0) (hk : ¬ m = n) (h1 : ¬ 0 < N) (h2 : 0 < P) (HAB : Hid (∀ W, Calls Tryz.prog 32 #[.agg #[.int .i64 y, .int .i64 m, .int .i64 d], .agg #[.int .i64 y, .int .i64 n, .int .i64 f]] W fun o w' => o = .returned (.int .i64 N) ∧ Dn W w')) (HR : Hid (∀ W, Calls Tryz.prog 33 #[.agg #[.int .i64 y, .int .i64 m, .int .i64 d], .agg #[.int .i64 y, .int .i64 n, .int .i64 f]] W fun o w' => o = .returned (.int .i64 N) ∧ Dn W w')) (HBA : Hid (∀ W, Calls Tryz.prog 32 #[.agg #[.int .i64 y, .int .i64 n, .int .i64 f], .agg #[.int .i64 y, .int .i64 m, .int .i64 d]] W fun o w' => o = .returned (.int .i64 (-N)) ∧ Dn W w')) (HBC : Hid (∀ W, Calls Tryz.prog 32 #[.agg #[.int .i64 y, .int .i64 n, .int .i64 f], .agg #[.int .i64 s, .int .i64 t, .int .i64 u]] W fun o w' => o = .returned (.int .i64 P) ∧ Dn W w')) (HAC : Hid (∀ W, Calls Tryz.prog 32 #[.agg #[.int .i64 y, .int .i64 m, .int .i64 d], .agg #[.int .i64 s, .int .i64 t, .int .i64 u]] W fun o w' => o = .returned (.int .i64 Q) ∧ Dn W w')) (w : World) (hE : EnvC w) :
    Calls Tryz.prog 8 #[.agg #[.int .i64 y, .int .i64 m, .int .i64 d], .agg #[.int .i64 y, .int .i64 n, .int .i64 f], .agg #[.int .i64 s, .int .i64 t, .int .i64 u]] w fun ro w' => ro = .returned (.bool true) ∧ Dn w w' := by
  have t0 : (N == 0) = false := by simpa using h0
  have k0 : (m == n) = false := by simpa using hk
  have t1 : decide (0 < N) = false := by simpa using h1
  have t2 : decide (0 < P) = true := by simpa using h2
  have e0 : IntKind.i64.wrap (-N) = -N := IntWalk.i64_in _ (by omega)
  clear h0 h1 h2
  go_enter Tryz.func8, Tryz.ntmps8
  go_wp2_with fail
  obtain ⟨W1, hW1⟩ : ∃ W1, W1 = ((w.alloc (.cells #[.int .i64 y, .int .i64 m, .int .i64 d] 23)).alloc (.cells #[.int .i64 y, .int .i64 n, .int .i64 f] 23)).alloc (.cells #[.int .i64 s, .int .i64 t, .int .i64 u] 23) := ⟨_, rfl⟩
  have uW1 : Dn w W1 := by rw [hW1]; exact (((Dn.refl _).alloc _).alloc _).alloc _
  have c2 : W1.cell? ⟨w.heap.size, 0, none⟩ = some (.int .i64 y) := by rw [hW1]; simp [go_sem]
  have c3 : W1.cell? ⟨w.heap.size, 1, none⟩ = some (.int .i64 m) := by rw [hW1]; simp [go_sem]
  have c4 : W1.cell? ⟨w.heap.size, 2, none⟩ = some (.int .i64 d) := by rw [hW1]; simp [go_sem]
  have l5 : w.heap.size < W1.heap.size := by rw [hW1]; simp <;> omega
  have c6 : W1.cell? ⟨w.heap.size + 1, 0, none⟩ = some (.int .i64 y) := by rw [hW1]; simp [go_sem]
  have c7 : W1.cell? ⟨w.heap.size + 1, 1, none⟩ = some (.int .i64 n) := by rw [hW1]; simp [go_sem]
  have c8 : W1.cell? ⟨w.heap.size + 1, 2, none⟩ = some (.int .i64 f) := by rw [hW1]; simp [go_sem]
  have l9 : w.heap.size + 1 < W1.heap.size := by rw [hW1]; simp <;> omega
  have c10 : W1.cell? ⟨w.heap.size + 1 + 1, 0, none⟩ = some (.int .i64 s) := by rw [hW1]; simp [go_sem]
  have c11 : W1.cell? ⟨w.heap.size + 1 + 1, 1, none⟩ = some (.int .i64 t) := by rw [hW1]; simp [go_sem]
  have c12 : W1.cell? ⟨w.heap.size + 1 + 1, 2, none⟩ = some (.int .i64 u) := by rw [hW1]; simp [go_sem]
  have l13 : w.heap.size + 1 + 1 < W1.heap.size := by rw [hW1]; simp <;> omega
  rw [← hW1]
  clear hW1
  refine (HAB.out _).mono ?_
  rintro e w1 ⟨rfl, qw1⟩
  have l14 := Nat.lt_of_lt_of_le l5 qw1.size
  have c15 := qw1.cell c2
  have c16 := qw1.cell c3
  have c17 := qw1.cell c4
  have l18 := Nat.lt_of_lt_of_le l9 qw1.size
  have c19 := qw1.cell c6
  have c20 := qw1.cell c7
  have c21 := qw1.cell c8
  have l22 := Nat.lt_of_lt_of_le l13 qw1.size
  have c23 := qw1.cell c10
  have c24 := qw1.cell c11
  have c25 := qw1.cell c12
  clear l5 c2 c3 c4 l9 c6 c7 c8 l13 c10 c11 c12
  have uw1 := uW1.trans qw1
  clear qw1 uW1
  go_wp2_with fail
  refine (HR.out _).mono ?_
  rintro e w2 ⟨rfl, qw2⟩
  have l26 := Nat.lt_of_lt_of_le l14 qw2.size
  have c27 := qw2.cell c15
  have c28 := qw2.cell c16
  have c29 := qw2.cell c17
  have l30 := Nat.lt_of_lt_of_le l18 qw2.size
  have c31 := qw2.cell c19
  have c32 := qw2.cell c20
  have c33 := qw2.cell c21
  have l34 := Nat.lt_of_lt_of_le l22 qw2.size
  have c35 := qw2.cell c23
  have c36 := qw2.cell c24
  have c37 := qw2.cell c25
  clear l14 c15 c16 c17 l18 c19 c20 c21 l22 c23 c24 c25
  have uw2 := uw1.trans qw2
  clear qw2 uw1
  go_wp2_with fail
  refine (HBA.out _).mono ?_
  rintro e w3 ⟨rfl, qw3⟩
  have l38 := Nat.lt_of_lt_of_le l26 qw3.size
  have c39 := qw3.cell c27
  have c40 := qw3.cell c28
  have c41 := qw3.cell c29
  have l42 := Nat.lt_of_lt_of_le l30 qw3.size
  have c43 := qw3.cell c31
  have c44 := qw3.cell c32
  have c45 := qw3.cell c33
  have l46 := Nat.lt_of_lt_of_le l34 qw3.size
  have c47 := qw3.cell c35
  have c48 := qw3.cell c36
  have c49 := qw3.cell c37
  clear l26 c27 c28 c29 l30 c31 c32 c33 l34 c35 c36 c37
  have uw3 := uw2.trans qw3
  clear qw3 uw2
  go_wp2_with fail
  refine (HBC.out _).mono ?_
  rintro e w4 ⟨rfl, qw4⟩
  have l50 := Nat.lt_of_lt_of_le l38 qw4.size
  have c51 := qw4.cell c39
  have c52 := qw4.cell c40
  have c53 := qw4.cell c41
  have l54 := Nat.lt_of_lt_of_le l42 qw4.size
  have c55 := qw4.cell c43
  have c56 := qw4.cell c44
  have c57 := qw4.cell c45
  have l58 := Nat.lt_of_lt_of_le l46 qw4.size
  have c59 := qw4.cell c47
  have c60 := qw4.cell c48
  have c61 := qw4.cell c49
  clear l38 c39 c40 c41 l42 c43 c44 c45 l46 c47 c48 c49
  have uw4 := uw3.trans qw4
  clear qw4 uw3
  go_wp2_with fail
  refine (lives6 _ (hE.dn uw4)).mono ?_
  rintro e w5 ⟨rfl, qw5⟩
  have l62 := Nat.lt_of_lt_of_le l50 qw5.size
  have c63 := qw5.cell c51
  have c64 := qw5.cell c52
  have c65 := qw5.cell c53
  have l66 := Nat.lt_of_lt_of_le l54 qw5.size
  have c67 := qw5.cell c55
  have c68 := qw5.cell c56
  have c69 := qw5.cell c57
  have l70 := Nat.lt_of_lt_of_le l58 qw5.size
  have c71 := qw5.cell c59
  have c72 := qw5.cell c60
  have c73 := qw5.cell c61
  clear l50 c51 c52 c53 l54 c55 c56 c57 l58 c59 c60 c61
  have uw5 := uw4.trans qw5
  clear qw5 uw4
  go_wp2_with fail
  go_ret
  exact ⟨retb (by simp), uw5⟩
set_option maxHeartbeats 16000000 in
set_option maxRecDepth 100000 in
theorem od6_m3 (y m d n f s t u : Int) (N P Q : Int) (hN : -1 ≤ N ∧ N ≤ 1) (h0 : N ≠ 0) (hk : ¬ m = n) (h1 : ¬ 0 < N) (h2 : ¬ 0 < P) (h3 : Q ≤ 0) (HAB : Hid (∀ W, Calls Tryz.prog 32 #[.agg #[.int .i64 y, .int .i64 m, .int .i64 d], .agg #[.int .i64 y, .int .i64 n, .int .i64 f]] W fun o w' => o = .returned (.int .i64 N) ∧ Dn W w')) (HR : Hid (∀ W, Calls Tryz.prog 33 #[.agg #[.int .i64 y, .int .i64 m, .int .i64 d], .agg #[.int .i64 y, .int .i64 n, .int .i64 f]] W fun o w' => o = .returned (.int .i64 N) ∧ Dn W w')) (HBA : Hid (∀ W, Calls Tryz.prog 32 #[.agg #[.int .i64 y, .int .i64 n, .int .i64 f], .agg #[.int .i64 y, .int .i64 m, .int .i64 d]] W fun o w' => o = .returned (.int .i64 (-N)) ∧ Dn W w')) (HBC : Hid (∀ W, Calls Tryz.prog 32 #[.agg #[.int .i64 y, .int .i64 n, .int .i64 f], .agg #[.int .i64 s, .int .i64 t, .int .i64 u]] W fun o w' => o = .returned (.int .i64 P) ∧ Dn W w')) (HAC : Hid (∀ W, Calls Tryz.prog 32 #[.agg #[.int .i64 y, .int .i64 m, .int .i64 d], .agg #[.int .i64 s, .int .i64 t, .int .i64 u]] W fun o w' => o = .returned (.int .i64 Q) ∧ Dn W w')) (w : World) (hE : EnvC w) :
    Calls Tryz.prog 8 #[.agg #[.int .i64 y, .int .i64 m, .int .i64 d], .agg #[.int .i64 y, .int .i64 n, .int .i64 f], .agg #[.int .i64 s, .int .i64 t, .int .i64 u]] w fun ro w' => ro = .returned (.bool true) ∧ Dn w w' := by
  have t0 : (N == 0) = false := by simpa using h0
  have k0 : (m == n) = false := by simpa using hk
  have t1 : decide (0 < N) = false := by simpa using h1
  have t2 : decide (0 < P) = false := by simpa using h2
  have t3 : decide (Q ≤ 0) = true := by simpa using h3
  have e0 : IntKind.i64.wrap (-N) = -N := IntWalk.i64_in _ (by omega)
  clear h0 h1 h2 h3
  go_enter Tryz.func8, Tryz.ntmps8
  go_wp2_with fail
  obtain ⟨W1, hW1⟩ : ∃ W1, W1 = ((w.alloc (.cells #[.int .i64 y, .int .i64 m, .int .i64 d] 23)).alloc (.cells #[.int .i64 y, .int .i64 n, .int .i64 f] 23)).alloc (.cells #[.int .i64 s, .int .i64 t, .int .i64 u] 23) := ⟨_, rfl⟩
  have uW1 : Dn w W1 := by rw [hW1]; exact (((Dn.refl _).alloc _).alloc _).alloc _
  have c2 : W1.cell? ⟨w.heap.size, 0, none⟩ = some (.int .i64 y) := by rw [hW1]; simp [go_sem]
  have c3 : W1.cell? ⟨w.heap.size, 1, none⟩ = some (.int .i64 m) := by rw [hW1]; simp [go_sem]
  have c4 : W1.cell? ⟨w.heap.size, 2, none⟩ = some (.int .i64 d) := by rw [hW1]; simp [go_sem]
  have l5 : w.heap.size < W1.heap.size := by rw [hW1]; simp <;> omega
  have c6 : W1.cell? ⟨w.heap.size + 1, 0, none⟩ = some (.int .i64 y) := by rw [hW1]; simp [go_sem]
  have c7 : W1.cell? ⟨w.heap.size + 1, 1, none⟩ = some (.int .i64 n) := by rw [hW1]; simp [go_sem]
  have c8 : W1.cell? ⟨w.heap.size + 1, 2, none⟩ = some (.int .i64 f) := by rw [hW1]; simp [go_sem]
  have l9 : w.heap.size + 1 < W1.heap.size := by rw [hW1]; simp <;> omega
  have c10 : W1.cell? ⟨w.heap.size + 1 + 1, 0, none⟩ = some (.int .i64 s) := by rw [hW1]; simp [go_sem]
  have c11 : W1.cell? ⟨w.heap.size + 1 + 1, 1, none⟩ = some (.int .i64 t) := by rw [hW1]; simp [go_sem]
  have c12 : W1.cell? ⟨w.heap.size + 1 + 1, 2, none⟩ = some (.int .i64 u) := by rw [hW1]; simp [go_sem]
  have l13 : w.heap.size + 1 + 1 < W1.heap.size := by rw [hW1]; simp <;> omega
  rw [← hW1]
  clear hW1
  refine (HAB.out _).mono ?_
  rintro e w1 ⟨rfl, qw1⟩
  have l14 := Nat.lt_of_lt_of_le l5 qw1.size
  have c15 := qw1.cell c2
  have c16 := qw1.cell c3
  have c17 := qw1.cell c4
  have l18 := Nat.lt_of_lt_of_le l9 qw1.size
  have c19 := qw1.cell c6
  have c20 := qw1.cell c7
  have c21 := qw1.cell c8
  have l22 := Nat.lt_of_lt_of_le l13 qw1.size
  have c23 := qw1.cell c10
  have c24 := qw1.cell c11
  have c25 := qw1.cell c12
  clear l5 c2 c3 c4 l9 c6 c7 c8 l13 c10 c11 c12
  have uw1 := uW1.trans qw1
  clear qw1 uW1
  go_wp2_with fail
  refine (HR.out _).mono ?_
  rintro e w2 ⟨rfl, qw2⟩
  have l26 := Nat.lt_of_lt_of_le l14 qw2.size
  have c27 := qw2.cell c15
  have c28 := qw2.cell c16
  have c29 := qw2.cell c17
  have l30 := Nat.lt_of_lt_of_le l18 qw2.size
  have c31 := qw2.cell c19
  have c32 := qw2.cell c20
  have c33 := qw2.cell c21
  have l34 := Nat.lt_of_lt_of_le l22 qw2.size
  have c35 := qw2.cell c23
  have c36 := qw2.cell c24
  have c37 := qw2.cell c25
  clear l14 c15 c16 c17 l18 c19 c20 c21 l22 c23 c24 c25
  have uw2 := uw1.trans qw2
  clear qw2 uw1
  go_wp2_with fail
  refine (HBA.out _).mono ?_
  rintro e w3 ⟨rfl, qw3⟩
  have l38 := Nat.lt_of_lt_of_le l26 qw3.size
  have c39 := qw3.cell c27
  have c40 := qw3.cell c28
  have c41 := qw3.cell c29
  have l42 := Nat.lt_of_lt_of_le l30 qw3.size
  have c43 := qw3.cell c31
  have c44 := qw3.cell c32
  have c45 := qw3.cell c33
  have l46 := Nat.lt_of_lt_of_le l34 qw3.size
  have c47 := qw3.cell c35
  have c48 := qw3.cell c36
  have c49 := qw3.cell c37
  clear l26 c27 c28 c29 l30 c31 c32 c33 l34 c35 c36 c37
  have uw3 := uw2.trans qw3
  clear qw3 uw2
  go_wp2_with fail
  refine (HBC.out _).mono ?_
  rintro e w4 ⟨rfl, qw4⟩
  have l50 := Nat.lt_of_lt_of_le l38 qw4.size
  have c51 := qw4.cell c39
  have c52 := qw4.cell c40
  have c53 := qw4.cell c41
  have l54 := Nat.lt_of_lt_of_le l42 qw4.size
  have c55 := qw4.cell c43
  have c56 := qw4.cell c44
  have c57 := qw4.cell c45
  have l58 := Nat.lt_of_lt_of_le l46 qw4.size
  have c59 := qw4.cell c47
  have c60 := qw4.cell c48
  have c61 := qw4.cell c49
  clear l38 c39 c40 c41 l42 c43 c44 c45 l46 c47 c48 c49
  have uw4 := uw3.trans qw4
  clear qw4 uw3
  go_wp2_with fail
  refine (HAC.out _).mono ?_
  rintro e w5 ⟨rfl, qw5⟩
  have l62 := Nat.lt_of_lt_of_le l50 qw5.size
  have c63 := qw5.cell c51
  have c64 := qw5.cell c52
  have c65 := qw5.cell c53
  have l66 := Nat.lt_of_lt_of_le l54 qw5.size
  have c67 := qw5.cell c55
  have c68 := qw5.cell c56
  have c69 := qw5.cell c57
  have l70 := Nat.lt_of_lt_of_le l58 qw5.size
  have c71 := qw5.cell c59
  have c72 := qw5.cell c60
  have c73 := qw5.cell c61
  clear l50 c51 c52 c53 l54 c55 c56 c57 l58 c59 c60 c61
  have uw5 := uw4.trans qw5
  clear qw5 uw4
  go_wp2_with fail
  refine (lives6 _ (hE.dn uw5)).mono ?_
  rintro e w6 ⟨rfl, qw6⟩
  have l74 := Nat.lt_of_lt_of_le l62 qw6.size
  have c75 := qw6.cell c63
  have c76 := qw6.cell c64
  have c77 := qw6.cell c65
  have l78 := Nat.lt_of_lt_of_le l66 qw6.size
  have c79 := qw6.cell c67
  have c80 := qw6.cell c68
  have c81 := qw6.cell c69
  have l82 := Nat.lt_of_lt_of_le l70 qw6.size
  have c83 := qw6.cell c71
  have c84 := qw6.cell c72
  have c85 := qw6.cell c73
  clear l62 c63 c64 c65 l66 c67 c68 c69 l70 c71 c72 c73
  have uw6 := uw5.trans qw6
  clear qw6 uw5
  go_wp2_with fail
  go_ret
  exact ⟨retb (by simp), uw6⟩
set_option maxHeartbeats 16000000 in
set_option maxRecDepth 100000 in
theorem od6_d1 (y m d f s t u : Int) (N P Q : Int) (hN : -1 ≤ N ∧ N ≤ 1) (h0 : N ≠ 0) (hk : ¬ d = f) (h1 : 0 < N) (HAB : Hid (∀ W, Calls Tryz.prog 32 #[.agg #[.int .i64 y, .int .i64 m, .int .i64 d], .agg #[.int .i64 y, .int .i64 m, .int .i64 f]] W fun o w' => o = .returned (.int .i64 N) ∧ Dn W w')) (HR : Hid (∀ W, Calls Tryz.prog 33 #[.agg #[.int .i64 y, .int .i64 m, .int .i64 d], .agg #[.int .i64 y, .int .i64 m, .int .i64 f]] W fun o w' => o = .returned (.int .i64 N) ∧ Dn W w')) (HBA : Hid (∀ W, Calls Tryz.prog 32 #[.agg #[.int .i64 y, .int .i64 m, .int .i64 f], .agg #[.int .i64 y, .int .i64 m, .int .i64 d]] W fun o w' => o = .returned (.int .i64 (-N)) ∧ Dn W w')) (HBC : Hid (∀ W, Calls Tryz.prog 32 #[.agg #[.int .i64 y, .int .i64 m, .int .i64 f], .agg #[.int .i64 s, .int .i64 t, .int .i64 u]] W fun o w' => o = .returned (.int .i64 P) ∧ Dn W w')) (HAC : Hid (∀ W, Calls Tryz.prog 32 #[.agg #[.int .i64 y, .int .i64 m, .int .i64 d], .agg #[.int .i64 s, .int .i64 t, .int .i64 u]] W fun o w' => o = .returned (.int .i64 Q) ∧ Dn W w')) (w : World) (hE : EnvC w) :
    Calls Tryz.prog 8 #[.agg #[.int .i64 y, .int .i64 m, .int .i64 d], .agg #[.int .i64 y, .int .i64 m, .int .i64 f], .agg #[.int .i64 s, .int .i64 t, .int .i64 u]] w fun ro w' => ro = .returned (.bool true) ∧ Dn w w' := by
  have t0 : (N == 0) = false := by simpa using h0
  have k0 : (d == f) = false := by simpa using hk
  have t1 : decide (0 < N) = true := by simpa using h1
  have e0 : IntKind.i64.wrap (-N) = -N := IntWalk.i64_in _ (by omega)
  clear h0 h1
  go_enter Tryz.func8, Tryz.ntmps8
  go_wp2_with fail
  obtain ⟨W1, hW1⟩ : ∃ W1, W1 = ((w.alloc (.cells #[.int .i64 y, .int .i64 m, .int .i64 d] 23)).alloc (.cells #[.int .i64 y, .int .i64 m, .int .i64 f] 23)).alloc (.cells #[.int .i64 s, .int .i64 t, .int .i64 u] 23) := ⟨_, rfl⟩
  have uW1 : Dn w W1 := by rw [hW1]; exact (((Dn.refl _).alloc _).alloc _).alloc _
  have c2 : W1.cell? ⟨w.heap.size, 0, none⟩ = some (.int .i64 y) := by rw [hW1]; simp [go_sem]
  have c3 : W1.cell? ⟨w.heap.size, 1, none⟩ = some (.int .i64 m) := by rw [hW1]; simp [go_sem]
  have c4 : W1.cell? ⟨w.heap.size, 2, none⟩ = some (.int .i64 d) := by rw [hW1]; simp [go_sem]
  have l5 : w.heap.size < W1.heap.size := by rw [hW1]; simp <;> omega
  have c6 : W1.cell? ⟨w.heap.size + 1, 0, none⟩ = some (.int .i64 y) := by rw [hW1]; simp [go_sem]
  have c7 : W1.cell? ⟨w.heap.size + 1, 1, none⟩ = some (.int .i64 m) := by rw [hW1]; simp [go_sem]
  have c8 : W1.cell? ⟨w.heap.size + 1, 2, none⟩ = some (.int .i64 f) := by rw [hW1]; simp [go_sem]
  have l9 : w.heap.size + 1 < W1.heap.size := by rw [hW1]; simp <;> omega
  have c10 : W1.cell? ⟨w.heap.size + 1 + 1, 0, none⟩ = some (.int .i64 s) := by rw [hW1]; simp [go_sem]
  have c11 : W1.cell? ⟨w.heap.size + 1 + 1, 1, none⟩ = some (.int .i64 t) := by rw [hW1]; simp [go_sem]
  have c12 : W1.cell? ⟨w.heap.size + 1 + 1, 2, none⟩ = some (.int .i64 u) := by rw [hW1]; simp [go_sem]
  have l13 : w.heap.size + 1 + 1 < W1.heap.size := by rw [hW1]; simp <;> omega
  rw [← hW1]
  clear hW1
  refine (HAB.out _).mono ?_
  rintro e w1 ⟨rfl, qw1⟩
  have l14 := Nat.lt_of_lt_of_le l5 qw1.size
  have c15 := qw1.cell c2
  have c16 := qw1.cell c3
  have c17 := qw1.cell c4
  have l18 := Nat.lt_of_lt_of_le l9 qw1.size
  have c19 := qw1.cell c6
  have c20 := qw1.cell c7
  have c21 := qw1.cell c8
  have l22 := Nat.lt_of_lt_of_le l13 qw1.size
  have c23 := qw1.cell c10
  have c24 := qw1.cell c11
  have c25 := qw1.cell c12
  clear l5 c2 c3 c4 l9 c6 c7 c8 l13 c10 c11 c12
  have uw1 := uW1.trans qw1
  clear qw1 uW1
  go_wp2_with fail
  refine (HR.out _).mono ?_
  rintro e w2 ⟨rfl, qw2⟩
  have l26 := Nat.lt_of_lt_of_le l14 qw2.size
  have c27 := qw2.cell c15
  have c28 := qw2.cell c16
  have c29 := qw2.cell c17
  have l30 := Nat.lt_of_lt_of_le l18 qw2.size
  have c31 := qw2.cell c19
  have c32 := qw2.cell c20
  have c33 := qw2.cell c21
  have l34 := Nat.lt_of_lt_of_le l22 qw2.size
  have c35 := qw2.cell c23
  have c36 := qw2.cell c24
  have c37 := qw2.cell c25
  clear l14 c15 c16 c17 l18 c19 c20 c21 l22 c23 c24 c25
  have uw2 := uw1.trans qw2
  clear qw2 uw1
  go_wp2_with fail
  refine (HBA.out _).mono ?_
  rintro e w3 ⟨rfl, qw3⟩
  have l38 := Nat.lt_of_lt_of_le l26 qw3.size
  have c39 := qw3.cell c27
  have c40 := qw3.cell c28
  have c41 := qw3.cell c29
  have l42 := Nat.lt_of_lt_of_le l30 qw3.size
  have c43 := qw3.cell c31
  have c44 := qw3.cell c32
  have c45 := qw3.cell c33
  have l46 := Nat.lt_of_lt_of_le l34 qw3.size
  have c47 := qw3.cell c35
  have c48 := qw3.cell c36
  have c49 := qw3.cell c37
  clear l26 c27 c28 c29 l30 c31 c32 c33 l34 c35 c36 c37
  have uw3 := uw2.trans qw3
  clear qw3 uw2
  go_wp2_with fail
  refine (lives6 _ (hE.dn uw3)).mono ?_
  rintro e w4 ⟨rfl, qw4⟩
  have l50 := Nat.lt_of_lt_of_le l38 qw4.size
  have c51 := qw4.cell c39
  have c52 := qw4.cell c40
  have c53 := qw4.cell c41
  have l54 := Nat.lt_of_lt_of_le l42 qw4.size
  have c55 := qw4.cell c43
  have c56 := qw4.cell c44
  have c57 := qw4.cell c45
  have l58 := Nat.lt_of_lt_of_le l46 qw4.size
  have c59 := qw4.cell c47
  have c60 := qw4.cell c48
  have c61 := qw4.cell c49
  clear l38 c39 c40 c41 l42 c43 c44 c45 l46 c47 c48 c49
  have uw4 := uw3.trans qw4
  clear qw4 uw3
  go_wp2_with fail
  go_ret
  exact ⟨retb (by simp), uw4⟩
set_option maxHeartbeats 16000000 in
set_option maxRecDepth 100000 in
theorem od6_d2 (y m d f s t u : Int) (N P Q : Int) (hN : -1 ≤ N ∧ N ≤ 1) (h0 : N ≠ 0) (hk : ¬ d = f) (h1 : ¬ 0 < N) (h2 : 0 < P) (HAB : Hid (∀ W, Calls Tryz.prog 32 #[.agg #[.int .i64 y, .int .i64 m, .int .i64 d], .agg #[.int .i64 y, .int .i64 m, .int .i64 f]] W fun o w' => o = .returned (.int .i64 N) ∧ Dn W w')) (HR : Hid (∀ W, Calls Tryz.prog 33 #[.agg #[.int .i64 y, .int .i64 m, .int .i64 d], .agg #[.int .i64 y, .int .i64 m, .int .i64 f]] W fun o w' => o = .returned (.int .i64 N) ∧ Dn W w')) (HBA : Hid (∀ W, Calls Tryz.prog 32 #[.agg #[.int .i64 y, .int .i64 m, .int .i64 f], .agg #[.int .i64 y, .int .i64 m, .int .i64 d]] W fun o w' => o = .returned (.int .i64 (-N)) ∧ Dn W w')) (HBC : Hid (∀ W, Calls Tryz.prog 32 #[.agg #[.int .i64 y, .int .i64 m, .int .i64 f], .agg #[.int .i64 s, .int .i64 t, .int .i64 u]] W fun o w' => o = .returned (.int .i64 P) ∧ Dn W w')) (HAC : Hid (∀ W, Calls Tryz.prog 32 #[.agg #[.int .i64 y, .int .i64 m, .int .i64 d], .agg #[.int .i64 s, .int .i64 t, .int .i64 u]] W fun o w' => o = .returned (.int .i64 Q) ∧ Dn W w')) (w : World) (hE : EnvC w) :
    Calls Tryz.prog 8 #[.agg #[.int .i64 y, .int .i64 m, .int .i64 d], .agg #[.int .i64 y, .int .i64 m, .int .i64 f], .agg #[.int .i64 s, .int .i64 t, .int .i64 u]] w fun ro w' => ro = .returned (.bool true) ∧ Dn w w' := by
  have t0 : (N == 0) = false := by simpa using h0
  have k0 : (d == f) = false := by simpa using hk
  have t1 : decide (0 < N) = false := by simpa using h1
  have t2 : decide (0 < P) = true := by simpa using h2
  have e0 : IntKind.i64.wrap (-N) = -N := IntWalk.i64_in _ (by omega)
  clear h0 h1 h2
  go_enter Tryz.func8, Tryz.ntmps8
  go_wp2_with fail
  obtain ⟨W1, hW1⟩ : ∃ W1, W1 = ((w.alloc (.cells #[.int .i64 y, .int .i64 m, .int .i64 d] 23)).alloc (.cells #[.int .i64 y, .int .i64 m, .int .i64 f] 23)).alloc (.cells #[.int .i64 s, .int .i64 t, .int .i64 u] 23) := ⟨_, rfl⟩
  have uW1 : Dn w W1 := by rw [hW1]; exact (((Dn.refl _).alloc _).alloc _).alloc _
  have c2 : W1.cell? ⟨w.heap.size, 0, none⟩ = some (.int .i64 y) := by rw [hW1]; simp [go_sem]
  have c3 : W1.cell? ⟨w.heap.size, 1, none⟩ = some (.int .i64 m) := by rw [hW1]; simp [go_sem]
  have c4 : W1.cell? ⟨w.heap.size, 2, none⟩ = some (.int .i64 d) := by rw [hW1]; simp [go_sem]
  have l5 : w.heap.size < W1.heap.size := by rw [hW1]; simp <;> omega
  have c6 : W1.cell? ⟨w.heap.size + 1, 0, none⟩ = some (.int .i64 y) := by rw [hW1]; simp [go_sem]
  have c7 : W1.cell? ⟨w.heap.size + 1, 1, none⟩ = some (.int .i64 m) := by rw [hW1]; simp [go_sem]
  have c8 : W1.cell? ⟨w.heap.size + 1, 2, none⟩ = some (.int .i64 f) := by rw [hW1]; simp [go_sem]
  have l9 : w.heap.size + 1 < W1.heap.size := by rw [hW1]; simp <;> omega
  have c10 : W1.cell? ⟨w.heap.size + 1 + 1, 0, none⟩ = some (.int .i64 s) := by rw [hW1]; simp [go_sem]
  have c11 : W1.cell? ⟨w.heap.size + 1 + 1, 1, none⟩ = some (.int .i64 t) := by rw [hW1]; simp [go_sem]
  have c12 : W1.cell? ⟨w.heap.size + 1 + 1, 2, none⟩ = some (.int .i64 u) := by rw [hW1]; simp [go_sem]
  have l13 : w.heap.size + 1 + 1 < W1.heap.size := by rw [hW1]; simp <;> omega
  rw [← hW1]
  clear hW1
  refine (HAB.out _).mono ?_
  rintro e w1 ⟨rfl, qw1⟩
  have l14 := Nat.lt_of_lt_of_le l5 qw1.size
  have c15 := qw1.cell c2
  have c16 := qw1.cell c3
  have c17 := qw1.cell c4
  have l18 := Nat.lt_of_lt_of_le l9 qw1.size
  have c19 := qw1.cell c6
  have c20 := qw1.cell c7
  have c21 := qw1.cell c8
  have l22 := Nat.lt_of_lt_of_le l13 qw1.size
  have c23 := qw1.cell c10
  have c24 := qw1.cell c11
  have c25 := qw1.cell c12
  clear l5 c2 c3 c4 l9 c6 c7 c8 l13 c10 c11 c12
  have uw1 := uW1.trans qw1
  clear qw1 uW1
  go_wp2_with fail
  refine (HR.out _).mono ?_
  rintro e w2 ⟨rfl, qw2⟩
  have l26 := Nat.lt_of_lt_of_le l14 qw2.size
  have c27 := qw2.cell c15
  have c28 := qw2.cell c16
  have c29 := qw2.cell c17
  have l30 := Nat.lt_of_lt_of_le l18 qw2.size
  have c31 := qw2.cell c19
  have c32 := qw2.cell c20
  have c33 := qw2.cell c21
  have l34 := Nat.lt_of_lt_of_le l22 qw2.size
  have c35 := qw2.cell c23
  have c36 := qw2.cell c24
  have c37 := qw2.cell c25
  clear l14 c15 c16 c17 l18 c19 c20 c21 l22 c23 c24 c25
  have uw2 := uw1.trans qw2
  clear qw2 uw1
  go_wp2_with fail
  refine (HBA.out _).mono ?_
  rintro e w3 ⟨rfl, qw3⟩
  have l38 := Nat.lt_of_lt_of_le l26 qw3.size
  have c39 := qw3.cell c27
  have c40 := qw3.cell c28
  have c41 := qw3.cell c29
  have l42 := Nat.lt_of_lt_of_le l30 qw3.size
  have c43 := qw3.cell c31
  have c44 := qw3.cell c32
  have c45 := qw3.cell c33
  have l46 := Nat.lt_of_lt_of_le l34 qw3.size
  have c47 := qw3.cell c35
  have c48 := qw3.cell c36
  have c49 := qw3.cell c37
  clear l26 c27 c28 c29 l30 c31 c32 c33 l34 c35 c36 c37
  have uw3 := uw2.trans qw3
  clear qw3 uw2
  go_wp2_with fail
  refine (HBC.out _).mono ?_
  rintro e w4 ⟨rfl, qw4⟩
  have l50 := Nat.lt_of_lt_of_le l38 qw4.size
  have c51 := qw4.cell c39
  have c52 := qw4.cell c40
  have c53 := qw4.cell c41
  have l54 := Nat.lt_of_lt_of_le l42 qw4.size
  have c55 := qw4.cell c43
  have c56 := qw4.cell c44
  have c57 := qw4.cell c45
  have l58 := Nat.lt_of_lt_of_le l46 qw4.size
  have c59 := qw4.cell c47
  have c60 := qw4.cell c48
  have c61 := qw4.cell c49
  clear l38 c39 c40 c41 l42 c43 c44 c45 l46 c47 c48 c49
  have uw4 := uw3.trans qw4
  clear qw4 uw3
  go_wp2_with fail
  refine (lives6 _ (hE.dn uw4)).mono ?_
  rintro e w5 ⟨rfl, qw5⟩
  have l62 := Nat.lt_of_lt_of_le l50 qw5.size
  have c63 := qw5.cell c51
  have c64 := qw5.cell c52
  have c65 := qw5.cell c53
  have l66 := Nat.lt_of_lt_of_le l54 qw5.size
  have c67 := qw5.cell c55
  have c68 := qw5.cell c56
  have c69 := qw5.cell c57
  have l70 := Nat.lt_of_lt_of_le l58 qw5.size
  have c71 := qw5.cell c59
  have c72 := qw5.cell c60
  have c73 := qw5.cell c61
  clear l50 c51 c52 c53 l54 c55 c56 c57 l58 c59 c60 c61
  have uw5 := uw4.trans qw5
  clear qw5 uw4
  go_wp2_with fail
  go_ret
  exact ⟨retb (by simp), uw5⟩
set_option maxHeartbeats 16000000 in
set_option maxRecDepth 100000 in
theorem od6_d3 (y m d f s t u : Int) (N P Q : Int) (hN : -1 ≤ N ∧ N ≤ 1) (h0 : N ≠ 0) (hk : ¬ d = f) (h1 : ¬ 0 < N) (h2 : ¬ 0 < P) (h3 : Q ≤ 0) (HAB : Hid (∀ W, Calls Tryz.prog 32 #[.agg #[.int .i64 y, .int .i64 m, .int .i64 d], .agg #[.int .i64 y, .int .i64 m, .int .i64 f]] W fun o w' => o = .returned (.int .i64 N) ∧ Dn W w')) (HR : Hid (∀ W, Calls Tryz.prog 33 #[.agg #[.int .i64 y, .int .i64 m, .int .i64 d], .agg #[.int .i64 y, .int .i64 m, .int .i64 f]] W fun o w' => o = .returned (.int .i64 N) ∧ Dn W w')) (HBA : Hid (∀ W, Calls Tryz.prog 32 #[.agg #[.int .i64 y, .int .i64 m, .int .i64 f], .agg #[.int .i64 y, .int .i64 m, .int .i64 d]] W fun o w' => o = .returned (.int .i64 (-N)) ∧ Dn W w')) (HBC : Hid (∀ W, Calls Tryz.prog 32 #[.agg #[.int .i64 y, .int .i64 m, .int .i64 f], .agg #[.int .i64 s, .int .i64 t, .int .i64 u]] W fun o w' => o = .returned (.int .i64 P) ∧ Dn W w')) (HAC : Hid (∀ W, Calls Tryz.prog 32 #[.agg #[.int .i64 y, .int .i64 m, .int .i64 d], .agg #[.int .i64 s, .int .i64 t, .int .i64 u]] W fun o w' => o = .returned (.int .i64 Q) ∧ Dn W w')) (w : World) (hE : EnvC w) :
    Calls Tryz.prog 8 #[.agg #[.int .i64 y, .int .i64 m, .int .i64 d], .agg #[.int .i64 y, .int .i64 m, .int .i64 f], .agg #[.int .i64 s, .int .i64 t, .int .i64 u]] w fun ro w' => ro = .returned (.bool true) ∧ Dn w w' := by
  have t0 : (N == 0) = false := by simpa using h0
  have k0 : (d == f) = false := by simpa using hk
  have t1 : decide (0 < N) = false := by simpa using h1
  have t2 : decide (0 < P) = false := by simpa using h2
  have t3 : decide (Q ≤ 0) = true := by simpa using h3
  have e0 : IntKind.i64.wrap (-N) = -N := IntWalk.i64_in _ (by omega)
  clear h0 h1 h2 h3
  go_enter Tryz.func8, Tryz.ntmps8
  go_wp2_with fail
  obtain ⟨W1, hW1⟩ : ∃ W1, W1 = ((w.alloc (.cells #[.int .i64 y, .int .i64 m, .int .i64 d] 23)).alloc (.cells #[.int .i64 y, .int .i64 m, .int .i64 f] 23)).alloc (.cells #[.int .i64 s, .int .i64 t, .int .i64 u] 23) := ⟨_, rfl⟩
  have uW1 : Dn w W1 := by rw [hW1]; exact (((Dn.refl _).alloc _).alloc _).alloc _
  have c2 : W1.cell? ⟨w.heap.size, 0, none⟩ = some (.int .i64 y) := by rw [hW1]; simp [go_sem]
  have c3 : W1.cell? ⟨w.heap.size, 1, none⟩ = some (.int .i64 m) := by rw [hW1]; simp [go_sem]
  have c4 : W1.cell? ⟨w.heap.size, 2, none⟩ = some (.int .i64 d) := by rw [hW1]; simp [go_sem]
  have l5 : w.heap.size < W1.heap.size := by rw [hW1]; simp <;> omega
  have c6 : W1.cell? ⟨w.heap.size + 1, 0, none⟩ = some (.int .i64 y) := by rw [hW1]; simp [go_sem]
  have c7 : W1.cell? ⟨w.heap.size + 1, 1, none⟩ = some (.int .i64 m) := by rw [hW1]; simp [go_sem]
  have c8 : W1.cell? ⟨w.heap.size + 1, 2, none⟩ = some (.int .i64 f) := by rw [hW1]; simp [go_sem]
  have l9 : w.heap.size + 1 < W1.heap.size := by rw [hW1]; simp <;> omega
  have c10 : W1.cell? ⟨w.heap.size + 1 + 1, 0, none⟩ = some (.int .i64 s) := by rw [hW1]; simp [go_sem]
  have c11 : W1.cell? ⟨w.heap.size + 1 + 1, 1, none⟩ = some (.int .i64 t) := by rw [hW1]; simp [go_sem]
  have c12 : W1.cell? ⟨w.heap.size + 1 + 1, 2, none⟩ = some (.int .i64 u) := by rw [hW1]; simp [go_sem]
  have l13 : w.heap.size + 1 + 1 < W1.heap.size := by rw [hW1]; simp <;> omega
  rw [← hW1]
  clear hW1
  refine (HAB.out _).mono ?_
  rintro e w1 ⟨rfl, qw1⟩
  have l14 := Nat.lt_of_lt_of_le l5 qw1.size
  have c15 := qw1.cell c2
  have c16 := qw1.cell c3
  have c17 := qw1.cell c4
  have l18 := Nat.lt_of_lt_of_le l9 qw1.size
  have c19 := qw1.cell c6
  have c20 := qw1.cell c7
  have c21 := qw1.cell c8
  have l22 := Nat.lt_of_lt_of_le l13 qw1.size
  have c23 := qw1.cell c10
  have c24 := qw1.cell c11
  have c25 := qw1.cell c12
  clear l5 c2 c3 c4 l9 c6 c7 c8 l13 c10 c11 c12
  have uw1 := uW1.trans qw1
  clear qw1 uW1
  go_wp2_with fail
  refine (HR.out _).mono ?_
  rintro e w2 ⟨rfl, qw2⟩
  have l26 := Nat.lt_of_lt_of_le l14 qw2.size
  have c27 := qw2.cell c15
  have c28 := qw2.cell c16
  have c29 := qw2.cell c17
  have l30 := Nat.lt_of_lt_of_le l18 qw2.size
  have c31 := qw2.cell c19
  have c32 := qw2.cell c20
  have c33 := qw2.cell c21
  have l34 := Nat.lt_of_lt_of_le l22 qw2.size
  have c35 := qw2.cell c23
  have c36 := qw2.cell c24
  have c37 := qw2.cell c25
  clear l14 c15 c16 c17 l18 c19 c20 c21 l22 c23 c24 c25
  have uw2 := uw1.trans qw2
  clear qw2 uw1
  go_wp2_with fail
  refine (HBA.out _).mono ?_
  rintro e w3 ⟨rfl, qw3⟩
  have l38 := Nat.lt_of_lt_of_le l26 qw3.size
  have c39 := qw3.cell c27
  have c40 := qw3.cell c28
  have c41 := qw3.cell c29
  have l42 := Nat.lt_of_lt_of_le l30 qw3.size
  have c43 := qw3.cell c31
  have c44 := qw3.cell c32
  have c45 := qw3.cell c33
  have l46 := Nat.lt_of_lt_of_le l34 qw3.size
  have c47 := qw3.cell c35
  have c48 := qw3.cell c36
  have c49 := qw3.cell c37
  clear l26 c27 c28 c29 l30 c31 c32 c33 l34 c35 c36 c37
  have uw3 := uw2.trans qw3
  clear qw3 uw2
  go_wp2_with fail
  refine (HBC.out _).mono ?_
  rintro e w4 ⟨rfl, qw4⟩
  have l50 := Nat.lt_of_lt_of_le l38 qw4.size
  have c51 := qw4.cell c39
  have c52 := qw4.cell c40
  have c53 := qw4.cell c41
  have l54 := Nat.lt_of_lt_of_le l42 qw4.size
  have c55 := qw4.cell c43
  have c56 := qw4.cell c44
  have c57 := qw4.cell c45
  have l58 := Nat.lt_of_lt_of_le l46 qw4.size
  have c59 := qw4.cell c47
  have c60 := qw4.cell c48
  have c61 := qw4.cell c49
  clear l38 c39 c40 c41 l42 c43 c44 c45 l46 c47 c48 c49
  have uw4 := uw3.trans qw4
  clear qw4 uw3
  go_wp2_with fail
  refine (HAC.out _).mono ?_
  rintro e w5 ⟨rfl, qw5⟩
  have l62 := Nat.lt_of_lt_of_le l50 qw5.size
  have c63 := qw5.cell c51
  have c64 := qw5.cell c52
  have c65 := qw5.cell c53
  have l66 := Nat.lt_of_lt_of_le l54 qw5.size
  have c67 := qw5.cell c55
  have c68 := qw5.cell c56
  have c69 := qw5.cell c57
  have l70 := Nat.lt_of_lt_of_le l58 qw5.size
  have c71 := qw5.cell c59
  have c72 := qw5.cell c60
  have c73 := qw5.cell c61
  clear l50 c51 c52 c53 l54 c55 c56 c57 l58 c59 c60 c61
  have uw5 := uw4.trans qw5
  clear qw5 uw4
  go_wp2_with fail
  refine (lives6 _ (hE.dn uw5)).mono ?_
  rintro e w6 ⟨rfl, qw6⟩
  have l74 := Nat.lt_of_lt_of_le l62 qw6.size
  have c75 := qw6.cell c63
  have c76 := qw6.cell c64
  have c77 := qw6.cell c65
  have l78 := Nat.lt_of_lt_of_le l66 qw6.size
  have c79 := qw6.cell c67
  have c80 := qw6.cell c68
  have c81 := qw6.cell c69
  have l82 := Nat.lt_of_lt_of_le l70 qw6.size
  have c83 := qw6.cell c71
  have c84 := qw6.cell c72
  have c85 := qw6.cell c73
  clear l62 c63 c64 c65 l66 c67 c68 c69 l70 c71 c72 c73
  have uw6 := uw5.trans qw6
  clear qw6 uw5
  go_wp2_with fail
  go_ret
  exact ⟨retb (by simp), uw6⟩
theorem cq_swap (a b : Int) : cq b a = -cq a b := by unfold cq; split <;> split <;> (try split) <;> omega
theorem oq_swap (x y z : Int) : oq (-x) (-y) (-z) = -oq x y z := by unfold oq; split <;> split <;> (try split) <;> (try split) <;> omega
theorem cq_bd (a b : Int) : -1 ≤ cq a b ∧ cq a b ≤ 1 := by unfold cq; split <;> (try split) <;> omega
theorem oq_bd {x y z : Int} (h1 : -1 ≤ x ∧ x ≤ 1) (h2 : -1 ≤ y ∧ y ≤ 1) (h3 : -1 ≤ z ∧ z ≤ 1) : -1 ≤ oq x y z ∧ oq x y z ≤ 1 := by unfold oq; split <;> (try split) <;> assumption
theorem cq_le (a b : Int) : (cq a b ≤ 0 ↔ a ≤ b) ∧ (cq a b = 0 ↔ a = b) := by unfold cq; split <;> (try split) <;> omega
theorem oq_le (a b c x y z : Int) : oq (cq a x) (cq b y) (cq c z) ≤ 0 ↔ (a < x ∨ (a = x ∧ (b < y ∨ (b = y ∧ c ≤ z)))) := by unfold oq cq; split <;> (try split) <;> (try split) <;> (try split) <;> (try split) <;> (try split) <;> omega
theorem oq_eq (a b c x y z : Int) : oq (cq a x) (cq b y) (cq c z) = 0 ↔ (a = x ∧ b = y ∧ c = z) := by unfold oq cq; split <;> (try split) <;> (try split) <;> (try split) <;> (try split) <;> (try split) <;> omega
theorem civilsOrder_true (y m d z n f s t u : Int) (w : World) (_ : I64 y) (_ : I64 m) (_ : I64 d) (_ : I64 z) (_ : I64 n) (_ : I64 f) (_ : I64 s) (_ : I64 t) (_ : I64 u) (hE : EnvC w) :
    Calls Tryz.prog 8 #[.agg #[.int .i64 y, .int .i64 m, .int .i64 d], .agg #[.int .i64 z, .int .i64 n, .int .i64 f], .agg #[.int .i64 s, .int .i64 t, .int .i64 u]] w fun ro w' => ro = .returned (.bool true) ∧ Dn w w' := by
  have HAB := Lib.hid (fun W => cvCmp y m d z n f W)
  have HR := Lib.hid (fun W => rc6Cmp y m d z n f W)
  have HBA := Lib.hid (fun W => cvCmp z n f y m d W)
  have HBC := Lib.hid (fun W => cvCmp z n f s t u W)
  have HAC := Lib.hid (fun W => cvCmp y m d s t u W)
  rw [cq_swap y z, cq_swap m n, cq_swap d f, oq_swap] at HBA
  have hN := oq_bd (cq_bd y z) (cq_bd m n) (cq_bd d f)
  have hz := oq_eq y m d z n f
  have i1 := oq_le y m d z n f
  have i2 := oq_le z n f s t u
  have i3 := oq_le y m d s t u
  generalize oq (cq y z) (cq m n) (cq d f) = N at *
  generalize oq (cq z s) (cq n t) (cq f u) = P at *
  generalize oq (cq y s) (cq m t) (cq d u) = Q at *
  have h3 : ¬ 0 < N → ¬ 0 < P → Q ≤ 0 := by omega
  clear i1 i2 i3
  by_cases e1 : y = z
  · subst e1
    by_cases e2 : m = n
    · subst e2
      by_cases e3 : d = f
      · subst e3
        have h0 : N = 0 := hz.2 ⟨rfl, rfl, rfl⟩
        by_cases h2 : 0 < P
        · exact od6_e2 y m d s t u N P Q hN h0 (by omega) h2 HAB HR HBA HBC HAC w hE
        · exact od6_e3 y m d s t u N P Q hN h0 (by omega) h2 (h3 (by omega) h2) HAB HR HBA HBC HAC w hE
      · have h0 : N ≠ 0 := fun h => e3 (hz.1 h).2.2
        by_cases h1 : 0 < N
        · exact od6_d1 y m d f s t u N P Q hN h0 e3 h1 HAB HR HBA HBC HAC w hE
        · by_cases h2 : 0 < P
          · exact od6_d2 y m d f s t u N P Q hN h0 e3 h1 h2 HAB HR HBA HBC HAC w hE
          · exact od6_d3 y m d f s t u N P Q hN h0 e3 h1 h2 (h3 h1 h2) HAB HR HBA HBC HAC w hE
    · have h0 : N ≠ 0 := fun h => e2 (hz.1 h).2.1
      by_cases h1 : 0 < N
      · exact od6_m1 y m d n f s t u N P Q hN h0 e2 h1 HAB HR HBA HBC HAC w hE
      · by_cases h2 : 0 < P
        · exact od6_m2 y m d n f s t u N P Q hN h0 e2 h1 h2 HAB HR HBA HBC HAC w hE
        · exact od6_m3 y m d n f s t u N P Q hN h0 e2 h1 h2 (h3 h1 h2) HAB HR HBA HBC HAC w hE
  · have h0 : N ≠ 0 := fun h => e1 (hz.1 h).1
    by_cases h1 : 0 < N
    · exact od6_y1 y m d z n f s t u N P Q hN h0 e1 h1 HAB HR HBA HBC HAC w hE
    · by_cases h2 : 0 < P
      · exact od6_y2 y m d z n f s t u N P Q hN h0 e1 h1 h2 HAB HR HBA HBC HAC w hE
      · exact od6_y3 y m d z n f s t u N P Q hN h0 e1 h1 h2 (h3 h1 h2) HAB HR HBA HBC HAC w hE
end Go.Proofs.YtopbbcbpanfigaaGreatDoor
