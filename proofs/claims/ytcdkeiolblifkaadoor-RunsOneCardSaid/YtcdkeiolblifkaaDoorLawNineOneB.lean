/-
  WALKS OF circalaw09: RunsOne, part 1. (Printed by wip/gen/law9b.py.)
-/
import Derived.Test.YtcdkeiolblifkaaDoorLawNine
import Derived.Test.YtcdkeiolblifkaaDoorRefNineB
namespace Go.Proofs.YtcdkeiolblifkaaDoor
open Go.RowKit
set_option linter.unusedVariables false
set_option linter.unusedSimpArgs false
theorem kd1bad1_10 {W w1 w2 : World} {a0 a1 a2 a3 a4 a5 a6 a7 a8 a9 : Addr} {v0 v1 v2 v3 v4 v5 v6 v7 v8 v9 : Value} (k : Dn w1 w2) (h : Dn W w1 ∧ w1.cell? a0 = some v0 ∧ w1.cell? a1 = some v1 ∧ w1.cell? a2 = some v2 ∧ w1.cell? a3 = some v3 ∧ w1.cell? a4 = some v4 ∧ w1.cell? a5 = some v5 ∧ w1.cell? a6 = some v6 ∧ w1.cell? a7 = some v7 ∧ w1.cell? a8 = some v8 ∧ w1.cell? a9 = some v9) :
    Dn W w2 ∧ w2.cell? a0 = some v0 ∧ w2.cell? a1 = some v1 ∧ w2.cell? a2 = some v2 ∧ w2.cell? a3 = some v3 ∧ w2.cell? a4 = some v4 ∧ w2.cell? a5 = some v5 ∧ w2.cell? a6 = some v6 ∧ w2.cell? a7 = some v7 ∧ w2.cell? a8 = some v8 ∧ w2.cell? a9 = some v9 := by
  obtain ⟨h1, c0, c1, c2, c3, c4, c5, c6, c7, c8, c9⟩ := h
  exact ⟨h1.trans k, k.cell c0, k.cell c1, k.cell c2, k.cell c3, k.cell c4, k.cell c5, k.cell c6, k.cell c7, k.cell c8, k.cell c9⟩
set_option maxHeartbeats 4000000 in
set_option maxRecDepth 100000 in
theorem one_bad1 (a b c d k z0 z1 m n e1 f s0 s1 s2 s3 : Int) (HC : Hid (∀ W, Calls Tryd.prog 18 #[.agg #[.int .i8 a, .int .i64 b, .int .i8 c, .int .i64 d]] W fun o w' => o = .returned (.int .i64 m) ∧ Dn W w')) (HL : Hid (∀ W, Calls Tryd.prog 29 #[.agg #[.int .i8 a, .int .i64 b, .int .i8 c, .int .i64 d]] W fun o w' => o = .returned (.tuple #[.int .i64 0, .int .i64 m]) ∧ Dn W w')) (HS : Hid (∀ W, Calls Tryd.prog 30 #[.agg #[.int .i8 a, .int .i64 b, .int .i8 c, .int .i64 d], .int .i64 k] W fun o w' => o = .returned (.tuple #[.agg #[.int .i8 0, .int .i64 0, .int .i8 0, .int .i64 0], .int .i64 m]) ∧ Dn W w')) (HO : Hid (∀ W, Calls Tryd.prog 31 #[.int .i64 z0, .int .i64 z1] W fun o w' => o = .returned (.tuple #[.agg #[.int .i8 0, .int .i64 0, .int .i8 0, .int .i64 0], .int .i64 12]) ∧ Dn W w')) (g1 : z1 < z0) (HM : Hid (m ≠ 0)) (w : World) (hE : EnvR w) :
    Calls Tryd.prog 6 #[.agg #[.int .i8 a, .int .i64 b, .int .i8 c, .int .i64 d], .int .i64 k, .agg #[.int .i64 z0, .int .i64 z1]] w fun ro w' => ro = .returned (.bool true) ∧ Dn w w' := by
  have t1 : decide (z1 < z0) = true := by simpa using g1
  have t2 : decide (z0 ≤ z1) = false := by simp; omega
  clear g1
  have t3 : (m != 0) = true := by simpa using HM.out
  go_enter Tryd.func6, Tryd.ntmps6
  go_wp2_with fail
  obtain ⟨W1, hW1⟩ : ∃ W1, W1 = (w.alloc (.cells #[.int .i8 a, .int .i64 b, .int .i8 c, .int .i64 d] 29)).alloc (.cells #[.int .i64 z0, .int .i64 z1] 50) := ⟨_, rfl⟩
  have uW1 : Dn w W1 := by rw [hW1]; exact ((Dn.refl _).alloc _).alloc _
  have c2 : W1.cell? ⟨w.heap.size, 0, none⟩ = some (.int .i8 a) := by rw [hW1]; simp [go_sem]
  have c3 : W1.cell? ⟨w.heap.size, 1, none⟩ = some (.int .i64 b) := by rw [hW1]; simp [go_sem]
  have c4 : W1.cell? ⟨w.heap.size, 2, none⟩ = some (.int .i8 c) := by rw [hW1]; simp [go_sem]
  have c5 : W1.cell? ⟨w.heap.size, 3, none⟩ = some (.int .i64 d) := by rw [hW1]; simp [go_sem]
  have l6 : w.heap.size < W1.heap.size := by rw [hW1]; simp <;> omega
  have c7 : W1.cell? ⟨w.heap.size + 1, 0, none⟩ = some (.int .i64 z0) := by rw [hW1]; simp [go_sem]
  have c8 : W1.cell? ⟨w.heap.size + 1, 1, none⟩ = some (.int .i64 z1) := by rw [hW1]; simp [go_sem]
  have l9 : w.heap.size + 1 < W1.heap.size := by rw [hW1]; simp <;> omega
  rw [← hW1]
  clear hW1
  refine (HC.out _).mono ?_
  rintro e w1 ⟨rfl, qw1⟩
  have l10 := Nat.lt_of_lt_of_le l6 qw1.size
  have c11 := qw1.cell c2
  have c12 := qw1.cell c3
  have c13 := qw1.cell c4
  have c14 := qw1.cell c5
  have l15 := Nat.lt_of_lt_of_le l9 qw1.size
  have c16 := qw1.cell c7
  have c17 := qw1.cell c8
  clear l6 c2 c3 c4 c5 l9 c7 c8
  have uw1 := uW1.trans qw1
  clear qw1 uW1
  go_wp2_with fail
  refine (HL.out _).mono ?_
  rintro e w2 ⟨rfl, qw2⟩
  have l18 := Nat.lt_of_lt_of_le l10 qw2.size
  have c19 := qw2.cell c11
  have c20 := qw2.cell c12
  have c21 := qw2.cell c13
  have c22 := qw2.cell c14
  have l23 := Nat.lt_of_lt_of_le l15 qw2.size
  have c24 := qw2.cell c16
  have c25 := qw2.cell c17
  clear l10 c11 c12 c13 c14 l15 c16 c17
  have uw2 := uw1.trans qw2
  clear qw2 uw1
  go_wp2_with fail
  refine (HS.out _).mono ?_
  rintro e w3 ⟨rfl, qw3⟩
  have l26 := Nat.lt_of_lt_of_le l18 qw3.size
  have c27 := qw3.cell c19
  have c28 := qw3.cell c20
  have c29 := qw3.cell c21
  have c30 := qw3.cell c22
  have l31 := Nat.lt_of_lt_of_le l23 qw3.size
  have c32 := qw3.cell c24
  have c33 := qw3.cell c25
  clear l18 c19 c20 c21 c22 l23 c24 c25
  have uw3 := uw2.trans qw3
  clear qw3 uw2
  go_wp2_with fail
  obtain ⟨W34, hW34⟩ : ∃ W34, W34 = w3.alloc (.cells #[.int .i8 0, .int .i64 0, .int .i8 0, .int .i64 0] 29) := ⟨_, rfl⟩
  have uW34 : Dn w3 W34 := by rw [hW34]; exact (Dn.refl _).alloc _
  have l35 := Nat.lt_of_lt_of_le l26 uW34.size
  have c36 := uW34.cell c27
  have c37 := uW34.cell c28
  have c38 := uW34.cell c29
  have c39 := uW34.cell c30
  have l40 := Nat.lt_of_lt_of_le l31 uW34.size
  have c41 := uW34.cell c32
  have c42 := uW34.cell c33
  clear l26 c27 c28 c29 c30 l31 c32 c33
  have c43 : W34.cell? ⟨w3.heap.size, 0, none⟩ = some (.int .i8 0) := by rw [hW34]; simp [go_sem]
  have c44 : W34.cell? ⟨w3.heap.size, 1, none⟩ = some (.int .i64 0) := by rw [hW34]; simp [go_sem]
  have c45 : W34.cell? ⟨w3.heap.size, 2, none⟩ = some (.int .i8 0) := by rw [hW34]; simp [go_sem]
  have c46 : W34.cell? ⟨w3.heap.size, 3, none⟩ = some (.int .i64 0) := by rw [hW34]; simp [go_sem]
  have l47 : w3.heap.size < W34.heap.size := by rw [hW34]; simp <;> omega
  rw [← hW34]
  clear hW34
  have vW34 := uw3.trans uW34
  clear uW34 uw3
  refine (HO.out _).mono ?_
  rintro e w4 ⟨rfl, qw4⟩
  have l48 := Nat.lt_of_lt_of_le l35 qw4.size
  have c49 := qw4.cell c36
  have c50 := qw4.cell c37
  have c51 := qw4.cell c38
  have c52 := qw4.cell c39
  have l53 := Nat.lt_of_lt_of_le l40 qw4.size
  have c54 := qw4.cell c41
  have c55 := qw4.cell c42
  have l56 := Nat.lt_of_lt_of_le l47 qw4.size
  have c57 := qw4.cell c43
  have c58 := qw4.cell c44
  have c59 := qw4.cell c45
  have c60 := qw4.cell c46
  clear l35 c36 c37 c38 c39 l40 c41 c42 l47 c43 c44 c45 c46
  have uw4 := vW34.trans qw4
  clear qw4 vW34
  go_wp2_with fail
  obtain ⟨W61, hW61⟩ : ∃ W61, W61 = w4.alloc (.cells #[.int .i8 0, .int .i64 0, .int .i8 0, .int .i64 0] 29) := ⟨_, rfl⟩
  have uW61 : Dn w4 W61 := by rw [hW61]; exact (Dn.refl _).alloc _
  have l62 := Nat.lt_of_lt_of_le l48 uW61.size
  have c63 := uW61.cell c49
  have c64 := uW61.cell c50
  have c65 := uW61.cell c51
  have c66 := uW61.cell c52
  have l67 := Nat.lt_of_lt_of_le l53 uW61.size
  have c68 := uW61.cell c54
  have c69 := uW61.cell c55
  have l70 := Nat.lt_of_lt_of_le l56 uW61.size
  have c71 := uW61.cell c57
  have c72 := uW61.cell c58
  have c73 := uW61.cell c59
  have c74 := uW61.cell c60
  clear l48 c49 c50 c51 c52 l53 c54 c55 l56 c57 c58 c59 c60
  have c75 : W61.cell? ⟨w4.heap.size, 0, none⟩ = some (.int .i8 0) := by rw [hW61]; simp [go_sem]
  have c76 : W61.cell? ⟨w4.heap.size, 1, none⟩ = some (.int .i64 0) := by rw [hW61]; simp [go_sem]
  have c77 : W61.cell? ⟨w4.heap.size, 2, none⟩ = some (.int .i8 0) := by rw [hW61]; simp [go_sem]
  have c78 : W61.cell? ⟨w4.heap.size, 3, none⟩ = some (.int .i64 0) := by rw [hW61]; simp [go_sem]
  have l79 : w4.heap.size < W61.heap.size := by rw [hW61]; simp <;> omega
  rw [← hW61]
  clear hW61
  have vW61 := uw4.trans uW61
  clear uW61 uw4
  have hS80 := kd1bad1_10 (W := W61) (Dn.refl _) ⟨Dn.refl _, c63, c64, c65, c66, c68, c69, c75, c76, c77, c78⟩
  have k81 := Lib.hid c71
  have k82 := Lib.hid c72
  have k83 := Lib.hid c73
  have k84 := Lib.hid c74
  have HShS80 := Lib.hid hS80
  clear c63 c64 c65 c66 c68 c69 c71 c72 c73 c74 c75 c76 c77 c78
  refine wp_region_held_drew (S := fun w' => Dn W61 w' ∧ w'.cell? ⟨w.heap.size, 0, none⟩ = some (.int .i8 a) ∧ w'.cell? ⟨w.heap.size, 1, none⟩ = some (.int .i64 b) ∧ w'.cell? ⟨w.heap.size, 2, none⟩ = some (.int .i8 c) ∧ w'.cell? ⟨w.heap.size, 3, none⟩ = some (.int .i64 d) ∧ w'.cell? ⟨w.heap.size + 1, 0, none⟩ = some (.int .i64 z0) ∧ w'.cell? ⟨w.heap.size + 1, 1, none⟩ = some (.int .i64 z1) ∧ w'.cell? ⟨w4.heap.size, 0, none⟩ = some (.int .i8 0) ∧ w'.cell? ⟨w4.heap.size, 1, none⟩ = some (.int .i64 0) ∧ w'.cell? ⟨w4.heap.size, 2, none⟩ = some (.int .i8 0) ∧ w'.cell? ⟨w4.heap.size, 3, none⟩ = some (.int .i64 0)) (by kernel_rfl) ?_ (fun hHeld => ?_)
  · (try dsimp only); (first | exact kd1bad1_10 ((Dn.refl _).drew) hS80 | exact kd1bad1_10 ‹Dn _ _› ‹_› | exact kd1bad1_10 (Up.dn ‹Up _ _›) ‹_› | assumption | exact kd1bad1_10 ((Dn.refl _).alloc _) ‹_›)
  refine wpAnyH_take (i := 0) (v := ?_) rfl (by kernel_rfl) (by kernel_rfl) (by kernel_rfl) (fun _ _ _ h => h) (Or.inl ⟨by rfl, ?_⟩) (by assumption) ?_
  rotate_left
  · (intro w hSw; (try dsimp only at hSw); go_simp)
    all_goals with_reducible rfl
  try simp only [Act.put, List.getElem_toArray, List.getElem_cons_succ, List.getElem_cons_zero, List.setIfInBounds_toArray, List.set_cons_zero, List.set_cons_succ]
  refine wpAnyH_take (i := 1) (v := ?_) rfl (by kernel_rfl) (by kernel_rfl) (by kernel_rfl) (fun _ _ _ h => h) (Or.inl ⟨by rfl, ?_⟩) (by assumption) ?_
  rotate_left
  · (intro w hSw; (try dsimp only at hSw); go_simp)
    all_goals with_reducible rfl
  try simp only [Act.put, List.getElem_toArray, List.getElem_cons_succ, List.getElem_cons_zero, List.setIfInBounds_toArray, List.set_cons_zero, List.set_cons_succ]
  refine wpAnyH_take (i := 2) (v := ?_) rfl (by kernel_rfl) (by kernel_rfl) (by kernel_rfl) (fun _ _ _ h => h) (Or.inl ⟨by rfl, ?_⟩) (by assumption) ?_
  rotate_left
  · (intro w hSw; (try dsimp only at hSw); go_simp)
    all_goals with_reducible rfl
  try simp only [Act.put, List.getElem_toArray, List.getElem_cons_succ, List.getElem_cons_zero, List.setIfInBounds_toArray, List.set_cons_zero, List.set_cons_succ]
  refine wpAnyH_take (i := 3) (v := ?_) rfl (by kernel_rfl) (by kernel_rfl) (by kernel_rfl) (fun _ _ _ h => h) (Or.inl ⟨by rfl, ?_⟩) (by assumption) ?_
  rotate_left
  · (intro w hSw; (try dsimp only at hSw); go_simp)
    all_goals with_reducible rfl
  try simp only [Act.put, List.getElem_toArray, List.getElem_cons_succ, List.getElem_cons_zero, List.setIfInBounds_toArray, List.set_cons_zero, List.set_cons_succ]
  refine wpAnyH_take (i := 4) (v := ?_) rfl (by kernel_rfl) (by kernel_rfl) (by kernel_rfl) (fun _ _ _ h => h) (Or.inl ⟨by rfl, ?_⟩) (by assumption) ?_
  rotate_left
  · (intro w hSw; (try dsimp only at hSw); go_simp)
    all_goals with_reducible rfl
  try simp only [Act.put, List.getElem_toArray, List.getElem_cons_succ, List.getElem_cons_zero, List.setIfInBounds_toArray, List.set_cons_zero, List.set_cons_succ]
  refine wpAnyH_take (i := 5) (v := ?_) rfl (by kernel_rfl) (by kernel_rfl) (by kernel_rfl) (fun _ _ _ h => h) (Or.inl ⟨by rfl, ?_⟩) (by assumption) ?_
  rotate_left
  · (intro w hSw; (try dsimp only at hSw); go_simp)
    all_goals with_reducible rfl
  try simp only [Act.put, List.getElem_toArray, List.getElem_cons_succ, List.getElem_cons_zero, List.setIfInBounds_toArray, List.set_cons_zero, List.set_cons_succ]
  refine wpAnyH_take (i := 6) (v := ?_) rfl (by kernel_rfl) (by kernel_rfl) (by kernel_rfl) (fun _ _ _ h => h) (Or.inl ⟨by rfl, ?_⟩) (by assumption) ?_
  rotate_left
  · (intro w hSw; (try dsimp only at hSw); go_simp)
    all_goals with_reducible rfl
  try simp only [Act.put, List.getElem_toArray, List.getElem_cons_succ, List.getElem_cons_zero, List.setIfInBounds_toArray, List.set_cons_zero, List.set_cons_succ]
  refine wpAnyH_take (i := 7) (v := ?_) rfl (by kernel_rfl) (by kernel_rfl) (by kernel_rfl) (fun _ _ _ h => h) (Or.inl ⟨by rfl, ?_⟩) (by assumption) ?_
  rotate_left
  · (intro w hSw; (try dsimp only at hSw); go_simp)
    all_goals with_reducible rfl
  try simp only [Act.put, List.getElem_toArray, List.getElem_cons_succ, List.getElem_cons_zero, List.setIfInBounds_toArray, List.set_cons_zero, List.set_cons_succ]
  refine wpAnyH_take (i := 8) (v := ?_) rfl (by kernel_rfl) (by kernel_rfl) (by kernel_rfl) (fun _ _ _ h => h) (Or.inl ⟨by rfl, ?_⟩) (by assumption) ?_
  rotate_left
  · (intro w hSw; (try dsimp only at hSw); go_simp)
    all_goals with_reducible rfl
  try simp only [Act.put, List.getElem_toArray, List.getElem_cons_succ, List.getElem_cons_zero, List.setIfInBounds_toArray, List.set_cons_zero, List.set_cons_succ]
  refine wpAnyH_ready (rs := [9]) (by kernel_rfl) (by simp) ?_
  refine AllReadyH.cons rfl (fun K hK => ?_) AllReadyH.nil
  go_simp
  (first
      | (go_at_call 17; refine (g9_any _ _ _ _ _ _ _ _ _ _ _ ?_).mono ?_; (first | exact Or.inr ⟨by decide, rfl, rfl, rfl, rfl, rfl⟩ | exact Or.inl ⟨rfl, rfl, rfl, rfl, rfl, rfl⟩); rintro e wa ⟨rfl, qa⟩)
      | (go_at_call 32; refine (dy9 _ _ _).mono ?_; rintro e wa ⟨rfl, qa⟩))
  try go_wp2_with fail
  refine hK.out _ _ ?_ (fun hHeld => ?_)
  · (try dsimp only); (first | exact kd1bad1_10 ((Dn.refl _).drew) hS80 | exact kd1bad1_10 ‹Dn _ _› ‹_› | exact kd1bad1_10 (Up.dn ‹Up _ _›) ‹_› | assumption | exact kd1bad1_10 ((Dn.refl _).alloc _) ‹_›)
  clear hK K
  try simp only [Act.put, List.getElem_toArray, List.getElem_cons_succ, List.getElem_cons_zero, List.setIfInBounds_toArray, List.set_cons_zero, List.set_cons_succ]
  refine wpAnyH_take (i := 10) (v := ?_) rfl (by kernel_rfl) (by kernel_rfl) (by kernel_rfl) (fun _ _ _ h => h) (Or.inl ⟨by rfl, ?_⟩) (by assumption) ?_
  rotate_left
  · (intro w hSw; (try dsimp only at hSw); go_simp)
    all_goals with_reducible rfl
  try simp only [Act.put, List.getElem_toArray, List.getElem_cons_succ, List.getElem_cons_zero, List.setIfInBounds_toArray, List.set_cons_zero, List.set_cons_succ]
  refine wpAnyH_take (i := 11) (v := ?_) rfl (by kernel_rfl) (by kernel_rfl) (by kernel_rfl) (fun _ _ _ h => h) (Or.inl ⟨by rfl, ?_⟩) (by assumption) ?_
  rotate_left
  · (intro w hSw; (try dsimp only at hSw); go_simp)
    all_goals with_reducible rfl
  try simp only [Act.put, List.getElem_toArray, List.getElem_cons_succ, List.getElem_cons_zero, List.setIfInBounds_toArray, List.set_cons_zero, List.set_cons_succ]
  refine wpAnyH_take (i := 12) (v := ?_) rfl (by kernel_rfl) (by kernel_rfl) (by kernel_rfl) (fun _ _ _ h => h) (Or.inl ⟨by rfl, ?_⟩) (by assumption) ?_
  rotate_left
  · (intro w hSw; (try dsimp only at hSw); go_simp)
    all_goals with_reducible rfl
  try simp only [Act.put, List.getElem_toArray, List.getElem_cons_succ, List.getElem_cons_zero, List.setIfInBounds_toArray, List.set_cons_zero, List.set_cons_succ]
  refine wpAnyH_take (i := 13) (v := ?_) rfl (by kernel_rfl) (by kernel_rfl) (by kernel_rfl) (fun _ _ _ h => h) (Or.inl ⟨by rfl, ?_⟩) (by assumption) ?_
  rotate_left
  · (intro w hSw; (try dsimp only at hSw); go_simp)
    all_goals with_reducible rfl
  try simp only [Act.put, List.getElem_toArray, List.getElem_cons_succ, List.getElem_cons_zero, List.setIfInBounds_toArray, List.set_cons_zero, List.set_cons_succ]
  refine wpAnyH_take (i := 14) (v := ?_) rfl (by kernel_rfl) (by kernel_rfl) (by kernel_rfl) (fun _ _ _ h => h) (Or.inl ⟨by rfl, ?_⟩) (by assumption) ?_
  rotate_left
  · (intro w hSw; (try dsimp only at hSw); go_simp)
    all_goals with_reducible rfl
  try simp only [Act.put, List.getElem_toArray, List.getElem_cons_succ, List.getElem_cons_zero, List.setIfInBounds_toArray, List.set_cons_zero, List.set_cons_succ]
  refine wpAnyH_take (i := 15) (v := ?_) rfl (by kernel_rfl) (by kernel_rfl) (by kernel_rfl) (fun _ _ _ h => h) (Or.inl ⟨by rfl, ?_⟩) (by assumption) ?_
  rotate_left
  · (intro w hSw; (try dsimp only at hSw); go_simp)
    all_goals with_reducible rfl
  try simp only [Act.put, List.getElem_toArray, List.getElem_cons_succ, List.getElem_cons_zero, List.setIfInBounds_toArray, List.set_cons_zero, List.set_cons_succ]
  refine wpAnyH_take (i := 16) (v := ?_) rfl (by kernel_rfl) (by kernel_rfl) (by kernel_rfl) (fun _ _ _ h => h) (Or.inl ⟨by rfl, ?_⟩) (by assumption) ?_
  rotate_left
  · (intro w hSw; (try dsimp only at hSw); go_simp)
    all_goals with_reducible rfl
  try simp only [Act.put, List.getElem_toArray, List.getElem_cons_succ, List.getElem_cons_zero, List.setIfInBounds_toArray, List.set_cons_zero, List.set_cons_succ]
  refine wpAnyH_take (i := 17) (v := ?_) rfl (by kernel_rfl) (by kernel_rfl) (by kernel_rfl) (fun _ _ _ h => h) (Or.inl ⟨by rfl, ?_⟩) (by assumption) ?_
  rotate_left
  · (intro w hSw; (try dsimp only at hSw); go_simp)
    all_goals with_reducible rfl
  try simp only [Act.put, List.getElem_toArray, List.getElem_cons_succ, List.getElem_cons_zero, List.setIfInBounds_toArray, List.set_cons_zero, List.set_cons_succ]
  refine wpAnyH_take (i := 18) (v := ?_) rfl (by kernel_rfl) (by kernel_rfl) (by kernel_rfl) (fun _ _ _ h => h) (Or.inl ⟨by rfl, ?_⟩) (by assumption) ?_
  rotate_left
  · (intro w hSw; (try dsimp only at hSw); go_simp)
    all_goals with_reducible rfl
  try simp only [Act.put, List.getElem_toArray, List.getElem_cons_succ, List.getElem_cons_zero, List.setIfInBounds_toArray, List.set_cons_zero, List.set_cons_succ]
  refine wpAnyH_take (i := 19) (v := undef) rfl (by kernel_rfl) (by kernel_rfl) (by kernel_rfl) (fun _ _ _ h => h) (Or.inr ⟨by rfl, rfl⟩) (by assumption) ?_
  try simp only [Act.put, List.getElem_toArray, List.getElem_cons_succ, List.getElem_cons_zero, List.setIfInBounds_toArray, List.set_cons_zero, List.set_cons_succ]
  refine wpAnyH_take (i := 20) (v := undef) rfl (by kernel_rfl) (by kernel_rfl) (by kernel_rfl) (fun _ _ _ h => h) (Or.inr ⟨by rfl, rfl⟩) (by assumption) ?_
  try simp only [Act.put, List.getElem_toArray, List.getElem_cons_succ, List.getElem_cons_zero, List.setIfInBounds_toArray, List.set_cons_zero, List.set_cons_succ]
  refine wpAnyH_take (i := 21) (v := undef) rfl (by kernel_rfl) (by kernel_rfl) (by kernel_rfl) (fun _ _ _ h => h) (Or.inr ⟨by rfl, rfl⟩) (by assumption) ?_
  try simp only [Act.put, List.getElem_toArray, List.getElem_cons_succ, List.getElem_cons_zero, List.setIfInBounds_toArray, List.set_cons_zero, List.set_cons_succ]
  refine wpAnyH_take (i := 22) (v := undef) rfl (by kernel_rfl) (by kernel_rfl) (by kernel_rfl) (fun _ _ _ h => h) (Or.inr ⟨by rfl, rfl⟩) (by assumption) ?_
  try simp only [Act.put, List.getElem_toArray, List.getElem_cons_succ, List.getElem_cons_zero, List.setIfInBounds_toArray, List.set_cons_zero, List.set_cons_succ]
  refine wpAnyH_take (i := 23) (v := undef) rfl (by kernel_rfl) (by kernel_rfl) (by kernel_rfl) (fun _ _ _ h => h) (Or.inr ⟨by rfl, rfl⟩) (by assumption) ?_
  try simp only [Act.put, List.getElem_toArray, List.getElem_cons_succ, List.getElem_cons_zero, List.setIfInBounds_toArray, List.set_cons_zero, List.set_cons_succ]
  refine wpAnyH_take (i := 24) (v := undef) rfl (by kernel_rfl) (by kernel_rfl) (by kernel_rfl) (fun _ _ _ h => h) (Or.inr ⟨by rfl, rfl⟩) (by assumption) ?_
  try simp only [Act.put, List.getElem_toArray, List.getElem_cons_succ, List.getElem_cons_zero, List.setIfInBounds_toArray, List.set_cons_zero, List.set_cons_succ]
  refine wpAnyH_take (i := 25) (v := undef) rfl (by kernel_rfl) (by kernel_rfl) (by kernel_rfl) (fun _ _ _ h => h) (Or.inr ⟨by rfl, rfl⟩) (by assumption) ?_
  try simp only [Act.put, List.getElem_toArray, List.getElem_cons_succ, List.getElem_cons_zero, List.setIfInBounds_toArray, List.set_cons_zero, List.set_cons_succ]
  refine wpAnyH_take (i := 26) (v := undef) rfl (by kernel_rfl) (by kernel_rfl) (by kernel_rfl) (fun _ _ _ h => h) (Or.inr ⟨by rfl, rfl⟩) (by assumption) ?_
  try simp only [Act.put, List.getElem_toArray, List.getElem_cons_succ, List.getElem_cons_zero, List.setIfInBounds_toArray, List.set_cons_zero, List.set_cons_succ]
  refine wpAnyH_take (i := 27) (v := undef) rfl (by kernel_rfl) (by kernel_rfl) (by kernel_rfl) (fun _ _ _ h => h) (Or.inr ⟨by rfl, rfl⟩) (by assumption) ?_
  try simp only [Act.put, List.getElem_toArray, List.getElem_cons_succ, List.getElem_cons_zero, List.setIfInBounds_toArray, List.set_cons_zero, List.set_cons_succ]
  refine wpAnyH_take (i := 28) (v := ?_) rfl (by kernel_rfl) (by kernel_rfl) (by kernel_rfl) (fun _ _ _ h => h) (Or.inl ⟨by rfl, ?_⟩) (by assumption) ?_
  rotate_left
  · (intro w hSw; (try dsimp only at hSw); go_simp)
    all_goals with_reducible rfl
  try simp only [Act.put, List.getElem_toArray, List.getElem_cons_succ, List.getElem_cons_zero, List.setIfInBounds_toArray, List.set_cons_zero, List.set_cons_succ]
  refine wpAnyH_take (i := 29) (v := ?_) rfl (by kernel_rfl) (by kernel_rfl) (by kernel_rfl) (fun _ _ _ h => h) (Or.inl ⟨by rfl, ?_⟩) (by assumption) ?_
  rotate_left
  · (intro w hSw; (try dsimp only at hSw); go_simp)
    all_goals with_reducible rfl
  try simp only [Act.put, List.getElem_toArray, List.getElem_cons_succ, List.getElem_cons_zero, List.setIfInBounds_toArray, List.set_cons_zero, List.set_cons_succ]
  refine wpAnyH_done (by kernel_rfl) ?_ _
  all_goals skip
  all_goals
    clear hS80
    obtain ⟨uf95, c85, c86, c87, c88, c89, c90, c91, c92, c93, c94⟩ := (‹Dn W61 _ ∧ _› : _ ∧ _)
    obtain ⟨w96, rfl⟩ : ∃ w96 : World, w96 = wa := ⟨_, rfl⟩
    have l97 := Nat.lt_of_lt_of_le l62 uf95.size
    clear l62
    have l98 := Nat.lt_of_lt_of_le l67 uf95.size
    clear l67
    have l99 := Nat.lt_of_lt_of_le l70 uf95.size
    clear l70
    have l100 := Nat.lt_of_lt_of_le l79 uf95.size
    clear l79
    have c101 := uf95.cell k81.out
    have c102 := uf95.cell k82.out
    have c103 := uf95.cell k83.out
    have c104 := uf95.cell k84.out
    clear k81 k82 k83 k84
    have vuf95 := vW61.trans uf95
    clear uf95 vW61 HShS80
    clear c89 c90 l98
    clear c91 c92 c93 c94 l100
    go_wp2_with fail
    refine (g9_bad a b c d 0 0 0 0 m _ HM.out).mono ?_
    rintro e w5 ⟨rfl, qw5⟩
    have l105 := Nat.lt_of_lt_of_le l97 qw5.size
    have c106 := qw5.cell c85
    have c107 := qw5.cell c86
    have c108 := qw5.cell c87
    have c109 := qw5.cell c88
    have l110 := Nat.lt_of_lt_of_le l99 qw5.size
    have c111 := qw5.cell c101
    have c112 := qw5.cell c102
    have c113 := qw5.cell c103
    have c114 := qw5.cell c104
    clear l97 c85 c86 c87 c88 l99 c101 c102 c103 c104
    have uw5 := vuf95.trans qw5
    clear qw5 vuf95
    go_wp2_with fail
    refine (lives9 _ (hE.dn uw5)).mono ?_
    rintro e w6 ⟨rfl, qw6⟩
    have l115 := Nat.lt_of_lt_of_le l105 qw6.size
    have c116 := qw6.cell c106
    have c117 := qw6.cell c107
    have c118 := qw6.cell c108
    have c119 := qw6.cell c109
    have l120 := Nat.lt_of_lt_of_le l110 qw6.size
    have c121 := qw6.cell c111
    have c122 := qw6.cell c112
    have c123 := qw6.cell c113
    have c124 := qw6.cell c114
    clear l105 c106 c107 c108 c109 l110 c111 c112 c113 c114
    have uw6 := uw5.trans qw6
    clear qw6 uw5
    go_wp2_with fail
    go_ret
    exact ⟨rfl, uw6⟩
theorem kd1none1_10 {W w1 w2 : World} {a0 a1 a2 a3 a4 a5 a6 a7 a8 a9 : Addr} {v0 v1 v2 v3 v4 v5 v6 v7 v8 v9 : Value} (k : Dn w1 w2) (h : Dn W w1 ∧ w1.cell? a0 = some v0 ∧ w1.cell? a1 = some v1 ∧ w1.cell? a2 = some v2 ∧ w1.cell? a3 = some v3 ∧ w1.cell? a4 = some v4 ∧ w1.cell? a5 = some v5 ∧ w1.cell? a6 = some v6 ∧ w1.cell? a7 = some v7 ∧ w1.cell? a8 = some v8 ∧ w1.cell? a9 = some v9) :
    Dn W w2 ∧ w2.cell? a0 = some v0 ∧ w2.cell? a1 = some v1 ∧ w2.cell? a2 = some v2 ∧ w2.cell? a3 = some v3 ∧ w2.cell? a4 = some v4 ∧ w2.cell? a5 = some v5 ∧ w2.cell? a6 = some v6 ∧ w2.cell? a7 = some v7 ∧ w2.cell? a8 = some v8 ∧ w2.cell? a9 = some v9 := by
  obtain ⟨h1, c0, c1, c2, c3, c4, c5, c6, c7, c8, c9⟩ := h
  exact ⟨h1.trans k, k.cell c0, k.cell c1, k.cell c2, k.cell c3, k.cell c4, k.cell c5, k.cell c6, k.cell c7, k.cell c8, k.cell c9⟩
set_option maxHeartbeats 4000000 in
set_option maxRecDepth 100000 in
theorem one_none1 (a b c d k z0 z1 m n e1 f s0 s1 s2 s3 : Int) (HC : Hid (∀ W, Calls Tryd.prog 18 #[.agg #[.int .i8 a, .int .i64 b, .int .i8 c, .int .i64 d]] W fun o w' => o = .returned (.int .i64 0) ∧ Dn W w')) (HL : Hid (∀ W, Calls Tryd.prog 29 #[.agg #[.int .i8 a, .int .i64 b, .int .i8 c, .int .i64 d]] W fun o w' => o = .returned (.tuple #[.int .i64 n, .int .i64 e1]) ∧ Dn W w')) (HS : Hid (∀ W, Calls Tryd.prog 30 #[.agg #[.int .i8 a, .int .i64 b, .int .i8 c, .int .i64 d], .int .i64 k] W fun o w' => o = .returned (.tuple #[.agg #[.int .i8 0, .int .i64 0, .int .i8 0, .int .i64 0], .int .i64 f]) ∧ Dn W w')) (HO : Hid (∀ W, Calls Tryd.prog 31 #[.int .i64 z0, .int .i64 z1] W fun o w' => o = .returned (.tuple #[.agg #[.int .i8 0, .int .i64 0, .int .i8 0, .int .i64 0], .int .i64 12]) ∧ Dn W w')) (g1 : z1 < z0) (HRL : Hid (∀ W, Calls Tryd.prog 33 #[.agg #[.int .i8 a, .int .i64 b, .int .i8 c, .int .i64 d]] W fun o w' => o = .returned (.tuple #[.int .i64 n, .int .i64 e1]) ∧ Dn W w')) (HRS : Hid (∀ W, Calls Tryd.prog 34 #[.agg #[.int .i8 a, .int .i64 b, .int .i8 c, .int .i64 d], .int .i64 k] W fun o w' => o = .returned (.tuple #[.agg #[.int .i8 0, .int .i64 0, .int .i8 0, .int .i64 0], .int .i64 f]) ∧ Dn W w')) (HM : Hid (f ≠ 0)) (w : World) (hE : EnvR w) :
    Calls Tryd.prog 6 #[.agg #[.int .i8 a, .int .i64 b, .int .i8 c, .int .i64 d], .int .i64 k, .agg #[.int .i64 z0, .int .i64 z1]] w fun ro w' => ro = .returned (.bool true) ∧ Dn w w' := by
  have t1 : decide (z1 < z0) = true := by simpa using g1
  have t2 : decide (z0 ≤ z1) = false := by simp; omega
  clear g1
  have t3 : (f != 0) = true := by simpa using HM.out
  go_enter Tryd.func6, Tryd.ntmps6
  go_wp2_with fail
  obtain ⟨W1, hW1⟩ : ∃ W1, W1 = (w.alloc (.cells #[.int .i8 a, .int .i64 b, .int .i8 c, .int .i64 d] 29)).alloc (.cells #[.int .i64 z0, .int .i64 z1] 50) := ⟨_, rfl⟩
  have uW1 : Dn w W1 := by rw [hW1]; exact ((Dn.refl _).alloc _).alloc _
  have c2 : W1.cell? ⟨w.heap.size, 0, none⟩ = some (.int .i8 a) := by rw [hW1]; simp [go_sem]
  have c3 : W1.cell? ⟨w.heap.size, 1, none⟩ = some (.int .i64 b) := by rw [hW1]; simp [go_sem]
  have c4 : W1.cell? ⟨w.heap.size, 2, none⟩ = some (.int .i8 c) := by rw [hW1]; simp [go_sem]
  have c5 : W1.cell? ⟨w.heap.size, 3, none⟩ = some (.int .i64 d) := by rw [hW1]; simp [go_sem]
  have l6 : w.heap.size < W1.heap.size := by rw [hW1]; simp <;> omega
  have c7 : W1.cell? ⟨w.heap.size + 1, 0, none⟩ = some (.int .i64 z0) := by rw [hW1]; simp [go_sem]
  have c8 : W1.cell? ⟨w.heap.size + 1, 1, none⟩ = some (.int .i64 z1) := by rw [hW1]; simp [go_sem]
  have l9 : w.heap.size + 1 < W1.heap.size := by rw [hW1]; simp <;> omega
  rw [← hW1]
  clear hW1
  refine (HC.out _).mono ?_
  rintro e w1 ⟨rfl, qw1⟩
  have l10 := Nat.lt_of_lt_of_le l6 qw1.size
  have c11 := qw1.cell c2
  have c12 := qw1.cell c3
  have c13 := qw1.cell c4
  have c14 := qw1.cell c5
  have l15 := Nat.lt_of_lt_of_le l9 qw1.size
  have c16 := qw1.cell c7
  have c17 := qw1.cell c8
  clear l6 c2 c3 c4 c5 l9 c7 c8
  have uw1 := uW1.trans qw1
  clear qw1 uW1
  go_wp2_with fail
  refine (HL.out _).mono ?_
  rintro e w2 ⟨rfl, qw2⟩
  have l18 := Nat.lt_of_lt_of_le l10 qw2.size
  have c19 := qw2.cell c11
  have c20 := qw2.cell c12
  have c21 := qw2.cell c13
  have c22 := qw2.cell c14
  have l23 := Nat.lt_of_lt_of_le l15 qw2.size
  have c24 := qw2.cell c16
  have c25 := qw2.cell c17
  clear l10 c11 c12 c13 c14 l15 c16 c17
  have uw2 := uw1.trans qw2
  clear qw2 uw1
  go_wp2_with fail
  refine (HS.out _).mono ?_
  rintro e w3 ⟨rfl, qw3⟩
  have l26 := Nat.lt_of_lt_of_le l18 qw3.size
  have c27 := qw3.cell c19
  have c28 := qw3.cell c20
  have c29 := qw3.cell c21
  have c30 := qw3.cell c22
  have l31 := Nat.lt_of_lt_of_le l23 qw3.size
  have c32 := qw3.cell c24
  have c33 := qw3.cell c25
  clear l18 c19 c20 c21 c22 l23 c24 c25
  have uw3 := uw2.trans qw3
  clear qw3 uw2
  go_wp2_with fail
  obtain ⟨W34, hW34⟩ : ∃ W34, W34 = w3.alloc (.cells #[.int .i8 0, .int .i64 0, .int .i8 0, .int .i64 0] 29) := ⟨_, rfl⟩
  have uW34 : Dn w3 W34 := by rw [hW34]; exact (Dn.refl _).alloc _
  have l35 := Nat.lt_of_lt_of_le l26 uW34.size
  have c36 := uW34.cell c27
  have c37 := uW34.cell c28
  have c38 := uW34.cell c29
  have c39 := uW34.cell c30
  have l40 := Nat.lt_of_lt_of_le l31 uW34.size
  have c41 := uW34.cell c32
  have c42 := uW34.cell c33
  clear l26 c27 c28 c29 c30 l31 c32 c33
  have c43 : W34.cell? ⟨w3.heap.size, 0, none⟩ = some (.int .i8 0) := by rw [hW34]; simp [go_sem]
  have c44 : W34.cell? ⟨w3.heap.size, 1, none⟩ = some (.int .i64 0) := by rw [hW34]; simp [go_sem]
  have c45 : W34.cell? ⟨w3.heap.size, 2, none⟩ = some (.int .i8 0) := by rw [hW34]; simp [go_sem]
  have c46 : W34.cell? ⟨w3.heap.size, 3, none⟩ = some (.int .i64 0) := by rw [hW34]; simp [go_sem]
  have l47 : w3.heap.size < W34.heap.size := by rw [hW34]; simp <;> omega
  rw [← hW34]
  clear hW34
  have vW34 := uw3.trans uW34
  clear uW34 uw3
  refine (HO.out _).mono ?_
  rintro e w4 ⟨rfl, qw4⟩
  have l48 := Nat.lt_of_lt_of_le l35 qw4.size
  have c49 := qw4.cell c36
  have c50 := qw4.cell c37
  have c51 := qw4.cell c38
  have c52 := qw4.cell c39
  have l53 := Nat.lt_of_lt_of_le l40 qw4.size
  have c54 := qw4.cell c41
  have c55 := qw4.cell c42
  have l56 := Nat.lt_of_lt_of_le l47 qw4.size
  have c57 := qw4.cell c43
  have c58 := qw4.cell c44
  have c59 := qw4.cell c45
  have c60 := qw4.cell c46
  clear l35 c36 c37 c38 c39 l40 c41 c42 l47 c43 c44 c45 c46
  have uw4 := vW34.trans qw4
  clear qw4 vW34
  go_wp2_with fail
  obtain ⟨W61, hW61⟩ : ∃ W61, W61 = w4.alloc (.cells #[.int .i8 0, .int .i64 0, .int .i8 0, .int .i64 0] 29) := ⟨_, rfl⟩
  have uW61 : Dn w4 W61 := by rw [hW61]; exact (Dn.refl _).alloc _
  have l62 := Nat.lt_of_lt_of_le l48 uW61.size
  have c63 := uW61.cell c49
  have c64 := uW61.cell c50
  have c65 := uW61.cell c51
  have c66 := uW61.cell c52
  have l67 := Nat.lt_of_lt_of_le l53 uW61.size
  have c68 := uW61.cell c54
  have c69 := uW61.cell c55
  have l70 := Nat.lt_of_lt_of_le l56 uW61.size
  have c71 := uW61.cell c57
  have c72 := uW61.cell c58
  have c73 := uW61.cell c59
  have c74 := uW61.cell c60
  clear l48 c49 c50 c51 c52 l53 c54 c55 l56 c57 c58 c59 c60
  have c75 : W61.cell? ⟨w4.heap.size, 0, none⟩ = some (.int .i8 0) := by rw [hW61]; simp [go_sem]
  have c76 : W61.cell? ⟨w4.heap.size, 1, none⟩ = some (.int .i64 0) := by rw [hW61]; simp [go_sem]
  have c77 : W61.cell? ⟨w4.heap.size, 2, none⟩ = some (.int .i8 0) := by rw [hW61]; simp [go_sem]
  have c78 : W61.cell? ⟨w4.heap.size, 3, none⟩ = some (.int .i64 0) := by rw [hW61]; simp [go_sem]
  have l79 : w4.heap.size < W61.heap.size := by rw [hW61]; simp <;> omega
  rw [← hW61]
  clear hW61
  have vW61 := uw4.trans uW61
  clear uW61 uw4
  have hS80 := kd1none1_10 (W := W61) (Dn.refl _) ⟨Dn.refl _, c63, c64, c65, c66, c68, c69, c75, c76, c77, c78⟩
  have k81 := Lib.hid c71
  have k82 := Lib.hid c72
  have k83 := Lib.hid c73
  have k84 := Lib.hid c74
  have HShS80 := Lib.hid hS80
  clear c63 c64 c65 c66 c68 c69 c71 c72 c73 c74 c75 c76 c77 c78
  refine wp_region_held_drew (S := fun w' => Dn W61 w' ∧ w'.cell? ⟨w.heap.size, 0, none⟩ = some (.int .i8 a) ∧ w'.cell? ⟨w.heap.size, 1, none⟩ = some (.int .i64 b) ∧ w'.cell? ⟨w.heap.size, 2, none⟩ = some (.int .i8 c) ∧ w'.cell? ⟨w.heap.size, 3, none⟩ = some (.int .i64 d) ∧ w'.cell? ⟨w.heap.size + 1, 0, none⟩ = some (.int .i64 z0) ∧ w'.cell? ⟨w.heap.size + 1, 1, none⟩ = some (.int .i64 z1) ∧ w'.cell? ⟨w4.heap.size, 0, none⟩ = some (.int .i8 0) ∧ w'.cell? ⟨w4.heap.size, 1, none⟩ = some (.int .i64 0) ∧ w'.cell? ⟨w4.heap.size, 2, none⟩ = some (.int .i8 0) ∧ w'.cell? ⟨w4.heap.size, 3, none⟩ = some (.int .i64 0)) (by kernel_rfl) ?_ (fun hHeld => ?_)
  · (try dsimp only); (first | exact kd1none1_10 ((Dn.refl _).drew) hS80 | exact kd1none1_10 ‹Dn _ _› ‹_› | exact kd1none1_10 (Up.dn ‹Up _ _›) ‹_› | assumption | exact kd1none1_10 ((Dn.refl _).alloc _) ‹_›)
  refine wpAnyH_take (i := 0) (v := ?_) rfl (by kernel_rfl) (by kernel_rfl) (by kernel_rfl) (fun _ _ _ h => h) (Or.inl ⟨by rfl, ?_⟩) (by assumption) ?_
  rotate_left
  · (intro w hSw; (try dsimp only at hSw); go_simp)
    all_goals with_reducible rfl
  try simp only [Act.put, List.getElem_toArray, List.getElem_cons_succ, List.getElem_cons_zero, List.setIfInBounds_toArray, List.set_cons_zero, List.set_cons_succ]
  refine wpAnyH_take (i := 1) (v := ?_) rfl (by kernel_rfl) (by kernel_rfl) (by kernel_rfl) (fun _ _ _ h => h) (Or.inl ⟨by rfl, ?_⟩) (by assumption) ?_
  rotate_left
  · (intro w hSw; (try dsimp only at hSw); go_simp)
    all_goals with_reducible rfl
  try simp only [Act.put, List.getElem_toArray, List.getElem_cons_succ, List.getElem_cons_zero, List.setIfInBounds_toArray, List.set_cons_zero, List.set_cons_succ]
  refine wpAnyH_take (i := 2) (v := ?_) rfl (by kernel_rfl) (by kernel_rfl) (by kernel_rfl) (fun _ _ _ h => h) (Or.inl ⟨by rfl, ?_⟩) (by assumption) ?_
  rotate_left
  · (intro w hSw; (try dsimp only at hSw); go_simp)
    all_goals with_reducible rfl
  try simp only [Act.put, List.getElem_toArray, List.getElem_cons_succ, List.getElem_cons_zero, List.setIfInBounds_toArray, List.set_cons_zero, List.set_cons_succ]
  refine wpAnyH_take (i := 3) (v := ?_) rfl (by kernel_rfl) (by kernel_rfl) (by kernel_rfl) (fun _ _ _ h => h) (Or.inl ⟨by rfl, ?_⟩) (by assumption) ?_
  rotate_left
  · (intro w hSw; (try dsimp only at hSw); go_simp)
    all_goals with_reducible rfl
  try simp only [Act.put, List.getElem_toArray, List.getElem_cons_succ, List.getElem_cons_zero, List.setIfInBounds_toArray, List.set_cons_zero, List.set_cons_succ]
  refine wpAnyH_take (i := 4) (v := ?_) rfl (by kernel_rfl) (by kernel_rfl) (by kernel_rfl) (fun _ _ _ h => h) (Or.inl ⟨by rfl, ?_⟩) (by assumption) ?_
  rotate_left
  · (intro w hSw; (try dsimp only at hSw); go_simp)
    all_goals with_reducible rfl
  try simp only [Act.put, List.getElem_toArray, List.getElem_cons_succ, List.getElem_cons_zero, List.setIfInBounds_toArray, List.set_cons_zero, List.set_cons_succ]
  refine wpAnyH_take (i := 5) (v := ?_) rfl (by kernel_rfl) (by kernel_rfl) (by kernel_rfl) (fun _ _ _ h => h) (Or.inl ⟨by rfl, ?_⟩) (by assumption) ?_
  rotate_left
  · (intro w hSw; (try dsimp only at hSw); go_simp)
    all_goals with_reducible rfl
  try simp only [Act.put, List.getElem_toArray, List.getElem_cons_succ, List.getElem_cons_zero, List.setIfInBounds_toArray, List.set_cons_zero, List.set_cons_succ]
  refine wpAnyH_take (i := 6) (v := ?_) rfl (by kernel_rfl) (by kernel_rfl) (by kernel_rfl) (fun _ _ _ h => h) (Or.inl ⟨by rfl, ?_⟩) (by assumption) ?_
  rotate_left
  · (intro w hSw; (try dsimp only at hSw); go_simp)
    all_goals with_reducible rfl
  try simp only [Act.put, List.getElem_toArray, List.getElem_cons_succ, List.getElem_cons_zero, List.setIfInBounds_toArray, List.set_cons_zero, List.set_cons_succ]
  refine wpAnyH_take (i := 7) (v := ?_) rfl (by kernel_rfl) (by kernel_rfl) (by kernel_rfl) (fun _ _ _ h => h) (Or.inl ⟨by rfl, ?_⟩) (by assumption) ?_
  rotate_left
  · (intro w hSw; (try dsimp only at hSw); go_simp)
    all_goals with_reducible rfl
  try simp only [Act.put, List.getElem_toArray, List.getElem_cons_succ, List.getElem_cons_zero, List.setIfInBounds_toArray, List.set_cons_zero, List.set_cons_succ]
  refine wpAnyH_take (i := 8) (v := ?_) rfl (by kernel_rfl) (by kernel_rfl) (by kernel_rfl) (fun _ _ _ h => h) (Or.inl ⟨by rfl, ?_⟩) (by assumption) ?_
  rotate_left
  · (intro w hSw; (try dsimp only at hSw); go_simp)
    all_goals with_reducible rfl
  try simp only [Act.put, List.getElem_toArray, List.getElem_cons_succ, List.getElem_cons_zero, List.setIfInBounds_toArray, List.set_cons_zero, List.set_cons_succ]
  refine wpAnyH_ready (rs := [9]) (by kernel_rfl) (by simp) ?_
  refine AllReadyH.cons rfl (fun K hK => ?_) AllReadyH.nil
  go_simp
  (first
      | (go_at_call 17; refine (g9_any _ _ _ _ _ _ _ _ _ _ _ ?_).mono ?_; (first | exact Or.inr ⟨by decide, rfl, rfl, rfl, rfl, rfl⟩ | exact Or.inl ⟨rfl, rfl, rfl, rfl, rfl, rfl⟩); rintro e wa ⟨rfl, qa⟩)
      | (go_at_call 32; refine (dy9 _ _ _).mono ?_; rintro e wa ⟨rfl, qa⟩))
  try go_wp2_with fail
  refine hK.out _ _ ?_ (fun hHeld => ?_)
  · (try dsimp only); (first | exact kd1none1_10 ((Dn.refl _).drew) hS80 | exact kd1none1_10 ‹Dn _ _› ‹_› | exact kd1none1_10 (Up.dn ‹Up _ _›) ‹_› | assumption | exact kd1none1_10 ((Dn.refl _).alloc _) ‹_›)
  clear hK K
  try simp only [Act.put, List.getElem_toArray, List.getElem_cons_succ, List.getElem_cons_zero, List.setIfInBounds_toArray, List.set_cons_zero, List.set_cons_succ]
  refine wpAnyH_take (i := 10) (v := ?_) rfl (by kernel_rfl) (by kernel_rfl) (by kernel_rfl) (fun _ _ _ h => h) (Or.inl ⟨by rfl, ?_⟩) (by assumption) ?_
  rotate_left
  · (intro w hSw; (try dsimp only at hSw); go_simp)
    all_goals with_reducible rfl
  try simp only [Act.put, List.getElem_toArray, List.getElem_cons_succ, List.getElem_cons_zero, List.setIfInBounds_toArray, List.set_cons_zero, List.set_cons_succ]
  refine wpAnyH_take (i := 11) (v := ?_) rfl (by kernel_rfl) (by kernel_rfl) (by kernel_rfl) (fun _ _ _ h => h) (Or.inl ⟨by rfl, ?_⟩) (by assumption) ?_
  rotate_left
  · (intro w hSw; (try dsimp only at hSw); go_simp)
    all_goals with_reducible rfl
  try simp only [Act.put, List.getElem_toArray, List.getElem_cons_succ, List.getElem_cons_zero, List.setIfInBounds_toArray, List.set_cons_zero, List.set_cons_succ]
  refine wpAnyH_take (i := 12) (v := ?_) rfl (by kernel_rfl) (by kernel_rfl) (by kernel_rfl) (fun _ _ _ h => h) (Or.inl ⟨by rfl, ?_⟩) (by assumption) ?_
  rotate_left
  · (intro w hSw; (try dsimp only at hSw); go_simp)
    all_goals with_reducible rfl
  try simp only [Act.put, List.getElem_toArray, List.getElem_cons_succ, List.getElem_cons_zero, List.setIfInBounds_toArray, List.set_cons_zero, List.set_cons_succ]
  refine wpAnyH_take (i := 13) (v := ?_) rfl (by kernel_rfl) (by kernel_rfl) (by kernel_rfl) (fun _ _ _ h => h) (Or.inl ⟨by rfl, ?_⟩) (by assumption) ?_
  rotate_left
  · (intro w hSw; (try dsimp only at hSw); go_simp)
    all_goals with_reducible rfl
  try simp only [Act.put, List.getElem_toArray, List.getElem_cons_succ, List.getElem_cons_zero, List.setIfInBounds_toArray, List.set_cons_zero, List.set_cons_succ]
  refine wpAnyH_take (i := 14) (v := ?_) rfl (by kernel_rfl) (by kernel_rfl) (by kernel_rfl) (fun _ _ _ h => h) (Or.inl ⟨by rfl, ?_⟩) (by assumption) ?_
  rotate_left
  · (intro w hSw; (try dsimp only at hSw); go_simp)
    all_goals with_reducible rfl
  try simp only [Act.put, List.getElem_toArray, List.getElem_cons_succ, List.getElem_cons_zero, List.setIfInBounds_toArray, List.set_cons_zero, List.set_cons_succ]
  refine wpAnyH_take (i := 15) (v := ?_) rfl (by kernel_rfl) (by kernel_rfl) (by kernel_rfl) (fun _ _ _ h => h) (Or.inl ⟨by rfl, ?_⟩) (by assumption) ?_
  rotate_left
  · (intro w hSw; (try dsimp only at hSw); go_simp)
    all_goals with_reducible rfl
  try simp only [Act.put, List.getElem_toArray, List.getElem_cons_succ, List.getElem_cons_zero, List.setIfInBounds_toArray, List.set_cons_zero, List.set_cons_succ]
  refine wpAnyH_take (i := 16) (v := ?_) rfl (by kernel_rfl) (by kernel_rfl) (by kernel_rfl) (fun _ _ _ h => h) (Or.inl ⟨by rfl, ?_⟩) (by assumption) ?_
  rotate_left
  · (intro w hSw; (try dsimp only at hSw); go_simp)
    all_goals with_reducible rfl
  try simp only [Act.put, List.getElem_toArray, List.getElem_cons_succ, List.getElem_cons_zero, List.setIfInBounds_toArray, List.set_cons_zero, List.set_cons_succ]
  refine wpAnyH_take (i := 17) (v := ?_) rfl (by kernel_rfl) (by kernel_rfl) (by kernel_rfl) (fun _ _ _ h => h) (Or.inl ⟨by rfl, ?_⟩) (by assumption) ?_
  rotate_left
  · (intro w hSw; (try dsimp only at hSw); go_simp)
    all_goals with_reducible rfl
  try simp only [Act.put, List.getElem_toArray, List.getElem_cons_succ, List.getElem_cons_zero, List.setIfInBounds_toArray, List.set_cons_zero, List.set_cons_succ]
  refine wpAnyH_take (i := 18) (v := ?_) rfl (by kernel_rfl) (by kernel_rfl) (by kernel_rfl) (fun _ _ _ h => h) (Or.inl ⟨by rfl, ?_⟩) (by assumption) ?_
  rotate_left
  · (intro w hSw; (try dsimp only at hSw); go_simp)
    all_goals with_reducible rfl
  try simp only [Act.put, List.getElem_toArray, List.getElem_cons_succ, List.getElem_cons_zero, List.setIfInBounds_toArray, List.set_cons_zero, List.set_cons_succ]
  refine wpAnyH_take (i := 19) (v := undef) rfl (by kernel_rfl) (by kernel_rfl) (by kernel_rfl) (fun _ _ _ h => h) (Or.inr ⟨by rfl, rfl⟩) (by assumption) ?_
  try simp only [Act.put, List.getElem_toArray, List.getElem_cons_succ, List.getElem_cons_zero, List.setIfInBounds_toArray, List.set_cons_zero, List.set_cons_succ]
  refine wpAnyH_take (i := 20) (v := undef) rfl (by kernel_rfl) (by kernel_rfl) (by kernel_rfl) (fun _ _ _ h => h) (Or.inr ⟨by rfl, rfl⟩) (by assumption) ?_
  try simp only [Act.put, List.getElem_toArray, List.getElem_cons_succ, List.getElem_cons_zero, List.setIfInBounds_toArray, List.set_cons_zero, List.set_cons_succ]
  refine wpAnyH_take (i := 21) (v := undef) rfl (by kernel_rfl) (by kernel_rfl) (by kernel_rfl) (fun _ _ _ h => h) (Or.inr ⟨by rfl, rfl⟩) (by assumption) ?_
  try simp only [Act.put, List.getElem_toArray, List.getElem_cons_succ, List.getElem_cons_zero, List.setIfInBounds_toArray, List.set_cons_zero, List.set_cons_succ]
  refine wpAnyH_take (i := 22) (v := undef) rfl (by kernel_rfl) (by kernel_rfl) (by kernel_rfl) (fun _ _ _ h => h) (Or.inr ⟨by rfl, rfl⟩) (by assumption) ?_
  try simp only [Act.put, List.getElem_toArray, List.getElem_cons_succ, List.getElem_cons_zero, List.setIfInBounds_toArray, List.set_cons_zero, List.set_cons_succ]
  refine wpAnyH_take (i := 23) (v := undef) rfl (by kernel_rfl) (by kernel_rfl) (by kernel_rfl) (fun _ _ _ h => h) (Or.inr ⟨by rfl, rfl⟩) (by assumption) ?_
  try simp only [Act.put, List.getElem_toArray, List.getElem_cons_succ, List.getElem_cons_zero, List.setIfInBounds_toArray, List.set_cons_zero, List.set_cons_succ]
  refine wpAnyH_take (i := 24) (v := undef) rfl (by kernel_rfl) (by kernel_rfl) (by kernel_rfl) (fun _ _ _ h => h) (Or.inr ⟨by rfl, rfl⟩) (by assumption) ?_
  try simp only [Act.put, List.getElem_toArray, List.getElem_cons_succ, List.getElem_cons_zero, List.setIfInBounds_toArray, List.set_cons_zero, List.set_cons_succ]
  refine wpAnyH_take (i := 25) (v := undef) rfl (by kernel_rfl) (by kernel_rfl) (by kernel_rfl) (fun _ _ _ h => h) (Or.inr ⟨by rfl, rfl⟩) (by assumption) ?_
  try simp only [Act.put, List.getElem_toArray, List.getElem_cons_succ, List.getElem_cons_zero, List.setIfInBounds_toArray, List.set_cons_zero, List.set_cons_succ]
  refine wpAnyH_take (i := 26) (v := undef) rfl (by kernel_rfl) (by kernel_rfl) (by kernel_rfl) (fun _ _ _ h => h) (Or.inr ⟨by rfl, rfl⟩) (by assumption) ?_
  try simp only [Act.put, List.getElem_toArray, List.getElem_cons_succ, List.getElem_cons_zero, List.setIfInBounds_toArray, List.set_cons_zero, List.set_cons_succ]
  refine wpAnyH_take (i := 27) (v := undef) rfl (by kernel_rfl) (by kernel_rfl) (by kernel_rfl) (fun _ _ _ h => h) (Or.inr ⟨by rfl, rfl⟩) (by assumption) ?_
  try simp only [Act.put, List.getElem_toArray, List.getElem_cons_succ, List.getElem_cons_zero, List.setIfInBounds_toArray, List.set_cons_zero, List.set_cons_succ]
  refine wpAnyH_take (i := 28) (v := ?_) rfl (by kernel_rfl) (by kernel_rfl) (by kernel_rfl) (fun _ _ _ h => h) (Or.inl ⟨by rfl, ?_⟩) (by assumption) ?_
  rotate_left
  · (intro w hSw; (try dsimp only at hSw); go_simp)
    all_goals with_reducible rfl
  try simp only [Act.put, List.getElem_toArray, List.getElem_cons_succ, List.getElem_cons_zero, List.setIfInBounds_toArray, List.set_cons_zero, List.set_cons_succ]
  refine wpAnyH_take (i := 29) (v := ?_) rfl (by kernel_rfl) (by kernel_rfl) (by kernel_rfl) (fun _ _ _ h => h) (Or.inl ⟨by rfl, ?_⟩) (by assumption) ?_
  rotate_left
  · (intro w hSw; (try dsimp only at hSw); go_simp)
    all_goals with_reducible rfl
  try simp only [Act.put, List.getElem_toArray, List.getElem_cons_succ, List.getElem_cons_zero, List.setIfInBounds_toArray, List.set_cons_zero, List.set_cons_succ]
  refine wpAnyH_done (by kernel_rfl) ?_ _
  all_goals skip
  all_goals
    clear hS80
    obtain ⟨uf95, c85, c86, c87, c88, c89, c90, c91, c92, c93, c94⟩ := (‹Dn W61 _ ∧ _› : _ ∧ _)
    obtain ⟨w96, rfl⟩ : ∃ w96 : World, w96 = wa := ⟨_, rfl⟩
    have l97 := Nat.lt_of_lt_of_le l62 uf95.size
    clear l62
    have l98 := Nat.lt_of_lt_of_le l67 uf95.size
    clear l67
    have l99 := Nat.lt_of_lt_of_le l70 uf95.size
    clear l70
    have l100 := Nat.lt_of_lt_of_le l79 uf95.size
    clear l79
    have c101 := uf95.cell k81.out
    have c102 := uf95.cell k82.out
    have c103 := uf95.cell k83.out
    have c104 := uf95.cell k84.out
    clear k81 k82 k83 k84
    have vuf95 := vW61.trans uf95
    clear uf95 vW61 HShS80
    clear c89 c90 l98
    clear c91 c92 c93 c94 l100
    go_wp2_with fail
    refine (HRL.out _).mono ?_
    rintro e w5 ⟨rfl, qw5⟩
    have l105 := Nat.lt_of_lt_of_le l97 qw5.size
    have c106 := qw5.cell c85
    have c107 := qw5.cell c86
    have c108 := qw5.cell c87
    have c109 := qw5.cell c88
    have l110 := Nat.lt_of_lt_of_le l99 qw5.size
    have c111 := qw5.cell c101
    have c112 := qw5.cell c102
    have c113 := qw5.cell c103
    have c114 := qw5.cell c104
    clear l97 c85 c86 c87 c88 l99 c101 c102 c103 c104
    have uw5 := vuf95.trans qw5
    clear qw5 vuf95
    go_wp2_with fail
    refine (HRS.out _).mono ?_
    rintro e w6 ⟨rfl, qw6⟩
    have l115 := Nat.lt_of_lt_of_le l105 qw6.size
    have c116 := qw6.cell c106
    have c117 := qw6.cell c107
    have c118 := qw6.cell c108
    have c119 := qw6.cell c109
    have l120 := Nat.lt_of_lt_of_le l110 qw6.size
    have c121 := qw6.cell c111
    have c122 := qw6.cell c112
    have c123 := qw6.cell c113
    have c124 := qw6.cell c114
    clear l105 c106 c107 c108 c109 l110 c111 c112 c113 c114
    have uw6 := uw5.trans qw6
    clear qw6 uw5
    go_wp2_with fail
    obtain ⟨W125, hW125⟩ : ∃ W125, W125 = w6.alloc (.cells #[.int .i8 0, .int .i64 0, .int .i8 0, .int .i64 0] 29) := ⟨_, rfl⟩
    have uW125 : Dn w6 W125 := by rw [hW125]; exact (Dn.refl _).alloc _
    have l126 := Nat.lt_of_lt_of_le l115 uW125.size
    have c127 := uW125.cell c116
    have c128 := uW125.cell c117
    have c129 := uW125.cell c118
    have c130 := uW125.cell c119
    have l131 := Nat.lt_of_lt_of_le l120 uW125.size
    have c132 := uW125.cell c121
    have c133 := uW125.cell c122
    have c134 := uW125.cell c123
    have c135 := uW125.cell c124
    clear l115 c116 c117 c118 c119 l120 c121 c122 c123 c124
    have c136 : W125.cell? ⟨w6.heap.size, 0, none⟩ = some (.int .i8 0) := by rw [hW125]; simp [go_sem]
    have c137 : W125.cell? ⟨w6.heap.size, 1, none⟩ = some (.int .i64 0) := by rw [hW125]; simp [go_sem]
    have c138 : W125.cell? ⟨w6.heap.size, 2, none⟩ = some (.int .i8 0) := by rw [hW125]; simp [go_sem]
    have c139 : W125.cell? ⟨w6.heap.size, 3, none⟩ = some (.int .i64 0) := by rw [hW125]; simp [go_sem]
    have l140 : w6.heap.size < W125.heap.size := by rw [hW125]; simp <;> omega
    rw [← hW125]
    clear hW125
    have vW125 := uw6.trans uW125
    clear uW125 uw6
    refine (g9_bad 0 0 0 0 0 0 0 0 f _ HM.out).mono ?_
    rintro e w7 ⟨rfl, qw7⟩
    have l141 := Nat.lt_of_lt_of_le l126 qw7.size
    have c142 := qw7.cell c127
    have c143 := qw7.cell c128
    have c144 := qw7.cell c129
    have c145 := qw7.cell c130
    have l146 := Nat.lt_of_lt_of_le l131 qw7.size
    have c147 := qw7.cell c132
    have c148 := qw7.cell c133
    have c149 := qw7.cell c134
    have c150 := qw7.cell c135
    have l151 := Nat.lt_of_lt_of_le l140 qw7.size
    have c152 := qw7.cell c136
    have c153 := qw7.cell c137
    have c154 := qw7.cell c138
    have c155 := qw7.cell c139
    clear l126 c127 c128 c129 c130 l131 c132 c133 c134 c135 l140 c136 c137 c138 c139
    have uw7 := vW125.trans qw7
    clear qw7 vW125
    go_wp2_with fail
    refine (lives9 _ (hE.dn uw7)).mono ?_
    rintro e w8 ⟨rfl, qw8⟩
    have l156 := Nat.lt_of_lt_of_le l141 qw8.size
    have c157 := qw8.cell c142
    have c158 := qw8.cell c143
    have c159 := qw8.cell c144
    have c160 := qw8.cell c145
    have l161 := Nat.lt_of_lt_of_le l146 qw8.size
    have c162 := qw8.cell c147
    have c163 := qw8.cell c148
    have c164 := qw8.cell c149
    have c165 := qw8.cell c150
    have l166 := Nat.lt_of_lt_of_le l151 qw8.size
    have c167 := qw8.cell c152
    have c168 := qw8.cell c153
    have c169 := qw8.cell c154
    have c170 := qw8.cell c155
    clear l141 c142 c143 c144 c145 l146 c147 c148 c149 c150 l151 c152 c153 c154 c155
    have uw8 := uw7.trans qw8
    clear qw8 uw7
    go_wp2_with fail
    go_ret
    exact ⟨rfl, uw8⟩
theorem kd1min1_10 {W w1 w2 : World} {a0 a1 a2 a3 a4 a5 a6 a7 a8 a9 : Addr} {v0 v1 v2 v3 v4 v5 v6 v7 v8 v9 : Value} (k : Dn w1 w2) (h : Dn W w1 ∧ w1.cell? a0 = some v0 ∧ w1.cell? a1 = some v1 ∧ w1.cell? a2 = some v2 ∧ w1.cell? a3 = some v3 ∧ w1.cell? a4 = some v4 ∧ w1.cell? a5 = some v5 ∧ w1.cell? a6 = some v6 ∧ w1.cell? a7 = some v7 ∧ w1.cell? a8 = some v8 ∧ w1.cell? a9 = some v9) :
    Dn W w2 ∧ w2.cell? a0 = some v0 ∧ w2.cell? a1 = some v1 ∧ w2.cell? a2 = some v2 ∧ w2.cell? a3 = some v3 ∧ w2.cell? a4 = some v4 ∧ w2.cell? a5 = some v5 ∧ w2.cell? a6 = some v6 ∧ w2.cell? a7 = some v7 ∧ w2.cell? a8 = some v8 ∧ w2.cell? a9 = some v9 := by
  obtain ⟨h1, c0, c1, c2, c3, c4, c5, c6, c7, c8, c9⟩ := h
  exact ⟨h1.trans k, k.cell c0, k.cell c1, k.cell c2, k.cell c3, k.cell c4, k.cell c5, k.cell c6, k.cell c7, k.cell c8, k.cell c9⟩
set_option maxHeartbeats 4000000 in
set_option maxRecDepth 100000 in
theorem one_min1 (a b c d k z0 z1 m n e1 f s0 s1 s2 s3 : Int) (HC : Hid (∀ W, Calls Tryd.prog 18 #[.agg #[.int .i8 a, .int .i64 b, .int .i8 c, .int .i64 d]] W fun o w' => o = .returned (.int .i64 0) ∧ Dn W w')) (HL : Hid (∀ W, Calls Tryd.prog 29 #[.agg #[.int .i8 a, .int .i64 b, .int .i8 c, .int .i64 d]] W fun o w' => o = .returned (.tuple #[.int .i64 n, .int .i64 e1]) ∧ Dn W w')) (HS : Hid (∀ W, Calls Tryd.prog 30 #[.agg #[.int .i8 a, .int .i64 b, .int .i8 c, .int .i64 d], .int .i64 k] W fun o w' => o = .returned (.tuple #[.agg #[.int .i8 s0, .int .i64 s1, .int .i8 s2, .int .i64 s3], .int .i64 0]) ∧ Dn W w')) (HO : Hid (∀ W, Calls Tryd.prog 31 #[.int .i64 z0, .int .i64 z1] W fun o w' => o = .returned (.tuple #[.agg #[.int .i8 0, .int .i64 0, .int .i8 0, .int .i64 0], .int .i64 12]) ∧ Dn W w')) (g1 : z1 < z0) (HRL : Hid (∀ W, Calls Tryd.prog 33 #[.agg #[.int .i8 a, .int .i64 b, .int .i8 c, .int .i64 d]] W fun o w' => o = .returned (.tuple #[.int .i64 n, .int .i64 e1]) ∧ Dn W w')) (HRS : Hid (∀ W, Calls Tryd.prog 34 #[.agg #[.int .i8 a, .int .i64 b, .int .i8 c, .int .i64 d], .int .i64 k] W fun o w' => o = .returned (.tuple #[.agg #[.int .i8 s0, .int .i64 s1, .int .i8 s2, .int .i64 s3], .int .i64 0]) ∧ Dn W w')) (g2 : k = (-9223372036854775808)) (w : World) (hE : EnvR w) :
    Calls Tryd.prog 6 #[.agg #[.int .i8 a, .int .i64 b, .int .i8 c, .int .i64 d], .int .i64 k, .agg #[.int .i64 z0, .int .i64 z1]] w fun ro w' => ro = .returned (.bool true) ∧ Dn w w' := by
  have t1 : decide (z1 < z0) = true := by simpa using g1
  have t2 : decide (z0 ≤ z1) = false := by simp; omega
  clear g1
  have t3 : (k == (-9223372036854775808)) = true := by simpa using g2
  clear g2
  go_enter Tryd.func6, Tryd.ntmps6
  go_wp2_with fail
  obtain ⟨W1, hW1⟩ : ∃ W1, W1 = (w.alloc (.cells #[.int .i8 a, .int .i64 b, .int .i8 c, .int .i64 d] 29)).alloc (.cells #[.int .i64 z0, .int .i64 z1] 50) := ⟨_, rfl⟩
  have uW1 : Dn w W1 := by rw [hW1]; exact ((Dn.refl _).alloc _).alloc _
  have c2 : W1.cell? ⟨w.heap.size, 0, none⟩ = some (.int .i8 a) := by rw [hW1]; simp [go_sem]
  have c3 : W1.cell? ⟨w.heap.size, 1, none⟩ = some (.int .i64 b) := by rw [hW1]; simp [go_sem]
  have c4 : W1.cell? ⟨w.heap.size, 2, none⟩ = some (.int .i8 c) := by rw [hW1]; simp [go_sem]
  have c5 : W1.cell? ⟨w.heap.size, 3, none⟩ = some (.int .i64 d) := by rw [hW1]; simp [go_sem]
  have l6 : w.heap.size < W1.heap.size := by rw [hW1]; simp <;> omega
  have c7 : W1.cell? ⟨w.heap.size + 1, 0, none⟩ = some (.int .i64 z0) := by rw [hW1]; simp [go_sem]
  have c8 : W1.cell? ⟨w.heap.size + 1, 1, none⟩ = some (.int .i64 z1) := by rw [hW1]; simp [go_sem]
  have l9 : w.heap.size + 1 < W1.heap.size := by rw [hW1]; simp <;> omega
  rw [← hW1]
  clear hW1
  refine (HC.out _).mono ?_
  rintro e w1 ⟨rfl, qw1⟩
  have l10 := Nat.lt_of_lt_of_le l6 qw1.size
  have c11 := qw1.cell c2
  have c12 := qw1.cell c3
  have c13 := qw1.cell c4
  have c14 := qw1.cell c5
  have l15 := Nat.lt_of_lt_of_le l9 qw1.size
  have c16 := qw1.cell c7
  have c17 := qw1.cell c8
  clear l6 c2 c3 c4 c5 l9 c7 c8
  have uw1 := uW1.trans qw1
  clear qw1 uW1
  go_wp2_with fail
  refine (HL.out _).mono ?_
  rintro e w2 ⟨rfl, qw2⟩
  have l18 := Nat.lt_of_lt_of_le l10 qw2.size
  have c19 := qw2.cell c11
  have c20 := qw2.cell c12
  have c21 := qw2.cell c13
  have c22 := qw2.cell c14
  have l23 := Nat.lt_of_lt_of_le l15 qw2.size
  have c24 := qw2.cell c16
  have c25 := qw2.cell c17
  clear l10 c11 c12 c13 c14 l15 c16 c17
  have uw2 := uw1.trans qw2
  clear qw2 uw1
  go_wp2_with fail
  refine (HS.out _).mono ?_
  rintro e w3 ⟨rfl, qw3⟩
  have l26 := Nat.lt_of_lt_of_le l18 qw3.size
  have c27 := qw3.cell c19
  have c28 := qw3.cell c20
  have c29 := qw3.cell c21
  have c30 := qw3.cell c22
  have l31 := Nat.lt_of_lt_of_le l23 qw3.size
  have c32 := qw3.cell c24
  have c33 := qw3.cell c25
  clear l18 c19 c20 c21 c22 l23 c24 c25
  have uw3 := uw2.trans qw3
  clear qw3 uw2
  go_wp2_with fail
  obtain ⟨W34, hW34⟩ : ∃ W34, W34 = w3.alloc (.cells #[.int .i8 s0, .int .i64 s1, .int .i8 s2, .int .i64 s3] 29) := ⟨_, rfl⟩
  have uW34 : Dn w3 W34 := by rw [hW34]; exact (Dn.refl _).alloc _
  have l35 := Nat.lt_of_lt_of_le l26 uW34.size
  have c36 := uW34.cell c27
  have c37 := uW34.cell c28
  have c38 := uW34.cell c29
  have c39 := uW34.cell c30
  have l40 := Nat.lt_of_lt_of_le l31 uW34.size
  have c41 := uW34.cell c32
  have c42 := uW34.cell c33
  clear l26 c27 c28 c29 c30 l31 c32 c33
  have c43 : W34.cell? ⟨w3.heap.size, 0, none⟩ = some (.int .i8 s0) := by rw [hW34]; simp [go_sem]
  have c44 : W34.cell? ⟨w3.heap.size, 1, none⟩ = some (.int .i64 s1) := by rw [hW34]; simp [go_sem]
  have c45 : W34.cell? ⟨w3.heap.size, 2, none⟩ = some (.int .i8 s2) := by rw [hW34]; simp [go_sem]
  have c46 : W34.cell? ⟨w3.heap.size, 3, none⟩ = some (.int .i64 s3) := by rw [hW34]; simp [go_sem]
  have l47 : w3.heap.size < W34.heap.size := by rw [hW34]; simp <;> omega
  rw [← hW34]
  clear hW34
  have vW34 := uw3.trans uW34
  clear uW34 uw3
  refine (HO.out _).mono ?_
  rintro e w4 ⟨rfl, qw4⟩
  have l48 := Nat.lt_of_lt_of_le l35 qw4.size
  have c49 := qw4.cell c36
  have c50 := qw4.cell c37
  have c51 := qw4.cell c38
  have c52 := qw4.cell c39
  have l53 := Nat.lt_of_lt_of_le l40 qw4.size
  have c54 := qw4.cell c41
  have c55 := qw4.cell c42
  have l56 := Nat.lt_of_lt_of_le l47 qw4.size
  have c57 := qw4.cell c43
  have c58 := qw4.cell c44
  have c59 := qw4.cell c45
  have c60 := qw4.cell c46
  clear l35 c36 c37 c38 c39 l40 c41 c42 l47 c43 c44 c45 c46
  have uw4 := vW34.trans qw4
  clear qw4 vW34
  go_wp2_with fail
  obtain ⟨W61, hW61⟩ : ∃ W61, W61 = w4.alloc (.cells #[.int .i8 0, .int .i64 0, .int .i8 0, .int .i64 0] 29) := ⟨_, rfl⟩
  have uW61 : Dn w4 W61 := by rw [hW61]; exact (Dn.refl _).alloc _
  have l62 := Nat.lt_of_lt_of_le l48 uW61.size
  have c63 := uW61.cell c49
  have c64 := uW61.cell c50
  have c65 := uW61.cell c51
  have c66 := uW61.cell c52
  have l67 := Nat.lt_of_lt_of_le l53 uW61.size
  have c68 := uW61.cell c54
  have c69 := uW61.cell c55
  have l70 := Nat.lt_of_lt_of_le l56 uW61.size
  have c71 := uW61.cell c57
  have c72 := uW61.cell c58
  have c73 := uW61.cell c59
  have c74 := uW61.cell c60
  clear l48 c49 c50 c51 c52 l53 c54 c55 l56 c57 c58 c59 c60
  have c75 : W61.cell? ⟨w4.heap.size, 0, none⟩ = some (.int .i8 0) := by rw [hW61]; simp [go_sem]
  have c76 : W61.cell? ⟨w4.heap.size, 1, none⟩ = some (.int .i64 0) := by rw [hW61]; simp [go_sem]
  have c77 : W61.cell? ⟨w4.heap.size, 2, none⟩ = some (.int .i8 0) := by rw [hW61]; simp [go_sem]
  have c78 : W61.cell? ⟨w4.heap.size, 3, none⟩ = some (.int .i64 0) := by rw [hW61]; simp [go_sem]
  have l79 : w4.heap.size < W61.heap.size := by rw [hW61]; simp <;> omega
  rw [← hW61]
  clear hW61
  have vW61 := uw4.trans uW61
  clear uW61 uw4
  have hS80 := kd1min1_10 (W := W61) (Dn.refl _) ⟨Dn.refl _, c63, c64, c65, c66, c68, c69, c75, c76, c77, c78⟩
  have k81 := Lib.hid c71
  have k82 := Lib.hid c72
  have k83 := Lib.hid c73
  have k84 := Lib.hid c74
  have HShS80 := Lib.hid hS80
  clear c63 c64 c65 c66 c68 c69 c71 c72 c73 c74 c75 c76 c77 c78
  refine wp_region_held_drew (S := fun w' => Dn W61 w' ∧ w'.cell? ⟨w.heap.size, 0, none⟩ = some (.int .i8 a) ∧ w'.cell? ⟨w.heap.size, 1, none⟩ = some (.int .i64 b) ∧ w'.cell? ⟨w.heap.size, 2, none⟩ = some (.int .i8 c) ∧ w'.cell? ⟨w.heap.size, 3, none⟩ = some (.int .i64 d) ∧ w'.cell? ⟨w.heap.size + 1, 0, none⟩ = some (.int .i64 z0) ∧ w'.cell? ⟨w.heap.size + 1, 1, none⟩ = some (.int .i64 z1) ∧ w'.cell? ⟨w4.heap.size, 0, none⟩ = some (.int .i8 0) ∧ w'.cell? ⟨w4.heap.size, 1, none⟩ = some (.int .i64 0) ∧ w'.cell? ⟨w4.heap.size, 2, none⟩ = some (.int .i8 0) ∧ w'.cell? ⟨w4.heap.size, 3, none⟩ = some (.int .i64 0)) (by kernel_rfl) ?_ (fun hHeld => ?_)
  · (try dsimp only); (first | exact kd1min1_10 ((Dn.refl _).drew) hS80 | exact kd1min1_10 ‹Dn _ _› ‹_› | exact kd1min1_10 (Up.dn ‹Up _ _›) ‹_› | assumption | exact kd1min1_10 ((Dn.refl _).alloc _) ‹_›)
  refine wpAnyH_take (i := 0) (v := ?_) rfl (by kernel_rfl) (by kernel_rfl) (by kernel_rfl) (fun _ _ _ h => h) (Or.inl ⟨by rfl, ?_⟩) (by assumption) ?_
  rotate_left
  · (intro w hSw; (try dsimp only at hSw); go_simp)
    all_goals with_reducible rfl
  try simp only [Act.put, List.getElem_toArray, List.getElem_cons_succ, List.getElem_cons_zero, List.setIfInBounds_toArray, List.set_cons_zero, List.set_cons_succ]
  refine wpAnyH_take (i := 1) (v := ?_) rfl (by kernel_rfl) (by kernel_rfl) (by kernel_rfl) (fun _ _ _ h => h) (Or.inl ⟨by rfl, ?_⟩) (by assumption) ?_
  rotate_left
  · (intro w hSw; (try dsimp only at hSw); go_simp)
    all_goals with_reducible rfl
  try simp only [Act.put, List.getElem_toArray, List.getElem_cons_succ, List.getElem_cons_zero, List.setIfInBounds_toArray, List.set_cons_zero, List.set_cons_succ]
  refine wpAnyH_take (i := 2) (v := ?_) rfl (by kernel_rfl) (by kernel_rfl) (by kernel_rfl) (fun _ _ _ h => h) (Or.inl ⟨by rfl, ?_⟩) (by assumption) ?_
  rotate_left
  · (intro w hSw; (try dsimp only at hSw); go_simp)
    all_goals with_reducible rfl
  try simp only [Act.put, List.getElem_toArray, List.getElem_cons_succ, List.getElem_cons_zero, List.setIfInBounds_toArray, List.set_cons_zero, List.set_cons_succ]
  refine wpAnyH_take (i := 3) (v := ?_) rfl (by kernel_rfl) (by kernel_rfl) (by kernel_rfl) (fun _ _ _ h => h) (Or.inl ⟨by rfl, ?_⟩) (by assumption) ?_
  rotate_left
  · (intro w hSw; (try dsimp only at hSw); go_simp)
    all_goals with_reducible rfl
  try simp only [Act.put, List.getElem_toArray, List.getElem_cons_succ, List.getElem_cons_zero, List.setIfInBounds_toArray, List.set_cons_zero, List.set_cons_succ]
  refine wpAnyH_take (i := 4) (v := ?_) rfl (by kernel_rfl) (by kernel_rfl) (by kernel_rfl) (fun _ _ _ h => h) (Or.inl ⟨by rfl, ?_⟩) (by assumption) ?_
  rotate_left
  · (intro w hSw; (try dsimp only at hSw); go_simp)
    all_goals with_reducible rfl
  try simp only [Act.put, List.getElem_toArray, List.getElem_cons_succ, List.getElem_cons_zero, List.setIfInBounds_toArray, List.set_cons_zero, List.set_cons_succ]
  refine wpAnyH_take (i := 5) (v := ?_) rfl (by kernel_rfl) (by kernel_rfl) (by kernel_rfl) (fun _ _ _ h => h) (Or.inl ⟨by rfl, ?_⟩) (by assumption) ?_
  rotate_left
  · (intro w hSw; (try dsimp only at hSw); go_simp)
    all_goals with_reducible rfl
  try simp only [Act.put, List.getElem_toArray, List.getElem_cons_succ, List.getElem_cons_zero, List.setIfInBounds_toArray, List.set_cons_zero, List.set_cons_succ]
  refine wpAnyH_take (i := 6) (v := ?_) rfl (by kernel_rfl) (by kernel_rfl) (by kernel_rfl) (fun _ _ _ h => h) (Or.inl ⟨by rfl, ?_⟩) (by assumption) ?_
  rotate_left
  · (intro w hSw; (try dsimp only at hSw); go_simp)
    all_goals with_reducible rfl
  try simp only [Act.put, List.getElem_toArray, List.getElem_cons_succ, List.getElem_cons_zero, List.setIfInBounds_toArray, List.set_cons_zero, List.set_cons_succ]
  refine wpAnyH_take (i := 7) (v := ?_) rfl (by kernel_rfl) (by kernel_rfl) (by kernel_rfl) (fun _ _ _ h => h) (Or.inl ⟨by rfl, ?_⟩) (by assumption) ?_
  rotate_left
  · (intro w hSw; (try dsimp only at hSw); go_simp)
    all_goals with_reducible rfl
  try simp only [Act.put, List.getElem_toArray, List.getElem_cons_succ, List.getElem_cons_zero, List.setIfInBounds_toArray, List.set_cons_zero, List.set_cons_succ]
  refine wpAnyH_take (i := 8) (v := ?_) rfl (by kernel_rfl) (by kernel_rfl) (by kernel_rfl) (fun _ _ _ h => h) (Or.inl ⟨by rfl, ?_⟩) (by assumption) ?_
  rotate_left
  · (intro w hSw; (try dsimp only at hSw); go_simp)
    all_goals with_reducible rfl
  try simp only [Act.put, List.getElem_toArray, List.getElem_cons_succ, List.getElem_cons_zero, List.setIfInBounds_toArray, List.set_cons_zero, List.set_cons_succ]
  refine wpAnyH_ready (rs := [9]) (by kernel_rfl) (by simp) ?_
  refine AllReadyH.cons rfl (fun K hK => ?_) AllReadyH.nil
  go_simp
  (first
      | (go_at_call 17; refine (g9_any _ _ _ _ _ _ _ _ _ _ _ ?_).mono ?_; (first | exact Or.inr ⟨by decide, rfl, rfl, rfl, rfl, rfl⟩ | exact Or.inl ⟨rfl, rfl, rfl, rfl, rfl, rfl⟩); rintro e wa ⟨rfl, qa⟩)
      | (go_at_call 32; refine (dy9 _ _ _).mono ?_; rintro e wa ⟨rfl, qa⟩))
  try go_wp2_with fail
  refine hK.out _ _ ?_ (fun hHeld => ?_)
  · (try dsimp only); (first | exact kd1min1_10 ((Dn.refl _).drew) hS80 | exact kd1min1_10 ‹Dn _ _› ‹_› | exact kd1min1_10 (Up.dn ‹Up _ _›) ‹_› | assumption | exact kd1min1_10 ((Dn.refl _).alloc _) ‹_›)
  clear hK K
  try simp only [Act.put, List.getElem_toArray, List.getElem_cons_succ, List.getElem_cons_zero, List.setIfInBounds_toArray, List.set_cons_zero, List.set_cons_succ]
  refine wpAnyH_take (i := 10) (v := ?_) rfl (by kernel_rfl) (by kernel_rfl) (by kernel_rfl) (fun _ _ _ h => h) (Or.inl ⟨by rfl, ?_⟩) (by assumption) ?_
  rotate_left
  · (intro w hSw; (try dsimp only at hSw); go_simp)
    all_goals with_reducible rfl
  try simp only [Act.put, List.getElem_toArray, List.getElem_cons_succ, List.getElem_cons_zero, List.setIfInBounds_toArray, List.set_cons_zero, List.set_cons_succ]
  refine wpAnyH_take (i := 11) (v := ?_) rfl (by kernel_rfl) (by kernel_rfl) (by kernel_rfl) (fun _ _ _ h => h) (Or.inl ⟨by rfl, ?_⟩) (by assumption) ?_
  rotate_left
  · (intro w hSw; (try dsimp only at hSw); go_simp)
    all_goals with_reducible rfl
  try simp only [Act.put, List.getElem_toArray, List.getElem_cons_succ, List.getElem_cons_zero, List.setIfInBounds_toArray, List.set_cons_zero, List.set_cons_succ]
  refine wpAnyH_take (i := 12) (v := ?_) rfl (by kernel_rfl) (by kernel_rfl) (by kernel_rfl) (fun _ _ _ h => h) (Or.inl ⟨by rfl, ?_⟩) (by assumption) ?_
  rotate_left
  · (intro w hSw; (try dsimp only at hSw); go_simp)
    all_goals with_reducible rfl
  try simp only [Act.put, List.getElem_toArray, List.getElem_cons_succ, List.getElem_cons_zero, List.setIfInBounds_toArray, List.set_cons_zero, List.set_cons_succ]
  refine wpAnyH_take (i := 13) (v := ?_) rfl (by kernel_rfl) (by kernel_rfl) (by kernel_rfl) (fun _ _ _ h => h) (Or.inl ⟨by rfl, ?_⟩) (by assumption) ?_
  rotate_left
  · (intro w hSw; (try dsimp only at hSw); go_simp)
    all_goals with_reducible rfl
  try simp only [Act.put, List.getElem_toArray, List.getElem_cons_succ, List.getElem_cons_zero, List.setIfInBounds_toArray, List.set_cons_zero, List.set_cons_succ]
  refine wpAnyH_take (i := 14) (v := ?_) rfl (by kernel_rfl) (by kernel_rfl) (by kernel_rfl) (fun _ _ _ h => h) (Or.inl ⟨by rfl, ?_⟩) (by assumption) ?_
  rotate_left
  · (intro w hSw; (try dsimp only at hSw); go_simp)
    all_goals with_reducible rfl
  try simp only [Act.put, List.getElem_toArray, List.getElem_cons_succ, List.getElem_cons_zero, List.setIfInBounds_toArray, List.set_cons_zero, List.set_cons_succ]
  refine wpAnyH_take (i := 15) (v := ?_) rfl (by kernel_rfl) (by kernel_rfl) (by kernel_rfl) (fun _ _ _ h => h) (Or.inl ⟨by rfl, ?_⟩) (by assumption) ?_
  rotate_left
  · (intro w hSw; (try dsimp only at hSw); go_simp)
    all_goals with_reducible rfl
  try simp only [Act.put, List.getElem_toArray, List.getElem_cons_succ, List.getElem_cons_zero, List.setIfInBounds_toArray, List.set_cons_zero, List.set_cons_succ]
  refine wpAnyH_take (i := 16) (v := ?_) rfl (by kernel_rfl) (by kernel_rfl) (by kernel_rfl) (fun _ _ _ h => h) (Or.inl ⟨by rfl, ?_⟩) (by assumption) ?_
  rotate_left
  · (intro w hSw; (try dsimp only at hSw); go_simp)
    all_goals with_reducible rfl
  try simp only [Act.put, List.getElem_toArray, List.getElem_cons_succ, List.getElem_cons_zero, List.setIfInBounds_toArray, List.set_cons_zero, List.set_cons_succ]
  refine wpAnyH_take (i := 17) (v := ?_) rfl (by kernel_rfl) (by kernel_rfl) (by kernel_rfl) (fun _ _ _ h => h) (Or.inl ⟨by rfl, ?_⟩) (by assumption) ?_
  rotate_left
  · (intro w hSw; (try dsimp only at hSw); go_simp)
    all_goals with_reducible rfl
  try simp only [Act.put, List.getElem_toArray, List.getElem_cons_succ, List.getElem_cons_zero, List.setIfInBounds_toArray, List.set_cons_zero, List.set_cons_succ]
  refine wpAnyH_take (i := 18) (v := ?_) rfl (by kernel_rfl) (by kernel_rfl) (by kernel_rfl) (fun _ _ _ h => h) (Or.inl ⟨by rfl, ?_⟩) (by assumption) ?_
  rotate_left
  · (intro w hSw; (try dsimp only at hSw); go_simp)
    all_goals with_reducible rfl
  try simp only [Act.put, List.getElem_toArray, List.getElem_cons_succ, List.getElem_cons_zero, List.setIfInBounds_toArray, List.set_cons_zero, List.set_cons_succ]
  refine wpAnyH_take (i := 19) (v := undef) rfl (by kernel_rfl) (by kernel_rfl) (by kernel_rfl) (fun _ _ _ h => h) (Or.inr ⟨by rfl, rfl⟩) (by assumption) ?_
  try simp only [Act.put, List.getElem_toArray, List.getElem_cons_succ, List.getElem_cons_zero, List.setIfInBounds_toArray, List.set_cons_zero, List.set_cons_succ]
  refine wpAnyH_take (i := 20) (v := undef) rfl (by kernel_rfl) (by kernel_rfl) (by kernel_rfl) (fun _ _ _ h => h) (Or.inr ⟨by rfl, rfl⟩) (by assumption) ?_
  try simp only [Act.put, List.getElem_toArray, List.getElem_cons_succ, List.getElem_cons_zero, List.setIfInBounds_toArray, List.set_cons_zero, List.set_cons_succ]
  refine wpAnyH_take (i := 21) (v := undef) rfl (by kernel_rfl) (by kernel_rfl) (by kernel_rfl) (fun _ _ _ h => h) (Or.inr ⟨by rfl, rfl⟩) (by assumption) ?_
  try simp only [Act.put, List.getElem_toArray, List.getElem_cons_succ, List.getElem_cons_zero, List.setIfInBounds_toArray, List.set_cons_zero, List.set_cons_succ]
  refine wpAnyH_take (i := 22) (v := undef) rfl (by kernel_rfl) (by kernel_rfl) (by kernel_rfl) (fun _ _ _ h => h) (Or.inr ⟨by rfl, rfl⟩) (by assumption) ?_
  try simp only [Act.put, List.getElem_toArray, List.getElem_cons_succ, List.getElem_cons_zero, List.setIfInBounds_toArray, List.set_cons_zero, List.set_cons_succ]
  refine wpAnyH_take (i := 23) (v := undef) rfl (by kernel_rfl) (by kernel_rfl) (by kernel_rfl) (fun _ _ _ h => h) (Or.inr ⟨by rfl, rfl⟩) (by assumption) ?_
  try simp only [Act.put, List.getElem_toArray, List.getElem_cons_succ, List.getElem_cons_zero, List.setIfInBounds_toArray, List.set_cons_zero, List.set_cons_succ]
  refine wpAnyH_take (i := 24) (v := undef) rfl (by kernel_rfl) (by kernel_rfl) (by kernel_rfl) (fun _ _ _ h => h) (Or.inr ⟨by rfl, rfl⟩) (by assumption) ?_
  try simp only [Act.put, List.getElem_toArray, List.getElem_cons_succ, List.getElem_cons_zero, List.setIfInBounds_toArray, List.set_cons_zero, List.set_cons_succ]
  refine wpAnyH_take (i := 25) (v := undef) rfl (by kernel_rfl) (by kernel_rfl) (by kernel_rfl) (fun _ _ _ h => h) (Or.inr ⟨by rfl, rfl⟩) (by assumption) ?_
  try simp only [Act.put, List.getElem_toArray, List.getElem_cons_succ, List.getElem_cons_zero, List.setIfInBounds_toArray, List.set_cons_zero, List.set_cons_succ]
  refine wpAnyH_take (i := 26) (v := undef) rfl (by kernel_rfl) (by kernel_rfl) (by kernel_rfl) (fun _ _ _ h => h) (Or.inr ⟨by rfl, rfl⟩) (by assumption) ?_
  try simp only [Act.put, List.getElem_toArray, List.getElem_cons_succ, List.getElem_cons_zero, List.setIfInBounds_toArray, List.set_cons_zero, List.set_cons_succ]
  refine wpAnyH_take (i := 27) (v := undef) rfl (by kernel_rfl) (by kernel_rfl) (by kernel_rfl) (fun _ _ _ h => h) (Or.inr ⟨by rfl, rfl⟩) (by assumption) ?_
  try simp only [Act.put, List.getElem_toArray, List.getElem_cons_succ, List.getElem_cons_zero, List.setIfInBounds_toArray, List.set_cons_zero, List.set_cons_succ]
  refine wpAnyH_take (i := 28) (v := ?_) rfl (by kernel_rfl) (by kernel_rfl) (by kernel_rfl) (fun _ _ _ h => h) (Or.inl ⟨by rfl, ?_⟩) (by assumption) ?_
  rotate_left
  · (intro w hSw; (try dsimp only at hSw); go_simp)
    all_goals with_reducible rfl
  try simp only [Act.put, List.getElem_toArray, List.getElem_cons_succ, List.getElem_cons_zero, List.setIfInBounds_toArray, List.set_cons_zero, List.set_cons_succ]
  refine wpAnyH_take (i := 29) (v := ?_) rfl (by kernel_rfl) (by kernel_rfl) (by kernel_rfl) (fun _ _ _ h => h) (Or.inl ⟨by rfl, ?_⟩) (by assumption) ?_
  rotate_left
  · (intro w hSw; (try dsimp only at hSw); go_simp)
    all_goals with_reducible rfl
  try simp only [Act.put, List.getElem_toArray, List.getElem_cons_succ, List.getElem_cons_zero, List.setIfInBounds_toArray, List.set_cons_zero, List.set_cons_succ]
  refine wpAnyH_done (by kernel_rfl) ?_ _
  all_goals skip
  all_goals
    clear hS80
    obtain ⟨uf95, c85, c86, c87, c88, c89, c90, c91, c92, c93, c94⟩ := (‹Dn W61 _ ∧ _› : _ ∧ _)
    obtain ⟨w96, rfl⟩ : ∃ w96 : World, w96 = wa := ⟨_, rfl⟩
    have l97 := Nat.lt_of_lt_of_le l62 uf95.size
    clear l62
    have l98 := Nat.lt_of_lt_of_le l67 uf95.size
    clear l67
    have l99 := Nat.lt_of_lt_of_le l70 uf95.size
    clear l70
    have l100 := Nat.lt_of_lt_of_le l79 uf95.size
    clear l79
    have c101 := uf95.cell k81.out
    have c102 := uf95.cell k82.out
    have c103 := uf95.cell k83.out
    have c104 := uf95.cell k84.out
    clear k81 k82 k83 k84
    have vuf95 := vW61.trans uf95
    clear uf95 vW61 HShS80
    clear c89 c90 l98
    clear c91 c92 c93 c94 l100
    go_wp2_with fail
    refine (HRL.out _).mono ?_
    rintro e w5 ⟨rfl, qw5⟩
    have l105 := Nat.lt_of_lt_of_le l97 qw5.size
    have c106 := qw5.cell c85
    have c107 := qw5.cell c86
    have c108 := qw5.cell c87
    have c109 := qw5.cell c88
    have l110 := Nat.lt_of_lt_of_le l99 qw5.size
    have c111 := qw5.cell c101
    have c112 := qw5.cell c102
    have c113 := qw5.cell c103
    have c114 := qw5.cell c104
    clear l97 c85 c86 c87 c88 l99 c101 c102 c103 c104
    have uw5 := vuf95.trans qw5
    clear qw5 vuf95
    go_wp2_with fail
    refine (HRS.out _).mono ?_
    rintro e w6 ⟨rfl, qw6⟩
    have l115 := Nat.lt_of_lt_of_le l105 qw6.size
    have c116 := qw6.cell c106
    have c117 := qw6.cell c107
    have c118 := qw6.cell c108
    have c119 := qw6.cell c109
    have l120 := Nat.lt_of_lt_of_le l110 qw6.size
    have c121 := qw6.cell c111
    have c122 := qw6.cell c112
    have c123 := qw6.cell c113
    have c124 := qw6.cell c114
    clear l105 c106 c107 c108 c109 l110 c111 c112 c113 c114
    have uw6 := uw5.trans qw6
    clear qw6 uw5
    go_wp2_with fail
    obtain ⟨W125, hW125⟩ : ∃ W125, W125 = w6.alloc (.cells #[.int .i8 s0, .int .i64 s1, .int .i8 s2, .int .i64 s3] 29) := ⟨_, rfl⟩
    have uW125 : Dn w6 W125 := by rw [hW125]; exact (Dn.refl _).alloc _
    have l126 := Nat.lt_of_lt_of_le l115 uW125.size
    have c127 := uW125.cell c116
    have c128 := uW125.cell c117
    have c129 := uW125.cell c118
    have c130 := uW125.cell c119
    have l131 := Nat.lt_of_lt_of_le l120 uW125.size
    have c132 := uW125.cell c121
    have c133 := uW125.cell c122
    have c134 := uW125.cell c123
    have c135 := uW125.cell c124
    clear l115 c116 c117 c118 c119 l120 c121 c122 c123 c124
    have c136 : W125.cell? ⟨w6.heap.size, 0, none⟩ = some (.int .i8 s0) := by rw [hW125]; simp [go_sem]
    have c137 : W125.cell? ⟨w6.heap.size, 1, none⟩ = some (.int .i64 s1) := by rw [hW125]; simp [go_sem]
    have c138 : W125.cell? ⟨w6.heap.size, 2, none⟩ = some (.int .i8 s2) := by rw [hW125]; simp [go_sem]
    have c139 : W125.cell? ⟨w6.heap.size, 3, none⟩ = some (.int .i64 s3) := by rw [hW125]; simp [go_sem]
    have l140 : w6.heap.size < W125.heap.size := by rw [hW125]; simp <;> omega
    rw [← hW125]
    clear hW125
    have vW125 := uw6.trans uW125
    clear uW125 uw6
    refine (g9_ok s0 s1 s2 s3 0 0 0 0 0 _).mono ?_
    rintro e w7 ⟨rfl, qw7⟩
    have l141 := Nat.lt_of_lt_of_le l126 qw7.size
    have c142 := qw7.cell c127
    have c143 := qw7.cell c128
    have c144 := qw7.cell c129
    have c145 := qw7.cell c130
    have l146 := Nat.lt_of_lt_of_le l131 qw7.size
    have c147 := qw7.cell c132
    have c148 := qw7.cell c133
    have c149 := qw7.cell c134
    have c150 := qw7.cell c135
    have l151 := Nat.lt_of_lt_of_le l140 qw7.size
    have c152 := qw7.cell c136
    have c153 := qw7.cell c137
    have c154 := qw7.cell c138
    have c155 := qw7.cell c139
    clear l126 c127 c128 c129 c130 l131 c132 c133 c134 c135 l140 c136 c137 c138 c139
    have uw7 := vW125.trans qw7
    clear qw7 vW125
    go_wp2_with fail
    refine (lives9 _ (hE.dn uw7)).mono ?_
    rintro e w8 ⟨rfl, qw8⟩
    have l156 := Nat.lt_of_lt_of_le l141 qw8.size
    have c157 := qw8.cell c142
    have c158 := qw8.cell c143
    have c159 := qw8.cell c144
    have c160 := qw8.cell c145
    have l161 := Nat.lt_of_lt_of_le l146 qw8.size
    have c162 := qw8.cell c147
    have c163 := qw8.cell c148
    have c164 := qw8.cell c149
    have c165 := qw8.cell c150
    have l166 := Nat.lt_of_lt_of_le l151 qw8.size
    have c167 := qw8.cell c152
    have c168 := qw8.cell c153
    have c169 := qw8.cell c154
    have c170 := qw8.cell c155
    clear l141 c142 c143 c144 c145 l146 c147 c148 c149 c150 l151 c152 c153 c154 c155
    have uw8 := uw7.trans qw8
    clear qw8 uw7
    go_wp2_with fail
    go_ret
    exact ⟨rfl, uw8⟩
theorem kd1back1_10 {W w1 w2 : World} {a0 a1 a2 a3 a4 a5 a6 a7 a8 a9 : Addr} {v0 v1 v2 v3 v4 v5 v6 v7 v8 v9 : Value} (k : Dn w1 w2) (h : Dn W w1 ∧ w1.cell? a0 = some v0 ∧ w1.cell? a1 = some v1 ∧ w1.cell? a2 = some v2 ∧ w1.cell? a3 = some v3 ∧ w1.cell? a4 = some v4 ∧ w1.cell? a5 = some v5 ∧ w1.cell? a6 = some v6 ∧ w1.cell? a7 = some v7 ∧ w1.cell? a8 = some v8 ∧ w1.cell? a9 = some v9) :
    Dn W w2 ∧ w2.cell? a0 = some v0 ∧ w2.cell? a1 = some v1 ∧ w2.cell? a2 = some v2 ∧ w2.cell? a3 = some v3 ∧ w2.cell? a4 = some v4 ∧ w2.cell? a5 = some v5 ∧ w2.cell? a6 = some v6 ∧ w2.cell? a7 = some v7 ∧ w2.cell? a8 = some v8 ∧ w2.cell? a9 = some v9 := by
  obtain ⟨h1, c0, c1, c2, c3, c4, c5, c6, c7, c8, c9⟩ := h
  exact ⟨h1.trans k, k.cell c0, k.cell c1, k.cell c2, k.cell c3, k.cell c4, k.cell c5, k.cell c6, k.cell c7, k.cell c8, k.cell c9⟩
set_option maxHeartbeats 4000000 in
set_option maxRecDepth 100000 in
theorem one_back1 (a b c d k z0 z1 m n e1 f s0 s1 s2 s3 : Int) (HC : Hid (∀ W, Calls Tryd.prog 18 #[.agg #[.int .i8 a, .int .i64 b, .int .i8 c, .int .i64 d]] W fun o w' => o = .returned (.int .i64 0) ∧ Dn W w')) (HL : Hid (∀ W, Calls Tryd.prog 29 #[.agg #[.int .i8 a, .int .i64 b, .int .i8 c, .int .i64 d]] W fun o w' => o = .returned (.tuple #[.int .i64 n, .int .i64 e1]) ∧ Dn W w')) (HS : Hid (∀ W, Calls Tryd.prog 30 #[.agg #[.int .i8 a, .int .i64 b, .int .i8 c, .int .i64 d], .int .i64 k] W fun o w' => o = .returned (.tuple #[.agg #[.int .i8 s0, .int .i64 s1, .int .i8 s2, .int .i64 s3], .int .i64 0]) ∧ Dn W w')) (HO : Hid (∀ W, Calls Tryd.prog 31 #[.int .i64 z0, .int .i64 z1] W fun o w' => o = .returned (.tuple #[.agg #[.int .i8 0, .int .i64 0, .int .i8 0, .int .i64 0], .int .i64 12]) ∧ Dn W w')) (g1 : z1 < z0) (HRL : Hid (∀ W, Calls Tryd.prog 33 #[.agg #[.int .i8 a, .int .i64 b, .int .i8 c, .int .i64 d]] W fun o w' => o = .returned (.tuple #[.int .i64 n, .int .i64 e1]) ∧ Dn W w')) (HRS : Hid (∀ W, Calls Tryd.prog 34 #[.agg #[.int .i8 a, .int .i64 b, .int .i8 c, .int .i64 d], .int .i64 k] W fun o w' => o = .returned (.tuple #[.agg #[.int .i8 s0, .int .i64 s1, .int .i8 s2, .int .i64 s3], .int .i64 0]) ∧ Dn W w')) (g2 : k ≠ (-9223372036854775808)) (hk : I64 k) (HB : Hid (∀ W, Calls Tryd.prog 30 #[.agg #[.int .i8 s0, .int .i64 s1, .int .i8 s2, .int .i64 s3], .int .i64 (-k)] W fun o w' => o = .returned (.tuple #[.agg #[.int .i8 a, .int .i64 b, .int .i8 c, .int .i64 d], .int .i64 0]) ∧ Dn W w')) (w : World) (hE : EnvR w) :
    Calls Tryd.prog 6 #[.agg #[.int .i8 a, .int .i64 b, .int .i8 c, .int .i64 d], .int .i64 k, .agg #[.int .i64 z0, .int .i64 z1]] w fun ro w' => ro = .returned (.bool true) ∧ Dn w w' := by
  have t1 : decide (z1 < z0) = true := by simpa using g1
  have t2 : decide (z0 ≤ z1) = false := by simp; omega
  clear g1
  have t3 : (k == (-9223372036854775808)) = false := by simpa using g2
  have t4 : IntKind.i64.wrap (-k) = -k := IntWalk.i64_in _ (by have := hk.1; have := hk.2; omega)
  clear g2 hk
  go_enter Tryd.func6, Tryd.ntmps6
  go_wp2_with fail
  obtain ⟨W1, hW1⟩ : ∃ W1, W1 = (w.alloc (.cells #[.int .i8 a, .int .i64 b, .int .i8 c, .int .i64 d] 29)).alloc (.cells #[.int .i64 z0, .int .i64 z1] 50) := ⟨_, rfl⟩
  have uW1 : Dn w W1 := by rw [hW1]; exact ((Dn.refl _).alloc _).alloc _
  have c2 : W1.cell? ⟨w.heap.size, 0, none⟩ = some (.int .i8 a) := by rw [hW1]; simp [go_sem]
  have c3 : W1.cell? ⟨w.heap.size, 1, none⟩ = some (.int .i64 b) := by rw [hW1]; simp [go_sem]
  have c4 : W1.cell? ⟨w.heap.size, 2, none⟩ = some (.int .i8 c) := by rw [hW1]; simp [go_sem]
  have c5 : W1.cell? ⟨w.heap.size, 3, none⟩ = some (.int .i64 d) := by rw [hW1]; simp [go_sem]
  have l6 : w.heap.size < W1.heap.size := by rw [hW1]; simp <;> omega
  have c7 : W1.cell? ⟨w.heap.size + 1, 0, none⟩ = some (.int .i64 z0) := by rw [hW1]; simp [go_sem]
  have c8 : W1.cell? ⟨w.heap.size + 1, 1, none⟩ = some (.int .i64 z1) := by rw [hW1]; simp [go_sem]
  have l9 : w.heap.size + 1 < W1.heap.size := by rw [hW1]; simp <;> omega
  rw [← hW1]
  clear hW1
  refine (HC.out _).mono ?_
  rintro e w1 ⟨rfl, qw1⟩
  have l10 := Nat.lt_of_lt_of_le l6 qw1.size
  have c11 := qw1.cell c2
  have c12 := qw1.cell c3
  have c13 := qw1.cell c4
  have c14 := qw1.cell c5
  have l15 := Nat.lt_of_lt_of_le l9 qw1.size
  have c16 := qw1.cell c7
  have c17 := qw1.cell c8
  clear l6 c2 c3 c4 c5 l9 c7 c8
  have uw1 := uW1.trans qw1
  clear qw1 uW1
  go_wp2_with fail
  refine (HL.out _).mono ?_
  rintro e w2 ⟨rfl, qw2⟩
  have l18 := Nat.lt_of_lt_of_le l10 qw2.size
  have c19 := qw2.cell c11
  have c20 := qw2.cell c12
  have c21 := qw2.cell c13
  have c22 := qw2.cell c14
  have l23 := Nat.lt_of_lt_of_le l15 qw2.size
  have c24 := qw2.cell c16
  have c25 := qw2.cell c17
  clear l10 c11 c12 c13 c14 l15 c16 c17
  have uw2 := uw1.trans qw2
  clear qw2 uw1
  go_wp2_with fail
  refine (HS.out _).mono ?_
  rintro e w3 ⟨rfl, qw3⟩
  have l26 := Nat.lt_of_lt_of_le l18 qw3.size
  have c27 := qw3.cell c19
  have c28 := qw3.cell c20
  have c29 := qw3.cell c21
  have c30 := qw3.cell c22
  have l31 := Nat.lt_of_lt_of_le l23 qw3.size
  have c32 := qw3.cell c24
  have c33 := qw3.cell c25
  clear l18 c19 c20 c21 c22 l23 c24 c25
  have uw3 := uw2.trans qw3
  clear qw3 uw2
  go_wp2_with fail
  obtain ⟨W34, hW34⟩ : ∃ W34, W34 = w3.alloc (.cells #[.int .i8 s0, .int .i64 s1, .int .i8 s2, .int .i64 s3] 29) := ⟨_, rfl⟩
  have uW34 : Dn w3 W34 := by rw [hW34]; exact (Dn.refl _).alloc _
  have l35 := Nat.lt_of_lt_of_le l26 uW34.size
  have c36 := uW34.cell c27
  have c37 := uW34.cell c28
  have c38 := uW34.cell c29
  have c39 := uW34.cell c30
  have l40 := Nat.lt_of_lt_of_le l31 uW34.size
  have c41 := uW34.cell c32
  have c42 := uW34.cell c33
  clear l26 c27 c28 c29 c30 l31 c32 c33
  have c43 : W34.cell? ⟨w3.heap.size, 0, none⟩ = some (.int .i8 s0) := by rw [hW34]; simp [go_sem]
  have c44 : W34.cell? ⟨w3.heap.size, 1, none⟩ = some (.int .i64 s1) := by rw [hW34]; simp [go_sem]
  have c45 : W34.cell? ⟨w3.heap.size, 2, none⟩ = some (.int .i8 s2) := by rw [hW34]; simp [go_sem]
  have c46 : W34.cell? ⟨w3.heap.size, 3, none⟩ = some (.int .i64 s3) := by rw [hW34]; simp [go_sem]
  have l47 : w3.heap.size < W34.heap.size := by rw [hW34]; simp <;> omega
  rw [← hW34]
  clear hW34
  have vW34 := uw3.trans uW34
  clear uW34 uw3
  refine (HO.out _).mono ?_
  rintro e w4 ⟨rfl, qw4⟩
  have l48 := Nat.lt_of_lt_of_le l35 qw4.size
  have c49 := qw4.cell c36
  have c50 := qw4.cell c37
  have c51 := qw4.cell c38
  have c52 := qw4.cell c39
  have l53 := Nat.lt_of_lt_of_le l40 qw4.size
  have c54 := qw4.cell c41
  have c55 := qw4.cell c42
  have l56 := Nat.lt_of_lt_of_le l47 qw4.size
  have c57 := qw4.cell c43
  have c58 := qw4.cell c44
  have c59 := qw4.cell c45
  have c60 := qw4.cell c46
  clear l35 c36 c37 c38 c39 l40 c41 c42 l47 c43 c44 c45 c46
  have uw4 := vW34.trans qw4
  clear qw4 vW34
  go_wp2_with fail
  obtain ⟨W61, hW61⟩ : ∃ W61, W61 = w4.alloc (.cells #[.int .i8 0, .int .i64 0, .int .i8 0, .int .i64 0] 29) := ⟨_, rfl⟩
  have uW61 : Dn w4 W61 := by rw [hW61]; exact (Dn.refl _).alloc _
  have l62 := Nat.lt_of_lt_of_le l48 uW61.size
  have c63 := uW61.cell c49
  have c64 := uW61.cell c50
  have c65 := uW61.cell c51
  have c66 := uW61.cell c52
  have l67 := Nat.lt_of_lt_of_le l53 uW61.size
  have c68 := uW61.cell c54
  have c69 := uW61.cell c55
  have l70 := Nat.lt_of_lt_of_le l56 uW61.size
  have c71 := uW61.cell c57
  have c72 := uW61.cell c58
  have c73 := uW61.cell c59
  have c74 := uW61.cell c60
  clear l48 c49 c50 c51 c52 l53 c54 c55 l56 c57 c58 c59 c60
  have c75 : W61.cell? ⟨w4.heap.size, 0, none⟩ = some (.int .i8 0) := by rw [hW61]; simp [go_sem]
  have c76 : W61.cell? ⟨w4.heap.size, 1, none⟩ = some (.int .i64 0) := by rw [hW61]; simp [go_sem]
  have c77 : W61.cell? ⟨w4.heap.size, 2, none⟩ = some (.int .i8 0) := by rw [hW61]; simp [go_sem]
  have c78 : W61.cell? ⟨w4.heap.size, 3, none⟩ = some (.int .i64 0) := by rw [hW61]; simp [go_sem]
  have l79 : w4.heap.size < W61.heap.size := by rw [hW61]; simp <;> omega
  rw [← hW61]
  clear hW61
  have vW61 := uw4.trans uW61
  clear uW61 uw4
  have hS80 := kd1back1_10 (W := W61) (Dn.refl _) ⟨Dn.refl _, c63, c64, c65, c66, c68, c69, c75, c76, c77, c78⟩
  have k81 := Lib.hid c71
  have k82 := Lib.hid c72
  have k83 := Lib.hid c73
  have k84 := Lib.hid c74
  have HShS80 := Lib.hid hS80
  clear c63 c64 c65 c66 c68 c69 c71 c72 c73 c74 c75 c76 c77 c78
  refine wp_region_held_drew (S := fun w' => Dn W61 w' ∧ w'.cell? ⟨w.heap.size, 0, none⟩ = some (.int .i8 a) ∧ w'.cell? ⟨w.heap.size, 1, none⟩ = some (.int .i64 b) ∧ w'.cell? ⟨w.heap.size, 2, none⟩ = some (.int .i8 c) ∧ w'.cell? ⟨w.heap.size, 3, none⟩ = some (.int .i64 d) ∧ w'.cell? ⟨w.heap.size + 1, 0, none⟩ = some (.int .i64 z0) ∧ w'.cell? ⟨w.heap.size + 1, 1, none⟩ = some (.int .i64 z1) ∧ w'.cell? ⟨w4.heap.size, 0, none⟩ = some (.int .i8 0) ∧ w'.cell? ⟨w4.heap.size, 1, none⟩ = some (.int .i64 0) ∧ w'.cell? ⟨w4.heap.size, 2, none⟩ = some (.int .i8 0) ∧ w'.cell? ⟨w4.heap.size, 3, none⟩ = some (.int .i64 0)) (by kernel_rfl) ?_ (fun hHeld => ?_)
  · (try dsimp only); (first | exact kd1back1_10 ((Dn.refl _).drew) hS80 | exact kd1back1_10 ‹Dn _ _› ‹_› | exact kd1back1_10 (Up.dn ‹Up _ _›) ‹_› | assumption | exact kd1back1_10 ((Dn.refl _).alloc _) ‹_›)
  refine wpAnyH_take (i := 0) (v := ?_) rfl (by kernel_rfl) (by kernel_rfl) (by kernel_rfl) (fun _ _ _ h => h) (Or.inl ⟨by rfl, ?_⟩) (by assumption) ?_
  rotate_left
  · (intro w hSw; (try dsimp only at hSw); go_simp)
    all_goals with_reducible rfl
  try simp only [Act.put, List.getElem_toArray, List.getElem_cons_succ, List.getElem_cons_zero, List.setIfInBounds_toArray, List.set_cons_zero, List.set_cons_succ]
  refine wpAnyH_take (i := 1) (v := ?_) rfl (by kernel_rfl) (by kernel_rfl) (by kernel_rfl) (fun _ _ _ h => h) (Or.inl ⟨by rfl, ?_⟩) (by assumption) ?_
  rotate_left
  · (intro w hSw; (try dsimp only at hSw); go_simp)
    all_goals with_reducible rfl
  try simp only [Act.put, List.getElem_toArray, List.getElem_cons_succ, List.getElem_cons_zero, List.setIfInBounds_toArray, List.set_cons_zero, List.set_cons_succ]
  refine wpAnyH_take (i := 2) (v := ?_) rfl (by kernel_rfl) (by kernel_rfl) (by kernel_rfl) (fun _ _ _ h => h) (Or.inl ⟨by rfl, ?_⟩) (by assumption) ?_
  rotate_left
  · (intro w hSw; (try dsimp only at hSw); go_simp)
    all_goals with_reducible rfl
  try simp only [Act.put, List.getElem_toArray, List.getElem_cons_succ, List.getElem_cons_zero, List.setIfInBounds_toArray, List.set_cons_zero, List.set_cons_succ]
  refine wpAnyH_take (i := 3) (v := ?_) rfl (by kernel_rfl) (by kernel_rfl) (by kernel_rfl) (fun _ _ _ h => h) (Or.inl ⟨by rfl, ?_⟩) (by assumption) ?_
  rotate_left
  · (intro w hSw; (try dsimp only at hSw); go_simp)
    all_goals with_reducible rfl
  try simp only [Act.put, List.getElem_toArray, List.getElem_cons_succ, List.getElem_cons_zero, List.setIfInBounds_toArray, List.set_cons_zero, List.set_cons_succ]
  refine wpAnyH_take (i := 4) (v := ?_) rfl (by kernel_rfl) (by kernel_rfl) (by kernel_rfl) (fun _ _ _ h => h) (Or.inl ⟨by rfl, ?_⟩) (by assumption) ?_
  rotate_left
  · (intro w hSw; (try dsimp only at hSw); go_simp)
    all_goals with_reducible rfl
  try simp only [Act.put, List.getElem_toArray, List.getElem_cons_succ, List.getElem_cons_zero, List.setIfInBounds_toArray, List.set_cons_zero, List.set_cons_succ]
  refine wpAnyH_take (i := 5) (v := ?_) rfl (by kernel_rfl) (by kernel_rfl) (by kernel_rfl) (fun _ _ _ h => h) (Or.inl ⟨by rfl, ?_⟩) (by assumption) ?_
  rotate_left
  · (intro w hSw; (try dsimp only at hSw); go_simp)
    all_goals with_reducible rfl
  try simp only [Act.put, List.getElem_toArray, List.getElem_cons_succ, List.getElem_cons_zero, List.setIfInBounds_toArray, List.set_cons_zero, List.set_cons_succ]
  refine wpAnyH_take (i := 6) (v := ?_) rfl (by kernel_rfl) (by kernel_rfl) (by kernel_rfl) (fun _ _ _ h => h) (Or.inl ⟨by rfl, ?_⟩) (by assumption) ?_
  rotate_left
  · (intro w hSw; (try dsimp only at hSw); go_simp)
    all_goals with_reducible rfl
  try simp only [Act.put, List.getElem_toArray, List.getElem_cons_succ, List.getElem_cons_zero, List.setIfInBounds_toArray, List.set_cons_zero, List.set_cons_succ]
  refine wpAnyH_take (i := 7) (v := ?_) rfl (by kernel_rfl) (by kernel_rfl) (by kernel_rfl) (fun _ _ _ h => h) (Or.inl ⟨by rfl, ?_⟩) (by assumption) ?_
  rotate_left
  · (intro w hSw; (try dsimp only at hSw); go_simp)
    all_goals with_reducible rfl
  try simp only [Act.put, List.getElem_toArray, List.getElem_cons_succ, List.getElem_cons_zero, List.setIfInBounds_toArray, List.set_cons_zero, List.set_cons_succ]
  refine wpAnyH_take (i := 8) (v := ?_) rfl (by kernel_rfl) (by kernel_rfl) (by kernel_rfl) (fun _ _ _ h => h) (Or.inl ⟨by rfl, ?_⟩) (by assumption) ?_
  rotate_left
  · (intro w hSw; (try dsimp only at hSw); go_simp)
    all_goals with_reducible rfl
  try simp only [Act.put, List.getElem_toArray, List.getElem_cons_succ, List.getElem_cons_zero, List.setIfInBounds_toArray, List.set_cons_zero, List.set_cons_succ]
  refine wpAnyH_ready (rs := [9]) (by kernel_rfl) (by simp) ?_
  refine AllReadyH.cons rfl (fun K hK => ?_) AllReadyH.nil
  go_simp
  (first
      | (go_at_call 17; refine (g9_any _ _ _ _ _ _ _ _ _ _ _ ?_).mono ?_; (first | exact Or.inr ⟨by decide, rfl, rfl, rfl, rfl, rfl⟩ | exact Or.inl ⟨rfl, rfl, rfl, rfl, rfl, rfl⟩); rintro e wa ⟨rfl, qa⟩)
      | (go_at_call 32; refine (dy9 _ _ _).mono ?_; rintro e wa ⟨rfl, qa⟩))
  try go_wp2_with fail
  refine hK.out _ _ ?_ (fun hHeld => ?_)
  · (try dsimp only); (first | exact kd1back1_10 ((Dn.refl _).drew) hS80 | exact kd1back1_10 ‹Dn _ _› ‹_› | exact kd1back1_10 (Up.dn ‹Up _ _›) ‹_› | assumption | exact kd1back1_10 ((Dn.refl _).alloc _) ‹_›)
  clear hK K
  try simp only [Act.put, List.getElem_toArray, List.getElem_cons_succ, List.getElem_cons_zero, List.setIfInBounds_toArray, List.set_cons_zero, List.set_cons_succ]
  refine wpAnyH_take (i := 10) (v := ?_) rfl (by kernel_rfl) (by kernel_rfl) (by kernel_rfl) (fun _ _ _ h => h) (Or.inl ⟨by rfl, ?_⟩) (by assumption) ?_
  rotate_left
  · (intro w hSw; (try dsimp only at hSw); go_simp)
    all_goals with_reducible rfl
  try simp only [Act.put, List.getElem_toArray, List.getElem_cons_succ, List.getElem_cons_zero, List.setIfInBounds_toArray, List.set_cons_zero, List.set_cons_succ]
  refine wpAnyH_take (i := 11) (v := ?_) rfl (by kernel_rfl) (by kernel_rfl) (by kernel_rfl) (fun _ _ _ h => h) (Or.inl ⟨by rfl, ?_⟩) (by assumption) ?_
  rotate_left
  · (intro w hSw; (try dsimp only at hSw); go_simp)
    all_goals with_reducible rfl
  try simp only [Act.put, List.getElem_toArray, List.getElem_cons_succ, List.getElem_cons_zero, List.setIfInBounds_toArray, List.set_cons_zero, List.set_cons_succ]
  refine wpAnyH_take (i := 12) (v := ?_) rfl (by kernel_rfl) (by kernel_rfl) (by kernel_rfl) (fun _ _ _ h => h) (Or.inl ⟨by rfl, ?_⟩) (by assumption) ?_
  rotate_left
  · (intro w hSw; (try dsimp only at hSw); go_simp)
    all_goals with_reducible rfl
  try simp only [Act.put, List.getElem_toArray, List.getElem_cons_succ, List.getElem_cons_zero, List.setIfInBounds_toArray, List.set_cons_zero, List.set_cons_succ]
  refine wpAnyH_take (i := 13) (v := ?_) rfl (by kernel_rfl) (by kernel_rfl) (by kernel_rfl) (fun _ _ _ h => h) (Or.inl ⟨by rfl, ?_⟩) (by assumption) ?_
  rotate_left
  · (intro w hSw; (try dsimp only at hSw); go_simp)
    all_goals with_reducible rfl
  try simp only [Act.put, List.getElem_toArray, List.getElem_cons_succ, List.getElem_cons_zero, List.setIfInBounds_toArray, List.set_cons_zero, List.set_cons_succ]
  refine wpAnyH_take (i := 14) (v := ?_) rfl (by kernel_rfl) (by kernel_rfl) (by kernel_rfl) (fun _ _ _ h => h) (Or.inl ⟨by rfl, ?_⟩) (by assumption) ?_
  rotate_left
  · (intro w hSw; (try dsimp only at hSw); go_simp)
    all_goals with_reducible rfl
  try simp only [Act.put, List.getElem_toArray, List.getElem_cons_succ, List.getElem_cons_zero, List.setIfInBounds_toArray, List.set_cons_zero, List.set_cons_succ]
  refine wpAnyH_take (i := 15) (v := ?_) rfl (by kernel_rfl) (by kernel_rfl) (by kernel_rfl) (fun _ _ _ h => h) (Or.inl ⟨by rfl, ?_⟩) (by assumption) ?_
  rotate_left
  · (intro w hSw; (try dsimp only at hSw); go_simp)
    all_goals with_reducible rfl
  try simp only [Act.put, List.getElem_toArray, List.getElem_cons_succ, List.getElem_cons_zero, List.setIfInBounds_toArray, List.set_cons_zero, List.set_cons_succ]
  refine wpAnyH_take (i := 16) (v := ?_) rfl (by kernel_rfl) (by kernel_rfl) (by kernel_rfl) (fun _ _ _ h => h) (Or.inl ⟨by rfl, ?_⟩) (by assumption) ?_
  rotate_left
  · (intro w hSw; (try dsimp only at hSw); go_simp)
    all_goals with_reducible rfl
  try simp only [Act.put, List.getElem_toArray, List.getElem_cons_succ, List.getElem_cons_zero, List.setIfInBounds_toArray, List.set_cons_zero, List.set_cons_succ]
  refine wpAnyH_take (i := 17) (v := ?_) rfl (by kernel_rfl) (by kernel_rfl) (by kernel_rfl) (fun _ _ _ h => h) (Or.inl ⟨by rfl, ?_⟩) (by assumption) ?_
  rotate_left
  · (intro w hSw; (try dsimp only at hSw); go_simp)
    all_goals with_reducible rfl
  try simp only [Act.put, List.getElem_toArray, List.getElem_cons_succ, List.getElem_cons_zero, List.setIfInBounds_toArray, List.set_cons_zero, List.set_cons_succ]
  refine wpAnyH_take (i := 18) (v := ?_) rfl (by kernel_rfl) (by kernel_rfl) (by kernel_rfl) (fun _ _ _ h => h) (Or.inl ⟨by rfl, ?_⟩) (by assumption) ?_
  rotate_left
  · (intro w hSw; (try dsimp only at hSw); go_simp)
    all_goals with_reducible rfl
  try simp only [Act.put, List.getElem_toArray, List.getElem_cons_succ, List.getElem_cons_zero, List.setIfInBounds_toArray, List.set_cons_zero, List.set_cons_succ]
  refine wpAnyH_take (i := 19) (v := undef) rfl (by kernel_rfl) (by kernel_rfl) (by kernel_rfl) (fun _ _ _ h => h) (Or.inr ⟨by rfl, rfl⟩) (by assumption) ?_
  try simp only [Act.put, List.getElem_toArray, List.getElem_cons_succ, List.getElem_cons_zero, List.setIfInBounds_toArray, List.set_cons_zero, List.set_cons_succ]
  refine wpAnyH_take (i := 20) (v := undef) rfl (by kernel_rfl) (by kernel_rfl) (by kernel_rfl) (fun _ _ _ h => h) (Or.inr ⟨by rfl, rfl⟩) (by assumption) ?_
  try simp only [Act.put, List.getElem_toArray, List.getElem_cons_succ, List.getElem_cons_zero, List.setIfInBounds_toArray, List.set_cons_zero, List.set_cons_succ]
  refine wpAnyH_take (i := 21) (v := undef) rfl (by kernel_rfl) (by kernel_rfl) (by kernel_rfl) (fun _ _ _ h => h) (Or.inr ⟨by rfl, rfl⟩) (by assumption) ?_
  try simp only [Act.put, List.getElem_toArray, List.getElem_cons_succ, List.getElem_cons_zero, List.setIfInBounds_toArray, List.set_cons_zero, List.set_cons_succ]
  refine wpAnyH_take (i := 22) (v := undef) rfl (by kernel_rfl) (by kernel_rfl) (by kernel_rfl) (fun _ _ _ h => h) (Or.inr ⟨by rfl, rfl⟩) (by assumption) ?_
  try simp only [Act.put, List.getElem_toArray, List.getElem_cons_succ, List.getElem_cons_zero, List.setIfInBounds_toArray, List.set_cons_zero, List.set_cons_succ]
  refine wpAnyH_take (i := 23) (v := undef) rfl (by kernel_rfl) (by kernel_rfl) (by kernel_rfl) (fun _ _ _ h => h) (Or.inr ⟨by rfl, rfl⟩) (by assumption) ?_
  try simp only [Act.put, List.getElem_toArray, List.getElem_cons_succ, List.getElem_cons_zero, List.setIfInBounds_toArray, List.set_cons_zero, List.set_cons_succ]
  refine wpAnyH_take (i := 24) (v := undef) rfl (by kernel_rfl) (by kernel_rfl) (by kernel_rfl) (fun _ _ _ h => h) (Or.inr ⟨by rfl, rfl⟩) (by assumption) ?_
  try simp only [Act.put, List.getElem_toArray, List.getElem_cons_succ, List.getElem_cons_zero, List.setIfInBounds_toArray, List.set_cons_zero, List.set_cons_succ]
  refine wpAnyH_take (i := 25) (v := undef) rfl (by kernel_rfl) (by kernel_rfl) (by kernel_rfl) (fun _ _ _ h => h) (Or.inr ⟨by rfl, rfl⟩) (by assumption) ?_
  try simp only [Act.put, List.getElem_toArray, List.getElem_cons_succ, List.getElem_cons_zero, List.setIfInBounds_toArray, List.set_cons_zero, List.set_cons_succ]
  refine wpAnyH_take (i := 26) (v := undef) rfl (by kernel_rfl) (by kernel_rfl) (by kernel_rfl) (fun _ _ _ h => h) (Or.inr ⟨by rfl, rfl⟩) (by assumption) ?_
  try simp only [Act.put, List.getElem_toArray, List.getElem_cons_succ, List.getElem_cons_zero, List.setIfInBounds_toArray, List.set_cons_zero, List.set_cons_succ]
  refine wpAnyH_take (i := 27) (v := undef) rfl (by kernel_rfl) (by kernel_rfl) (by kernel_rfl) (fun _ _ _ h => h) (Or.inr ⟨by rfl, rfl⟩) (by assumption) ?_
  try simp only [Act.put, List.getElem_toArray, List.getElem_cons_succ, List.getElem_cons_zero, List.setIfInBounds_toArray, List.set_cons_zero, List.set_cons_succ]
  refine wpAnyH_take (i := 28) (v := ?_) rfl (by kernel_rfl) (by kernel_rfl) (by kernel_rfl) (fun _ _ _ h => h) (Or.inl ⟨by rfl, ?_⟩) (by assumption) ?_
  rotate_left
  · (intro w hSw; (try dsimp only at hSw); go_simp)
    all_goals with_reducible rfl
  try simp only [Act.put, List.getElem_toArray, List.getElem_cons_succ, List.getElem_cons_zero, List.setIfInBounds_toArray, List.set_cons_zero, List.set_cons_succ]
  refine wpAnyH_take (i := 29) (v := ?_) rfl (by kernel_rfl) (by kernel_rfl) (by kernel_rfl) (fun _ _ _ h => h) (Or.inl ⟨by rfl, ?_⟩) (by assumption) ?_
  rotate_left
  · (intro w hSw; (try dsimp only at hSw); go_simp)
    all_goals with_reducible rfl
  try simp only [Act.put, List.getElem_toArray, List.getElem_cons_succ, List.getElem_cons_zero, List.setIfInBounds_toArray, List.set_cons_zero, List.set_cons_succ]
  refine wpAnyH_done (by kernel_rfl) ?_ _
  all_goals skip
  all_goals
    clear hS80
    obtain ⟨uf95, c85, c86, c87, c88, c89, c90, c91, c92, c93, c94⟩ := (‹Dn W61 _ ∧ _› : _ ∧ _)
    obtain ⟨w96, rfl⟩ : ∃ w96 : World, w96 = wa := ⟨_, rfl⟩
    have l97 := Nat.lt_of_lt_of_le l62 uf95.size
    clear l62
    have l98 := Nat.lt_of_lt_of_le l67 uf95.size
    clear l67
    have l99 := Nat.lt_of_lt_of_le l70 uf95.size
    clear l70
    have l100 := Nat.lt_of_lt_of_le l79 uf95.size
    clear l79
    have c101 := uf95.cell k81.out
    have c102 := uf95.cell k82.out
    have c103 := uf95.cell k83.out
    have c104 := uf95.cell k84.out
    clear k81 k82 k83 k84
    have vuf95 := vW61.trans uf95
    clear uf95 vW61 HShS80
    clear c89 c90 l98
    clear c91 c92 c93 c94 l100
    go_wp2_with fail
    refine (HRL.out _).mono ?_
    rintro e w5 ⟨rfl, qw5⟩
    have l105 := Nat.lt_of_lt_of_le l97 qw5.size
    have c106 := qw5.cell c85
    have c107 := qw5.cell c86
    have c108 := qw5.cell c87
    have c109 := qw5.cell c88
    have l110 := Nat.lt_of_lt_of_le l99 qw5.size
    have c111 := qw5.cell c101
    have c112 := qw5.cell c102
    have c113 := qw5.cell c103
    have c114 := qw5.cell c104
    clear l97 c85 c86 c87 c88 l99 c101 c102 c103 c104
    have uw5 := vuf95.trans qw5
    clear qw5 vuf95
    go_wp2_with fail
    refine (HRS.out _).mono ?_
    rintro e w6 ⟨rfl, qw6⟩
    have l115 := Nat.lt_of_lt_of_le l105 qw6.size
    have c116 := qw6.cell c106
    have c117 := qw6.cell c107
    have c118 := qw6.cell c108
    have c119 := qw6.cell c109
    have l120 := Nat.lt_of_lt_of_le l110 qw6.size
    have c121 := qw6.cell c111
    have c122 := qw6.cell c112
    have c123 := qw6.cell c113
    have c124 := qw6.cell c114
    clear l105 c106 c107 c108 c109 l110 c111 c112 c113 c114
    have uw6 := uw5.trans qw6
    clear qw6 uw5
    go_wp2_with fail
    obtain ⟨W125, hW125⟩ : ∃ W125, W125 = w6.alloc (.cells #[.int .i8 s0, .int .i64 s1, .int .i8 s2, .int .i64 s3] 29) := ⟨_, rfl⟩
    have uW125 : Dn w6 W125 := by rw [hW125]; exact (Dn.refl _).alloc _
    have l126 := Nat.lt_of_lt_of_le l115 uW125.size
    have c127 := uW125.cell c116
    have c128 := uW125.cell c117
    have c129 := uW125.cell c118
    have c130 := uW125.cell c119
    have l131 := Nat.lt_of_lt_of_le l120 uW125.size
    have c132 := uW125.cell c121
    have c133 := uW125.cell c122
    have c134 := uW125.cell c123
    have c135 := uW125.cell c124
    clear l115 c116 c117 c118 c119 l120 c121 c122 c123 c124
    have c136 : W125.cell? ⟨w6.heap.size, 0, none⟩ = some (.int .i8 s0) := by rw [hW125]; simp [go_sem]
    have c137 : W125.cell? ⟨w6.heap.size, 1, none⟩ = some (.int .i64 s1) := by rw [hW125]; simp [go_sem]
    have c138 : W125.cell? ⟨w6.heap.size, 2, none⟩ = some (.int .i8 s2) := by rw [hW125]; simp [go_sem]
    have c139 : W125.cell? ⟨w6.heap.size, 3, none⟩ = some (.int .i64 s3) := by rw [hW125]; simp [go_sem]
    have l140 : w6.heap.size < W125.heap.size := by rw [hW125]; simp <;> omega
    rw [← hW125]
    clear hW125
    have vW125 := uw6.trans uW125
    clear uW125 uw6
    refine (g9_ok s0 s1 s2 s3 0 0 0 0 0 _).mono ?_
    rintro e w7 ⟨rfl, qw7⟩
    have l141 := Nat.lt_of_lt_of_le l126 qw7.size
    have c142 := qw7.cell c127
    have c143 := qw7.cell c128
    have c144 := qw7.cell c129
    have c145 := qw7.cell c130
    have l146 := Nat.lt_of_lt_of_le l131 qw7.size
    have c147 := qw7.cell c132
    have c148 := qw7.cell c133
    have c149 := qw7.cell c134
    have c150 := qw7.cell c135
    have l151 := Nat.lt_of_lt_of_le l140 qw7.size
    have c152 := qw7.cell c136
    have c153 := qw7.cell c137
    have c154 := qw7.cell c138
    have c155 := qw7.cell c139
    clear l126 c127 c128 c129 c130 l131 c132 c133 c134 c135 l140 c136 c137 c138 c139
    have uw7 := vW125.trans qw7
    clear qw7 vW125
    go_wp2_with fail
    refine (HB.out _).mono ?_
    rintro e w8 ⟨rfl, qw8⟩
    have l156 := Nat.lt_of_lt_of_le l141 qw8.size
    have c157 := qw8.cell c142
    have c158 := qw8.cell c143
    have c159 := qw8.cell c144
    have c160 := qw8.cell c145
    have l161 := Nat.lt_of_lt_of_le l146 qw8.size
    have c162 := qw8.cell c147
    have c163 := qw8.cell c148
    have c164 := qw8.cell c149
    have c165 := qw8.cell c150
    have l166 := Nat.lt_of_lt_of_le l151 qw8.size
    have c167 := qw8.cell c152
    have c168 := qw8.cell c153
    have c169 := qw8.cell c154
    have c170 := qw8.cell c155
    clear l141 c142 c143 c144 c145 l146 c147 c148 c149 c150 l151 c152 c153 c154 c155
    have uw8 := uw7.trans qw8
    clear qw8 uw7
    go_wp2_with fail
    obtain ⟨W171, hW171⟩ : ∃ W171, W171 = w8.alloc (.cells #[.int .i8 a, .int .i64 b, .int .i8 c, .int .i64 d] 29) := ⟨_, rfl⟩
    have uW171 : Dn w8 W171 := by rw [hW171]; exact (Dn.refl _).alloc _
    have l172 := Nat.lt_of_lt_of_le l156 uW171.size
    have c173 := uW171.cell c157
    have c174 := uW171.cell c158
    have c175 := uW171.cell c159
    have c176 := uW171.cell c160
    have l177 := Nat.lt_of_lt_of_le l161 uW171.size
    have c178 := uW171.cell c162
    have c179 := uW171.cell c163
    have c180 := uW171.cell c164
    have c181 := uW171.cell c165
    have l182 := Nat.lt_of_lt_of_le l166 uW171.size
    have c183 := uW171.cell c167
    have c184 := uW171.cell c168
    have c185 := uW171.cell c169
    have c186 := uW171.cell c170
    clear l156 c157 c158 c159 c160 l161 c162 c163 c164 c165 l166 c167 c168 c169 c170
    have c187 : W171.cell? ⟨w8.heap.size, 0, none⟩ = some (.int .i8 a) := by rw [hW171]; simp [go_sem]
    have c188 : W171.cell? ⟨w8.heap.size, 1, none⟩ = some (.int .i64 b) := by rw [hW171]; simp [go_sem]
    have c189 : W171.cell? ⟨w8.heap.size, 2, none⟩ = some (.int .i8 c) := by rw [hW171]; simp [go_sem]
    have c190 : W171.cell? ⟨w8.heap.size, 3, none⟩ = some (.int .i64 d) := by rw [hW171]; simp [go_sem]
    have l191 : w8.heap.size < W171.heap.size := by rw [hW171]; simp <;> omega
    rw [← hW171]
    clear hW171
    have vW171 := uw8.trans uW171
    clear uW171 uw8
    refine (g9_ok a b c d 0 0 0 0 0 _).mono ?_
    rintro e w9 ⟨rfl, qw9⟩
    have l192 := Nat.lt_of_lt_of_le l172 qw9.size
    have c193 := qw9.cell c173
    have c194 := qw9.cell c174
    have c195 := qw9.cell c175
    have c196 := qw9.cell c176
    have l197 := Nat.lt_of_lt_of_le l177 qw9.size
    have c198 := qw9.cell c178
    have c199 := qw9.cell c179
    have c200 := qw9.cell c180
    have c201 := qw9.cell c181
    have l202 := Nat.lt_of_lt_of_le l182 qw9.size
    have c203 := qw9.cell c183
    have c204 := qw9.cell c184
    have c205 := qw9.cell c185
    have c206 := qw9.cell c186
    have l207 := Nat.lt_of_lt_of_le l191 qw9.size
    have c208 := qw9.cell c187
    have c209 := qw9.cell c188
    have c210 := qw9.cell c189
    have c211 := qw9.cell c190
    clear l172 c173 c174 c175 c176 l177 c178 c179 c180 c181 l182 c183 c184 c185 c186 l191 c187 c188 c189 c190
    have uw9 := vW171.trans qw9
    clear qw9 vW171
    go_wp2_with fail
    refine (lives9 _ (hE.dn uw9)).mono ?_
    rintro e w10 ⟨rfl, qw10⟩
    have l212 := Nat.lt_of_lt_of_le l192 qw10.size
    have c213 := qw10.cell c193
    have c214 := qw10.cell c194
    have c215 := qw10.cell c195
    have c216 := qw10.cell c196
    have l217 := Nat.lt_of_lt_of_le l197 qw10.size
    have c218 := qw10.cell c198
    have c219 := qw10.cell c199
    have c220 := qw10.cell c200
    have c221 := qw10.cell c201
    have l222 := Nat.lt_of_lt_of_le l202 qw10.size
    have c223 := qw10.cell c203
    have c224 := qw10.cell c204
    have c225 := qw10.cell c205
    have c226 := qw10.cell c206
    have l227 := Nat.lt_of_lt_of_le l207 qw10.size
    have c228 := qw10.cell c208
    have c229 := qw10.cell c209
    have c230 := qw10.cell c210
    have c231 := qw10.cell c211
    clear l192 c193 c194 c195 c196 l197 c198 c199 c200 c201 l202 c203 c204 c205 c206 l207 c208 c209 c210 c211
    have uw10 := uw9.trans qw10
    clear qw10 uw9
    go_wp2_with fail
    go_ret
    exact ⟨rfl, uw10⟩
end Go.Proofs.YtcdkeiolblifkaaDoor
