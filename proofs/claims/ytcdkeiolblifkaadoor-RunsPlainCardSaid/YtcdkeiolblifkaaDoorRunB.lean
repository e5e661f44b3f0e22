/-
  WALKS OF circa/runs: Has, Compare, Len, Touch (its leaves). (Printed by wip/gen/run9.py.)
-/
import Derived.Test.YtcdkeiolblifkaaDoorRunA
namespace Go.Proofs.YtcdkeiolblifkaaDoor
open Go.RowKit
set_option linter.unusedVariables false
set_option linter.unusedSimpArgs false
theorem kdR_4 {W w1 w2 : World} {a0 a1 a2 a3 : Addr} {v0 v1 v2 v3 : Value} (k : Dn w1 w2) (h : Dn W w1 ∧ w1.cell? a0 = some v0 ∧ w1.cell? a1 = some v1 ∧ w1.cell? a2 = some v2 ∧ w1.cell? a3 = some v3) :
    Dn W w2 ∧ w2.cell? a0 = some v0 ∧ w2.cell? a1 = some v1 ∧ w2.cell? a2 = some v2 ∧ w2.cell? a3 = some v3 := by
  obtain ⟨h1, c0, c1, c2, c3⟩ := h
  exact ⟨h1.trans k, k.cell c0, k.cell c1, k.cell c2, k.cell c3⟩
theorem kdR_8 {W w1 w2 : World} {a0 a1 a2 a3 a4 a5 a6 a7 : Addr} {v0 v1 v2 v3 v4 v5 v6 v7 : Value} (k : Dn w1 w2) (h : Dn W w1 ∧ w1.cell? a0 = some v0 ∧ w1.cell? a1 = some v1 ∧ w1.cell? a2 = some v2 ∧ w1.cell? a3 = some v3 ∧ w1.cell? a4 = some v4 ∧ w1.cell? a5 = some v5 ∧ w1.cell? a6 = some v6 ∧ w1.cell? a7 = some v7) :
    Dn W w2 ∧ w2.cell? a0 = some v0 ∧ w2.cell? a1 = some v1 ∧ w2.cell? a2 = some v2 ∧ w2.cell? a3 = some v3 ∧ w2.cell? a4 = some v4 ∧ w2.cell? a5 = some v5 ∧ w2.cell? a6 = some v6 ∧ w2.cell? a7 = some v7 := by
  obtain ⟨h1, c0, c1, c2, c3, c4, c5, c6, c7⟩ := h
  exact ⟨h1.trans k, k.cell c0, k.cell c1, k.cell c2, k.cell c3, k.cell c4, k.cell c5, k.cell c6, k.cell c7⟩
set_option maxHeartbeats 4000000 in
set_option maxRecDepth 100000 in
theorem rnHas_is (a b c d day : Int) (r : Bool) (HW : Hid (∀ W, Calls Tryd.prog 13 #[.agg #[.int .i8 0, .int .i64 day, .int .i8 0, .int .i64 day], .agg #[.int .i8 a, .int .i64 b, .int .i8 c, .int .i64 d]] W fun e w' => e = .returned (.bool r) ∧ Dn W w')) (w : World) :
    Calls Tryd.prog 9 #[.agg #[.int .i8 a, .int .i64 b, .int .i8 c, .int .i64 d], .int .i64 day] w fun e w' => e = .returned (.bool r) ∧ Dn w w' := by
  go_enter Tryd.func9, Tryd.ntmps9
  go_wp2_with fail
  obtain ⟨W1, hW1⟩ : ∃ W1, W1 = w.alloc (.cells #[.int .i8 a, .int .i64 b, .int .i8 c, .int .i64 d] 29) := ⟨_, rfl⟩
  have uW1 : Dn w W1 := by rw [hW1]; exact (Dn.refl _).alloc _
  have c2 : W1.cell? ⟨w.heap.size, 0, none⟩ = some (.int .i8 a) := by rw [hW1]; simp [go_sem]
  have c3 : W1.cell? ⟨w.heap.size, 1, none⟩ = some (.int .i64 b) := by rw [hW1]; simp [go_sem]
  have c4 : W1.cell? ⟨w.heap.size, 2, none⟩ = some (.int .i8 c) := by rw [hW1]; simp [go_sem]
  have c5 : W1.cell? ⟨w.heap.size, 3, none⟩ = some (.int .i64 d) := by rw [hW1]; simp [go_sem]
  have l6 : w.heap.size < W1.heap.size := by rw [hW1]; simp <;> omega
  rw [← hW1]
  clear hW1
  have hS7 := kdR_4 (W := W1) (Dn.refl _) ⟨Dn.refl _, c2, c3, c4, c5⟩
  have HShS7 := Lib.hid hS7
  clear c2 c3 c4 c5
  go_region_held3 (fun w' => Dn W1 w' ∧ w'.cell? ⟨w.heap.size, 0, none⟩ = some (.int .i8 a) ∧ w'.cell? ⟨w.heap.size, 1, none⟩ = some (.int .i64 b) ∧ w'.cell? ⟨w.heap.size, 2, none⟩ = some (.int .i8 c) ∧ w'.cell? ⟨w.heap.size, 3, none⟩ = some (.int .i64 d))
    (first | exact kdR_4 ((Dn.refl _).drew) hS7 | exact kdR_4 ‹Dn _ _› ‹_› | exact kdR_4 (Up.dn ‹Up _ _›) ‹_› | assumption | exact kdR_4 ((Dn.refl _).alloc _) ‹_›)
    (first
      | (go_at_call 37; refine (eOf _ _).mono ?_; rintro e wa ⟨rfl, qa⟩; replace qa := Up.dn qa)
      | (go_at_call 13; refine (HW.out _).mono ?_; rintro e wa ⟨rfl, qa⟩))
  all_goals
    clear hS7
    obtain ⟨uf12, c8, c9, c10, c11⟩ := (‹Dn W1 _ ∧ _› : _ ∧ _)
    obtain ⟨w13, rfl⟩ : ∃ w13 : World, w13 = wa := ⟨_, rfl⟩
    have l14 := Nat.lt_of_lt_of_le l6 uf12.size
    clear l6
    have vuf12 := uW1.trans uf12
    clear uf12 uW1 HShS7
    go_wp2_with fail
    go_ret
    exact ⟨rfl, vuf12⟩
theorem rnHas (a b c d day : Int) (w : World) (hb : I64 b) (hd : I64 d) (hy : I64 day) :
    Calls Tryd.prog 9 #[.agg #[.int .i8 a, .int .i64 b, .int .i8 c, .int .i64 d], .int .i64 day] w fun e w' => e = .returned (.bool (decide (Wi 0 day 0 day a b c d))) ∧ Dn w w' :=
  rnHas_is a b c d day _ (Lib.hid (fun W => rnWithin 0 day 0 day a b c d W hy hy hb hd)) w
set_option maxHeartbeats 4000000 in
set_option maxRecDepth 100000 in
theorem rnCmp (a b c d e f g h : Int) (w : World) :
    Calls Tryd.prog 20 #[.agg #[.int .i8 a, .int .i64 b, .int .i8 c, .int .i64 d], .agg #[.int .i8 e, .int .i64 f, .int .i8 g, .int .i64 h]] w fun r w' => r = .returned (.int .i64 (or2 (eC a b e f) (eC c d g h))) ∧ Dn w w' := by
  go_enter Tryd.func20, Tryd.ntmps20
  go_wp2_with fail
  obtain ⟨W1, hW1⟩ : ∃ W1, W1 = (w.alloc (.cells #[.int .i8 a, .int .i64 b, .int .i8 c, .int .i64 d] 29)).alloc (.cells #[.int .i8 e, .int .i64 f, .int .i8 g, .int .i64 h] 29) := ⟨_, rfl⟩
  have uW1 : Dn w W1 := by rw [hW1]; exact ((Dn.refl _).alloc _).alloc _
  have c2 : W1.cell? ⟨w.heap.size, 0, none⟩ = some (.int .i8 a) := by rw [hW1]; simp [go_sem]
  have c3 : W1.cell? ⟨w.heap.size, 1, none⟩ = some (.int .i64 b) := by rw [hW1]; simp [go_sem]
  have c4 : W1.cell? ⟨w.heap.size, 2, none⟩ = some (.int .i8 c) := by rw [hW1]; simp [go_sem]
  have c5 : W1.cell? ⟨w.heap.size, 3, none⟩ = some (.int .i64 d) := by rw [hW1]; simp [go_sem]
  have l6 : w.heap.size < W1.heap.size := by rw [hW1]; simp <;> omega
  have c7 : W1.cell? ⟨w.heap.size + 1, 0, none⟩ = some (.int .i8 e) := by rw [hW1]; simp [go_sem]
  have c8 : W1.cell? ⟨w.heap.size + 1, 1, none⟩ = some (.int .i64 f) := by rw [hW1]; simp [go_sem]
  have c9 : W1.cell? ⟨w.heap.size + 1, 2, none⟩ = some (.int .i8 g) := by rw [hW1]; simp [go_sem]
  have c10 : W1.cell? ⟨w.heap.size + 1, 3, none⟩ = some (.int .i64 h) := by rw [hW1]; simp [go_sem]
  have l11 : w.heap.size + 1 < W1.heap.size := by rw [hW1]; simp <;> omega
  rw [← hW1]
  clear hW1
  have hS12 := kdR_8 (W := W1) (Dn.refl _) ⟨Dn.refl _, c2, c3, c4, c5, c7, c8, c9, c10⟩
  have HShS12 := Lib.hid hS12
  clear c2 c3 c4 c5 c7 c8 c9 c10
  go_region_held3 (fun w' => Dn W1 w' ∧ w'.cell? ⟨w.heap.size, 0, none⟩ = some (.int .i8 a) ∧ w'.cell? ⟨w.heap.size, 1, none⟩ = some (.int .i64 b) ∧ w'.cell? ⟨w.heap.size, 2, none⟩ = some (.int .i8 c) ∧ w'.cell? ⟨w.heap.size, 3, none⟩ = some (.int .i64 d) ∧ w'.cell? ⟨w.heap.size + 1, 0, none⟩ = some (.int .i8 e) ∧ w'.cell? ⟨w.heap.size + 1, 1, none⟩ = some (.int .i64 f) ∧ w'.cell? ⟨w.heap.size + 1, 2, none⟩ = some (.int .i8 g) ∧ w'.cell? ⟨w.heap.size + 1, 3, none⟩ = some (.int .i64 h))
    (first | exact kdR_8 ((Dn.refl _).drew) hS12 | exact kdR_8 ‹Dn _ _› ‹_› | exact kdR_8 (Up.dn ‹Up _ _›) ‹_› | assumption | exact kdR_8 ((Dn.refl _).alloc _) ‹_›)
    (first
      | (go_at_call 41; refine (eCmp _ _ _ _ _).mono ?_; rintro e wa ⟨rfl, qa⟩; replace qa := Up.dn qa)
      | (go_at_call 50; refine (cmpOr _ (eC a b e f) (eC c d g h) _ ?_ ?_).mono ?_; (simp [go_sem]); (simp [go_sem]); rintro e wa ⟨rfl, rfl⟩))
  all_goals
    clear hS12
    obtain ⟨uf21, c13, c14, c15, c16, c17, c18, c19, c20⟩ := (‹Dn W1 _ ∧ _› : _ ∧ _)
    obtain ⟨w22, rfl⟩ : ∃ w22 : World, w22 = wa := ⟨_, rfl⟩
    have l23 := Nat.lt_of_lt_of_le l6 uf21.size
    clear l6
    have l24 := Nat.lt_of_lt_of_le l11 uf21.size
    clear l11
    have vuf21 := uW1.trans uf21
    clear uf21 uW1 HShS12
    go_wp2_with fail
    go_ret
    exact ⟨rfl, vuf21⟩
set_option maxHeartbeats 4000000 in
set_option maxRecDepth 100000 in
theorem rnLen_bad (a b c d : Int) (m : Int) (HA : Hid (ChkIs a b c d m)) (h1 : m ≠ 0) (w : World) :
    Calls Tryd.prog 29 #[.agg #[.int .i8 a, .int .i64 b, .int .i8 c, .int .i64 d]] w fun ro w' => ro = .returned (.tuple #[.int .i64 0, .int .i64 m]) ∧ Dn w w' := by
  have t1 : (m != 0) = true := by simpa using h1
  clear h1
  go_enter Tryd.func29, Tryd.ntmps29
  go_wp2_with fail
  obtain ⟨W1, hW1⟩ : ∃ W1, W1 = w.alloc (.cells #[.int .i8 a, .int .i64 b, .int .i8 c, .int .i64 d] 29) := ⟨_, rfl⟩
  have uW1 : Dn w W1 := by rw [hW1]; exact (Dn.refl _).alloc _
  have c2 : W1.cell? ⟨w.heap.size, 0, none⟩ = some (.int .i8 a) := by rw [hW1]; simp [go_sem]
  have c3 : W1.cell? ⟨w.heap.size, 1, none⟩ = some (.int .i64 b) := by rw [hW1]; simp [go_sem]
  have c4 : W1.cell? ⟨w.heap.size, 2, none⟩ = some (.int .i8 c) := by rw [hW1]; simp [go_sem]
  have c5 : W1.cell? ⟨w.heap.size, 3, none⟩ = some (.int .i64 d) := by rw [hW1]; simp [go_sem]
  have l6 : w.heap.size < W1.heap.size := by rw [hW1]; simp <;> omega
  rw [← hW1]
  clear hW1
  refine (HA.out _).mono ?_
  rintro e w1 ⟨rfl, qw1⟩
  have l7 := Nat.lt_of_lt_of_le l6 qw1.size
  have c8 := qw1.cell c2
  have c9 := qw1.cell c3
  have c10 := qw1.cell c4
  have c11 := qw1.cell c5
  clear l6 c2 c3 c4 c5
  have uw1 := uW1.trans qw1
  clear qw1 uW1
  go_wp2_with fail
  go_ret2
  exact ⟨rfl, uw1⟩
set_option maxHeartbeats 4000000 in
set_option maxRecDepth 100000 in
theorem rnLen_inf1 (a b c d : Int) (HA : Hid (ChkIs a b c d 0)) (h1 : a ≠ 0) (w : World) :
    Calls Tryd.prog 29 #[.agg #[.int .i8 a, .int .i64 b, .int .i8 c, .int .i64 d]] w fun ro w' => ro = .returned (.tuple #[.int .i64 0, .int .i64 16]) ∧ Dn w w' := by
  have t1 : (a != 0) = true := by simpa using h1
  clear h1
  go_enter Tryd.func29, Tryd.ntmps29
  go_wp2_with fail
  obtain ⟨W1, hW1⟩ : ∃ W1, W1 = w.alloc (.cells #[.int .i8 a, .int .i64 b, .int .i8 c, .int .i64 d] 29) := ⟨_, rfl⟩
  have uW1 : Dn w W1 := by rw [hW1]; exact (Dn.refl _).alloc _
  have c2 : W1.cell? ⟨w.heap.size, 0, none⟩ = some (.int .i8 a) := by rw [hW1]; simp [go_sem]
  have c3 : W1.cell? ⟨w.heap.size, 1, none⟩ = some (.int .i64 b) := by rw [hW1]; simp [go_sem]
  have c4 : W1.cell? ⟨w.heap.size, 2, none⟩ = some (.int .i8 c) := by rw [hW1]; simp [go_sem]
  have c5 : W1.cell? ⟨w.heap.size, 3, none⟩ = some (.int .i64 d) := by rw [hW1]; simp [go_sem]
  have l6 : w.heap.size < W1.heap.size := by rw [hW1]; simp <;> omega
  rw [← hW1]
  clear hW1
  refine (HA.out _).mono ?_
  rintro e w1 ⟨rfl, qw1⟩
  have l7 := Nat.lt_of_lt_of_le l6 qw1.size
  have c8 := qw1.cell c2
  have c9 := qw1.cell c3
  have c10 := qw1.cell c4
  have c11 := qw1.cell c5
  clear l6 c2 c3 c4 c5
  have uw1 := uW1.trans qw1
  clear qw1 uW1
  go_wp2_with fail
  go_ret2
  exact ⟨rfl, uw1⟩
set_option maxHeartbeats 4000000 in
set_option maxRecDepth 100000 in
theorem rnLen_inf2 (a b c d : Int) (HA : Hid (ChkIs a b c d 0)) (h0 : a = 0) (h1 : c ≠ 0) (w : World) :
    Calls Tryd.prog 29 #[.agg #[.int .i8 a, .int .i64 b, .int .i8 c, .int .i64 d]] w fun ro w' => ro = .returned (.tuple #[.int .i64 0, .int .i64 16]) ∧ Dn w w' := by
  have t0 : (a != 0) = false := by simpa using h0
  have t1 : (c != 0) = true := by simpa using h1
  clear h1 h0
  go_enter Tryd.func29, Tryd.ntmps29
  go_wp2_with fail
  obtain ⟨W1, hW1⟩ : ∃ W1, W1 = w.alloc (.cells #[.int .i8 a, .int .i64 b, .int .i8 c, .int .i64 d] 29) := ⟨_, rfl⟩
  have uW1 : Dn w W1 := by rw [hW1]; exact (Dn.refl _).alloc _
  have c2 : W1.cell? ⟨w.heap.size, 0, none⟩ = some (.int .i8 a) := by rw [hW1]; simp [go_sem]
  have c3 : W1.cell? ⟨w.heap.size, 1, none⟩ = some (.int .i64 b) := by rw [hW1]; simp [go_sem]
  have c4 : W1.cell? ⟨w.heap.size, 2, none⟩ = some (.int .i8 c) := by rw [hW1]; simp [go_sem]
  have c5 : W1.cell? ⟨w.heap.size, 3, none⟩ = some (.int .i64 d) := by rw [hW1]; simp [go_sem]
  have l6 : w.heap.size < W1.heap.size := by rw [hW1]; simp <;> omega
  rw [← hW1]
  clear hW1
  refine (HA.out _).mono ?_
  rintro e w1 ⟨rfl, qw1⟩
  have l7 := Nat.lt_of_lt_of_le l6 qw1.size
  have c8 := qw1.cell c2
  have c9 := qw1.cell c3
  have c10 := qw1.cell c4
  have c11 := qw1.cell c5
  clear l6 c2 c3 c4 c5
  have uw1 := uW1.trans qw1
  clear qw1 uW1
  go_wp2_with fail
  go_ret2
  exact ⟨rfl, uw1⟩
set_option maxHeartbeats 4000000 in
set_option maxRecDepth 100000 in
theorem rnLen_over (a b c d : Int) (HA : Hid (ChkIs a b c d 0)) (h0 : a = 0) (h1 : c = 0) (HS : Hid (∀ W, Calls Tryd.prog 53 #[.int .i64 d, .int .i64 b] W fun r w' => r = .returned (.tuple #[.int .i64 0, .int .i64 15]) ∧ W = w')) (w : World) :
    Calls Tryd.prog 29 #[.agg #[.int .i8 a, .int .i64 b, .int .i8 c, .int .i64 d]] w fun ro w' => ro = .returned (.tuple #[.int .i64 0, .int .i64 15]) ∧ Dn w w' := by
  have t0 : (a != 0) = false := by simpa using h0
  have t1 : (c != 0) = false := by simpa using h1
  clear h1 h0
  go_enter Tryd.func29, Tryd.ntmps29
  go_wp2_with fail
  obtain ⟨W1, hW1⟩ : ∃ W1, W1 = w.alloc (.cells #[.int .i8 a, .int .i64 b, .int .i8 c, .int .i64 d] 29) := ⟨_, rfl⟩
  have uW1 : Dn w W1 := by rw [hW1]; exact (Dn.refl _).alloc _
  have c2 : W1.cell? ⟨w.heap.size, 0, none⟩ = some (.int .i8 a) := by rw [hW1]; simp [go_sem]
  have c3 : W1.cell? ⟨w.heap.size, 1, none⟩ = some (.int .i64 b) := by rw [hW1]; simp [go_sem]
  have c4 : W1.cell? ⟨w.heap.size, 2, none⟩ = some (.int .i8 c) := by rw [hW1]; simp [go_sem]
  have c5 : W1.cell? ⟨w.heap.size, 3, none⟩ = some (.int .i64 d) := by rw [hW1]; simp [go_sem]
  have l6 : w.heap.size < W1.heap.size := by rw [hW1]; simp <;> omega
  rw [← hW1]
  clear hW1
  refine (HA.out _).mono ?_
  rintro e w1 ⟨rfl, qw1⟩
  have l7 := Nat.lt_of_lt_of_le l6 qw1.size
  have c8 := qw1.cell c2
  have c9 := qw1.cell c3
  have c10 := qw1.cell c4
  have c11 := qw1.cell c5
  clear l6 c2 c3 c4 c5
  have uw1 := uW1.trans qw1
  clear qw1 uW1
  go_wp2_with fail
  refine (HS.out _).mono ?_
  rintro e w2 ⟨rfl, rfl⟩
  go_wp2_with fail
  go_ret2
  exact ⟨rfl, uw1⟩
set_option maxHeartbeats 4000000 in
set_option maxRecDepth 100000 in
theorem rnLen_fit (a b c d : Int) (k n e : Int) (HA : Hid (ChkIs a b c d 0)) (h0 : a = 0) (h1 : c = 0) (HS : Hid (∀ W, Calls Tryd.prog 53 #[.int .i64 d, .int .i64 b] W fun r w' => r = .returned (.tuple #[.int .i64 k, .int .i64 0]) ∧ W = w')) (HT : Hid (∀ W, Calls Tryd.prog 54 #[.int .i64 k, .int .i64 1] W fun r w' => r = .returned (.tuple #[.int .i64 n, .int .i64 e]) ∧ Up W w')) (w : World) :
    Calls Tryd.prog 29 #[.agg #[.int .i8 a, .int .i64 b, .int .i8 c, .int .i64 d]] w fun ro w' => ro = .returned (.tuple #[.int .i64 n, .int .i64 e]) ∧ Dn w w' := by
  have t0 : (a != 0) = false := by simpa using h0
  have t1 : (c != 0) = false := by simpa using h1
  clear h1 h0
  go_enter Tryd.func29, Tryd.ntmps29
  go_wp2_with fail
  obtain ⟨W1, hW1⟩ : ∃ W1, W1 = w.alloc (.cells #[.int .i8 a, .int .i64 b, .int .i8 c, .int .i64 d] 29) := ⟨_, rfl⟩
  have uW1 : Dn w W1 := by rw [hW1]; exact (Dn.refl _).alloc _
  have c2 : W1.cell? ⟨w.heap.size, 0, none⟩ = some (.int .i8 a) := by rw [hW1]; simp [go_sem]
  have c3 : W1.cell? ⟨w.heap.size, 1, none⟩ = some (.int .i64 b) := by rw [hW1]; simp [go_sem]
  have c4 : W1.cell? ⟨w.heap.size, 2, none⟩ = some (.int .i8 c) := by rw [hW1]; simp [go_sem]
  have c5 : W1.cell? ⟨w.heap.size, 3, none⟩ = some (.int .i64 d) := by rw [hW1]; simp [go_sem]
  have l6 : w.heap.size < W1.heap.size := by rw [hW1]; simp <;> omega
  rw [← hW1]
  clear hW1
  refine (HA.out _).mono ?_
  rintro e w1 ⟨rfl, qw1⟩
  have l7 := Nat.lt_of_lt_of_le l6 qw1.size
  have c8 := qw1.cell c2
  have c9 := qw1.cell c3
  have c10 := qw1.cell c4
  have c11 := qw1.cell c5
  clear l6 c2 c3 c4 c5
  have uw1 := uW1.trans qw1
  clear qw1 uW1
  go_wp2_with fail
  refine (HS.out _).mono ?_
  rintro e w2 ⟨rfl, rfl⟩
  go_wp2_with fail
  refine (HT.out _).mono ?_
  rintro e w3 ⟨rfl, qw3⟩
  replace qw3 := qw3.dn
  have l12 := Nat.lt_of_lt_of_le l7 qw3.size
  have c13 := qw3.cell c8
  have c14 := qw3.cell c9
  have c15 := qw3.cell c10
  have c16 := qw3.cell c11
  clear l7 c8 c9 c10 c11
  have uw3 := uw1.trans qw3
  clear qw3 uw1
  go_wp2_with fail
  go_ret2
  exact ⟨rfl, uw3⟩
/-- How many days a run has, and the error. -/
def LenR (a b c d n e : Int) : Prop :=
  (¬ RnOk a b c d ∧ n = 0 ∧ e = rnErr a b c d) ∨ (RnOk a b c d ∧ (a ≠ 0 ∨ c ≠ 0) ∧ n = 0 ∧ e = 16) ∨ (RnOk a b c d ∧ a = 0 ∧ c = 0 ∧ Fits (d - b + 1) n e)
theorem rnLen (a b c d n e : Int) (w : World) (hb : I64 b) (hd : I64 d) (h : LenR a b c d n e) :
    Calls Tryd.prog 29 #[.agg #[.int .i8 a, .int .i64 b, .int .i8 c, .int .i64 d]] w fun r w' => r = .returned (.tuple #[.int .i64 n, .int .i64 e]) ∧ Dn w w' := by
  have k1 := rnErr_ok (a := a) (c := c) hb hd
  have HA : Hid (ChkIs a b c d (rnErr a b c d)) := Lib.hid (rnChk a b c d)
  rcases h with ⟨h1, rfl, rfl⟩ | ⟨h1, h2, rfl, rfl⟩ | ⟨h1, h2, h3, hf⟩
  · exact rnLen_bad a b c d _ HA (fun hc => h1 (k1.1 hc)) w
  · rw [k1.2 h1] at HA
    by_cases h0 : a = 0
    · exact rnLen_inf2 a b c d HA h0 (by omega) w
    · exact rnLen_inf1 a b c d HA h0 w
  · rw [k1.2 h1] at HA
    have hk := h1.2.2.2.2
    unfold key at hk
    by_cases hi : I64 (d - b)
    · have HS := Lib.hid (fun W => isub_fits d b W hd hb hi)
      have HT := Lib.hid (fun W => add_any (d - b) 1 _ n e W hi (by decide) rfl hf)
      exact rnLen_fit a b c d _ n e HA h2 h3 HS HT w
    · have HS := Lib.hid (fun W => isub_over d b W hd hb hi)
      rcases hf with ⟨hi2, _, _⟩ | ⟨_, rfl, rfl⟩
      · unfold I64 at hi hi2 hb hd; omega
      · exact rnLen_over a b c d HA h2 h3 HS w
set_option maxHeartbeats 4000000 in
set_option maxRecDepth 100000 in
theorem rnTch_no (a b c d e f g h : Int) (HR : Hid (∀ W, Calls Tryd.prog 40 #[.agg #[.int .i8 a, .int .i64 b, .int .i8 c, .int .i64 d], .agg #[.int .i8 e, .int .i64 f, .int .i8 g, .int .i64 h]] W fun r w' => r = .returned (.bool false) ∧ Dn W w')) (w : World) :
    Calls Tryd.prog 12 #[.agg #[.int .i8 a, .int .i64 b, .int .i8 c, .int .i64 d], .agg #[.int .i8 e, .int .i64 f, .int .i8 g, .int .i64 h]] w fun ro w' => ro = .returned (.bool false) ∧ Dn w w' := by
  go_enter Tryd.func12, Tryd.ntmps12
  go_wp2_with fail
  obtain ⟨W1, hW1⟩ : ∃ W1, W1 = (w.alloc (.cells #[.int .i8 a, .int .i64 b, .int .i8 c, .int .i64 d] 29)).alloc (.cells #[.int .i8 e, .int .i64 f, .int .i8 g, .int .i64 h] 29) := ⟨_, rfl⟩
  have uW1 : Dn w W1 := by rw [hW1]; exact ((Dn.refl _).alloc _).alloc _
  have c2 : W1.cell? ⟨w.heap.size, 0, none⟩ = some (.int .i8 a) := by rw [hW1]; simp [go_sem]
  have c3 : W1.cell? ⟨w.heap.size, 1, none⟩ = some (.int .i64 b) := by rw [hW1]; simp [go_sem]
  have c4 : W1.cell? ⟨w.heap.size, 2, none⟩ = some (.int .i8 c) := by rw [hW1]; simp [go_sem]
  have c5 : W1.cell? ⟨w.heap.size, 3, none⟩ = some (.int .i64 d) := by rw [hW1]; simp [go_sem]
  have l6 : w.heap.size < W1.heap.size := by rw [hW1]; simp <;> omega
  have c7 : W1.cell? ⟨w.heap.size + 1, 0, none⟩ = some (.int .i8 e) := by rw [hW1]; simp [go_sem]
  have c8 : W1.cell? ⟨w.heap.size + 1, 1, none⟩ = some (.int .i64 f) := by rw [hW1]; simp [go_sem]
  have c9 : W1.cell? ⟨w.heap.size + 1, 2, none⟩ = some (.int .i8 g) := by rw [hW1]; simp [go_sem]
  have c10 : W1.cell? ⟨w.heap.size + 1, 3, none⟩ = some (.int .i64 h) := by rw [hW1]; simp [go_sem]
  have l11 : w.heap.size + 1 < W1.heap.size := by rw [hW1]; simp <;> omega
  rw [← hW1]
  clear hW1
  refine (HR.out _).mono ?_
  rintro e w1 ⟨rfl, qw1⟩
  have l12 := Nat.lt_of_lt_of_le l6 qw1.size
  have c13 := qw1.cell c2
  have c14 := qw1.cell c3
  have c15 := qw1.cell c4
  have c16 := qw1.cell c5
  have l17 := Nat.lt_of_lt_of_le l11 qw1.size
  have c18 := qw1.cell c7
  have c19 := qw1.cell c8
  have c20 := qw1.cell c9
  have c21 := qw1.cell c10
  clear l6 c2 c3 c4 c5 l11 c7 c8 c9 c10
  have uw1 := uW1.trans qw1
  clear qw1 uW1
  go_wp2_with fail
  go_ret
  exact ⟨rfl, uw1⟩
set_option maxHeartbeats 4000000 in
set_option maxRecDepth 100000 in
theorem rnTch_0le (a b c d e f g h m n : Int) (HR : Hid (∀ W, Calls Tryd.prog 40 #[.agg #[.int .i8 a, .int .i64 b, .int .i8 c, .int .i64 d], .agg #[.int .i8 e, .int .i64 f, .int .i8 g, .int .i64 h]] W fun r w' => r = .returned (.bool true) ∧ Dn W w')) (H1 : Hid (∀ W, Calls Tryd.prog 41 #[.agg #[.int .i8 e, .int .i64 f], .agg #[.int .i8 a, .int .i64 b]] W fun r w' => r = .returned (.int .i64 m) ∧ Up W w')) (H2 : Hid (∀ W, Calls Tryd.prog 41 #[.agg #[.int .i8 e, .int .i64 f], .agg #[.int .i8 c, .int .i64 d]] W fun r w' => r = .returned (.int .i64 n) ∧ Up W w')) (h1 : ¬ m < 0) (h2 : n ≤ 0) (w : World) :
    Calls Tryd.prog 12 #[.agg #[.int .i8 a, .int .i64 b, .int .i8 c, .int .i64 d], .agg #[.int .i8 e, .int .i64 f, .int .i8 g, .int .i64 h]] w fun ro w' => ro = .returned (.bool true) ∧ Dn w w' := by
  have t1 : decide (m < 0) = false := by simpa using h1
  have t2 : decide (n ≤ 0) = true := by simpa using h2
  clear h1 h2
  go_enter Tryd.func12, Tryd.ntmps12
  go_wp2_with fail
  obtain ⟨W1, hW1⟩ : ∃ W1, W1 = (w.alloc (.cells #[.int .i8 a, .int .i64 b, .int .i8 c, .int .i64 d] 29)).alloc (.cells #[.int .i8 e, .int .i64 f, .int .i8 g, .int .i64 h] 29) := ⟨_, rfl⟩
  have uW1 : Dn w W1 := by rw [hW1]; exact ((Dn.refl _).alloc _).alloc _
  have c2 : W1.cell? ⟨w.heap.size, 0, none⟩ = some (.int .i8 a) := by rw [hW1]; simp [go_sem]
  have c3 : W1.cell? ⟨w.heap.size, 1, none⟩ = some (.int .i64 b) := by rw [hW1]; simp [go_sem]
  have c4 : W1.cell? ⟨w.heap.size, 2, none⟩ = some (.int .i8 c) := by rw [hW1]; simp [go_sem]
  have c5 : W1.cell? ⟨w.heap.size, 3, none⟩ = some (.int .i64 d) := by rw [hW1]; simp [go_sem]
  have l6 : w.heap.size < W1.heap.size := by rw [hW1]; simp <;> omega
  have f7 : W1.frozen? ⟨w.heap.size, 0, none⟩ = false := by rw [hW1]; simp [go_sem]
  have f8 : W1.frozen? ⟨w.heap.size, 1, none⟩ = false := by rw [hW1]; simp [go_sem]
  have f9 : W1.frozen? ⟨w.heap.size, 2, none⟩ = false := by rw [hW1]; simp [go_sem]
  have f10 : W1.frozen? ⟨w.heap.size, 3, none⟩ = false := by rw [hW1]; simp [go_sem]
  have c11 : W1.cell? ⟨w.heap.size + 1, 0, none⟩ = some (.int .i8 e) := by rw [hW1]; simp [go_sem]
  have c12 : W1.cell? ⟨w.heap.size + 1, 1, none⟩ = some (.int .i64 f) := by rw [hW1]; simp [go_sem]
  have c13 : W1.cell? ⟨w.heap.size + 1, 2, none⟩ = some (.int .i8 g) := by rw [hW1]; simp [go_sem]
  have c14 : W1.cell? ⟨w.heap.size + 1, 3, none⟩ = some (.int .i64 h) := by rw [hW1]; simp [go_sem]
  have l15 : w.heap.size + 1 < W1.heap.size := by rw [hW1]; simp <;> omega
  have f16 : W1.frozen? ⟨w.heap.size + 1, 0, none⟩ = false := by rw [hW1]; simp [go_sem]
  have f17 : W1.frozen? ⟨w.heap.size + 1, 1, none⟩ = false := by rw [hW1]; simp [go_sem]
  have f18 : W1.frozen? ⟨w.heap.size + 1, 2, none⟩ = false := by rw [hW1]; simp [go_sem]
  have f19 : W1.frozen? ⟨w.heap.size + 1, 3, none⟩ = false := by rw [hW1]; simp [go_sem]
  rw [← hW1]
  clear hW1
  refine (HR.out _).mono ?_
  rintro e w1 ⟨rfl, qw1⟩
  have f20 := (qw1.frozen (a := ⟨w.heap.size, 0, none⟩) l6).trans f7
  have f21 := (qw1.frozen (a := ⟨w.heap.size, 1, none⟩) l6).trans f8
  have f22 := (qw1.frozen (a := ⟨w.heap.size, 2, none⟩) l6).trans f9
  have f23 := (qw1.frozen (a := ⟨w.heap.size, 3, none⟩) l6).trans f10
  have l24 := Nat.lt_of_lt_of_le l6 qw1.size
  have c25 := qw1.cell c2
  have c26 := qw1.cell c3
  have c27 := qw1.cell c4
  have c28 := qw1.cell c5
  have f29 := (qw1.frozen (a := ⟨w.heap.size + 1, 0, none⟩) l15).trans f16
  have f30 := (qw1.frozen (a := ⟨w.heap.size + 1, 1, none⟩) l15).trans f17
  have f31 := (qw1.frozen (a := ⟨w.heap.size + 1, 2, none⟩) l15).trans f18
  have f32 := (qw1.frozen (a := ⟨w.heap.size + 1, 3, none⟩) l15).trans f19
  have l33 := Nat.lt_of_lt_of_le l15 qw1.size
  have c34 := qw1.cell c11
  have c35 := qw1.cell c12
  have c36 := qw1.cell c13
  have c37 := qw1.cell c14
  clear f7 f8 f9 f10 l6 c2 c3 c4 c5 f16 f17 f18 f19 l15 c11 c12 c13 c14
  have uw1 := uW1.trans qw1
  clear qw1 uW1
  go_wp2_with fail
  refine (H1.out _).mono ?_
  rintro e w2 ⟨rfl, qw2⟩
  replace qw2 := qw2.dn
  have f38 := (qw2.frozen (a := ⟨w.heap.size, 0, none⟩) l24).trans f20
  have f39 := (qw2.frozen (a := ⟨w.heap.size, 1, none⟩) l24).trans f21
  have f40 := (qw2.frozen (a := ⟨w.heap.size, 2, none⟩) l24).trans f22
  have f41 := (qw2.frozen (a := ⟨w.heap.size, 3, none⟩) l24).trans f23
  have l42 := Nat.lt_of_lt_of_le l24 qw2.size
  have c43 := qw2.cell c25
  have c44 := qw2.cell c26
  have c45 := qw2.cell c27
  have c46 := qw2.cell c28
  have f47 := (qw2.frozen (a := ⟨w.heap.size + 1, 0, none⟩) l33).trans f29
  have f48 := (qw2.frozen (a := ⟨w.heap.size + 1, 1, none⟩) l33).trans f30
  have f49 := (qw2.frozen (a := ⟨w.heap.size + 1, 2, none⟩) l33).trans f31
  have f50 := (qw2.frozen (a := ⟨w.heap.size + 1, 3, none⟩) l33).trans f32
  have l51 := Nat.lt_of_lt_of_le l33 qw2.size
  have c52 := qw2.cell c34
  have c53 := qw2.cell c35
  have c54 := qw2.cell c36
  have c55 := qw2.cell c37
  clear f20 f21 f22 f23 l24 c25 c26 c27 c28 f29 f30 f31 f32 l33 c34 c35 c36 c37
  have uw2 := uw1.trans qw2
  clear qw2 uw1
  go_wp2_with fail
  refine (H2.out _).mono ?_
  rintro e w3 ⟨rfl, qw3⟩
  replace qw3 := qw3.dn
  have f56 := (qw3.frozen (a := ⟨w.heap.size, 0, none⟩) l42).trans f38
  have f57 := (qw3.frozen (a := ⟨w.heap.size, 1, none⟩) l42).trans f39
  have f58 := (qw3.frozen (a := ⟨w.heap.size, 2, none⟩) l42).trans f40
  have f59 := (qw3.frozen (a := ⟨w.heap.size, 3, none⟩) l42).trans f41
  have l60 := Nat.lt_of_lt_of_le l42 qw3.size
  have c61 := qw3.cell c43
  have c62 := qw3.cell c44
  have c63 := qw3.cell c45
  have c64 := qw3.cell c46
  have f65 := (qw3.frozen (a := ⟨w.heap.size + 1, 0, none⟩) l51).trans f47
  have f66 := (qw3.frozen (a := ⟨w.heap.size + 1, 1, none⟩) l51).trans f48
  have f67 := (qw3.frozen (a := ⟨w.heap.size + 1, 2, none⟩) l51).trans f49
  have f68 := (qw3.frozen (a := ⟨w.heap.size + 1, 3, none⟩) l51).trans f50
  have l69 := Nat.lt_of_lt_of_le l51 qw3.size
  have c70 := qw3.cell c52
  have c71 := qw3.cell c53
  have c72 := qw3.cell c54
  have c73 := qw3.cell c55
  clear f38 f39 f40 f41 l42 c43 c44 c45 c46 f47 f48 f49 f50 l51 c52 c53 c54 c55
  have uw3 := uw2.trans qw3
  clear qw3 uw2
  go_wp2_with fail
  go_ret
  exact ⟨rfl, uw3⟩
set_option maxHeartbeats 4000000 in
set_option maxRecDepth 100000 in
theorem rnTch_0eq (a b c d e f g h m n : Int) (HR : Hid (∀ W, Calls Tryd.prog 40 #[.agg #[.int .i8 a, .int .i64 b, .int .i8 c, .int .i64 d], .agg #[.int .i8 e, .int .i64 f, .int .i8 g, .int .i64 h]] W fun r w' => r = .returned (.bool true) ∧ Dn W w')) (H1 : Hid (∀ W, Calls Tryd.prog 41 #[.agg #[.int .i8 e, .int .i64 f], .agg #[.int .i8 a, .int .i64 b]] W fun r w' => r = .returned (.int .i64 m) ∧ Up W w')) (H2 : Hid (∀ W, Calls Tryd.prog 41 #[.agg #[.int .i8 e, .int .i64 f], .agg #[.int .i8 c, .int .i64 d]] W fun r w' => r = .returned (.int .i64 n) ∧ Up W w')) (h1 : ¬ m < 0) (h2 : ¬ n ≤ 0) (HN : Hid (∀ W, Calls Tryd.prog 42 #[.agg #[.int .i8 c, .int .i64 d]] W fun r w' => r = .returned (.tuple #[.agg #[.int .i8 0, .int .i64 (d + 1)], .int .i64 0]) ∧ Up W w')) (h3 : e = 0) (h4 : d + 1 = f) (w : World) :
    Calls Tryd.prog 12 #[.agg #[.int .i8 a, .int .i64 b, .int .i8 c, .int .i64 d], .agg #[.int .i8 e, .int .i64 f, .int .i8 g, .int .i64 h]] w fun ro w' => ro = .returned (.bool true) ∧ Dn w w' := by
  have t1 : decide (m < 0) = false := by simpa using h1
  have t2 : decide (n ≤ 0) = false := by simpa using h2
  clear h1 h2
  have t3 : ((0 : Int) == e) = true := by simp [h3]
  have t4 : (d + 1 == f) = true := by simpa using h4
  clear h3 h4
  go_enter Tryd.func12, Tryd.ntmps12
  go_wp2_with fail
  obtain ⟨W1, hW1⟩ : ∃ W1, W1 = (w.alloc (.cells #[.int .i8 a, .int .i64 b, .int .i8 c, .int .i64 d] 29)).alloc (.cells #[.int .i8 e, .int .i64 f, .int .i8 g, .int .i64 h] 29) := ⟨_, rfl⟩
  have uW1 : Dn w W1 := by rw [hW1]; exact ((Dn.refl _).alloc _).alloc _
  have c2 : W1.cell? ⟨w.heap.size, 0, none⟩ = some (.int .i8 a) := by rw [hW1]; simp [go_sem]
  have c3 : W1.cell? ⟨w.heap.size, 1, none⟩ = some (.int .i64 b) := by rw [hW1]; simp [go_sem]
  have c4 : W1.cell? ⟨w.heap.size, 2, none⟩ = some (.int .i8 c) := by rw [hW1]; simp [go_sem]
  have c5 : W1.cell? ⟨w.heap.size, 3, none⟩ = some (.int .i64 d) := by rw [hW1]; simp [go_sem]
  have l6 : w.heap.size < W1.heap.size := by rw [hW1]; simp <;> omega
  have f7 : W1.frozen? ⟨w.heap.size, 0, none⟩ = false := by rw [hW1]; simp [go_sem]
  have f8 : W1.frozen? ⟨w.heap.size, 1, none⟩ = false := by rw [hW1]; simp [go_sem]
  have f9 : W1.frozen? ⟨w.heap.size, 2, none⟩ = false := by rw [hW1]; simp [go_sem]
  have f10 : W1.frozen? ⟨w.heap.size, 3, none⟩ = false := by rw [hW1]; simp [go_sem]
  have c11 : W1.cell? ⟨w.heap.size + 1, 0, none⟩ = some (.int .i8 e) := by rw [hW1]; simp [go_sem]
  have c12 : W1.cell? ⟨w.heap.size + 1, 1, none⟩ = some (.int .i64 f) := by rw [hW1]; simp [go_sem]
  have c13 : W1.cell? ⟨w.heap.size + 1, 2, none⟩ = some (.int .i8 g) := by rw [hW1]; simp [go_sem]
  have c14 : W1.cell? ⟨w.heap.size + 1, 3, none⟩ = some (.int .i64 h) := by rw [hW1]; simp [go_sem]
  have l15 : w.heap.size + 1 < W1.heap.size := by rw [hW1]; simp <;> omega
  have f16 : W1.frozen? ⟨w.heap.size + 1, 0, none⟩ = false := by rw [hW1]; simp [go_sem]
  have f17 : W1.frozen? ⟨w.heap.size + 1, 1, none⟩ = false := by rw [hW1]; simp [go_sem]
  have f18 : W1.frozen? ⟨w.heap.size + 1, 2, none⟩ = false := by rw [hW1]; simp [go_sem]
  have f19 : W1.frozen? ⟨w.heap.size + 1, 3, none⟩ = false := by rw [hW1]; simp [go_sem]
  rw [← hW1]
  clear hW1
  refine (HR.out _).mono ?_
  rintro e w1 ⟨rfl, qw1⟩
  have f20 := (qw1.frozen (a := ⟨w.heap.size, 0, none⟩) l6).trans f7
  have f21 := (qw1.frozen (a := ⟨w.heap.size, 1, none⟩) l6).trans f8
  have f22 := (qw1.frozen (a := ⟨w.heap.size, 2, none⟩) l6).trans f9
  have f23 := (qw1.frozen (a := ⟨w.heap.size, 3, none⟩) l6).trans f10
  have l24 := Nat.lt_of_lt_of_le l6 qw1.size
  have c25 := qw1.cell c2
  have c26 := qw1.cell c3
  have c27 := qw1.cell c4
  have c28 := qw1.cell c5
  have f29 := (qw1.frozen (a := ⟨w.heap.size + 1, 0, none⟩) l15).trans f16
  have f30 := (qw1.frozen (a := ⟨w.heap.size + 1, 1, none⟩) l15).trans f17
  have f31 := (qw1.frozen (a := ⟨w.heap.size + 1, 2, none⟩) l15).trans f18
  have f32 := (qw1.frozen (a := ⟨w.heap.size + 1, 3, none⟩) l15).trans f19
  have l33 := Nat.lt_of_lt_of_le l15 qw1.size
  have c34 := qw1.cell c11
  have c35 := qw1.cell c12
  have c36 := qw1.cell c13
  have c37 := qw1.cell c14
  clear f7 f8 f9 f10 l6 c2 c3 c4 c5 f16 f17 f18 f19 l15 c11 c12 c13 c14
  have uw1 := uW1.trans qw1
  clear qw1 uW1
  go_wp2_with fail
  refine (H1.out _).mono ?_
  rintro e w2 ⟨rfl, qw2⟩
  replace qw2 := qw2.dn
  have f38 := (qw2.frozen (a := ⟨w.heap.size, 0, none⟩) l24).trans f20
  have f39 := (qw2.frozen (a := ⟨w.heap.size, 1, none⟩) l24).trans f21
  have f40 := (qw2.frozen (a := ⟨w.heap.size, 2, none⟩) l24).trans f22
  have f41 := (qw2.frozen (a := ⟨w.heap.size, 3, none⟩) l24).trans f23
  have l42 := Nat.lt_of_lt_of_le l24 qw2.size
  have c43 := qw2.cell c25
  have c44 := qw2.cell c26
  have c45 := qw2.cell c27
  have c46 := qw2.cell c28
  have f47 := (qw2.frozen (a := ⟨w.heap.size + 1, 0, none⟩) l33).trans f29
  have f48 := (qw2.frozen (a := ⟨w.heap.size + 1, 1, none⟩) l33).trans f30
  have f49 := (qw2.frozen (a := ⟨w.heap.size + 1, 2, none⟩) l33).trans f31
  have f50 := (qw2.frozen (a := ⟨w.heap.size + 1, 3, none⟩) l33).trans f32
  have l51 := Nat.lt_of_lt_of_le l33 qw2.size
  have c52 := qw2.cell c34
  have c53 := qw2.cell c35
  have c54 := qw2.cell c36
  have c55 := qw2.cell c37
  clear f20 f21 f22 f23 l24 c25 c26 c27 c28 f29 f30 f31 f32 l33 c34 c35 c36 c37
  have uw2 := uw1.trans qw2
  clear qw2 uw1
  go_wp2_with fail
  refine (H2.out _).mono ?_
  rintro e w3 ⟨rfl, qw3⟩
  replace qw3 := qw3.dn
  have f56 := (qw3.frozen (a := ⟨w.heap.size, 0, none⟩) l42).trans f38
  have f57 := (qw3.frozen (a := ⟨w.heap.size, 1, none⟩) l42).trans f39
  have f58 := (qw3.frozen (a := ⟨w.heap.size, 2, none⟩) l42).trans f40
  have f59 := (qw3.frozen (a := ⟨w.heap.size, 3, none⟩) l42).trans f41
  have l60 := Nat.lt_of_lt_of_le l42 qw3.size
  have c61 := qw3.cell c43
  have c62 := qw3.cell c44
  have c63 := qw3.cell c45
  have c64 := qw3.cell c46
  have f65 := (qw3.frozen (a := ⟨w.heap.size + 1, 0, none⟩) l51).trans f47
  have f66 := (qw3.frozen (a := ⟨w.heap.size + 1, 1, none⟩) l51).trans f48
  have f67 := (qw3.frozen (a := ⟨w.heap.size + 1, 2, none⟩) l51).trans f49
  have f68 := (qw3.frozen (a := ⟨w.heap.size + 1, 3, none⟩) l51).trans f50
  have l69 := Nat.lt_of_lt_of_le l51 qw3.size
  have c70 := qw3.cell c52
  have c71 := qw3.cell c53
  have c72 := qw3.cell c54
  have c73 := qw3.cell c55
  clear f38 f39 f40 f41 l42 c43 c44 c45 c46 f47 f48 f49 f50 l51 c52 c53 c54 c55
  have uw3 := uw2.trans qw3
  clear qw3 uw2
  go_wp2_with fail
  refine (HN.out _).mono ?_
  rintro e w4 ⟨rfl, qw4⟩
  replace qw4 := qw4.dn
  have f74 := (qw4.frozen (a := ⟨w.heap.size, 0, none⟩) l60).trans f56
  have f75 := (qw4.frozen (a := ⟨w.heap.size, 1, none⟩) l60).trans f57
  have f76 := (qw4.frozen (a := ⟨w.heap.size, 2, none⟩) l60).trans f58
  have f77 := (qw4.frozen (a := ⟨w.heap.size, 3, none⟩) l60).trans f59
  have l78 := Nat.lt_of_lt_of_le l60 qw4.size
  have c79 := qw4.cell c61
  have c80 := qw4.cell c62
  have c81 := qw4.cell c63
  have c82 := qw4.cell c64
  have f83 := (qw4.frozen (a := ⟨w.heap.size + 1, 0, none⟩) l69).trans f65
  have f84 := (qw4.frozen (a := ⟨w.heap.size + 1, 1, none⟩) l69).trans f66
  have f85 := (qw4.frozen (a := ⟨w.heap.size + 1, 2, none⟩) l69).trans f67
  have f86 := (qw4.frozen (a := ⟨w.heap.size + 1, 3, none⟩) l69).trans f68
  have l87 := Nat.lt_of_lt_of_le l69 qw4.size
  have c88 := qw4.cell c70
  have c89 := qw4.cell c71
  have c90 := qw4.cell c72
  have c91 := qw4.cell c73
  clear f56 f57 f58 f59 l60 c61 c62 c63 c64 f65 f66 f67 f68 l69 c70 c71 c72 c73
  have uw4 := uw3.trans qw4
  clear qw4 uw3
  go_wp2_with fail
  obtain ⟨W92, hW92⟩ : ∃ W92, W92 = w4.alloc (.cells #[.int .i8 0, .int .i64 (d + 1)] 27) := ⟨_, rfl⟩
  have uW92 : Dn w4 W92 := by rw [hW92]; exact (Dn.refl _).alloc _
  have f93 := (uW92.frozen (a := ⟨w.heap.size, 0, none⟩) l78).trans f74
  have f94 := (uW92.frozen (a := ⟨w.heap.size, 1, none⟩) l78).trans f75
  have f95 := (uW92.frozen (a := ⟨w.heap.size, 2, none⟩) l78).trans f76
  have f96 := (uW92.frozen (a := ⟨w.heap.size, 3, none⟩) l78).trans f77
  have l97 := Nat.lt_of_lt_of_le l78 uW92.size
  have c98 := uW92.cell c79
  have c99 := uW92.cell c80
  have c100 := uW92.cell c81
  have c101 := uW92.cell c82
  have f102 := (uW92.frozen (a := ⟨w.heap.size + 1, 0, none⟩) l87).trans f83
  have f103 := (uW92.frozen (a := ⟨w.heap.size + 1, 1, none⟩) l87).trans f84
  have f104 := (uW92.frozen (a := ⟨w.heap.size + 1, 2, none⟩) l87).trans f85
  have f105 := (uW92.frozen (a := ⟨w.heap.size + 1, 3, none⟩) l87).trans f86
  have l106 := Nat.lt_of_lt_of_le l87 uW92.size
  have c107 := uW92.cell c88
  have c108 := uW92.cell c89
  have c109 := uW92.cell c90
  have c110 := uW92.cell c91
  clear f74 f75 f76 f77 l78 c79 c80 c81 c82 f83 f84 f85 f86 l87 c88 c89 c90 c91
  have c111 : W92.cell? ⟨w4.heap.size, 0, none⟩ = some (.int .i8 0) := by rw [hW92]; simp [go_sem]
  have c112 : W92.cell? ⟨w4.heap.size, 1, none⟩ = some (.int .i64 (d + 1)) := by rw [hW92]; simp [go_sem]
  have l113 : w4.heap.size < W92.heap.size := by rw [hW92]; simp <;> omega
  rw [← hW92]
  clear hW92
  have vW92 := uw4.trans uW92
  clear uW92 uw4
  go_wp2_with fail
  go_ret
  exact ⟨rfl, vW92⟩
set_option maxHeartbeats 4000000 in
set_option maxRecDepth 100000 in
theorem rnTch_0ni (a b c d e f g h m n : Int) (HR : Hid (∀ W, Calls Tryd.prog 40 #[.agg #[.int .i8 a, .int .i64 b, .int .i8 c, .int .i64 d], .agg #[.int .i8 e, .int .i64 f, .int .i8 g, .int .i64 h]] W fun r w' => r = .returned (.bool true) ∧ Dn W w')) (H1 : Hid (∀ W, Calls Tryd.prog 41 #[.agg #[.int .i8 e, .int .i64 f], .agg #[.int .i8 a, .int .i64 b]] W fun r w' => r = .returned (.int .i64 m) ∧ Up W w')) (H2 : Hid (∀ W, Calls Tryd.prog 41 #[.agg #[.int .i8 e, .int .i64 f], .agg #[.int .i8 c, .int .i64 d]] W fun r w' => r = .returned (.int .i64 n) ∧ Up W w')) (h1 : ¬ m < 0) (h2 : ¬ n ≤ 0) (HN : Hid (∀ W, Calls Tryd.prog 42 #[.agg #[.int .i8 c, .int .i64 d]] W fun r w' => r = .returned (.tuple #[.agg #[.int .i8 0, .int .i64 (d + 1)], .int .i64 0]) ∧ Up W w')) (h3 : e ≠ 0) (w : World) :
    Calls Tryd.prog 12 #[.agg #[.int .i8 a, .int .i64 b, .int .i8 c, .int .i64 d], .agg #[.int .i8 e, .int .i64 f, .int .i8 g, .int .i64 h]] w fun ro w' => ro = .returned (.bool false) ∧ Dn w w' := by
  have t1 : decide (m < 0) = false := by simpa using h1
  have t2 : decide (n ≤ 0) = false := by simpa using h2
  clear h1 h2
  have t3 : ((0 : Int) == e) = false := by simp; omega
  clear h3
  go_enter Tryd.func12, Tryd.ntmps12
  go_wp2_with fail
  obtain ⟨W1, hW1⟩ : ∃ W1, W1 = (w.alloc (.cells #[.int .i8 a, .int .i64 b, .int .i8 c, .int .i64 d] 29)).alloc (.cells #[.int .i8 e, .int .i64 f, .int .i8 g, .int .i64 h] 29) := ⟨_, rfl⟩
  have uW1 : Dn w W1 := by rw [hW1]; exact ((Dn.refl _).alloc _).alloc _
  have c2 : W1.cell? ⟨w.heap.size, 0, none⟩ = some (.int .i8 a) := by rw [hW1]; simp [go_sem]
  have c3 : W1.cell? ⟨w.heap.size, 1, none⟩ = some (.int .i64 b) := by rw [hW1]; simp [go_sem]
  have c4 : W1.cell? ⟨w.heap.size, 2, none⟩ = some (.int .i8 c) := by rw [hW1]; simp [go_sem]
  have c5 : W1.cell? ⟨w.heap.size, 3, none⟩ = some (.int .i64 d) := by rw [hW1]; simp [go_sem]
  have l6 : w.heap.size < W1.heap.size := by rw [hW1]; simp <;> omega
  have f7 : W1.frozen? ⟨w.heap.size, 0, none⟩ = false := by rw [hW1]; simp [go_sem]
  have f8 : W1.frozen? ⟨w.heap.size, 1, none⟩ = false := by rw [hW1]; simp [go_sem]
  have f9 : W1.frozen? ⟨w.heap.size, 2, none⟩ = false := by rw [hW1]; simp [go_sem]
  have f10 : W1.frozen? ⟨w.heap.size, 3, none⟩ = false := by rw [hW1]; simp [go_sem]
  have c11 : W1.cell? ⟨w.heap.size + 1, 0, none⟩ = some (.int .i8 e) := by rw [hW1]; simp [go_sem]
  have c12 : W1.cell? ⟨w.heap.size + 1, 1, none⟩ = some (.int .i64 f) := by rw [hW1]; simp [go_sem]
  have c13 : W1.cell? ⟨w.heap.size + 1, 2, none⟩ = some (.int .i8 g) := by rw [hW1]; simp [go_sem]
  have c14 : W1.cell? ⟨w.heap.size + 1, 3, none⟩ = some (.int .i64 h) := by rw [hW1]; simp [go_sem]
  have l15 : w.heap.size + 1 < W1.heap.size := by rw [hW1]; simp <;> omega
  have f16 : W1.frozen? ⟨w.heap.size + 1, 0, none⟩ = false := by rw [hW1]; simp [go_sem]
  have f17 : W1.frozen? ⟨w.heap.size + 1, 1, none⟩ = false := by rw [hW1]; simp [go_sem]
  have f18 : W1.frozen? ⟨w.heap.size + 1, 2, none⟩ = false := by rw [hW1]; simp [go_sem]
  have f19 : W1.frozen? ⟨w.heap.size + 1, 3, none⟩ = false := by rw [hW1]; simp [go_sem]
  rw [← hW1]
  clear hW1
  refine (HR.out _).mono ?_
  rintro e w1 ⟨rfl, qw1⟩
  have f20 := (qw1.frozen (a := ⟨w.heap.size, 0, none⟩) l6).trans f7
  have f21 := (qw1.frozen (a := ⟨w.heap.size, 1, none⟩) l6).trans f8
  have f22 := (qw1.frozen (a := ⟨w.heap.size, 2, none⟩) l6).trans f9
  have f23 := (qw1.frozen (a := ⟨w.heap.size, 3, none⟩) l6).trans f10
  have l24 := Nat.lt_of_lt_of_le l6 qw1.size
  have c25 := qw1.cell c2
  have c26 := qw1.cell c3
  have c27 := qw1.cell c4
  have c28 := qw1.cell c5
  have f29 := (qw1.frozen (a := ⟨w.heap.size + 1, 0, none⟩) l15).trans f16
  have f30 := (qw1.frozen (a := ⟨w.heap.size + 1, 1, none⟩) l15).trans f17
  have f31 := (qw1.frozen (a := ⟨w.heap.size + 1, 2, none⟩) l15).trans f18
  have f32 := (qw1.frozen (a := ⟨w.heap.size + 1, 3, none⟩) l15).trans f19
  have l33 := Nat.lt_of_lt_of_le l15 qw1.size
  have c34 := qw1.cell c11
  have c35 := qw1.cell c12
  have c36 := qw1.cell c13
  have c37 := qw1.cell c14
  clear f7 f8 f9 f10 l6 c2 c3 c4 c5 f16 f17 f18 f19 l15 c11 c12 c13 c14
  have uw1 := uW1.trans qw1
  clear qw1 uW1
  go_wp2_with fail
  refine (H1.out _).mono ?_
  rintro e w2 ⟨rfl, qw2⟩
  replace qw2 := qw2.dn
  have f38 := (qw2.frozen (a := ⟨w.heap.size, 0, none⟩) l24).trans f20
  have f39 := (qw2.frozen (a := ⟨w.heap.size, 1, none⟩) l24).trans f21
  have f40 := (qw2.frozen (a := ⟨w.heap.size, 2, none⟩) l24).trans f22
  have f41 := (qw2.frozen (a := ⟨w.heap.size, 3, none⟩) l24).trans f23
  have l42 := Nat.lt_of_lt_of_le l24 qw2.size
  have c43 := qw2.cell c25
  have c44 := qw2.cell c26
  have c45 := qw2.cell c27
  have c46 := qw2.cell c28
  have f47 := (qw2.frozen (a := ⟨w.heap.size + 1, 0, none⟩) l33).trans f29
  have f48 := (qw2.frozen (a := ⟨w.heap.size + 1, 1, none⟩) l33).trans f30
  have f49 := (qw2.frozen (a := ⟨w.heap.size + 1, 2, none⟩) l33).trans f31
  have f50 := (qw2.frozen (a := ⟨w.heap.size + 1, 3, none⟩) l33).trans f32
  have l51 := Nat.lt_of_lt_of_le l33 qw2.size
  have c52 := qw2.cell c34
  have c53 := qw2.cell c35
  have c54 := qw2.cell c36
  have c55 := qw2.cell c37
  clear f20 f21 f22 f23 l24 c25 c26 c27 c28 f29 f30 f31 f32 l33 c34 c35 c36 c37
  have uw2 := uw1.trans qw2
  clear qw2 uw1
  go_wp2_with fail
  refine (H2.out _).mono ?_
  rintro e w3 ⟨rfl, qw3⟩
  replace qw3 := qw3.dn
  have f56 := (qw3.frozen (a := ⟨w.heap.size, 0, none⟩) l42).trans f38
  have f57 := (qw3.frozen (a := ⟨w.heap.size, 1, none⟩) l42).trans f39
  have f58 := (qw3.frozen (a := ⟨w.heap.size, 2, none⟩) l42).trans f40
  have f59 := (qw3.frozen (a := ⟨w.heap.size, 3, none⟩) l42).trans f41
  have l60 := Nat.lt_of_lt_of_le l42 qw3.size
  have c61 := qw3.cell c43
  have c62 := qw3.cell c44
  have c63 := qw3.cell c45
  have c64 := qw3.cell c46
  have f65 := (qw3.frozen (a := ⟨w.heap.size + 1, 0, none⟩) l51).trans f47
  have f66 := (qw3.frozen (a := ⟨w.heap.size + 1, 1, none⟩) l51).trans f48
  have f67 := (qw3.frozen (a := ⟨w.heap.size + 1, 2, none⟩) l51).trans f49
  have f68 := (qw3.frozen (a := ⟨w.heap.size + 1, 3, none⟩) l51).trans f50
  have l69 := Nat.lt_of_lt_of_le l51 qw3.size
  have c70 := qw3.cell c52
  have c71 := qw3.cell c53
  have c72 := qw3.cell c54
  have c73 := qw3.cell c55
  clear f38 f39 f40 f41 l42 c43 c44 c45 c46 f47 f48 f49 f50 l51 c52 c53 c54 c55
  have uw3 := uw2.trans qw3
  clear qw3 uw2
  go_wp2_with fail
  refine (HN.out _).mono ?_
  rintro e w4 ⟨rfl, qw4⟩
  replace qw4 := qw4.dn
  have f74 := (qw4.frozen (a := ⟨w.heap.size, 0, none⟩) l60).trans f56
  have f75 := (qw4.frozen (a := ⟨w.heap.size, 1, none⟩) l60).trans f57
  have f76 := (qw4.frozen (a := ⟨w.heap.size, 2, none⟩) l60).trans f58
  have f77 := (qw4.frozen (a := ⟨w.heap.size, 3, none⟩) l60).trans f59
  have l78 := Nat.lt_of_lt_of_le l60 qw4.size
  have c79 := qw4.cell c61
  have c80 := qw4.cell c62
  have c81 := qw4.cell c63
  have c82 := qw4.cell c64
  have f83 := (qw4.frozen (a := ⟨w.heap.size + 1, 0, none⟩) l69).trans f65
  have f84 := (qw4.frozen (a := ⟨w.heap.size + 1, 1, none⟩) l69).trans f66
  have f85 := (qw4.frozen (a := ⟨w.heap.size + 1, 2, none⟩) l69).trans f67
  have f86 := (qw4.frozen (a := ⟨w.heap.size + 1, 3, none⟩) l69).trans f68
  have l87 := Nat.lt_of_lt_of_le l69 qw4.size
  have c88 := qw4.cell c70
  have c89 := qw4.cell c71
  have c90 := qw4.cell c72
  have c91 := qw4.cell c73
  clear f56 f57 f58 f59 l60 c61 c62 c63 c64 f65 f66 f67 f68 l69 c70 c71 c72 c73
  have uw4 := uw3.trans qw4
  clear qw4 uw3
  go_wp2_with fail
  obtain ⟨W92, hW92⟩ : ∃ W92, W92 = w4.alloc (.cells #[.int .i8 0, .int .i64 (d + 1)] 27) := ⟨_, rfl⟩
  have uW92 : Dn w4 W92 := by rw [hW92]; exact (Dn.refl _).alloc _
  have f93 := (uW92.frozen (a := ⟨w.heap.size, 0, none⟩) l78).trans f74
  have f94 := (uW92.frozen (a := ⟨w.heap.size, 1, none⟩) l78).trans f75
  have f95 := (uW92.frozen (a := ⟨w.heap.size, 2, none⟩) l78).trans f76
  have f96 := (uW92.frozen (a := ⟨w.heap.size, 3, none⟩) l78).trans f77
  have l97 := Nat.lt_of_lt_of_le l78 uW92.size
  have c98 := uW92.cell c79
  have c99 := uW92.cell c80
  have c100 := uW92.cell c81
  have c101 := uW92.cell c82
  have f102 := (uW92.frozen (a := ⟨w.heap.size + 1, 0, none⟩) l87).trans f83
  have f103 := (uW92.frozen (a := ⟨w.heap.size + 1, 1, none⟩) l87).trans f84
  have f104 := (uW92.frozen (a := ⟨w.heap.size + 1, 2, none⟩) l87).trans f85
  have f105 := (uW92.frozen (a := ⟨w.heap.size + 1, 3, none⟩) l87).trans f86
  have l106 := Nat.lt_of_lt_of_le l87 uW92.size
  have c107 := uW92.cell c88
  have c108 := uW92.cell c89
  have c109 := uW92.cell c90
  have c110 := uW92.cell c91
  clear f74 f75 f76 f77 l78 c79 c80 c81 c82 f83 f84 f85 f86 l87 c88 c89 c90 c91
  have c111 : W92.cell? ⟨w4.heap.size, 0, none⟩ = some (.int .i8 0) := by rw [hW92]; simp [go_sem]
  have c112 : W92.cell? ⟨w4.heap.size, 1, none⟩ = some (.int .i64 (d + 1)) := by rw [hW92]; simp [go_sem]
  have l113 : w4.heap.size < W92.heap.size := by rw [hW92]; simp <;> omega
  rw [← hW92]
  clear hW92
  have vW92 := uw4.trans uW92
  clear uW92 uw4
  go_wp2_with fail
  go_ret
  exact ⟨rfl, vW92⟩
set_option maxHeartbeats 4000000 in
set_option maxRecDepth 100000 in
theorem rnTch_0nd (a b c d e f g h m n : Int) (HR : Hid (∀ W, Calls Tryd.prog 40 #[.agg #[.int .i8 a, .int .i64 b, .int .i8 c, .int .i64 d], .agg #[.int .i8 e, .int .i64 f, .int .i8 g, .int .i64 h]] W fun r w' => r = .returned (.bool true) ∧ Dn W w')) (H1 : Hid (∀ W, Calls Tryd.prog 41 #[.agg #[.int .i8 e, .int .i64 f], .agg #[.int .i8 a, .int .i64 b]] W fun r w' => r = .returned (.int .i64 m) ∧ Up W w')) (H2 : Hid (∀ W, Calls Tryd.prog 41 #[.agg #[.int .i8 e, .int .i64 f], .agg #[.int .i8 c, .int .i64 d]] W fun r w' => r = .returned (.int .i64 n) ∧ Up W w')) (h1 : ¬ m < 0) (h2 : ¬ n ≤ 0) (HN : Hid (∀ W, Calls Tryd.prog 42 #[.agg #[.int .i8 c, .int .i64 d]] W fun r w' => r = .returned (.tuple #[.agg #[.int .i8 0, .int .i64 (d + 1)], .int .i64 0]) ∧ Up W w')) (h3 : d + 1 ≠ f) (w : World) :
    Calls Tryd.prog 12 #[.agg #[.int .i8 a, .int .i64 b, .int .i8 c, .int .i64 d], .agg #[.int .i8 e, .int .i64 f, .int .i8 g, .int .i64 h]] w fun ro w' => ro = .returned (.bool false) ∧ Dn w w' := by
  have t1 : decide (m < 0) = false := by simpa using h1
  have t2 : decide (n ≤ 0) = false := by simpa using h2
  clear h1 h2
  have t3 : (d + 1 == f) = false := by simpa using h3
  clear h3
  go_enter Tryd.func12, Tryd.ntmps12
  go_wp2_with fail
  obtain ⟨W1, hW1⟩ : ∃ W1, W1 = (w.alloc (.cells #[.int .i8 a, .int .i64 b, .int .i8 c, .int .i64 d] 29)).alloc (.cells #[.int .i8 e, .int .i64 f, .int .i8 g, .int .i64 h] 29) := ⟨_, rfl⟩
  have uW1 : Dn w W1 := by rw [hW1]; exact ((Dn.refl _).alloc _).alloc _
  have c2 : W1.cell? ⟨w.heap.size, 0, none⟩ = some (.int .i8 a) := by rw [hW1]; simp [go_sem]
  have c3 : W1.cell? ⟨w.heap.size, 1, none⟩ = some (.int .i64 b) := by rw [hW1]; simp [go_sem]
  have c4 : W1.cell? ⟨w.heap.size, 2, none⟩ = some (.int .i8 c) := by rw [hW1]; simp [go_sem]
  have c5 : W1.cell? ⟨w.heap.size, 3, none⟩ = some (.int .i64 d) := by rw [hW1]; simp [go_sem]
  have l6 : w.heap.size < W1.heap.size := by rw [hW1]; simp <;> omega
  have f7 : W1.frozen? ⟨w.heap.size, 0, none⟩ = false := by rw [hW1]; simp [go_sem]
  have f8 : W1.frozen? ⟨w.heap.size, 1, none⟩ = false := by rw [hW1]; simp [go_sem]
  have f9 : W1.frozen? ⟨w.heap.size, 2, none⟩ = false := by rw [hW1]; simp [go_sem]
  have f10 : W1.frozen? ⟨w.heap.size, 3, none⟩ = false := by rw [hW1]; simp [go_sem]
  have c11 : W1.cell? ⟨w.heap.size + 1, 0, none⟩ = some (.int .i8 e) := by rw [hW1]; simp [go_sem]
  have c12 : W1.cell? ⟨w.heap.size + 1, 1, none⟩ = some (.int .i64 f) := by rw [hW1]; simp [go_sem]
  have c13 : W1.cell? ⟨w.heap.size + 1, 2, none⟩ = some (.int .i8 g) := by rw [hW1]; simp [go_sem]
  have c14 : W1.cell? ⟨w.heap.size + 1, 3, none⟩ = some (.int .i64 h) := by rw [hW1]; simp [go_sem]
  have l15 : w.heap.size + 1 < W1.heap.size := by rw [hW1]; simp <;> omega
  have f16 : W1.frozen? ⟨w.heap.size + 1, 0, none⟩ = false := by rw [hW1]; simp [go_sem]
  have f17 : W1.frozen? ⟨w.heap.size + 1, 1, none⟩ = false := by rw [hW1]; simp [go_sem]
  have f18 : W1.frozen? ⟨w.heap.size + 1, 2, none⟩ = false := by rw [hW1]; simp [go_sem]
  have f19 : W1.frozen? ⟨w.heap.size + 1, 3, none⟩ = false := by rw [hW1]; simp [go_sem]
  rw [← hW1]
  clear hW1
  refine (HR.out _).mono ?_
  rintro e w1 ⟨rfl, qw1⟩
  have f20 := (qw1.frozen (a := ⟨w.heap.size, 0, none⟩) l6).trans f7
  have f21 := (qw1.frozen (a := ⟨w.heap.size, 1, none⟩) l6).trans f8
  have f22 := (qw1.frozen (a := ⟨w.heap.size, 2, none⟩) l6).trans f9
  have f23 := (qw1.frozen (a := ⟨w.heap.size, 3, none⟩) l6).trans f10
  have l24 := Nat.lt_of_lt_of_le l6 qw1.size
  have c25 := qw1.cell c2
  have c26 := qw1.cell c3
  have c27 := qw1.cell c4
  have c28 := qw1.cell c5
  have f29 := (qw1.frozen (a := ⟨w.heap.size + 1, 0, none⟩) l15).trans f16
  have f30 := (qw1.frozen (a := ⟨w.heap.size + 1, 1, none⟩) l15).trans f17
  have f31 := (qw1.frozen (a := ⟨w.heap.size + 1, 2, none⟩) l15).trans f18
  have f32 := (qw1.frozen (a := ⟨w.heap.size + 1, 3, none⟩) l15).trans f19
  have l33 := Nat.lt_of_lt_of_le l15 qw1.size
  have c34 := qw1.cell c11
  have c35 := qw1.cell c12
  have c36 := qw1.cell c13
  have c37 := qw1.cell c14
  clear f7 f8 f9 f10 l6 c2 c3 c4 c5 f16 f17 f18 f19 l15 c11 c12 c13 c14
  have uw1 := uW1.trans qw1
  clear qw1 uW1
  go_wp2_with fail
  refine (H1.out _).mono ?_
  rintro e w2 ⟨rfl, qw2⟩
  replace qw2 := qw2.dn
  have f38 := (qw2.frozen (a := ⟨w.heap.size, 0, none⟩) l24).trans f20
  have f39 := (qw2.frozen (a := ⟨w.heap.size, 1, none⟩) l24).trans f21
  have f40 := (qw2.frozen (a := ⟨w.heap.size, 2, none⟩) l24).trans f22
  have f41 := (qw2.frozen (a := ⟨w.heap.size, 3, none⟩) l24).trans f23
  have l42 := Nat.lt_of_lt_of_le l24 qw2.size
  have c43 := qw2.cell c25
  have c44 := qw2.cell c26
  have c45 := qw2.cell c27
  have c46 := qw2.cell c28
  have f47 := (qw2.frozen (a := ⟨w.heap.size + 1, 0, none⟩) l33).trans f29
  have f48 := (qw2.frozen (a := ⟨w.heap.size + 1, 1, none⟩) l33).trans f30
  have f49 := (qw2.frozen (a := ⟨w.heap.size + 1, 2, none⟩) l33).trans f31
  have f50 := (qw2.frozen (a := ⟨w.heap.size + 1, 3, none⟩) l33).trans f32
  have l51 := Nat.lt_of_lt_of_le l33 qw2.size
  have c52 := qw2.cell c34
  have c53 := qw2.cell c35
  have c54 := qw2.cell c36
  have c55 := qw2.cell c37
  clear f20 f21 f22 f23 l24 c25 c26 c27 c28 f29 f30 f31 f32 l33 c34 c35 c36 c37
  have uw2 := uw1.trans qw2
  clear qw2 uw1
  go_wp2_with fail
  refine (H2.out _).mono ?_
  rintro e w3 ⟨rfl, qw3⟩
  replace qw3 := qw3.dn
  have f56 := (qw3.frozen (a := ⟨w.heap.size, 0, none⟩) l42).trans f38
  have f57 := (qw3.frozen (a := ⟨w.heap.size, 1, none⟩) l42).trans f39
  have f58 := (qw3.frozen (a := ⟨w.heap.size, 2, none⟩) l42).trans f40
  have f59 := (qw3.frozen (a := ⟨w.heap.size, 3, none⟩) l42).trans f41
  have l60 := Nat.lt_of_lt_of_le l42 qw3.size
  have c61 := qw3.cell c43
  have c62 := qw3.cell c44
  have c63 := qw3.cell c45
  have c64 := qw3.cell c46
  have f65 := (qw3.frozen (a := ⟨w.heap.size + 1, 0, none⟩) l51).trans f47
  have f66 := (qw3.frozen (a := ⟨w.heap.size + 1, 1, none⟩) l51).trans f48
  have f67 := (qw3.frozen (a := ⟨w.heap.size + 1, 2, none⟩) l51).trans f49
  have f68 := (qw3.frozen (a := ⟨w.heap.size + 1, 3, none⟩) l51).trans f50
  have l69 := Nat.lt_of_lt_of_le l51 qw3.size
  have c70 := qw3.cell c52
  have c71 := qw3.cell c53
  have c72 := qw3.cell c54
  have c73 := qw3.cell c55
  clear f38 f39 f40 f41 l42 c43 c44 c45 c46 f47 f48 f49 f50 l51 c52 c53 c54 c55
  have uw3 := uw2.trans qw3
  clear qw3 uw2
  go_wp2_with fail
  refine (HN.out _).mono ?_
  rintro e w4 ⟨rfl, qw4⟩
  replace qw4 := qw4.dn
  have f74 := (qw4.frozen (a := ⟨w.heap.size, 0, none⟩) l60).trans f56
  have f75 := (qw4.frozen (a := ⟨w.heap.size, 1, none⟩) l60).trans f57
  have f76 := (qw4.frozen (a := ⟨w.heap.size, 2, none⟩) l60).trans f58
  have f77 := (qw4.frozen (a := ⟨w.heap.size, 3, none⟩) l60).trans f59
  have l78 := Nat.lt_of_lt_of_le l60 qw4.size
  have c79 := qw4.cell c61
  have c80 := qw4.cell c62
  have c81 := qw4.cell c63
  have c82 := qw4.cell c64
  have f83 := (qw4.frozen (a := ⟨w.heap.size + 1, 0, none⟩) l69).trans f65
  have f84 := (qw4.frozen (a := ⟨w.heap.size + 1, 1, none⟩) l69).trans f66
  have f85 := (qw4.frozen (a := ⟨w.heap.size + 1, 2, none⟩) l69).trans f67
  have f86 := (qw4.frozen (a := ⟨w.heap.size + 1, 3, none⟩) l69).trans f68
  have l87 := Nat.lt_of_lt_of_le l69 qw4.size
  have c88 := qw4.cell c70
  have c89 := qw4.cell c71
  have c90 := qw4.cell c72
  have c91 := qw4.cell c73
  clear f56 f57 f58 f59 l60 c61 c62 c63 c64 f65 f66 f67 f68 l69 c70 c71 c72 c73
  have uw4 := uw3.trans qw4
  clear qw4 uw3
  go_wp2_with fail
  obtain ⟨W92, hW92⟩ : ∃ W92, W92 = w4.alloc (.cells #[.int .i8 0, .int .i64 (d + 1)] 27) := ⟨_, rfl⟩
  have uW92 : Dn w4 W92 := by rw [hW92]; exact (Dn.refl _).alloc _
  have f93 := (uW92.frozen (a := ⟨w.heap.size, 0, none⟩) l78).trans f74
  have f94 := (uW92.frozen (a := ⟨w.heap.size, 1, none⟩) l78).trans f75
  have f95 := (uW92.frozen (a := ⟨w.heap.size, 2, none⟩) l78).trans f76
  have f96 := (uW92.frozen (a := ⟨w.heap.size, 3, none⟩) l78).trans f77
  have l97 := Nat.lt_of_lt_of_le l78 uW92.size
  have c98 := uW92.cell c79
  have c99 := uW92.cell c80
  have c100 := uW92.cell c81
  have c101 := uW92.cell c82
  have f102 := (uW92.frozen (a := ⟨w.heap.size + 1, 0, none⟩) l87).trans f83
  have f103 := (uW92.frozen (a := ⟨w.heap.size + 1, 1, none⟩) l87).trans f84
  have f104 := (uW92.frozen (a := ⟨w.heap.size + 1, 2, none⟩) l87).trans f85
  have f105 := (uW92.frozen (a := ⟨w.heap.size + 1, 3, none⟩) l87).trans f86
  have l106 := Nat.lt_of_lt_of_le l87 uW92.size
  have c107 := uW92.cell c88
  have c108 := uW92.cell c89
  have c109 := uW92.cell c90
  have c110 := uW92.cell c91
  clear f74 f75 f76 f77 l78 c79 c80 c81 c82 f83 f84 f85 f86 l87 c88 c89 c90 c91
  have c111 : W92.cell? ⟨w4.heap.size, 0, none⟩ = some (.int .i8 0) := by rw [hW92]; simp [go_sem]
  have c112 : W92.cell? ⟨w4.heap.size, 1, none⟩ = some (.int .i64 (d + 1)) := by rw [hW92]; simp [go_sem]
  have l113 : w4.heap.size < W92.heap.size := by rw [hW92]; simp <;> omega
  rw [← hW92]
  clear hW92
  have vW92 := uw4.trans uW92
  clear uW92 uw4
  go_wp2_with fail
  go_ret
  exact ⟨rfl, vW92⟩
set_option maxHeartbeats 4000000 in
set_option maxRecDepth 100000 in
theorem rnTch_0ov (a b c d e f g h m n : Int) (HR : Hid (∀ W, Calls Tryd.prog 40 #[.agg #[.int .i8 a, .int .i64 b, .int .i8 c, .int .i64 d], .agg #[.int .i8 e, .int .i64 f, .int .i8 g, .int .i64 h]] W fun r w' => r = .returned (.bool true) ∧ Dn W w')) (H1 : Hid (∀ W, Calls Tryd.prog 41 #[.agg #[.int .i8 e, .int .i64 f], .agg #[.int .i8 a, .int .i64 b]] W fun r w' => r = .returned (.int .i64 m) ∧ Up W w')) (H2 : Hid (∀ W, Calls Tryd.prog 41 #[.agg #[.int .i8 e, .int .i64 f], .agg #[.int .i8 c, .int .i64 d]] W fun r w' => r = .returned (.int .i64 n) ∧ Up W w')) (h1 : ¬ m < 0) (h2 : ¬ n ≤ 0) (HN : Hid (∀ W, Calls Tryd.prog 42 #[.agg #[.int .i8 c, .int .i64 d]] W fun r w' => r = .returned (.tuple #[.agg #[.int .i8 0, .int .i64 0], .int .i64 15]) ∧ Up W w')) (w : World) :
    Calls Tryd.prog 12 #[.agg #[.int .i8 a, .int .i64 b, .int .i8 c, .int .i64 d], .agg #[.int .i8 e, .int .i64 f, .int .i8 g, .int .i64 h]] w fun ro w' => ro = .returned (.bool false) ∧ Dn w w' := by
  have t1 : decide (m < 0) = false := by simpa using h1
  have t2 : decide (n ≤ 0) = false := by simpa using h2
  clear h1 h2
  go_enter Tryd.func12, Tryd.ntmps12
  go_wp2_with fail
  obtain ⟨W1, hW1⟩ : ∃ W1, W1 = (w.alloc (.cells #[.int .i8 a, .int .i64 b, .int .i8 c, .int .i64 d] 29)).alloc (.cells #[.int .i8 e, .int .i64 f, .int .i8 g, .int .i64 h] 29) := ⟨_, rfl⟩
  have uW1 : Dn w W1 := by rw [hW1]; exact ((Dn.refl _).alloc _).alloc _
  have c2 : W1.cell? ⟨w.heap.size, 0, none⟩ = some (.int .i8 a) := by rw [hW1]; simp [go_sem]
  have c3 : W1.cell? ⟨w.heap.size, 1, none⟩ = some (.int .i64 b) := by rw [hW1]; simp [go_sem]
  have c4 : W1.cell? ⟨w.heap.size, 2, none⟩ = some (.int .i8 c) := by rw [hW1]; simp [go_sem]
  have c5 : W1.cell? ⟨w.heap.size, 3, none⟩ = some (.int .i64 d) := by rw [hW1]; simp [go_sem]
  have l6 : w.heap.size < W1.heap.size := by rw [hW1]; simp <;> omega
  have f7 : W1.frozen? ⟨w.heap.size, 0, none⟩ = false := by rw [hW1]; simp [go_sem]
  have f8 : W1.frozen? ⟨w.heap.size, 1, none⟩ = false := by rw [hW1]; simp [go_sem]
  have f9 : W1.frozen? ⟨w.heap.size, 2, none⟩ = false := by rw [hW1]; simp [go_sem]
  have f10 : W1.frozen? ⟨w.heap.size, 3, none⟩ = false := by rw [hW1]; simp [go_sem]
  have c11 : W1.cell? ⟨w.heap.size + 1, 0, none⟩ = some (.int .i8 e) := by rw [hW1]; simp [go_sem]
  have c12 : W1.cell? ⟨w.heap.size + 1, 1, none⟩ = some (.int .i64 f) := by rw [hW1]; simp [go_sem]
  have c13 : W1.cell? ⟨w.heap.size + 1, 2, none⟩ = some (.int .i8 g) := by rw [hW1]; simp [go_sem]
  have c14 : W1.cell? ⟨w.heap.size + 1, 3, none⟩ = some (.int .i64 h) := by rw [hW1]; simp [go_sem]
  have l15 : w.heap.size + 1 < W1.heap.size := by rw [hW1]; simp <;> omega
  have f16 : W1.frozen? ⟨w.heap.size + 1, 0, none⟩ = false := by rw [hW1]; simp [go_sem]
  have f17 : W1.frozen? ⟨w.heap.size + 1, 1, none⟩ = false := by rw [hW1]; simp [go_sem]
  have f18 : W1.frozen? ⟨w.heap.size + 1, 2, none⟩ = false := by rw [hW1]; simp [go_sem]
  have f19 : W1.frozen? ⟨w.heap.size + 1, 3, none⟩ = false := by rw [hW1]; simp [go_sem]
  rw [← hW1]
  clear hW1
  refine (HR.out _).mono ?_
  rintro e w1 ⟨rfl, qw1⟩
  have f20 := (qw1.frozen (a := ⟨w.heap.size, 0, none⟩) l6).trans f7
  have f21 := (qw1.frozen (a := ⟨w.heap.size, 1, none⟩) l6).trans f8
  have f22 := (qw1.frozen (a := ⟨w.heap.size, 2, none⟩) l6).trans f9
  have f23 := (qw1.frozen (a := ⟨w.heap.size, 3, none⟩) l6).trans f10
  have l24 := Nat.lt_of_lt_of_le l6 qw1.size
  have c25 := qw1.cell c2
  have c26 := qw1.cell c3
  have c27 := qw1.cell c4
  have c28 := qw1.cell c5
  have f29 := (qw1.frozen (a := ⟨w.heap.size + 1, 0, none⟩) l15).trans f16
  have f30 := (qw1.frozen (a := ⟨w.heap.size + 1, 1, none⟩) l15).trans f17
  have f31 := (qw1.frozen (a := ⟨w.heap.size + 1, 2, none⟩) l15).trans f18
  have f32 := (qw1.frozen (a := ⟨w.heap.size + 1, 3, none⟩) l15).trans f19
  have l33 := Nat.lt_of_lt_of_le l15 qw1.size
  have c34 := qw1.cell c11
  have c35 := qw1.cell c12
  have c36 := qw1.cell c13
  have c37 := qw1.cell c14
  clear f7 f8 f9 f10 l6 c2 c3 c4 c5 f16 f17 f18 f19 l15 c11 c12 c13 c14
  have uw1 := uW1.trans qw1
  clear qw1 uW1
  go_wp2_with fail
  refine (H1.out _).mono ?_
  rintro e w2 ⟨rfl, qw2⟩
  replace qw2 := qw2.dn
  have f38 := (qw2.frozen (a := ⟨w.heap.size, 0, none⟩) l24).trans f20
  have f39 := (qw2.frozen (a := ⟨w.heap.size, 1, none⟩) l24).trans f21
  have f40 := (qw2.frozen (a := ⟨w.heap.size, 2, none⟩) l24).trans f22
  have f41 := (qw2.frozen (a := ⟨w.heap.size, 3, none⟩) l24).trans f23
  have l42 := Nat.lt_of_lt_of_le l24 qw2.size
  have c43 := qw2.cell c25
  have c44 := qw2.cell c26
  have c45 := qw2.cell c27
  have c46 := qw2.cell c28
  have f47 := (qw2.frozen (a := ⟨w.heap.size + 1, 0, none⟩) l33).trans f29
  have f48 := (qw2.frozen (a := ⟨w.heap.size + 1, 1, none⟩) l33).trans f30
  have f49 := (qw2.frozen (a := ⟨w.heap.size + 1, 2, none⟩) l33).trans f31
  have f50 := (qw2.frozen (a := ⟨w.heap.size + 1, 3, none⟩) l33).trans f32
  have l51 := Nat.lt_of_lt_of_le l33 qw2.size
  have c52 := qw2.cell c34
  have c53 := qw2.cell c35
  have c54 := qw2.cell c36
  have c55 := qw2.cell c37
  clear f20 f21 f22 f23 l24 c25 c26 c27 c28 f29 f30 f31 f32 l33 c34 c35 c36 c37
  have uw2 := uw1.trans qw2
  clear qw2 uw1
  go_wp2_with fail
  refine (H2.out _).mono ?_
  rintro e w3 ⟨rfl, qw3⟩
  replace qw3 := qw3.dn
  have f56 := (qw3.frozen (a := ⟨w.heap.size, 0, none⟩) l42).trans f38
  have f57 := (qw3.frozen (a := ⟨w.heap.size, 1, none⟩) l42).trans f39
  have f58 := (qw3.frozen (a := ⟨w.heap.size, 2, none⟩) l42).trans f40
  have f59 := (qw3.frozen (a := ⟨w.heap.size, 3, none⟩) l42).trans f41
  have l60 := Nat.lt_of_lt_of_le l42 qw3.size
  have c61 := qw3.cell c43
  have c62 := qw3.cell c44
  have c63 := qw3.cell c45
  have c64 := qw3.cell c46
  have f65 := (qw3.frozen (a := ⟨w.heap.size + 1, 0, none⟩) l51).trans f47
  have f66 := (qw3.frozen (a := ⟨w.heap.size + 1, 1, none⟩) l51).trans f48
  have f67 := (qw3.frozen (a := ⟨w.heap.size + 1, 2, none⟩) l51).trans f49
  have f68 := (qw3.frozen (a := ⟨w.heap.size + 1, 3, none⟩) l51).trans f50
  have l69 := Nat.lt_of_lt_of_le l51 qw3.size
  have c70 := qw3.cell c52
  have c71 := qw3.cell c53
  have c72 := qw3.cell c54
  have c73 := qw3.cell c55
  clear f38 f39 f40 f41 l42 c43 c44 c45 c46 f47 f48 f49 f50 l51 c52 c53 c54 c55
  have uw3 := uw2.trans qw3
  clear qw3 uw2
  go_wp2_with fail
  refine (HN.out _).mono ?_
  rintro e w4 ⟨rfl, qw4⟩
  replace qw4 := qw4.dn
  have f74 := (qw4.frozen (a := ⟨w.heap.size, 0, none⟩) l60).trans f56
  have f75 := (qw4.frozen (a := ⟨w.heap.size, 1, none⟩) l60).trans f57
  have f76 := (qw4.frozen (a := ⟨w.heap.size, 2, none⟩) l60).trans f58
  have f77 := (qw4.frozen (a := ⟨w.heap.size, 3, none⟩) l60).trans f59
  have l78 := Nat.lt_of_lt_of_le l60 qw4.size
  have c79 := qw4.cell c61
  have c80 := qw4.cell c62
  have c81 := qw4.cell c63
  have c82 := qw4.cell c64
  have f83 := (qw4.frozen (a := ⟨w.heap.size + 1, 0, none⟩) l69).trans f65
  have f84 := (qw4.frozen (a := ⟨w.heap.size + 1, 1, none⟩) l69).trans f66
  have f85 := (qw4.frozen (a := ⟨w.heap.size + 1, 2, none⟩) l69).trans f67
  have f86 := (qw4.frozen (a := ⟨w.heap.size + 1, 3, none⟩) l69).trans f68
  have l87 := Nat.lt_of_lt_of_le l69 qw4.size
  have c88 := qw4.cell c70
  have c89 := qw4.cell c71
  have c90 := qw4.cell c72
  have c91 := qw4.cell c73
  clear f56 f57 f58 f59 l60 c61 c62 c63 c64 f65 f66 f67 f68 l69 c70 c71 c72 c73
  have uw4 := uw3.trans qw4
  clear qw4 uw3
  go_wp2_with fail
  obtain ⟨W92, hW92⟩ : ∃ W92, W92 = w4.alloc (.cells #[.int .i8 0, .int .i64 0] 27) := ⟨_, rfl⟩
  have uW92 : Dn w4 W92 := by rw [hW92]; exact (Dn.refl _).alloc _
  have f93 := (uW92.frozen (a := ⟨w.heap.size, 0, none⟩) l78).trans f74
  have f94 := (uW92.frozen (a := ⟨w.heap.size, 1, none⟩) l78).trans f75
  have f95 := (uW92.frozen (a := ⟨w.heap.size, 2, none⟩) l78).trans f76
  have f96 := (uW92.frozen (a := ⟨w.heap.size, 3, none⟩) l78).trans f77
  have l97 := Nat.lt_of_lt_of_le l78 uW92.size
  have c98 := uW92.cell c79
  have c99 := uW92.cell c80
  have c100 := uW92.cell c81
  have c101 := uW92.cell c82
  have f102 := (uW92.frozen (a := ⟨w.heap.size + 1, 0, none⟩) l87).trans f83
  have f103 := (uW92.frozen (a := ⟨w.heap.size + 1, 1, none⟩) l87).trans f84
  have f104 := (uW92.frozen (a := ⟨w.heap.size + 1, 2, none⟩) l87).trans f85
  have f105 := (uW92.frozen (a := ⟨w.heap.size + 1, 3, none⟩) l87).trans f86
  have l106 := Nat.lt_of_lt_of_le l87 uW92.size
  have c107 := uW92.cell c88
  have c108 := uW92.cell c89
  have c109 := uW92.cell c90
  have c110 := uW92.cell c91
  clear f74 f75 f76 f77 l78 c79 c80 c81 c82 f83 f84 f85 f86 l87 c88 c89 c90 c91
  have c111 : W92.cell? ⟨w4.heap.size, 0, none⟩ = some (.int .i8 0) := by rw [hW92]; simp [go_sem]
  have c112 : W92.cell? ⟨w4.heap.size, 1, none⟩ = some (.int .i64 0) := by rw [hW92]; simp [go_sem]
  have l113 : w4.heap.size < W92.heap.size := by rw [hW92]; simp <;> omega
  rw [← hW92]
  clear hW92
  have vW92 := uw4.trans uW92
  clear uW92 uw4
  go_wp2_with fail
  go_ret
  exact ⟨rfl, vW92⟩
set_option maxHeartbeats 4000000 in
set_option maxRecDepth 100000 in
theorem rnTch_1le (a b c d e f g h m n : Int) (HR : Hid (∀ W, Calls Tryd.prog 40 #[.agg #[.int .i8 a, .int .i64 b, .int .i8 c, .int .i64 d], .agg #[.int .i8 e, .int .i64 f, .int .i8 g, .int .i64 h]] W fun r w' => r = .returned (.bool true) ∧ Dn W w')) (H1 : Hid (∀ W, Calls Tryd.prog 41 #[.agg #[.int .i8 e, .int .i64 f], .agg #[.int .i8 a, .int .i64 b]] W fun r w' => r = .returned (.int .i64 m) ∧ Up W w')) (H2 : Hid (∀ W, Calls Tryd.prog 41 #[.agg #[.int .i8 a, .int .i64 b], .agg #[.int .i8 g, .int .i64 h]] W fun r w' => r = .returned (.int .i64 n) ∧ Up W w')) (h1 : m < 0) (h2 : n ≤ 0) (w : World) :
    Calls Tryd.prog 12 #[.agg #[.int .i8 a, .int .i64 b, .int .i8 c, .int .i64 d], .agg #[.int .i8 e, .int .i64 f, .int .i8 g, .int .i64 h]] w fun ro w' => ro = .returned (.bool true) ∧ Dn w w' := by
  have t1 : decide (m < 0) = true := by simpa using h1
  have t2 : decide (n ≤ 0) = true := by simpa using h2
  clear h1 h2
  go_enter Tryd.func12, Tryd.ntmps12
  go_wp2_with fail
  obtain ⟨W1, hW1⟩ : ∃ W1, W1 = (w.alloc (.cells #[.int .i8 a, .int .i64 b, .int .i8 c, .int .i64 d] 29)).alloc (.cells #[.int .i8 e, .int .i64 f, .int .i8 g, .int .i64 h] 29) := ⟨_, rfl⟩
  have uW1 : Dn w W1 := by rw [hW1]; exact ((Dn.refl _).alloc _).alloc _
  have c2 : W1.cell? ⟨w.heap.size, 0, none⟩ = some (.int .i8 a) := by rw [hW1]; simp [go_sem]
  have c3 : W1.cell? ⟨w.heap.size, 1, none⟩ = some (.int .i64 b) := by rw [hW1]; simp [go_sem]
  have c4 : W1.cell? ⟨w.heap.size, 2, none⟩ = some (.int .i8 c) := by rw [hW1]; simp [go_sem]
  have c5 : W1.cell? ⟨w.heap.size, 3, none⟩ = some (.int .i64 d) := by rw [hW1]; simp [go_sem]
  have l6 : w.heap.size < W1.heap.size := by rw [hW1]; simp <;> omega
  have f7 : W1.frozen? ⟨w.heap.size, 0, none⟩ = false := by rw [hW1]; simp [go_sem]
  have f8 : W1.frozen? ⟨w.heap.size, 1, none⟩ = false := by rw [hW1]; simp [go_sem]
  have f9 : W1.frozen? ⟨w.heap.size, 2, none⟩ = false := by rw [hW1]; simp [go_sem]
  have f10 : W1.frozen? ⟨w.heap.size, 3, none⟩ = false := by rw [hW1]; simp [go_sem]
  have c11 : W1.cell? ⟨w.heap.size + 1, 0, none⟩ = some (.int .i8 e) := by rw [hW1]; simp [go_sem]
  have c12 : W1.cell? ⟨w.heap.size + 1, 1, none⟩ = some (.int .i64 f) := by rw [hW1]; simp [go_sem]
  have c13 : W1.cell? ⟨w.heap.size + 1, 2, none⟩ = some (.int .i8 g) := by rw [hW1]; simp [go_sem]
  have c14 : W1.cell? ⟨w.heap.size + 1, 3, none⟩ = some (.int .i64 h) := by rw [hW1]; simp [go_sem]
  have l15 : w.heap.size + 1 < W1.heap.size := by rw [hW1]; simp <;> omega
  have f16 : W1.frozen? ⟨w.heap.size + 1, 0, none⟩ = false := by rw [hW1]; simp [go_sem]
  have f17 : W1.frozen? ⟨w.heap.size + 1, 1, none⟩ = false := by rw [hW1]; simp [go_sem]
  have f18 : W1.frozen? ⟨w.heap.size + 1, 2, none⟩ = false := by rw [hW1]; simp [go_sem]
  have f19 : W1.frozen? ⟨w.heap.size + 1, 3, none⟩ = false := by rw [hW1]; simp [go_sem]
  rw [← hW1]
  clear hW1
  refine (HR.out _).mono ?_
  rintro e w1 ⟨rfl, qw1⟩
  have f20 := (qw1.frozen (a := ⟨w.heap.size, 0, none⟩) l6).trans f7
  have f21 := (qw1.frozen (a := ⟨w.heap.size, 1, none⟩) l6).trans f8
  have f22 := (qw1.frozen (a := ⟨w.heap.size, 2, none⟩) l6).trans f9
  have f23 := (qw1.frozen (a := ⟨w.heap.size, 3, none⟩) l6).trans f10
  have l24 := Nat.lt_of_lt_of_le l6 qw1.size
  have c25 := qw1.cell c2
  have c26 := qw1.cell c3
  have c27 := qw1.cell c4
  have c28 := qw1.cell c5
  have f29 := (qw1.frozen (a := ⟨w.heap.size + 1, 0, none⟩) l15).trans f16
  have f30 := (qw1.frozen (a := ⟨w.heap.size + 1, 1, none⟩) l15).trans f17
  have f31 := (qw1.frozen (a := ⟨w.heap.size + 1, 2, none⟩) l15).trans f18
  have f32 := (qw1.frozen (a := ⟨w.heap.size + 1, 3, none⟩) l15).trans f19
  have l33 := Nat.lt_of_lt_of_le l15 qw1.size
  have c34 := qw1.cell c11
  have c35 := qw1.cell c12
  have c36 := qw1.cell c13
  have c37 := qw1.cell c14
  clear f7 f8 f9 f10 l6 c2 c3 c4 c5 f16 f17 f18 f19 l15 c11 c12 c13 c14
  have uw1 := uW1.trans qw1
  clear qw1 uW1
  go_wp2_with fail
  refine (H1.out _).mono ?_
  rintro e w2 ⟨rfl, qw2⟩
  replace qw2 := qw2.dn
  have f38 := (qw2.frozen (a := ⟨w.heap.size, 0, none⟩) l24).trans f20
  have f39 := (qw2.frozen (a := ⟨w.heap.size, 1, none⟩) l24).trans f21
  have f40 := (qw2.frozen (a := ⟨w.heap.size, 2, none⟩) l24).trans f22
  have f41 := (qw2.frozen (a := ⟨w.heap.size, 3, none⟩) l24).trans f23
  have l42 := Nat.lt_of_lt_of_le l24 qw2.size
  have c43 := qw2.cell c25
  have c44 := qw2.cell c26
  have c45 := qw2.cell c27
  have c46 := qw2.cell c28
  have f47 := (qw2.frozen (a := ⟨w.heap.size + 1, 0, none⟩) l33).trans f29
  have f48 := (qw2.frozen (a := ⟨w.heap.size + 1, 1, none⟩) l33).trans f30
  have f49 := (qw2.frozen (a := ⟨w.heap.size + 1, 2, none⟩) l33).trans f31
  have f50 := (qw2.frozen (a := ⟨w.heap.size + 1, 3, none⟩) l33).trans f32
  have l51 := Nat.lt_of_lt_of_le l33 qw2.size
  have c52 := qw2.cell c34
  have c53 := qw2.cell c35
  have c54 := qw2.cell c36
  have c55 := qw2.cell c37
  clear f20 f21 f22 f23 l24 c25 c26 c27 c28 f29 f30 f31 f32 l33 c34 c35 c36 c37
  have uw2 := uw1.trans qw2
  clear qw2 uw1
  go_wp2_with fail
  obtain ⟨W56, hW56⟩ : ∃ W56, W56 = (((((((w2.setCell ⟨w.heap.size, 0, none⟩ (.int .i8 e)).setCell ⟨w.heap.size, 1, none⟩ (.int .i64 f)).setCell ⟨w.heap.size, 2, none⟩ (.int .i8 g)).setCell ⟨w.heap.size, 3, none⟩ (.int .i64 h)).setCell ⟨w.heap.size + 1, 0, none⟩ (.int .i8 a)).setCell ⟨w.heap.size + 1, 1, none⟩ (.int .i64 b)).setCell ⟨w.heap.size + 1, 2, none⟩ (.int .i8 c)).setCell ⟨w.heap.size + 1, 3, none⟩ (.int .i64 d) := ⟨_, rfl⟩
  have uW56 : Dn w W56 := by rw [hW56]; exact ((((((((uw2.setCell (by simp <;> omega) _).setCell (by simp <;> omega) _).setCell (by simp <;> omega) _).setCell (by simp <;> omega) _).setCell (by simp <;> omega) _).setCell (by simp <;> omega) _).setCell (by simp <;> omega) _).setCell (by simp <;> omega) _)
  have c57 : W56.cell? ⟨w.heap.size, 0, none⟩ = some (.int .i8 e) := by rw [hW56]; simp [go_sem, c43, c44, c45, c46, c52, c53, c54, c55]
  have c58 : W56.cell? ⟨w.heap.size, 1, none⟩ = some (.int .i64 f) := by rw [hW56]; simp [go_sem, c43, c44, c45, c46, c52, c53, c54, c55]
  have c59 : W56.cell? ⟨w.heap.size, 2, none⟩ = some (.int .i8 g) := by rw [hW56]; simp [go_sem, c43, c44, c45, c46, c52, c53, c54, c55]
  have c60 : W56.cell? ⟨w.heap.size, 3, none⟩ = some (.int .i64 h) := by rw [hW56]; simp [go_sem, c43, c44, c45, c46, c52, c53, c54, c55]
  have l61 : w.heap.size < W56.heap.size := by rw [hW56]; simpa using l42
  have c62 : W56.cell? ⟨w.heap.size + 1, 0, none⟩ = some (.int .i8 a) := by rw [hW56]; simp [go_sem, c43, c44, c45, c46, c52, c53, c54, c55]
  have c63 : W56.cell? ⟨w.heap.size + 1, 1, none⟩ = some (.int .i64 b) := by rw [hW56]; simp [go_sem, c43, c44, c45, c46, c52, c53, c54, c55]
  have c64 : W56.cell? ⟨w.heap.size + 1, 2, none⟩ = some (.int .i8 c) := by rw [hW56]; simp [go_sem, c43, c44, c45, c46, c52, c53, c54, c55]
  have c65 : W56.cell? ⟨w.heap.size + 1, 3, none⟩ = some (.int .i64 d) := by rw [hW56]; simp [go_sem, c43, c44, c45, c46, c52, c53, c54, c55]
  have l66 : w.heap.size + 1 < W56.heap.size := by rw [hW56]; simpa using l51
  rw [← hW56]
  clear hW56 uw2 c43 c44 c45 c46 c52 c53 c54 c55 l42 l51 f38 f39 f40 f41 f47 f48 f49 f50
  refine (H2.out _).mono ?_
  rintro e w3 ⟨rfl, qw3⟩
  replace qw3 := qw3.dn
  have l67 := Nat.lt_of_lt_of_le l61 qw3.size
  have c68 := qw3.cell c57
  have c69 := qw3.cell c58
  have c70 := qw3.cell c59
  have c71 := qw3.cell c60
  have l72 := Nat.lt_of_lt_of_le l66 qw3.size
  have c73 := qw3.cell c62
  have c74 := qw3.cell c63
  have c75 := qw3.cell c64
  have c76 := qw3.cell c65
  clear l61 c57 c58 c59 c60 l66 c62 c63 c64 c65
  have uw3 := uW56.trans qw3
  clear qw3 uW56
  go_wp2_with fail
  go_ret
  exact ⟨rfl, uw3⟩
set_option maxHeartbeats 4000000 in
set_option maxRecDepth 100000 in
theorem rnTch_1eq (a b c d e f g h m n : Int) (HR : Hid (∀ W, Calls Tryd.prog 40 #[.agg #[.int .i8 a, .int .i64 b, .int .i8 c, .int .i64 d], .agg #[.int .i8 e, .int .i64 f, .int .i8 g, .int .i64 h]] W fun r w' => r = .returned (.bool true) ∧ Dn W w')) (H1 : Hid (∀ W, Calls Tryd.prog 41 #[.agg #[.int .i8 e, .int .i64 f], .agg #[.int .i8 a, .int .i64 b]] W fun r w' => r = .returned (.int .i64 m) ∧ Up W w')) (H2 : Hid (∀ W, Calls Tryd.prog 41 #[.agg #[.int .i8 a, .int .i64 b], .agg #[.int .i8 g, .int .i64 h]] W fun r w' => r = .returned (.int .i64 n) ∧ Up W w')) (h1 : m < 0) (h2 : ¬ n ≤ 0) (HN : Hid (∀ W, Calls Tryd.prog 42 #[.agg #[.int .i8 g, .int .i64 h]] W fun r w' => r = .returned (.tuple #[.agg #[.int .i8 0, .int .i64 (h + 1)], .int .i64 0]) ∧ Up W w')) (h3 : a = 0) (h4 : h + 1 = b) (w : World) :
    Calls Tryd.prog 12 #[.agg #[.int .i8 a, .int .i64 b, .int .i8 c, .int .i64 d], .agg #[.int .i8 e, .int .i64 f, .int .i8 g, .int .i64 h]] w fun ro w' => ro = .returned (.bool true) ∧ Dn w w' := by
  have t1 : decide (m < 0) = true := by simpa using h1
  have t2 : decide (n ≤ 0) = false := by simpa using h2
  clear h1 h2
  have t3 : ((0 : Int) == a) = true := by simp [h3]
  have t4 : (h + 1 == b) = true := by simpa using h4
  clear h3 h4
  go_enter Tryd.func12, Tryd.ntmps12
  go_wp2_with fail
  obtain ⟨W1, hW1⟩ : ∃ W1, W1 = (w.alloc (.cells #[.int .i8 a, .int .i64 b, .int .i8 c, .int .i64 d] 29)).alloc (.cells #[.int .i8 e, .int .i64 f, .int .i8 g, .int .i64 h] 29) := ⟨_, rfl⟩
  have uW1 : Dn w W1 := by rw [hW1]; exact ((Dn.refl _).alloc _).alloc _
  have c2 : W1.cell? ⟨w.heap.size, 0, none⟩ = some (.int .i8 a) := by rw [hW1]; simp [go_sem]
  have c3 : W1.cell? ⟨w.heap.size, 1, none⟩ = some (.int .i64 b) := by rw [hW1]; simp [go_sem]
  have c4 : W1.cell? ⟨w.heap.size, 2, none⟩ = some (.int .i8 c) := by rw [hW1]; simp [go_sem]
  have c5 : W1.cell? ⟨w.heap.size, 3, none⟩ = some (.int .i64 d) := by rw [hW1]; simp [go_sem]
  have l6 : w.heap.size < W1.heap.size := by rw [hW1]; simp <;> omega
  have f7 : W1.frozen? ⟨w.heap.size, 0, none⟩ = false := by rw [hW1]; simp [go_sem]
  have f8 : W1.frozen? ⟨w.heap.size, 1, none⟩ = false := by rw [hW1]; simp [go_sem]
  have f9 : W1.frozen? ⟨w.heap.size, 2, none⟩ = false := by rw [hW1]; simp [go_sem]
  have f10 : W1.frozen? ⟨w.heap.size, 3, none⟩ = false := by rw [hW1]; simp [go_sem]
  have c11 : W1.cell? ⟨w.heap.size + 1, 0, none⟩ = some (.int .i8 e) := by rw [hW1]; simp [go_sem]
  have c12 : W1.cell? ⟨w.heap.size + 1, 1, none⟩ = some (.int .i64 f) := by rw [hW1]; simp [go_sem]
  have c13 : W1.cell? ⟨w.heap.size + 1, 2, none⟩ = some (.int .i8 g) := by rw [hW1]; simp [go_sem]
  have c14 : W1.cell? ⟨w.heap.size + 1, 3, none⟩ = some (.int .i64 h) := by rw [hW1]; simp [go_sem]
  have l15 : w.heap.size + 1 < W1.heap.size := by rw [hW1]; simp <;> omega
  have f16 : W1.frozen? ⟨w.heap.size + 1, 0, none⟩ = false := by rw [hW1]; simp [go_sem]
  have f17 : W1.frozen? ⟨w.heap.size + 1, 1, none⟩ = false := by rw [hW1]; simp [go_sem]
  have f18 : W1.frozen? ⟨w.heap.size + 1, 2, none⟩ = false := by rw [hW1]; simp [go_sem]
  have f19 : W1.frozen? ⟨w.heap.size + 1, 3, none⟩ = false := by rw [hW1]; simp [go_sem]
  rw [← hW1]
  clear hW1
  refine (HR.out _).mono ?_
  rintro e w1 ⟨rfl, qw1⟩
  have f20 := (qw1.frozen (a := ⟨w.heap.size, 0, none⟩) l6).trans f7
  have f21 := (qw1.frozen (a := ⟨w.heap.size, 1, none⟩) l6).trans f8
  have f22 := (qw1.frozen (a := ⟨w.heap.size, 2, none⟩) l6).trans f9
  have f23 := (qw1.frozen (a := ⟨w.heap.size, 3, none⟩) l6).trans f10
  have l24 := Nat.lt_of_lt_of_le l6 qw1.size
  have c25 := qw1.cell c2
  have c26 := qw1.cell c3
  have c27 := qw1.cell c4
  have c28 := qw1.cell c5
  have f29 := (qw1.frozen (a := ⟨w.heap.size + 1, 0, none⟩) l15).trans f16
  have f30 := (qw1.frozen (a := ⟨w.heap.size + 1, 1, none⟩) l15).trans f17
  have f31 := (qw1.frozen (a := ⟨w.heap.size + 1, 2, none⟩) l15).trans f18
  have f32 := (qw1.frozen (a := ⟨w.heap.size + 1, 3, none⟩) l15).trans f19
  have l33 := Nat.lt_of_lt_of_le l15 qw1.size
  have c34 := qw1.cell c11
  have c35 := qw1.cell c12
  have c36 := qw1.cell c13
  have c37 := qw1.cell c14
  clear f7 f8 f9 f10 l6 c2 c3 c4 c5 f16 f17 f18 f19 l15 c11 c12 c13 c14
  have uw1 := uW1.trans qw1
  clear qw1 uW1
  go_wp2_with fail
  refine (H1.out _).mono ?_
  rintro e w2 ⟨rfl, qw2⟩
  replace qw2 := qw2.dn
  have f38 := (qw2.frozen (a := ⟨w.heap.size, 0, none⟩) l24).trans f20
  have f39 := (qw2.frozen (a := ⟨w.heap.size, 1, none⟩) l24).trans f21
  have f40 := (qw2.frozen (a := ⟨w.heap.size, 2, none⟩) l24).trans f22
  have f41 := (qw2.frozen (a := ⟨w.heap.size, 3, none⟩) l24).trans f23
  have l42 := Nat.lt_of_lt_of_le l24 qw2.size
  have c43 := qw2.cell c25
  have c44 := qw2.cell c26
  have c45 := qw2.cell c27
  have c46 := qw2.cell c28
  have f47 := (qw2.frozen (a := ⟨w.heap.size + 1, 0, none⟩) l33).trans f29
  have f48 := (qw2.frozen (a := ⟨w.heap.size + 1, 1, none⟩) l33).trans f30
  have f49 := (qw2.frozen (a := ⟨w.heap.size + 1, 2, none⟩) l33).trans f31
  have f50 := (qw2.frozen (a := ⟨w.heap.size + 1, 3, none⟩) l33).trans f32
  have l51 := Nat.lt_of_lt_of_le l33 qw2.size
  have c52 := qw2.cell c34
  have c53 := qw2.cell c35
  have c54 := qw2.cell c36
  have c55 := qw2.cell c37
  clear f20 f21 f22 f23 l24 c25 c26 c27 c28 f29 f30 f31 f32 l33 c34 c35 c36 c37
  have uw2 := uw1.trans qw2
  clear qw2 uw1
  go_wp2_with fail
  obtain ⟨W56, hW56⟩ : ∃ W56, W56 = (((((((w2.setCell ⟨w.heap.size, 0, none⟩ (.int .i8 e)).setCell ⟨w.heap.size, 1, none⟩ (.int .i64 f)).setCell ⟨w.heap.size, 2, none⟩ (.int .i8 g)).setCell ⟨w.heap.size, 3, none⟩ (.int .i64 h)).setCell ⟨w.heap.size + 1, 0, none⟩ (.int .i8 a)).setCell ⟨w.heap.size + 1, 1, none⟩ (.int .i64 b)).setCell ⟨w.heap.size + 1, 2, none⟩ (.int .i8 c)).setCell ⟨w.heap.size + 1, 3, none⟩ (.int .i64 d) := ⟨_, rfl⟩
  have uW56 : Dn w W56 := by rw [hW56]; exact ((((((((uw2.setCell (by simp <;> omega) _).setCell (by simp <;> omega) _).setCell (by simp <;> omega) _).setCell (by simp <;> omega) _).setCell (by simp <;> omega) _).setCell (by simp <;> omega) _).setCell (by simp <;> omega) _).setCell (by simp <;> omega) _)
  have c57 : W56.cell? ⟨w.heap.size, 0, none⟩ = some (.int .i8 e) := by rw [hW56]; simp [go_sem, c43, c44, c45, c46, c52, c53, c54, c55]
  have c58 : W56.cell? ⟨w.heap.size, 1, none⟩ = some (.int .i64 f) := by rw [hW56]; simp [go_sem, c43, c44, c45, c46, c52, c53, c54, c55]
  have c59 : W56.cell? ⟨w.heap.size, 2, none⟩ = some (.int .i8 g) := by rw [hW56]; simp [go_sem, c43, c44, c45, c46, c52, c53, c54, c55]
  have c60 : W56.cell? ⟨w.heap.size, 3, none⟩ = some (.int .i64 h) := by rw [hW56]; simp [go_sem, c43, c44, c45, c46, c52, c53, c54, c55]
  have l61 : w.heap.size < W56.heap.size := by rw [hW56]; simpa using l42
  have c62 : W56.cell? ⟨w.heap.size + 1, 0, none⟩ = some (.int .i8 a) := by rw [hW56]; simp [go_sem, c43, c44, c45, c46, c52, c53, c54, c55]
  have c63 : W56.cell? ⟨w.heap.size + 1, 1, none⟩ = some (.int .i64 b) := by rw [hW56]; simp [go_sem, c43, c44, c45, c46, c52, c53, c54, c55]
  have c64 : W56.cell? ⟨w.heap.size + 1, 2, none⟩ = some (.int .i8 c) := by rw [hW56]; simp [go_sem, c43, c44, c45, c46, c52, c53, c54, c55]
  have c65 : W56.cell? ⟨w.heap.size + 1, 3, none⟩ = some (.int .i64 d) := by rw [hW56]; simp [go_sem, c43, c44, c45, c46, c52, c53, c54, c55]
  have l66 : w.heap.size + 1 < W56.heap.size := by rw [hW56]; simpa using l51
  rw [← hW56]
  clear hW56 uw2 c43 c44 c45 c46 c52 c53 c54 c55 l42 l51 f38 f39 f40 f41 f47 f48 f49 f50
  refine (H2.out _).mono ?_
  rintro e w3 ⟨rfl, qw3⟩
  replace qw3 := qw3.dn
  have l67 := Nat.lt_of_lt_of_le l61 qw3.size
  have c68 := qw3.cell c57
  have c69 := qw3.cell c58
  have c70 := qw3.cell c59
  have c71 := qw3.cell c60
  have l72 := Nat.lt_of_lt_of_le l66 qw3.size
  have c73 := qw3.cell c62
  have c74 := qw3.cell c63
  have c75 := qw3.cell c64
  have c76 := qw3.cell c65
  clear l61 c57 c58 c59 c60 l66 c62 c63 c64 c65
  have uw3 := uW56.trans qw3
  clear qw3 uW56
  go_wp2_with fail
  refine (HN.out _).mono ?_
  rintro e w4 ⟨rfl, qw4⟩
  replace qw4 := qw4.dn
  have l77 := Nat.lt_of_lt_of_le l67 qw4.size
  have c78 := qw4.cell c68
  have c79 := qw4.cell c69
  have c80 := qw4.cell c70
  have c81 := qw4.cell c71
  have l82 := Nat.lt_of_lt_of_le l72 qw4.size
  have c83 := qw4.cell c73
  have c84 := qw4.cell c74
  have c85 := qw4.cell c75
  have c86 := qw4.cell c76
  clear l67 c68 c69 c70 c71 l72 c73 c74 c75 c76
  have uw4 := uw3.trans qw4
  clear qw4 uw3
  go_wp2_with fail
  obtain ⟨W87, hW87⟩ : ∃ W87, W87 = w4.alloc (.cells #[.int .i8 0, .int .i64 (h + 1)] 27) := ⟨_, rfl⟩
  have uW87 : Dn w4 W87 := by rw [hW87]; exact (Dn.refl _).alloc _
  have l88 := Nat.lt_of_lt_of_le l77 uW87.size
  have c89 := uW87.cell c78
  have c90 := uW87.cell c79
  have c91 := uW87.cell c80
  have c92 := uW87.cell c81
  have l93 := Nat.lt_of_lt_of_le l82 uW87.size
  have c94 := uW87.cell c83
  have c95 := uW87.cell c84
  have c96 := uW87.cell c85
  have c97 := uW87.cell c86
  clear l77 c78 c79 c80 c81 l82 c83 c84 c85 c86
  have c98 : W87.cell? ⟨w4.heap.size, 0, none⟩ = some (.int .i8 0) := by rw [hW87]; simp [go_sem]
  have c99 : W87.cell? ⟨w4.heap.size, 1, none⟩ = some (.int .i64 (h + 1)) := by rw [hW87]; simp [go_sem]
  have l100 : w4.heap.size < W87.heap.size := by rw [hW87]; simp <;> omega
  rw [← hW87]
  clear hW87
  have vW87 := uw4.trans uW87
  clear uW87 uw4
  go_wp2_with fail
  go_ret
  exact ⟨rfl, vW87⟩
set_option maxHeartbeats 4000000 in
set_option maxRecDepth 100000 in
theorem rnTch_1ni (a b c d e f g h m n : Int) (HR : Hid (∀ W, Calls Tryd.prog 40 #[.agg #[.int .i8 a, .int .i64 b, .int .i8 c, .int .i64 d], .agg #[.int .i8 e, .int .i64 f, .int .i8 g, .int .i64 h]] W fun r w' => r = .returned (.bool true) ∧ Dn W w')) (H1 : Hid (∀ W, Calls Tryd.prog 41 #[.agg #[.int .i8 e, .int .i64 f], .agg #[.int .i8 a, .int .i64 b]] W fun r w' => r = .returned (.int .i64 m) ∧ Up W w')) (H2 : Hid (∀ W, Calls Tryd.prog 41 #[.agg #[.int .i8 a, .int .i64 b], .agg #[.int .i8 g, .int .i64 h]] W fun r w' => r = .returned (.int .i64 n) ∧ Up W w')) (h1 : m < 0) (h2 : ¬ n ≤ 0) (HN : Hid (∀ W, Calls Tryd.prog 42 #[.agg #[.int .i8 g, .int .i64 h]] W fun r w' => r = .returned (.tuple #[.agg #[.int .i8 0, .int .i64 (h + 1)], .int .i64 0]) ∧ Up W w')) (h3 : a ≠ 0) (w : World) :
    Calls Tryd.prog 12 #[.agg #[.int .i8 a, .int .i64 b, .int .i8 c, .int .i64 d], .agg #[.int .i8 e, .int .i64 f, .int .i8 g, .int .i64 h]] w fun ro w' => ro = .returned (.bool false) ∧ Dn w w' := by
  have t1 : decide (m < 0) = true := by simpa using h1
  have t2 : decide (n ≤ 0) = false := by simpa using h2
  clear h1 h2
  have t3 : ((0 : Int) == a) = false := by simp; omega
  clear h3
  go_enter Tryd.func12, Tryd.ntmps12
  go_wp2_with fail
  obtain ⟨W1, hW1⟩ : ∃ W1, W1 = (w.alloc (.cells #[.int .i8 a, .int .i64 b, .int .i8 c, .int .i64 d] 29)).alloc (.cells #[.int .i8 e, .int .i64 f, .int .i8 g, .int .i64 h] 29) := ⟨_, rfl⟩
  have uW1 : Dn w W1 := by rw [hW1]; exact ((Dn.refl _).alloc _).alloc _
  have c2 : W1.cell? ⟨w.heap.size, 0, none⟩ = some (.int .i8 a) := by rw [hW1]; simp [go_sem]
  have c3 : W1.cell? ⟨w.heap.size, 1, none⟩ = some (.int .i64 b) := by rw [hW1]; simp [go_sem]
  have c4 : W1.cell? ⟨w.heap.size, 2, none⟩ = some (.int .i8 c) := by rw [hW1]; simp [go_sem]
  have c5 : W1.cell? ⟨w.heap.size, 3, none⟩ = some (.int .i64 d) := by rw [hW1]; simp [go_sem]
  have l6 : w.heap.size < W1.heap.size := by rw [hW1]; simp <;> omega
  have f7 : W1.frozen? ⟨w.heap.size, 0, none⟩ = false := by rw [hW1]; simp [go_sem]
  have f8 : W1.frozen? ⟨w.heap.size, 1, none⟩ = false := by rw [hW1]; simp [go_sem]
  have f9 : W1.frozen? ⟨w.heap.size, 2, none⟩ = false := by rw [hW1]; simp [go_sem]
  have f10 : W1.frozen? ⟨w.heap.size, 3, none⟩ = false := by rw [hW1]; simp [go_sem]
  have c11 : W1.cell? ⟨w.heap.size + 1, 0, none⟩ = some (.int .i8 e) := by rw [hW1]; simp [go_sem]
  have c12 : W1.cell? ⟨w.heap.size + 1, 1, none⟩ = some (.int .i64 f) := by rw [hW1]; simp [go_sem]
  have c13 : W1.cell? ⟨w.heap.size + 1, 2, none⟩ = some (.int .i8 g) := by rw [hW1]; simp [go_sem]
  have c14 : W1.cell? ⟨w.heap.size + 1, 3, none⟩ = some (.int .i64 h) := by rw [hW1]; simp [go_sem]
  have l15 : w.heap.size + 1 < W1.heap.size := by rw [hW1]; simp <;> omega
  have f16 : W1.frozen? ⟨w.heap.size + 1, 0, none⟩ = false := by rw [hW1]; simp [go_sem]
  have f17 : W1.frozen? ⟨w.heap.size + 1, 1, none⟩ = false := by rw [hW1]; simp [go_sem]
  have f18 : W1.frozen? ⟨w.heap.size + 1, 2, none⟩ = false := by rw [hW1]; simp [go_sem]
  have f19 : W1.frozen? ⟨w.heap.size + 1, 3, none⟩ = false := by rw [hW1]; simp [go_sem]
  rw [← hW1]
  clear hW1
  refine (HR.out _).mono ?_
  rintro e w1 ⟨rfl, qw1⟩
  have f20 := (qw1.frozen (a := ⟨w.heap.size, 0, none⟩) l6).trans f7
  have f21 := (qw1.frozen (a := ⟨w.heap.size, 1, none⟩) l6).trans f8
  have f22 := (qw1.frozen (a := ⟨w.heap.size, 2, none⟩) l6).trans f9
  have f23 := (qw1.frozen (a := ⟨w.heap.size, 3, none⟩) l6).trans f10
  have l24 := Nat.lt_of_lt_of_le l6 qw1.size
  have c25 := qw1.cell c2
  have c26 := qw1.cell c3
  have c27 := qw1.cell c4
  have c28 := qw1.cell c5
  have f29 := (qw1.frozen (a := ⟨w.heap.size + 1, 0, none⟩) l15).trans f16
  have f30 := (qw1.frozen (a := ⟨w.heap.size + 1, 1, none⟩) l15).trans f17
  have f31 := (qw1.frozen (a := ⟨w.heap.size + 1, 2, none⟩) l15).trans f18
  have f32 := (qw1.frozen (a := ⟨w.heap.size + 1, 3, none⟩) l15).trans f19
  have l33 := Nat.lt_of_lt_of_le l15 qw1.size
  have c34 := qw1.cell c11
  have c35 := qw1.cell c12
  have c36 := qw1.cell c13
  have c37 := qw1.cell c14
  clear f7 f8 f9 f10 l6 c2 c3 c4 c5 f16 f17 f18 f19 l15 c11 c12 c13 c14
  have uw1 := uW1.trans qw1
  clear qw1 uW1
  go_wp2_with fail
  refine (H1.out _).mono ?_
  rintro e w2 ⟨rfl, qw2⟩
  replace qw2 := qw2.dn
  have f38 := (qw2.frozen (a := ⟨w.heap.size, 0, none⟩) l24).trans f20
  have f39 := (qw2.frozen (a := ⟨w.heap.size, 1, none⟩) l24).trans f21
  have f40 := (qw2.frozen (a := ⟨w.heap.size, 2, none⟩) l24).trans f22
  have f41 := (qw2.frozen (a := ⟨w.heap.size, 3, none⟩) l24).trans f23
  have l42 := Nat.lt_of_lt_of_le l24 qw2.size
  have c43 := qw2.cell c25
  have c44 := qw2.cell c26
  have c45 := qw2.cell c27
  have c46 := qw2.cell c28
  have f47 := (qw2.frozen (a := ⟨w.heap.size + 1, 0, none⟩) l33).trans f29
  have f48 := (qw2.frozen (a := ⟨w.heap.size + 1, 1, none⟩) l33).trans f30
  have f49 := (qw2.frozen (a := ⟨w.heap.size + 1, 2, none⟩) l33).trans f31
  have f50 := (qw2.frozen (a := ⟨w.heap.size + 1, 3, none⟩) l33).trans f32
  have l51 := Nat.lt_of_lt_of_le l33 qw2.size
  have c52 := qw2.cell c34
  have c53 := qw2.cell c35
  have c54 := qw2.cell c36
  have c55 := qw2.cell c37
  clear f20 f21 f22 f23 l24 c25 c26 c27 c28 f29 f30 f31 f32 l33 c34 c35 c36 c37
  have uw2 := uw1.trans qw2
  clear qw2 uw1
  go_wp2_with fail
  obtain ⟨W56, hW56⟩ : ∃ W56, W56 = (((((((w2.setCell ⟨w.heap.size, 0, none⟩ (.int .i8 e)).setCell ⟨w.heap.size, 1, none⟩ (.int .i64 f)).setCell ⟨w.heap.size, 2, none⟩ (.int .i8 g)).setCell ⟨w.heap.size, 3, none⟩ (.int .i64 h)).setCell ⟨w.heap.size + 1, 0, none⟩ (.int .i8 a)).setCell ⟨w.heap.size + 1, 1, none⟩ (.int .i64 b)).setCell ⟨w.heap.size + 1, 2, none⟩ (.int .i8 c)).setCell ⟨w.heap.size + 1, 3, none⟩ (.int .i64 d) := ⟨_, rfl⟩
  have uW56 : Dn w W56 := by rw [hW56]; exact ((((((((uw2.setCell (by simp <;> omega) _).setCell (by simp <;> omega) _).setCell (by simp <;> omega) _).setCell (by simp <;> omega) _).setCell (by simp <;> omega) _).setCell (by simp <;> omega) _).setCell (by simp <;> omega) _).setCell (by simp <;> omega) _)
  have c57 : W56.cell? ⟨w.heap.size, 0, none⟩ = some (.int .i8 e) := by rw [hW56]; simp [go_sem, c43, c44, c45, c46, c52, c53, c54, c55]
  have c58 : W56.cell? ⟨w.heap.size, 1, none⟩ = some (.int .i64 f) := by rw [hW56]; simp [go_sem, c43, c44, c45, c46, c52, c53, c54, c55]
  have c59 : W56.cell? ⟨w.heap.size, 2, none⟩ = some (.int .i8 g) := by rw [hW56]; simp [go_sem, c43, c44, c45, c46, c52, c53, c54, c55]
  have c60 : W56.cell? ⟨w.heap.size, 3, none⟩ = some (.int .i64 h) := by rw [hW56]; simp [go_sem, c43, c44, c45, c46, c52, c53, c54, c55]
  have l61 : w.heap.size < W56.heap.size := by rw [hW56]; simpa using l42
  have c62 : W56.cell? ⟨w.heap.size + 1, 0, none⟩ = some (.int .i8 a) := by rw [hW56]; simp [go_sem, c43, c44, c45, c46, c52, c53, c54, c55]
  have c63 : W56.cell? ⟨w.heap.size + 1, 1, none⟩ = some (.int .i64 b) := by rw [hW56]; simp [go_sem, c43, c44, c45, c46, c52, c53, c54, c55]
  have c64 : W56.cell? ⟨w.heap.size + 1, 2, none⟩ = some (.int .i8 c) := by rw [hW56]; simp [go_sem, c43, c44, c45, c46, c52, c53, c54, c55]
  have c65 : W56.cell? ⟨w.heap.size + 1, 3, none⟩ = some (.int .i64 d) := by rw [hW56]; simp [go_sem, c43, c44, c45, c46, c52, c53, c54, c55]
  have l66 : w.heap.size + 1 < W56.heap.size := by rw [hW56]; simpa using l51
  rw [← hW56]
  clear hW56 uw2 c43 c44 c45 c46 c52 c53 c54 c55 l42 l51 f38 f39 f40 f41 f47 f48 f49 f50
  refine (H2.out _).mono ?_
  rintro e w3 ⟨rfl, qw3⟩
  replace qw3 := qw3.dn
  have l67 := Nat.lt_of_lt_of_le l61 qw3.size
  have c68 := qw3.cell c57
  have c69 := qw3.cell c58
  have c70 := qw3.cell c59
  have c71 := qw3.cell c60
  have l72 := Nat.lt_of_lt_of_le l66 qw3.size
  have c73 := qw3.cell c62
  have c74 := qw3.cell c63
  have c75 := qw3.cell c64
  have c76 := qw3.cell c65
  clear l61 c57 c58 c59 c60 l66 c62 c63 c64 c65
  have uw3 := uW56.trans qw3
  clear qw3 uW56
  go_wp2_with fail
  refine (HN.out _).mono ?_
  rintro e w4 ⟨rfl, qw4⟩
  replace qw4 := qw4.dn
  have l77 := Nat.lt_of_lt_of_le l67 qw4.size
  have c78 := qw4.cell c68
  have c79 := qw4.cell c69
  have c80 := qw4.cell c70
  have c81 := qw4.cell c71
  have l82 := Nat.lt_of_lt_of_le l72 qw4.size
  have c83 := qw4.cell c73
  have c84 := qw4.cell c74
  have c85 := qw4.cell c75
  have c86 := qw4.cell c76
  clear l67 c68 c69 c70 c71 l72 c73 c74 c75 c76
  have uw4 := uw3.trans qw4
  clear qw4 uw3
  go_wp2_with fail
  obtain ⟨W87, hW87⟩ : ∃ W87, W87 = w4.alloc (.cells #[.int .i8 0, .int .i64 (h + 1)] 27) := ⟨_, rfl⟩
  have uW87 : Dn w4 W87 := by rw [hW87]; exact (Dn.refl _).alloc _
  have l88 := Nat.lt_of_lt_of_le l77 uW87.size
  have c89 := uW87.cell c78
  have c90 := uW87.cell c79
  have c91 := uW87.cell c80
  have c92 := uW87.cell c81
  have l93 := Nat.lt_of_lt_of_le l82 uW87.size
  have c94 := uW87.cell c83
  have c95 := uW87.cell c84
  have c96 := uW87.cell c85
  have c97 := uW87.cell c86
  clear l77 c78 c79 c80 c81 l82 c83 c84 c85 c86
  have c98 : W87.cell? ⟨w4.heap.size, 0, none⟩ = some (.int .i8 0) := by rw [hW87]; simp [go_sem]
  have c99 : W87.cell? ⟨w4.heap.size, 1, none⟩ = some (.int .i64 (h + 1)) := by rw [hW87]; simp [go_sem]
  have l100 : w4.heap.size < W87.heap.size := by rw [hW87]; simp <;> omega
  rw [← hW87]
  clear hW87
  have vW87 := uw4.trans uW87
  clear uW87 uw4
  go_wp2_with fail
  go_ret
  exact ⟨rfl, vW87⟩
set_option maxHeartbeats 4000000 in
set_option maxRecDepth 100000 in
theorem rnTch_1nd (a b c d e f g h m n : Int) (HR : Hid (∀ W, Calls Tryd.prog 40 #[.agg #[.int .i8 a, .int .i64 b, .int .i8 c, .int .i64 d], .agg #[.int .i8 e, .int .i64 f, .int .i8 g, .int .i64 h]] W fun r w' => r = .returned (.bool true) ∧ Dn W w')) (H1 : Hid (∀ W, Calls Tryd.prog 41 #[.agg #[.int .i8 e, .int .i64 f], .agg #[.int .i8 a, .int .i64 b]] W fun r w' => r = .returned (.int .i64 m) ∧ Up W w')) (H2 : Hid (∀ W, Calls Tryd.prog 41 #[.agg #[.int .i8 a, .int .i64 b], .agg #[.int .i8 g, .int .i64 h]] W fun r w' => r = .returned (.int .i64 n) ∧ Up W w')) (h1 : m < 0) (h2 : ¬ n ≤ 0) (HN : Hid (∀ W, Calls Tryd.prog 42 #[.agg #[.int .i8 g, .int .i64 h]] W fun r w' => r = .returned (.tuple #[.agg #[.int .i8 0, .int .i64 (h + 1)], .int .i64 0]) ∧ Up W w')) (h3 : h + 1 ≠ b) (w : World) :
    Calls Tryd.prog 12 #[.agg #[.int .i8 a, .int .i64 b, .int .i8 c, .int .i64 d], .agg #[.int .i8 e, .int .i64 f, .int .i8 g, .int .i64 h]] w fun ro w' => ro = .returned (.bool false) ∧ Dn w w' := by
  have t1 : decide (m < 0) = true := by simpa using h1
  have t2 : decide (n ≤ 0) = false := by simpa using h2
  clear h1 h2
  have t3 : (h + 1 == b) = false := by simpa using h3
  clear h3
  go_enter Tryd.func12, Tryd.ntmps12
  go_wp2_with fail
  obtain ⟨W1, hW1⟩ : ∃ W1, W1 = (w.alloc (.cells #[.int .i8 a, .int .i64 b, .int .i8 c, .int .i64 d] 29)).alloc (.cells #[.int .i8 e, .int .i64 f, .int .i8 g, .int .i64 h] 29) := ⟨_, rfl⟩
  have uW1 : Dn w W1 := by rw [hW1]; exact ((Dn.refl _).alloc _).alloc _
  have c2 : W1.cell? ⟨w.heap.size, 0, none⟩ = some (.int .i8 a) := by rw [hW1]; simp [go_sem]
  have c3 : W1.cell? ⟨w.heap.size, 1, none⟩ = some (.int .i64 b) := by rw [hW1]; simp [go_sem]
  have c4 : W1.cell? ⟨w.heap.size, 2, none⟩ = some (.int .i8 c) := by rw [hW1]; simp [go_sem]
  have c5 : W1.cell? ⟨w.heap.size, 3, none⟩ = some (.int .i64 d) := by rw [hW1]; simp [go_sem]
  have l6 : w.heap.size < W1.heap.size := by rw [hW1]; simp <;> omega
  have f7 : W1.frozen? ⟨w.heap.size, 0, none⟩ = false := by rw [hW1]; simp [go_sem]
  have f8 : W1.frozen? ⟨w.heap.size, 1, none⟩ = false := by rw [hW1]; simp [go_sem]
  have f9 : W1.frozen? ⟨w.heap.size, 2, none⟩ = false := by rw [hW1]; simp [go_sem]
  have f10 : W1.frozen? ⟨w.heap.size, 3, none⟩ = false := by rw [hW1]; simp [go_sem]
  have c11 : W1.cell? ⟨w.heap.size + 1, 0, none⟩ = some (.int .i8 e) := by rw [hW1]; simp [go_sem]
  have c12 : W1.cell? ⟨w.heap.size + 1, 1, none⟩ = some (.int .i64 f) := by rw [hW1]; simp [go_sem]
  have c13 : W1.cell? ⟨w.heap.size + 1, 2, none⟩ = some (.int .i8 g) := by rw [hW1]; simp [go_sem]
  have c14 : W1.cell? ⟨w.heap.size + 1, 3, none⟩ = some (.int .i64 h) := by rw [hW1]; simp [go_sem]
  have l15 : w.heap.size + 1 < W1.heap.size := by rw [hW1]; simp <;> omega
  have f16 : W1.frozen? ⟨w.heap.size + 1, 0, none⟩ = false := by rw [hW1]; simp [go_sem]
  have f17 : W1.frozen? ⟨w.heap.size + 1, 1, none⟩ = false := by rw [hW1]; simp [go_sem]
  have f18 : W1.frozen? ⟨w.heap.size + 1, 2, none⟩ = false := by rw [hW1]; simp [go_sem]
  have f19 : W1.frozen? ⟨w.heap.size + 1, 3, none⟩ = false := by rw [hW1]; simp [go_sem]
  rw [← hW1]
  clear hW1
  refine (HR.out _).mono ?_
  rintro e w1 ⟨rfl, qw1⟩
  have f20 := (qw1.frozen (a := ⟨w.heap.size, 0, none⟩) l6).trans f7
  have f21 := (qw1.frozen (a := ⟨w.heap.size, 1, none⟩) l6).trans f8
  have f22 := (qw1.frozen (a := ⟨w.heap.size, 2, none⟩) l6).trans f9
  have f23 := (qw1.frozen (a := ⟨w.heap.size, 3, none⟩) l6).trans f10
  have l24 := Nat.lt_of_lt_of_le l6 qw1.size
  have c25 := qw1.cell c2
  have c26 := qw1.cell c3
  have c27 := qw1.cell c4
  have c28 := qw1.cell c5
  have f29 := (qw1.frozen (a := ⟨w.heap.size + 1, 0, none⟩) l15).trans f16
  have f30 := (qw1.frozen (a := ⟨w.heap.size + 1, 1, none⟩) l15).trans f17
  have f31 := (qw1.frozen (a := ⟨w.heap.size + 1, 2, none⟩) l15).trans f18
  have f32 := (qw1.frozen (a := ⟨w.heap.size + 1, 3, none⟩) l15).trans f19
  have l33 := Nat.lt_of_lt_of_le l15 qw1.size
  have c34 := qw1.cell c11
  have c35 := qw1.cell c12
  have c36 := qw1.cell c13
  have c37 := qw1.cell c14
  clear f7 f8 f9 f10 l6 c2 c3 c4 c5 f16 f17 f18 f19 l15 c11 c12 c13 c14
  have uw1 := uW1.trans qw1
  clear qw1 uW1
  go_wp2_with fail
  refine (H1.out _).mono ?_
  rintro e w2 ⟨rfl, qw2⟩
  replace qw2 := qw2.dn
  have f38 := (qw2.frozen (a := ⟨w.heap.size, 0, none⟩) l24).trans f20
  have f39 := (qw2.frozen (a := ⟨w.heap.size, 1, none⟩) l24).trans f21
  have f40 := (qw2.frozen (a := ⟨w.heap.size, 2, none⟩) l24).trans f22
  have f41 := (qw2.frozen (a := ⟨w.heap.size, 3, none⟩) l24).trans f23
  have l42 := Nat.lt_of_lt_of_le l24 qw2.size
  have c43 := qw2.cell c25
  have c44 := qw2.cell c26
  have c45 := qw2.cell c27
  have c46 := qw2.cell c28
  have f47 := (qw2.frozen (a := ⟨w.heap.size + 1, 0, none⟩) l33).trans f29
  have f48 := (qw2.frozen (a := ⟨w.heap.size + 1, 1, none⟩) l33).trans f30
  have f49 := (qw2.frozen (a := ⟨w.heap.size + 1, 2, none⟩) l33).trans f31
  have f50 := (qw2.frozen (a := ⟨w.heap.size + 1, 3, none⟩) l33).trans f32
  have l51 := Nat.lt_of_lt_of_le l33 qw2.size
  have c52 := qw2.cell c34
  have c53 := qw2.cell c35
  have c54 := qw2.cell c36
  have c55 := qw2.cell c37
  clear f20 f21 f22 f23 l24 c25 c26 c27 c28 f29 f30 f31 f32 l33 c34 c35 c36 c37
  have uw2 := uw1.trans qw2
  clear qw2 uw1
  go_wp2_with fail
  obtain ⟨W56, hW56⟩ : ∃ W56, W56 = (((((((w2.setCell ⟨w.heap.size, 0, none⟩ (.int .i8 e)).setCell ⟨w.heap.size, 1, none⟩ (.int .i64 f)).setCell ⟨w.heap.size, 2, none⟩ (.int .i8 g)).setCell ⟨w.heap.size, 3, none⟩ (.int .i64 h)).setCell ⟨w.heap.size + 1, 0, none⟩ (.int .i8 a)).setCell ⟨w.heap.size + 1, 1, none⟩ (.int .i64 b)).setCell ⟨w.heap.size + 1, 2, none⟩ (.int .i8 c)).setCell ⟨w.heap.size + 1, 3, none⟩ (.int .i64 d) := ⟨_, rfl⟩
  have uW56 : Dn w W56 := by rw [hW56]; exact ((((((((uw2.setCell (by simp <;> omega) _).setCell (by simp <;> omega) _).setCell (by simp <;> omega) _).setCell (by simp <;> omega) _).setCell (by simp <;> omega) _).setCell (by simp <;> omega) _).setCell (by simp <;> omega) _).setCell (by simp <;> omega) _)
  have c57 : W56.cell? ⟨w.heap.size, 0, none⟩ = some (.int .i8 e) := by rw [hW56]; simp [go_sem, c43, c44, c45, c46, c52, c53, c54, c55]
  have c58 : W56.cell? ⟨w.heap.size, 1, none⟩ = some (.int .i64 f) := by rw [hW56]; simp [go_sem, c43, c44, c45, c46, c52, c53, c54, c55]
  have c59 : W56.cell? ⟨w.heap.size, 2, none⟩ = some (.int .i8 g) := by rw [hW56]; simp [go_sem, c43, c44, c45, c46, c52, c53, c54, c55]
  have c60 : W56.cell? ⟨w.heap.size, 3, none⟩ = some (.int .i64 h) := by rw [hW56]; simp [go_sem, c43, c44, c45, c46, c52, c53, c54, c55]
  have l61 : w.heap.size < W56.heap.size := by rw [hW56]; simpa using l42
  have c62 : W56.cell? ⟨w.heap.size + 1, 0, none⟩ = some (.int .i8 a) := by rw [hW56]; simp [go_sem, c43, c44, c45, c46, c52, c53, c54, c55]
  have c63 : W56.cell? ⟨w.heap.size + 1, 1, none⟩ = some (.int .i64 b) := by rw [hW56]; simp [go_sem, c43, c44, c45, c46, c52, c53, c54, c55]
  have c64 : W56.cell? ⟨w.heap.size + 1, 2, none⟩ = some (.int .i8 c) := by rw [hW56]; simp [go_sem, c43, c44, c45, c46, c52, c53, c54, c55]
  have c65 : W56.cell? ⟨w.heap.size + 1, 3, none⟩ = some (.int .i64 d) := by rw [hW56]; simp [go_sem, c43, c44, c45, c46, c52, c53, c54, c55]
  have l66 : w.heap.size + 1 < W56.heap.size := by rw [hW56]; simpa using l51
  rw [← hW56]
  clear hW56 uw2 c43 c44 c45 c46 c52 c53 c54 c55 l42 l51 f38 f39 f40 f41 f47 f48 f49 f50
  refine (H2.out _).mono ?_
  rintro e w3 ⟨rfl, qw3⟩
  replace qw3 := qw3.dn
  have l67 := Nat.lt_of_lt_of_le l61 qw3.size
  have c68 := qw3.cell c57
  have c69 := qw3.cell c58
  have c70 := qw3.cell c59
  have c71 := qw3.cell c60
  have l72 := Nat.lt_of_lt_of_le l66 qw3.size
  have c73 := qw3.cell c62
  have c74 := qw3.cell c63
  have c75 := qw3.cell c64
  have c76 := qw3.cell c65
  clear l61 c57 c58 c59 c60 l66 c62 c63 c64 c65
  have uw3 := uW56.trans qw3
  clear qw3 uW56
  go_wp2_with fail
  refine (HN.out _).mono ?_
  rintro e w4 ⟨rfl, qw4⟩
  replace qw4 := qw4.dn
  have l77 := Nat.lt_of_lt_of_le l67 qw4.size
  have c78 := qw4.cell c68
  have c79 := qw4.cell c69
  have c80 := qw4.cell c70
  have c81 := qw4.cell c71
  have l82 := Nat.lt_of_lt_of_le l72 qw4.size
  have c83 := qw4.cell c73
  have c84 := qw4.cell c74
  have c85 := qw4.cell c75
  have c86 := qw4.cell c76
  clear l67 c68 c69 c70 c71 l72 c73 c74 c75 c76
  have uw4 := uw3.trans qw4
  clear qw4 uw3
  go_wp2_with fail
  obtain ⟨W87, hW87⟩ : ∃ W87, W87 = w4.alloc (.cells #[.int .i8 0, .int .i64 (h + 1)] 27) := ⟨_, rfl⟩
  have uW87 : Dn w4 W87 := by rw [hW87]; exact (Dn.refl _).alloc _
  have l88 := Nat.lt_of_lt_of_le l77 uW87.size
  have c89 := uW87.cell c78
  have c90 := uW87.cell c79
  have c91 := uW87.cell c80
  have c92 := uW87.cell c81
  have l93 := Nat.lt_of_lt_of_le l82 uW87.size
  have c94 := uW87.cell c83
  have c95 := uW87.cell c84
  have c96 := uW87.cell c85
  have c97 := uW87.cell c86
  clear l77 c78 c79 c80 c81 l82 c83 c84 c85 c86
  have c98 : W87.cell? ⟨w4.heap.size, 0, none⟩ = some (.int .i8 0) := by rw [hW87]; simp [go_sem]
  have c99 : W87.cell? ⟨w4.heap.size, 1, none⟩ = some (.int .i64 (h + 1)) := by rw [hW87]; simp [go_sem]
  have l100 : w4.heap.size < W87.heap.size := by rw [hW87]; simp <;> omega
  rw [← hW87]
  clear hW87
  have vW87 := uw4.trans uW87
  clear uW87 uw4
  go_wp2_with fail
  go_ret
  exact ⟨rfl, vW87⟩
set_option maxHeartbeats 4000000 in
set_option maxRecDepth 100000 in
theorem rnTch_1ov (a b c d e f g h m n : Int) (HR : Hid (∀ W, Calls Tryd.prog 40 #[.agg #[.int .i8 a, .int .i64 b, .int .i8 c, .int .i64 d], .agg #[.int .i8 e, .int .i64 f, .int .i8 g, .int .i64 h]] W fun r w' => r = .returned (.bool true) ∧ Dn W w')) (H1 : Hid (∀ W, Calls Tryd.prog 41 #[.agg #[.int .i8 e, .int .i64 f], .agg #[.int .i8 a, .int .i64 b]] W fun r w' => r = .returned (.int .i64 m) ∧ Up W w')) (H2 : Hid (∀ W, Calls Tryd.prog 41 #[.agg #[.int .i8 a, .int .i64 b], .agg #[.int .i8 g, .int .i64 h]] W fun r w' => r = .returned (.int .i64 n) ∧ Up W w')) (h1 : m < 0) (h2 : ¬ n ≤ 0) (HN : Hid (∀ W, Calls Tryd.prog 42 #[.agg #[.int .i8 g, .int .i64 h]] W fun r w' => r = .returned (.tuple #[.agg #[.int .i8 0, .int .i64 0], .int .i64 15]) ∧ Up W w')) (w : World) :
    Calls Tryd.prog 12 #[.agg #[.int .i8 a, .int .i64 b, .int .i8 c, .int .i64 d], .agg #[.int .i8 e, .int .i64 f, .int .i8 g, .int .i64 h]] w fun ro w' => ro = .returned (.bool false) ∧ Dn w w' := by
  have t1 : decide (m < 0) = true := by simpa using h1
  have t2 : decide (n ≤ 0) = false := by simpa using h2
  clear h1 h2
  go_enter Tryd.func12, Tryd.ntmps12
  go_wp2_with fail
  obtain ⟨W1, hW1⟩ : ∃ W1, W1 = (w.alloc (.cells #[.int .i8 a, .int .i64 b, .int .i8 c, .int .i64 d] 29)).alloc (.cells #[.int .i8 e, .int .i64 f, .int .i8 g, .int .i64 h] 29) := ⟨_, rfl⟩
  have uW1 : Dn w W1 := by rw [hW1]; exact ((Dn.refl _).alloc _).alloc _
  have c2 : W1.cell? ⟨w.heap.size, 0, none⟩ = some (.int .i8 a) := by rw [hW1]; simp [go_sem]
  have c3 : W1.cell? ⟨w.heap.size, 1, none⟩ = some (.int .i64 b) := by rw [hW1]; simp [go_sem]
  have c4 : W1.cell? ⟨w.heap.size, 2, none⟩ = some (.int .i8 c) := by rw [hW1]; simp [go_sem]
  have c5 : W1.cell? ⟨w.heap.size, 3, none⟩ = some (.int .i64 d) := by rw [hW1]; simp [go_sem]
  have l6 : w.heap.size < W1.heap.size := by rw [hW1]; simp <;> omega
  have f7 : W1.frozen? ⟨w.heap.size, 0, none⟩ = false := by rw [hW1]; simp [go_sem]
  have f8 : W1.frozen? ⟨w.heap.size, 1, none⟩ = false := by rw [hW1]; simp [go_sem]
  have f9 : W1.frozen? ⟨w.heap.size, 2, none⟩ = false := by rw [hW1]; simp [go_sem]
  have f10 : W1.frozen? ⟨w.heap.size, 3, none⟩ = false := by rw [hW1]; simp [go_sem]
  have c11 : W1.cell? ⟨w.heap.size + 1, 0, none⟩ = some (.int .i8 e) := by rw [hW1]; simp [go_sem]
  have c12 : W1.cell? ⟨w.heap.size + 1, 1, none⟩ = some (.int .i64 f) := by rw [hW1]; simp [go_sem]
  have c13 : W1.cell? ⟨w.heap.size + 1, 2, none⟩ = some (.int .i8 g) := by rw [hW1]; simp [go_sem]
  have c14 : W1.cell? ⟨w.heap.size + 1, 3, none⟩ = some (.int .i64 h) := by rw [hW1]; simp [go_sem]
  have l15 : w.heap.size + 1 < W1.heap.size := by rw [hW1]; simp <;> omega
  have f16 : W1.frozen? ⟨w.heap.size + 1, 0, none⟩ = false := by rw [hW1]; simp [go_sem]
  have f17 : W1.frozen? ⟨w.heap.size + 1, 1, none⟩ = false := by rw [hW1]; simp [go_sem]
  have f18 : W1.frozen? ⟨w.heap.size + 1, 2, none⟩ = false := by rw [hW1]; simp [go_sem]
  have f19 : W1.frozen? ⟨w.heap.size + 1, 3, none⟩ = false := by rw [hW1]; simp [go_sem]
  rw [← hW1]
  clear hW1
  refine (HR.out _).mono ?_
  rintro e w1 ⟨rfl, qw1⟩
  have f20 := (qw1.frozen (a := ⟨w.heap.size, 0, none⟩) l6).trans f7
  have f21 := (qw1.frozen (a := ⟨w.heap.size, 1, none⟩) l6).trans f8
  have f22 := (qw1.frozen (a := ⟨w.heap.size, 2, none⟩) l6).trans f9
  have f23 := (qw1.frozen (a := ⟨w.heap.size, 3, none⟩) l6).trans f10
  have l24 := Nat.lt_of_lt_of_le l6 qw1.size
  have c25 := qw1.cell c2
  have c26 := qw1.cell c3
  have c27 := qw1.cell c4
  have c28 := qw1.cell c5
  have f29 := (qw1.frozen (a := ⟨w.heap.size + 1, 0, none⟩) l15).trans f16
  have f30 := (qw1.frozen (a := ⟨w.heap.size + 1, 1, none⟩) l15).trans f17
  have f31 := (qw1.frozen (a := ⟨w.heap.size + 1, 2, none⟩) l15).trans f18
  have f32 := (qw1.frozen (a := ⟨w.heap.size + 1, 3, none⟩) l15).trans f19
  have l33 := Nat.lt_of_lt_of_le l15 qw1.size
  have c34 := qw1.cell c11
  have c35 := qw1.cell c12
  have c36 := qw1.cell c13
  have c37 := qw1.cell c14
  clear f7 f8 f9 f10 l6 c2 c3 c4 c5 f16 f17 f18 f19 l15 c11 c12 c13 c14
  have uw1 := uW1.trans qw1
  clear qw1 uW1
  go_wp2_with fail
  refine (H1.out _).mono ?_
  rintro e w2 ⟨rfl, qw2⟩
  replace qw2 := qw2.dn
  have f38 := (qw2.frozen (a := ⟨w.heap.size, 0, none⟩) l24).trans f20
  have f39 := (qw2.frozen (a := ⟨w.heap.size, 1, none⟩) l24).trans f21
  have f40 := (qw2.frozen (a := ⟨w.heap.size, 2, none⟩) l24).trans f22
  have f41 := (qw2.frozen (a := ⟨w.heap.size, 3, none⟩) l24).trans f23
  have l42 := Nat.lt_of_lt_of_le l24 qw2.size
  have c43 := qw2.cell c25
  have c44 := qw2.cell c26
  have c45 := qw2.cell c27
  have c46 := qw2.cell c28
  have f47 := (qw2.frozen (a := ⟨w.heap.size + 1, 0, none⟩) l33).trans f29
  have f48 := (qw2.frozen (a := ⟨w.heap.size + 1, 1, none⟩) l33).trans f30
  have f49 := (qw2.frozen (a := ⟨w.heap.size + 1, 2, none⟩) l33).trans f31
  have f50 := (qw2.frozen (a := ⟨w.heap.size + 1, 3, none⟩) l33).trans f32
  have l51 := Nat.lt_of_lt_of_le l33 qw2.size
  have c52 := qw2.cell c34
  have c53 := qw2.cell c35
  have c54 := qw2.cell c36
  have c55 := qw2.cell c37
  clear f20 f21 f22 f23 l24 c25 c26 c27 c28 f29 f30 f31 f32 l33 c34 c35 c36 c37
  have uw2 := uw1.trans qw2
  clear qw2 uw1
  go_wp2_with fail
  obtain ⟨W56, hW56⟩ : ∃ W56, W56 = (((((((w2.setCell ⟨w.heap.size, 0, none⟩ (.int .i8 e)).setCell ⟨w.heap.size, 1, none⟩ (.int .i64 f)).setCell ⟨w.heap.size, 2, none⟩ (.int .i8 g)).setCell ⟨w.heap.size, 3, none⟩ (.int .i64 h)).setCell ⟨w.heap.size + 1, 0, none⟩ (.int .i8 a)).setCell ⟨w.heap.size + 1, 1, none⟩ (.int .i64 b)).setCell ⟨w.heap.size + 1, 2, none⟩ (.int .i8 c)).setCell ⟨w.heap.size + 1, 3, none⟩ (.int .i64 d) := ⟨_, rfl⟩
  have uW56 : Dn w W56 := by rw [hW56]; exact ((((((((uw2.setCell (by simp <;> omega) _).setCell (by simp <;> omega) _).setCell (by simp <;> omega) _).setCell (by simp <;> omega) _).setCell (by simp <;> omega) _).setCell (by simp <;> omega) _).setCell (by simp <;> omega) _).setCell (by simp <;> omega) _)
  have c57 : W56.cell? ⟨w.heap.size, 0, none⟩ = some (.int .i8 e) := by rw [hW56]; simp [go_sem, c43, c44, c45, c46, c52, c53, c54, c55]
  have c58 : W56.cell? ⟨w.heap.size, 1, none⟩ = some (.int .i64 f) := by rw [hW56]; simp [go_sem, c43, c44, c45, c46, c52, c53, c54, c55]
  have c59 : W56.cell? ⟨w.heap.size, 2, none⟩ = some (.int .i8 g) := by rw [hW56]; simp [go_sem, c43, c44, c45, c46, c52, c53, c54, c55]
  have c60 : W56.cell? ⟨w.heap.size, 3, none⟩ = some (.int .i64 h) := by rw [hW56]; simp [go_sem, c43, c44, c45, c46, c52, c53, c54, c55]
  have l61 : w.heap.size < W56.heap.size := by rw [hW56]; simpa using l42
  have c62 : W56.cell? ⟨w.heap.size + 1, 0, none⟩ = some (.int .i8 a) := by rw [hW56]; simp [go_sem, c43, c44, c45, c46, c52, c53, c54, c55]
  have c63 : W56.cell? ⟨w.heap.size + 1, 1, none⟩ = some (.int .i64 b) := by rw [hW56]; simp [go_sem, c43, c44, c45, c46, c52, c53, c54, c55]
  have c64 : W56.cell? ⟨w.heap.size + 1, 2, none⟩ = some (.int .i8 c) := by rw [hW56]; simp [go_sem, c43, c44, c45, c46, c52, c53, c54, c55]
  have c65 : W56.cell? ⟨w.heap.size + 1, 3, none⟩ = some (.int .i64 d) := by rw [hW56]; simp [go_sem, c43, c44, c45, c46, c52, c53, c54, c55]
  have l66 : w.heap.size + 1 < W56.heap.size := by rw [hW56]; simpa using l51
  rw [← hW56]
  clear hW56 uw2 c43 c44 c45 c46 c52 c53 c54 c55 l42 l51 f38 f39 f40 f41 f47 f48 f49 f50
  refine (H2.out _).mono ?_
  rintro e w3 ⟨rfl, qw3⟩
  replace qw3 := qw3.dn
  have l67 := Nat.lt_of_lt_of_le l61 qw3.size
  have c68 := qw3.cell c57
  have c69 := qw3.cell c58
  have c70 := qw3.cell c59
  have c71 := qw3.cell c60
  have l72 := Nat.lt_of_lt_of_le l66 qw3.size
  have c73 := qw3.cell c62
  have c74 := qw3.cell c63
  have c75 := qw3.cell c64
  have c76 := qw3.cell c65
  clear l61 c57 c58 c59 c60 l66 c62 c63 c64 c65
  have uw3 := uW56.trans qw3
  clear qw3 uW56
  go_wp2_with fail
  refine (HN.out _).mono ?_
  rintro e w4 ⟨rfl, qw4⟩
  replace qw4 := qw4.dn
  have l77 := Nat.lt_of_lt_of_le l67 qw4.size
  have c78 := qw4.cell c68
  have c79 := qw4.cell c69
  have c80 := qw4.cell c70
  have c81 := qw4.cell c71
  have l82 := Nat.lt_of_lt_of_le l72 qw4.size
  have c83 := qw4.cell c73
  have c84 := qw4.cell c74
  have c85 := qw4.cell c75
  have c86 := qw4.cell c76
  clear l67 c68 c69 c70 c71 l72 c73 c74 c75 c76
  have uw4 := uw3.trans qw4
  clear qw4 uw3
  go_wp2_with fail
  obtain ⟨W87, hW87⟩ : ∃ W87, W87 = w4.alloc (.cells #[.int .i8 0, .int .i64 0] 27) := ⟨_, rfl⟩
  have uW87 : Dn w4 W87 := by rw [hW87]; exact (Dn.refl _).alloc _
  have l88 := Nat.lt_of_lt_of_le l77 uW87.size
  have c89 := uW87.cell c78
  have c90 := uW87.cell c79
  have c91 := uW87.cell c80
  have c92 := uW87.cell c81
  have l93 := Nat.lt_of_lt_of_le l82 uW87.size
  have c94 := uW87.cell c83
  have c95 := uW87.cell c84
  have c96 := uW87.cell c85
  have c97 := uW87.cell c86
  clear l77 c78 c79 c80 c81 l82 c83 c84 c85 c86
  have c98 : W87.cell? ⟨w4.heap.size, 0, none⟩ = some (.int .i8 0) := by rw [hW87]; simp [go_sem]
  have c99 : W87.cell? ⟨w4.heap.size, 1, none⟩ = some (.int .i64 0) := by rw [hW87]; simp [go_sem]
  have l100 : w4.heap.size < W87.heap.size := by rw [hW87]; simp <;> omega
  rw [← hW87]
  clear hW87
  have vW87 := uw4.trans uW87
  clear uW87 uw4
  go_wp2_with fail
  go_ret
  exact ⟨rfl, vW87⟩
end Go.Proofs.YtcdkeiolblifkaaDoor
