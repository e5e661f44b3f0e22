/-
  WALKS OF circalaw06: CivilsOf. (Printed by wip/gen/civ8.py.)
-/
import Derived.Test.YtopbbcbpanfigaaGreatDoorCivF
import Derived.Test.YtopbbcbpanfigaaGreatDoorCivH
namespace Go.Proofs.YtopbbcbpanfigaaGreatDoor
open Go.RowKit
set_option linter.unusedVariables false
set_option linter.unusedSimpArgs false
theorem kdVk_3 {W w1 w2 : World} {a0 a1 a2 : Addr} {v0 v1 v2 : Value} (k : Dn w1 w2) (h : Dn W w1 ∧ w1.cell? a0 = some v0 ∧ w1.cell? a1 = some v1 ∧ w1.cell? a2 = some v2) :
    Dn W w2 ∧ w2.cell? a0 = some v0 ∧ w2.cell? a1 = some v1 ∧ w2.cell? a2 = some v2 := by
  obtain ⟨h1, c0, c1, c2⟩ := h
  exact ⟨h1.trans k, k.cell c0, k.cell c1, k.cell c2⟩
set_option maxHeartbeats 16000000 in
set_option maxRecDepth 100000 in
theorem of6_n1 (day other Wd : Int) (d1 : -9223372036854775808 ≤ day) (d2 : day ≤ 9223372036854775807) (w0 : 0 ≤ Wd) (w6 : Wd ≤ 6) (yy : Int) (h : day < 9223372036854775807) (HO : Hid (∀ W, EnvC W → Calls Tryz.prog 16 #[.int .i64 day] W fun o w' => o = .returned (.tuple #[.agg #[.int .i64 0, .int .i64 0, .int .i64 0], .int .i64 6]) ∧ Dn W w')) (HW : Hid (∀ W, Calls Tryz.prog 28 #[.int .i64 day] W fun o w' => o = .returned (.int .i64 Wd) ∧ Dn W w')) (HRW : Hid (∀ W, Calls Tryz.prog 29 #[.int .i64 day] W fun o w' => o = .returned (.int .i64 Wd) ∧ Dn W w')) (HW1 : Hid (∀ W, Calls Tryz.prog 28 #[.int .i64 (day + 1)] W fun o w' => o = .returned (.int .i64 ((Wd + 1) % 7)) ∧ Dn W w')) (HR4 : Hid (∀ W, Calls Tryz.prog 30 #[.int .i64 day] W fun o w' => o = .returned (.tuple #[.int .i64 yy, .bool false]) ∧ Dn W w')) (w : World) (hE : EnvC w) :
    Calls Tryz.prog 7 #[.int .i64 day, .int .i64 other] w fun ro w' => ro = .returned (.bool true) ∧ Dn w w' := by
  have t1 : decide (day < 9223372036854775807) = true := by simpa using h
  go_enter Tryz.func7, Tryz.ntmps7
  go_wp2_with fail
  refine (HO.out _ hE).mono ?_
  rintro e w1 ⟨rfl, qw1⟩
  have uw1 := qw1
  clear qw1
  go_wp2_with fail
  obtain ⟨W1, hW1⟩ : ∃ W1, W1 = w1.alloc (.cells #[.int .i64 0, .int .i64 0, .int .i64 0] 23) := ⟨_, rfl⟩
  have uW1 : Dn w1 W1 := by rw [hW1]; exact (Dn.refl _).alloc _
  have c2 : W1.cell? ⟨w1.heap.size, 0, none⟩ = some (.int .i64 0) := by rw [hW1]; simp [go_sem]
  have c3 : W1.cell? ⟨w1.heap.size, 1, none⟩ = some (.int .i64 0) := by rw [hW1]; simp [go_sem]
  have c4 : W1.cell? ⟨w1.heap.size, 2, none⟩ = some (.int .i64 0) := by rw [hW1]; simp [go_sem]
  have l5 : w1.heap.size < W1.heap.size := by rw [hW1]; simp <;> omega
  rw [← hW1]
  clear hW1
  have vW1 := uw1.trans uW1
  clear uW1 uw1
  refine (HW.out _).mono ?_
  rintro e w2 ⟨rfl, qw2⟩
  have l6 := Nat.lt_of_lt_of_le l5 qw2.size
  have c7 := qw2.cell c2
  have c8 := qw2.cell c3
  have c9 := qw2.cell c4
  clear l5 c2 c3 c4
  have uw2 := vW1.trans qw2
  clear qw2 vW1
  go_wp2_with fail
  refine (HRW.out _).mono ?_
  rintro e w3 ⟨rfl, qw3⟩
  have l10 := Nat.lt_of_lt_of_le l6 qw3.size
  have c11 := qw3.cell c7
  have c12 := qw3.cell c8
  have c13 := qw3.cell c9
  clear l6 c7 c8 c9
  have uw3 := uw2.trans qw3
  clear qw3 uw2
  go_wp2_with fail
  refine (HW1.out _).mono ?_
  rintro e w4 ⟨rfl, qw4⟩
  have l14 := Nat.lt_of_lt_of_le l10 qw4.size
  have c15 := qw4.cell c11
  have c16 := qw4.cell c12
  have c17 := qw4.cell c13
  clear l10 c11 c12 c13
  have uw4 := uw3.trans qw4
  clear qw4 uw3
  go_wp2_with fail
  refine (HR4.out _).mono ?_
  rintro e w5 ⟨rfl, qw5⟩
  have l18 := Nat.lt_of_lt_of_le l14 qw5.size
  have c19 := qw5.cell c15
  have c20 := qw5.cell c16
  have c21 := qw5.cell c17
  clear l14 c15 c16 c17
  have uw5 := uw4.trans qw5
  clear qw5 uw4
  go_wp2_with fail
  have hS22 := kdVk_3 (W := w5) (Dn.refl _) ⟨Dn.refl _, c19, c20, c21⟩
  have HShS22 := Lib.hid hS22
  clear c19 c20 c21
  go_region_held3 (fun w' => Dn w5 w' ∧ w'.cell? ⟨w1.heap.size, 0, none⟩ = some (.int .i64 0) ∧ w'.cell? ⟨w1.heap.size, 1, none⟩ = some (.int .i64 0) ∧ w'.cell? ⟨w1.heap.size, 2, none⟩ = some (.int .i64 0))
    (first | exact kdVk_3 ((Dn.refl _).drew) hS22 | exact kdVk_3 ‹Dn _ _› ‹_› | exact kdVk_3 (Up.dn ‹Up _ _›) ‹_› | assumption | exact kdVk_3 ((Dn.refl _).alloc _) ‹_›)
    (first
      | (go_at_call 25; refine (cl6 _ _ _ _).mono ?_; rintro e wa ⟨rfl, qa⟩)
      | (go_at_call 19; refine (g6_any _ _ _ _ _ _ _ _ _ ?_).mono ?_; (first | exact Or.inl ⟨rfl, rfl, rfl, rfl, rfl⟩ | exact Or.inr ⟨by decide, rfl, rfl, rfl, rfl⟩); rintro e wa ⟨rfl, qa⟩)
      | (go_at_call 14; refine (lives6 _ (hE.dn (Dn.trans uw5 (‹Dn w5 _ ∧ _› : _ ∧ _).1))).mono ?_; rintro e wa ⟨rfl, qa⟩))
  all_goals
    clear hS22
    obtain ⟨uf26, c23, c24, c25⟩ := (‹Dn w5 _ ∧ _› : _ ∧ _)
    obtain ⟨w27, rfl⟩ : ∃ w27 : World, w27 = wa := ⟨_, rfl⟩
    have l28 := Nat.lt_of_lt_of_le l18 uf26.size
    clear l18
    have vuf26 := uw5.trans uf26
    clear uf26 uw5 HShS22
    go_wp2_with fail
    go_ret
    exact ⟨retb (by simp), vuf26⟩
set_option maxHeartbeats 16000000 in
set_option maxRecDepth 100000 in
theorem of6_n0 (day other Wd : Int) (d1 : -9223372036854775808 ≤ day) (d2 : day ≤ 9223372036854775807) (w0 : 0 ≤ Wd) (w6 : Wd ≤ 6) (yy : Int) (h : ¬ day < 9223372036854775807) (HO : Hid (∀ W, EnvC W → Calls Tryz.prog 16 #[.int .i64 day] W fun o w' => o = .returned (.tuple #[.agg #[.int .i64 0, .int .i64 0, .int .i64 0], .int .i64 6]) ∧ Dn W w')) (HW : Hid (∀ W, Calls Tryz.prog 28 #[.int .i64 day] W fun o w' => o = .returned (.int .i64 Wd) ∧ Dn W w')) (HRW : Hid (∀ W, Calls Tryz.prog 29 #[.int .i64 day] W fun o w' => o = .returned (.int .i64 Wd) ∧ Dn W w')) (HR4 : Hid (∀ W, Calls Tryz.prog 30 #[.int .i64 day] W fun o w' => o = .returned (.tuple #[.int .i64 yy, .bool false]) ∧ Dn W w')) (w : World) (hE : EnvC w) :
    Calls Tryz.prog 7 #[.int .i64 day, .int .i64 other] w fun ro w' => ro = .returned (.bool true) ∧ Dn w w' := by
  have t1 : decide (day < 9223372036854775807) = false := by simpa using h
  clear h
  go_enter Tryz.func7, Tryz.ntmps7
  go_wp2_with fail
  refine (HO.out _ hE).mono ?_
  rintro e w1 ⟨rfl, qw1⟩
  have uw1 := qw1
  clear qw1
  go_wp2_with fail
  obtain ⟨W1, hW1⟩ : ∃ W1, W1 = w1.alloc (.cells #[.int .i64 0, .int .i64 0, .int .i64 0] 23) := ⟨_, rfl⟩
  have uW1 : Dn w1 W1 := by rw [hW1]; exact (Dn.refl _).alloc _
  have c2 : W1.cell? ⟨w1.heap.size, 0, none⟩ = some (.int .i64 0) := by rw [hW1]; simp [go_sem]
  have c3 : W1.cell? ⟨w1.heap.size, 1, none⟩ = some (.int .i64 0) := by rw [hW1]; simp [go_sem]
  have c4 : W1.cell? ⟨w1.heap.size, 2, none⟩ = some (.int .i64 0) := by rw [hW1]; simp [go_sem]
  have l5 : w1.heap.size < W1.heap.size := by rw [hW1]; simp <;> omega
  rw [← hW1]
  clear hW1
  have vW1 := uw1.trans uW1
  clear uW1 uw1
  refine (HW.out _).mono ?_
  rintro e w2 ⟨rfl, qw2⟩
  have l6 := Nat.lt_of_lt_of_le l5 qw2.size
  have c7 := qw2.cell c2
  have c8 := qw2.cell c3
  have c9 := qw2.cell c4
  clear l5 c2 c3 c4
  have uw2 := vW1.trans qw2
  clear qw2 vW1
  go_wp2_with fail
  refine (HRW.out _).mono ?_
  rintro e w3 ⟨rfl, qw3⟩
  have l10 := Nat.lt_of_lt_of_le l6 qw3.size
  have c11 := qw3.cell c7
  have c12 := qw3.cell c8
  have c13 := qw3.cell c9
  clear l6 c7 c8 c9
  have uw3 := uw2.trans qw3
  clear qw3 uw2
  go_wp2_with fail
  refine (HR4.out _).mono ?_
  rintro e w4 ⟨rfl, qw4⟩
  have l14 := Nat.lt_of_lt_of_le l10 qw4.size
  have c15 := qw4.cell c11
  have c16 := qw4.cell c12
  have c17 := qw4.cell c13
  clear l10 c11 c12 c13
  have uw4 := uw3.trans qw4
  clear qw4 uw3
  go_wp2_with fail
  have hS18 := kdVk_3 (W := w4) (Dn.refl _) ⟨Dn.refl _, c15, c16, c17⟩
  have HShS18 := Lib.hid hS18
  clear c15 c16 c17
  go_region_held3 (fun w' => Dn w4 w' ∧ w'.cell? ⟨w1.heap.size, 0, none⟩ = some (.int .i64 0) ∧ w'.cell? ⟨w1.heap.size, 1, none⟩ = some (.int .i64 0) ∧ w'.cell? ⟨w1.heap.size, 2, none⟩ = some (.int .i64 0))
    (first | exact kdVk_3 ((Dn.refl _).drew) hS18 | exact kdVk_3 ‹Dn _ _› ‹_› | exact kdVk_3 (Up.dn ‹Up _ _›) ‹_› | assumption | exact kdVk_3 ((Dn.refl _).alloc _) ‹_›)
    (first
      | (go_at_call 25; refine (cl6 _ _ _ _).mono ?_; rintro e wa ⟨rfl, qa⟩)
      | (go_at_call 19; refine (g6_any _ _ _ _ _ _ _ _ _ ?_).mono ?_; (first | exact Or.inl ⟨rfl, rfl, rfl, rfl, rfl⟩ | exact Or.inr ⟨by decide, rfl, rfl, rfl, rfl⟩); rintro e wa ⟨rfl, qa⟩)
      | (go_at_call 14; refine (lives6 _ (hE.dn (Dn.trans uw4 (‹Dn w4 _ ∧ _› : _ ∧ _).1))).mono ?_; rintro e wa ⟨rfl, qa⟩))
  all_goals
    clear hS18
    obtain ⟨uf22, c19, c20, c21⟩ := (‹Dn w4 _ ∧ _› : _ ∧ _)
    obtain ⟨w23, rfl⟩ : ∃ w23 : World, w23 = wa := ⟨_, rfl⟩
    have l24 := Nat.lt_of_lt_of_le l14 uf22.size
    clear l14
    have vuf22 := uw4.trans uf22
    clear uf22 uw4 HShS18
    go_wp2_with fail
    go_ret
    exact ⟨retb (by simp), vuf22⟩
set_option maxHeartbeats 16000000 in
set_option maxRecDepth 100000 in
theorem of6_no (day other Wd : Int) (d1 : -9223372036854775808 ≤ day) (d2 : day ≤ 9223372036854775807) (w0 : 0 ≤ Wd) (w6 : Wd ≤ 6) (y m d z n f : Int) (h : day < 9223372036854775807)  (HC : Hid (cErr y m d = 0)) (HO : Hid (∀ W, EnvC W → Calls Tryz.prog 16 #[.int .i64 day] W fun o w' => o = .returned (.tuple #[.agg #[.int .i64 y, .int .i64 m, .int .i64 d], .int .i64 0]) ∧ Dn W w')) (HW : Hid (∀ W, Calls Tryz.prog 28 #[.int .i64 day] W fun o w' => o = .returned (.int .i64 Wd) ∧ Dn W w')) (HRW : Hid (∀ W, Calls Tryz.prog 29 #[.int .i64 day] W fun o w' => o = .returned (.int .i64 Wd) ∧ Dn W w')) (HW1 : Hid (∀ W, Calls Tryz.prog 28 #[.int .i64 (day + 1)] W fun o w' => o = .returned (.int .i64 ((Wd + 1) % 7)) ∧ Dn W w')) (HR4 : Hid (∀ W, Calls Tryz.prog 30 #[.int .i64 day] W fun o w' => o = .returned (.tuple #[.int .i64 y, .bool true]) ∧ Dn W w')) (HR6 : Hid (∀ W, Calls Tryz.prog 31 #[.int .i64 day] W fun o w' => o = .returned (.agg #[.int .i64 y, .int .i64 m, .int .i64 d]) ∧ Dn W w')) (HO2 : Hid (∀ W, EnvC W → Calls Tryz.prog 16 #[.int .i64 other] W fun o w' => o = .returned (.tuple #[.agg #[.int .i64 0, .int .i64 0, .int .i64 0], .int .i64 6]) ∧ Dn W w')) (w : World) (hE : EnvC w) :
    Calls Tryz.prog 7 #[.int .i64 day, .int .i64 other] w fun ro w' => ro = .returned (.bool true) ∧ Dn w w' := by
  have t1 : decide (day < 9223372036854775807) = true := by simpa using h
  go_enter Tryz.func7, Tryz.ntmps7
  go_wp2_with fail
  refine (HO.out _ hE).mono ?_
  rintro e w1 ⟨rfl, qw1⟩
  have uw1 := qw1
  clear qw1
  go_wp2_with fail
  obtain ⟨W1, hW1⟩ : ∃ W1, W1 = w1.alloc (.cells #[.int .i64 y, .int .i64 m, .int .i64 d] 23) := ⟨_, rfl⟩
  have uW1 : Dn w1 W1 := by rw [hW1]; exact (Dn.refl _).alloc _
  have c2 : W1.cell? ⟨w1.heap.size, 0, none⟩ = some (.int .i64 y) := by rw [hW1]; simp [go_sem]
  have c3 : W1.cell? ⟨w1.heap.size, 1, none⟩ = some (.int .i64 m) := by rw [hW1]; simp [go_sem]
  have c4 : W1.cell? ⟨w1.heap.size, 2, none⟩ = some (.int .i64 d) := by rw [hW1]; simp [go_sem]
  have l5 : w1.heap.size < W1.heap.size := by rw [hW1]; simp <;> omega
  rw [← hW1]
  clear hW1
  have vW1 := uw1.trans uW1
  clear uW1 uw1
  refine (HW.out _).mono ?_
  rintro e w2 ⟨rfl, qw2⟩
  have l6 := Nat.lt_of_lt_of_le l5 qw2.size
  have c7 := qw2.cell c2
  have c8 := qw2.cell c3
  have c9 := qw2.cell c4
  clear l5 c2 c3 c4
  have uw2 := vW1.trans qw2
  clear qw2 vW1
  go_wp2_with fail
  refine (HRW.out _).mono ?_
  rintro e w3 ⟨rfl, qw3⟩
  have l10 := Nat.lt_of_lt_of_le l6 qw3.size
  have c11 := qw3.cell c7
  have c12 := qw3.cell c8
  have c13 := qw3.cell c9
  clear l6 c7 c8 c9
  have uw3 := uw2.trans qw3
  clear qw3 uw2
  go_wp2_with fail
  refine (HW1.out _).mono ?_
  rintro e w4 ⟨rfl, qw4⟩
  have l14 := Nat.lt_of_lt_of_le l10 qw4.size
  have c15 := qw4.cell c11
  have c16 := qw4.cell c12
  have c17 := qw4.cell c13
  clear l10 c11 c12 c13
  have uw4 := uw3.trans qw4
  clear qw4 uw3
  go_wp2_with fail
  refine (HR4.out _).mono ?_
  rintro e w5 ⟨rfl, qw5⟩
  have l18 := Nat.lt_of_lt_of_le l14 qw5.size
  have c19 := qw5.cell c15
  have c20 := qw5.cell c16
  have c21 := qw5.cell c17
  clear l14 c15 c16 c17
  have uw5 := uw4.trans qw5
  clear qw5 uw4
  go_wp2_with fail
  have hS22 := kdVk_3 (W := w5) (Dn.refl _) ⟨Dn.refl _, c19, c20, c21⟩
  have HShS22 := Lib.hid hS22
  clear c19 c20 c21
  go_region_held3 (fun w' => Dn w5 w' ∧ w'.cell? ⟨w1.heap.size, 0, none⟩ = some (.int .i64 y) ∧ w'.cell? ⟨w1.heap.size, 1, none⟩ = some (.int .i64 m) ∧ w'.cell? ⟨w1.heap.size, 2, none⟩ = some (.int .i64 d))
    (first | exact kdVk_3 ((Dn.refl _).drew) hS22 | exact kdVk_3 ‹Dn _ _› ‹_› | exact kdVk_3 (Up.dn ‹Up _ _›) ‹_› | assumption | exact kdVk_3 ((Dn.refl _).alloc _) ‹_›)
    (first
      | (go_at_call 31; refine (HR6.out _).mono ?_; rintro e wa ⟨rfl, qa⟩)
      | (go_at_call 19; refine (g6_any _ _ _ _ _ _ _ _ _ ?_).mono ?_; (first | exact Or.inl ⟨rfl, rfl, rfl, rfl, rfl⟩ | exact Or.inr ⟨by decide, rfl, rfl, rfl, rfl⟩); rintro e wa ⟨rfl, qa⟩)
      | (go_at_call 13; refine (cvChk _ _ _ 0 _ (hE.dn (Dn.trans uw5 (‹Dn w5 _ ∧ _› : _ ∧ _).1)) HC.out).mono ?_; rintro e wa ⟨rfl, qa⟩))
  all_goals
    clear hS22
    obtain ⟨uf26, c23, c24, c25⟩ := (‹Dn w5 _ ∧ _› : _ ∧ _)
    obtain ⟨w27, rfl⟩ : ∃ w27 : World, w27 = wa := ⟨_, rfl⟩
    have l28 := Nat.lt_of_lt_of_le l18 uf26.size
    clear l18
    have vuf26 := uw5.trans uf26
    clear uf26 uw5 HShS22
    go_wp2_with fail
    refine (HO2.out _ (hE.dn vuf26)).mono ?_
    rintro e w6 ⟨rfl, qw6⟩
    have l29 := Nat.lt_of_lt_of_le l28 qw6.size
    have c30 := qw6.cell c23
    have c31 := qw6.cell c24
    have c32 := qw6.cell c25
    clear l28 c23 c24 c25
    have uw6 := vuf26.trans qw6
    clear qw6 vuf26
    go_wp2_with fail
    obtain ⟨W33, hW33⟩ : ∃ W33, W33 = w6.alloc (.cells #[.int .i64 0, .int .i64 0, .int .i64 0] 23) := ⟨_, rfl⟩
    have uW33 : Dn w6 W33 := by rw [hW33]; exact (Dn.refl _).alloc _
    have l34 := Nat.lt_of_lt_of_le l29 uW33.size
    have c35 := uW33.cell c30
    have c36 := uW33.cell c31
    have c37 := uW33.cell c32
    clear l29 c30 c31 c32
    have c38 : W33.cell? ⟨w6.heap.size, 0, none⟩ = some (.int .i64 0) := by rw [hW33]; simp [go_sem]
    have c39 : W33.cell? ⟨w6.heap.size, 1, none⟩ = some (.int .i64 0) := by rw [hW33]; simp [go_sem]
    have c40 : W33.cell? ⟨w6.heap.size, 2, none⟩ = some (.int .i64 0) := by rw [hW33]; simp [go_sem]
    have l41 : w6.heap.size < W33.heap.size := by rw [hW33]; simp <;> omega
    rw [← hW33]
    clear hW33
    have vW33 := uw6.trans uW33
    clear uW33 uw6
    refine (lives6 _ (hE.dn vW33)).mono ?_
    rintro e w7 ⟨rfl, qw7⟩
    have l42 := Nat.lt_of_lt_of_le l34 qw7.size
    have c43 := qw7.cell c35
    have c44 := qw7.cell c36
    have c45 := qw7.cell c37
    have l46 := Nat.lt_of_lt_of_le l41 qw7.size
    have c47 := qw7.cell c38
    have c48 := qw7.cell c39
    have c49 := qw7.cell c40
    clear l34 c35 c36 c37 l41 c38 c39 c40
    have uw7 := vW33.trans qw7
    clear qw7 vW33
    go_wp2_with fail
    go_ret
    exact ⟨rfl, uw7⟩
set_option maxHeartbeats 16000000 in
set_option maxRecDepth 100000 in
theorem of6_lt (day other Wd : Int) (d1 : -9223372036854775808 ≤ day) (d2 : day ≤ 9223372036854775807) (w0 : 0 ≤ Wd) (w6 : Wd ≤ 6) (y m d z n f : Int) (h : day < 9223372036854775807) (h2 : day < other) (HC : Hid (cErr y m d = 0)) (HO : Hid (∀ W, EnvC W → Calls Tryz.prog 16 #[.int .i64 day] W fun o w' => o = .returned (.tuple #[.agg #[.int .i64 y, .int .i64 m, .int .i64 d], .int .i64 0]) ∧ Dn W w')) (HW : Hid (∀ W, Calls Tryz.prog 28 #[.int .i64 day] W fun o w' => o = .returned (.int .i64 Wd) ∧ Dn W w')) (HRW : Hid (∀ W, Calls Tryz.prog 29 #[.int .i64 day] W fun o w' => o = .returned (.int .i64 Wd) ∧ Dn W w')) (HW1 : Hid (∀ W, Calls Tryz.prog 28 #[.int .i64 (day + 1)] W fun o w' => o = .returned (.int .i64 ((Wd + 1) % 7)) ∧ Dn W w')) (HR4 : Hid (∀ W, Calls Tryz.prog 30 #[.int .i64 day] W fun o w' => o = .returned (.tuple #[.int .i64 y, .bool true]) ∧ Dn W w')) (HR6 : Hid (∀ W, Calls Tryz.prog 31 #[.int .i64 day] W fun o w' => o = .returned (.agg #[.int .i64 y, .int .i64 m, .int .i64 d]) ∧ Dn W w')) (HO2 : Hid (∀ W, EnvC W → Calls Tryz.prog 16 #[.int .i64 other] W fun o w' => o = .returned (.tuple #[.agg #[.int .i64 z, .int .i64 n, .int .i64 f], .int .i64 0]) ∧ Dn W w')) (HCm : Hid (∀ W, Calls Tryz.prog 32 #[.agg #[.int .i64 y, .int .i64 m, .int .i64 d], .agg #[.int .i64 z, .int .i64 n, .int .i64 f]] W fun o w' => o = .returned (.int .i64 (-1)) ∧ Dn W w')) (w : World) (hE : EnvC w) :
    Calls Tryz.prog 7 #[.int .i64 day, .int .i64 other] w fun ro w' => ro = .returned (.bool true) ∧ Dn w w' := by
  have t1 : decide (day < 9223372036854775807) = true := by simpa using h
  have t2 : decide (day < other) = true := by simpa using h2
  have t3 : decide (other < day) = false := by simp; omega
  clear h2
  go_enter Tryz.func7, Tryz.ntmps7
  go_wp2_with fail
  refine (HO.out _ hE).mono ?_
  rintro e w1 ⟨rfl, qw1⟩
  have uw1 := qw1
  clear qw1
  go_wp2_with fail
  obtain ⟨W1, hW1⟩ : ∃ W1, W1 = w1.alloc (.cells #[.int .i64 y, .int .i64 m, .int .i64 d] 23) := ⟨_, rfl⟩
  have uW1 : Dn w1 W1 := by rw [hW1]; exact (Dn.refl _).alloc _
  have c2 : W1.cell? ⟨w1.heap.size, 0, none⟩ = some (.int .i64 y) := by rw [hW1]; simp [go_sem]
  have c3 : W1.cell? ⟨w1.heap.size, 1, none⟩ = some (.int .i64 m) := by rw [hW1]; simp [go_sem]
  have c4 : W1.cell? ⟨w1.heap.size, 2, none⟩ = some (.int .i64 d) := by rw [hW1]; simp [go_sem]
  have l5 : w1.heap.size < W1.heap.size := by rw [hW1]; simp <;> omega
  rw [← hW1]
  clear hW1
  have vW1 := uw1.trans uW1
  clear uW1 uw1
  refine (HW.out _).mono ?_
  rintro e w2 ⟨rfl, qw2⟩
  have l6 := Nat.lt_of_lt_of_le l5 qw2.size
  have c7 := qw2.cell c2
  have c8 := qw2.cell c3
  have c9 := qw2.cell c4
  clear l5 c2 c3 c4
  have uw2 := vW1.trans qw2
  clear qw2 vW1
  go_wp2_with fail
  refine (HRW.out _).mono ?_
  rintro e w3 ⟨rfl, qw3⟩
  have l10 := Nat.lt_of_lt_of_le l6 qw3.size
  have c11 := qw3.cell c7
  have c12 := qw3.cell c8
  have c13 := qw3.cell c9
  clear l6 c7 c8 c9
  have uw3 := uw2.trans qw3
  clear qw3 uw2
  go_wp2_with fail
  refine (HW1.out _).mono ?_
  rintro e w4 ⟨rfl, qw4⟩
  have l14 := Nat.lt_of_lt_of_le l10 qw4.size
  have c15 := qw4.cell c11
  have c16 := qw4.cell c12
  have c17 := qw4.cell c13
  clear l10 c11 c12 c13
  have uw4 := uw3.trans qw4
  clear qw4 uw3
  go_wp2_with fail
  refine (HR4.out _).mono ?_
  rintro e w5 ⟨rfl, qw5⟩
  have l18 := Nat.lt_of_lt_of_le l14 qw5.size
  have c19 := qw5.cell c15
  have c20 := qw5.cell c16
  have c21 := qw5.cell c17
  clear l14 c15 c16 c17
  have uw5 := uw4.trans qw5
  clear qw5 uw4
  go_wp2_with fail
  have hS22 := kdVk_3 (W := w5) (Dn.refl _) ⟨Dn.refl _, c19, c20, c21⟩
  have HShS22 := Lib.hid hS22
  clear c19 c20 c21
  go_region_held3 (fun w' => Dn w5 w' ∧ w'.cell? ⟨w1.heap.size, 0, none⟩ = some (.int .i64 y) ∧ w'.cell? ⟨w1.heap.size, 1, none⟩ = some (.int .i64 m) ∧ w'.cell? ⟨w1.heap.size, 2, none⟩ = some (.int .i64 d))
    (first | exact kdVk_3 ((Dn.refl _).drew) hS22 | exact kdVk_3 ‹Dn _ _› ‹_› | exact kdVk_3 (Up.dn ‹Up _ _›) ‹_› | assumption | exact kdVk_3 ((Dn.refl _).alloc _) ‹_›)
    (first
      | (go_at_call 31; refine (HR6.out _).mono ?_; rintro e wa ⟨rfl, qa⟩)
      | (go_at_call 19; refine (g6_any _ _ _ _ _ _ _ _ _ ?_).mono ?_; (first | exact Or.inl ⟨rfl, rfl, rfl, rfl, rfl⟩ | exact Or.inr ⟨by decide, rfl, rfl, rfl, rfl⟩); rintro e wa ⟨rfl, qa⟩)
      | (go_at_call 13; refine (cvChk _ _ _ 0 _ (hE.dn (Dn.trans uw5 (‹Dn w5 _ ∧ _› : _ ∧ _).1)) HC.out).mono ?_; rintro e wa ⟨rfl, qa⟩))
  all_goals
    clear hS22
    obtain ⟨uf26, c23, c24, c25⟩ := (‹Dn w5 _ ∧ _› : _ ∧ _)
    obtain ⟨w27, rfl⟩ : ∃ w27 : World, w27 = wa := ⟨_, rfl⟩
    have l28 := Nat.lt_of_lt_of_le l18 uf26.size
    clear l18
    have vuf26 := uw5.trans uf26
    clear uf26 uw5 HShS22
    go_wp2_with fail
    refine (HO2.out _ (hE.dn vuf26)).mono ?_
    rintro e w6 ⟨rfl, qw6⟩
    have l29 := Nat.lt_of_lt_of_le l28 qw6.size
    have c30 := qw6.cell c23
    have c31 := qw6.cell c24
    have c32 := qw6.cell c25
    clear l28 c23 c24 c25
    have uw6 := vuf26.trans qw6
    clear qw6 vuf26
    go_wp2_with fail
    obtain ⟨W33, hW33⟩ : ∃ W33, W33 = w6.alloc (.cells #[.int .i64 z, .int .i64 n, .int .i64 f] 23) := ⟨_, rfl⟩
    have uW33 : Dn w6 W33 := by rw [hW33]; exact (Dn.refl _).alloc _
    have l34 := Nat.lt_of_lt_of_le l29 uW33.size
    have c35 := uW33.cell c30
    have c36 := uW33.cell c31
    have c37 := uW33.cell c32
    clear l29 c30 c31 c32
    have c38 : W33.cell? ⟨w6.heap.size, 0, none⟩ = some (.int .i64 z) := by rw [hW33]; simp [go_sem]
    have c39 : W33.cell? ⟨w6.heap.size, 1, none⟩ = some (.int .i64 n) := by rw [hW33]; simp [go_sem]
    have c40 : W33.cell? ⟨w6.heap.size, 2, none⟩ = some (.int .i64 f) := by rw [hW33]; simp [go_sem]
    have l41 : w6.heap.size < W33.heap.size := by rw [hW33]; simp <;> omega
    rw [← hW33]
    clear hW33
    have vW33 := uw6.trans uW33
    clear uW33 uw6
    refine (HCm.out _).mono ?_
    rintro e w7 ⟨rfl, qw7⟩
    have l42 := Nat.lt_of_lt_of_le l34 qw7.size
    have c43 := qw7.cell c35
    have c44 := qw7.cell c36
    have c45 := qw7.cell c37
    have l46 := Nat.lt_of_lt_of_le l41 qw7.size
    have c47 := qw7.cell c38
    have c48 := qw7.cell c39
    have c49 := qw7.cell c40
    clear l34 c35 c36 c37 l41 c38 c39 c40
    have uw7 := vW33.trans qw7
    clear qw7 vW33
    go_wp2_with fail
    refine (lives6 _ (hE.dn uw7)).mono ?_
    rintro e w8 ⟨rfl, qw8⟩
    have l50 := Nat.lt_of_lt_of_le l42 qw8.size
    have c51 := qw8.cell c43
    have c52 := qw8.cell c44
    have c53 := qw8.cell c45
    have l54 := Nat.lt_of_lt_of_le l46 qw8.size
    have c55 := qw8.cell c47
    have c56 := qw8.cell c48
    have c57 := qw8.cell c49
    clear l42 c43 c44 c45 l46 c47 c48 c49
    have uw8 := uw7.trans qw8
    clear qw8 uw7
    go_wp2_with fail
    go_ret
    exact ⟨retb (by simp), uw8⟩
set_option maxHeartbeats 16000000 in
set_option maxRecDepth 100000 in
theorem of6_eq (day other Wd : Int) (d1 : -9223372036854775808 ≤ day) (d2 : day ≤ 9223372036854775807) (w0 : 0 ≤ Wd) (w6 : Wd ≤ 6) (y m d z n f : Int) (h : day < 9223372036854775807) (h2 : day = other) (HC : Hid (cErr y m d = 0)) (HO : Hid (∀ W, EnvC W → Calls Tryz.prog 16 #[.int .i64 day] W fun o w' => o = .returned (.tuple #[.agg #[.int .i64 y, .int .i64 m, .int .i64 d], .int .i64 0]) ∧ Dn W w')) (HW : Hid (∀ W, Calls Tryz.prog 28 #[.int .i64 day] W fun o w' => o = .returned (.int .i64 Wd) ∧ Dn W w')) (HRW : Hid (∀ W, Calls Tryz.prog 29 #[.int .i64 day] W fun o w' => o = .returned (.int .i64 Wd) ∧ Dn W w')) (HW1 : Hid (∀ W, Calls Tryz.prog 28 #[.int .i64 (day + 1)] W fun o w' => o = .returned (.int .i64 ((Wd + 1) % 7)) ∧ Dn W w')) (HR4 : Hid (∀ W, Calls Tryz.prog 30 #[.int .i64 day] W fun o w' => o = .returned (.tuple #[.int .i64 y, .bool true]) ∧ Dn W w')) (HR6 : Hid (∀ W, Calls Tryz.prog 31 #[.int .i64 day] W fun o w' => o = .returned (.agg #[.int .i64 y, .int .i64 m, .int .i64 d]) ∧ Dn W w')) (HO2 : Hid (∀ W, EnvC W → Calls Tryz.prog 16 #[.int .i64 other] W fun o w' => o = .returned (.tuple #[.agg #[.int .i64 z, .int .i64 n, .int .i64 f], .int .i64 0]) ∧ Dn W w')) (HCm : Hid (∀ W, Calls Tryz.prog 32 #[.agg #[.int .i64 y, .int .i64 m, .int .i64 d], .agg #[.int .i64 z, .int .i64 n, .int .i64 f]] W fun o w' => o = .returned (.int .i64 0) ∧ Dn W w')) (w : World) (hE : EnvC w) :
    Calls Tryz.prog 7 #[.int .i64 day, .int .i64 other] w fun ro w' => ro = .returned (.bool true) ∧ Dn w w' := by
  have t1 : decide (day < 9223372036854775807) = true := by simpa using h
  have t2 : decide (day < other) = false := by simp; omega
  have t3 : decide (other < day) = false := by simp; omega
  clear h2
  go_enter Tryz.func7, Tryz.ntmps7
  go_wp2_with fail
  refine (HO.out _ hE).mono ?_
  rintro e w1 ⟨rfl, qw1⟩
  have uw1 := qw1
  clear qw1
  go_wp2_with fail
  obtain ⟨W1, hW1⟩ : ∃ W1, W1 = w1.alloc (.cells #[.int .i64 y, .int .i64 m, .int .i64 d] 23) := ⟨_, rfl⟩
  have uW1 : Dn w1 W1 := by rw [hW1]; exact (Dn.refl _).alloc _
  have c2 : W1.cell? ⟨w1.heap.size, 0, none⟩ = some (.int .i64 y) := by rw [hW1]; simp [go_sem]
  have c3 : W1.cell? ⟨w1.heap.size, 1, none⟩ = some (.int .i64 m) := by rw [hW1]; simp [go_sem]
  have c4 : W1.cell? ⟨w1.heap.size, 2, none⟩ = some (.int .i64 d) := by rw [hW1]; simp [go_sem]
  have l5 : w1.heap.size < W1.heap.size := by rw [hW1]; simp <;> omega
  rw [← hW1]
  clear hW1
  have vW1 := uw1.trans uW1
  clear uW1 uw1
  refine (HW.out _).mono ?_
  rintro e w2 ⟨rfl, qw2⟩
  have l6 := Nat.lt_of_lt_of_le l5 qw2.size
  have c7 := qw2.cell c2
  have c8 := qw2.cell c3
  have c9 := qw2.cell c4
  clear l5 c2 c3 c4
  have uw2 := vW1.trans qw2
  clear qw2 vW1
  go_wp2_with fail
  refine (HRW.out _).mono ?_
  rintro e w3 ⟨rfl, qw3⟩
  have l10 := Nat.lt_of_lt_of_le l6 qw3.size
  have c11 := qw3.cell c7
  have c12 := qw3.cell c8
  have c13 := qw3.cell c9
  clear l6 c7 c8 c9
  have uw3 := uw2.trans qw3
  clear qw3 uw2
  go_wp2_with fail
  refine (HW1.out _).mono ?_
  rintro e w4 ⟨rfl, qw4⟩
  have l14 := Nat.lt_of_lt_of_le l10 qw4.size
  have c15 := qw4.cell c11
  have c16 := qw4.cell c12
  have c17 := qw4.cell c13
  clear l10 c11 c12 c13
  have uw4 := uw3.trans qw4
  clear qw4 uw3
  go_wp2_with fail
  refine (HR4.out _).mono ?_
  rintro e w5 ⟨rfl, qw5⟩
  have l18 := Nat.lt_of_lt_of_le l14 qw5.size
  have c19 := qw5.cell c15
  have c20 := qw5.cell c16
  have c21 := qw5.cell c17
  clear l14 c15 c16 c17
  have uw5 := uw4.trans qw5
  clear qw5 uw4
  go_wp2_with fail
  have hS22 := kdVk_3 (W := w5) (Dn.refl _) ⟨Dn.refl _, c19, c20, c21⟩
  have HShS22 := Lib.hid hS22
  clear c19 c20 c21
  go_region_held3 (fun w' => Dn w5 w' ∧ w'.cell? ⟨w1.heap.size, 0, none⟩ = some (.int .i64 y) ∧ w'.cell? ⟨w1.heap.size, 1, none⟩ = some (.int .i64 m) ∧ w'.cell? ⟨w1.heap.size, 2, none⟩ = some (.int .i64 d))
    (first | exact kdVk_3 ((Dn.refl _).drew) hS22 | exact kdVk_3 ‹Dn _ _› ‹_› | exact kdVk_3 (Up.dn ‹Up _ _›) ‹_› | assumption | exact kdVk_3 ((Dn.refl _).alloc _) ‹_›)
    (first
      | (go_at_call 31; refine (HR6.out _).mono ?_; rintro e wa ⟨rfl, qa⟩)
      | (go_at_call 19; refine (g6_any _ _ _ _ _ _ _ _ _ ?_).mono ?_; (first | exact Or.inl ⟨rfl, rfl, rfl, rfl, rfl⟩ | exact Or.inr ⟨by decide, rfl, rfl, rfl, rfl⟩); rintro e wa ⟨rfl, qa⟩)
      | (go_at_call 13; refine (cvChk _ _ _ 0 _ (hE.dn (Dn.trans uw5 (‹Dn w5 _ ∧ _› : _ ∧ _).1)) HC.out).mono ?_; rintro e wa ⟨rfl, qa⟩))
  all_goals
    clear hS22
    obtain ⟨uf26, c23, c24, c25⟩ := (‹Dn w5 _ ∧ _› : _ ∧ _)
    obtain ⟨w27, rfl⟩ : ∃ w27 : World, w27 = wa := ⟨_, rfl⟩
    have l28 := Nat.lt_of_lt_of_le l18 uf26.size
    clear l18
    have vuf26 := uw5.trans uf26
    clear uf26 uw5 HShS22
    go_wp2_with fail
    refine (HO2.out _ (hE.dn vuf26)).mono ?_
    rintro e w6 ⟨rfl, qw6⟩
    have l29 := Nat.lt_of_lt_of_le l28 qw6.size
    have c30 := qw6.cell c23
    have c31 := qw6.cell c24
    have c32 := qw6.cell c25
    clear l28 c23 c24 c25
    have uw6 := vuf26.trans qw6
    clear qw6 vuf26
    go_wp2_with fail
    obtain ⟨W33, hW33⟩ : ∃ W33, W33 = w6.alloc (.cells #[.int .i64 z, .int .i64 n, .int .i64 f] 23) := ⟨_, rfl⟩
    have uW33 : Dn w6 W33 := by rw [hW33]; exact (Dn.refl _).alloc _
    have l34 := Nat.lt_of_lt_of_le l29 uW33.size
    have c35 := uW33.cell c30
    have c36 := uW33.cell c31
    have c37 := uW33.cell c32
    clear l29 c30 c31 c32
    have c38 : W33.cell? ⟨w6.heap.size, 0, none⟩ = some (.int .i64 z) := by rw [hW33]; simp [go_sem]
    have c39 : W33.cell? ⟨w6.heap.size, 1, none⟩ = some (.int .i64 n) := by rw [hW33]; simp [go_sem]
    have c40 : W33.cell? ⟨w6.heap.size, 2, none⟩ = some (.int .i64 f) := by rw [hW33]; simp [go_sem]
    have l41 : w6.heap.size < W33.heap.size := by rw [hW33]; simp <;> omega
    rw [← hW33]
    clear hW33
    have vW33 := uw6.trans uW33
    clear uW33 uw6
    refine (HCm.out _).mono ?_
    rintro e w7 ⟨rfl, qw7⟩
    have l42 := Nat.lt_of_lt_of_le l34 qw7.size
    have c43 := qw7.cell c35
    have c44 := qw7.cell c36
    have c45 := qw7.cell c37
    have l46 := Nat.lt_of_lt_of_le l41 qw7.size
    have c47 := qw7.cell c38
    have c48 := qw7.cell c39
    have c49 := qw7.cell c40
    clear l34 c35 c36 c37 l41 c38 c39 c40
    have uw7 := vW33.trans qw7
    clear qw7 vW33
    go_wp2_with fail
    refine (lives6 _ (hE.dn uw7)).mono ?_
    rintro e w8 ⟨rfl, qw8⟩
    have l50 := Nat.lt_of_lt_of_le l42 qw8.size
    have c51 := qw8.cell c43
    have c52 := qw8.cell c44
    have c53 := qw8.cell c45
    have l54 := Nat.lt_of_lt_of_le l46 qw8.size
    have c55 := qw8.cell c47
    have c56 := qw8.cell c48
    have c57 := qw8.cell c49
    clear l42 c43 c44 c45 l46 c47 c48 c49
    have uw8 := uw7.trans qw8
    clear qw8 uw7
    go_wp2_with fail
    go_ret
    exact ⟨retb (by simp), uw8⟩
set_option maxHeartbeats 16000000 in
set_option maxRecDepth 100000 in
theorem of6_gt (day other Wd : Int) (d1 : -9223372036854775808 ≤ day) (d2 : day ≤ 9223372036854775807) (w0 : 0 ≤ Wd) (w6 : Wd ≤ 6) (y m d z n f : Int) (h : day < 9223372036854775807) (h2 : other < day) (HC : Hid (cErr y m d = 0)) (HO : Hid (∀ W, EnvC W → Calls Tryz.prog 16 #[.int .i64 day] W fun o w' => o = .returned (.tuple #[.agg #[.int .i64 y, .int .i64 m, .int .i64 d], .int .i64 0]) ∧ Dn W w')) (HW : Hid (∀ W, Calls Tryz.prog 28 #[.int .i64 day] W fun o w' => o = .returned (.int .i64 Wd) ∧ Dn W w')) (HRW : Hid (∀ W, Calls Tryz.prog 29 #[.int .i64 day] W fun o w' => o = .returned (.int .i64 Wd) ∧ Dn W w')) (HW1 : Hid (∀ W, Calls Tryz.prog 28 #[.int .i64 (day + 1)] W fun o w' => o = .returned (.int .i64 ((Wd + 1) % 7)) ∧ Dn W w')) (HR4 : Hid (∀ W, Calls Tryz.prog 30 #[.int .i64 day] W fun o w' => o = .returned (.tuple #[.int .i64 y, .bool true]) ∧ Dn W w')) (HR6 : Hid (∀ W, Calls Tryz.prog 31 #[.int .i64 day] W fun o w' => o = .returned (.agg #[.int .i64 y, .int .i64 m, .int .i64 d]) ∧ Dn W w')) (HO2 : Hid (∀ W, EnvC W → Calls Tryz.prog 16 #[.int .i64 other] W fun o w' => o = .returned (.tuple #[.agg #[.int .i64 z, .int .i64 n, .int .i64 f], .int .i64 0]) ∧ Dn W w')) (HCm : Hid (∀ W, Calls Tryz.prog 32 #[.agg #[.int .i64 y, .int .i64 m, .int .i64 d], .agg #[.int .i64 z, .int .i64 n, .int .i64 f]] W fun o w' => o = .returned (.int .i64 1) ∧ Dn W w')) (w : World) (hE : EnvC w) :
    Calls Tryz.prog 7 #[.int .i64 day, .int .i64 other] w fun ro w' => ro = .returned (.bool true) ∧ Dn w w' := by
  have t1 : decide (day < 9223372036854775807) = true := by simpa using h
  have t2 : decide (day < other) = false := by simp; omega
  have t3 : decide (other < day) = true := by simpa using h2
  clear h2
  go_enter Tryz.func7, Tryz.ntmps7
  go_wp2_with fail
  refine (HO.out _ hE).mono ?_
  rintro e w1 ⟨rfl, qw1⟩
  have uw1 := qw1
  clear qw1
  go_wp2_with fail
  obtain ⟨W1, hW1⟩ : ∃ W1, W1 = w1.alloc (.cells #[.int .i64 y, .int .i64 m, .int .i64 d] 23) := ⟨_, rfl⟩
  have uW1 : Dn w1 W1 := by rw [hW1]; exact (Dn.refl _).alloc _
  have c2 : W1.cell? ⟨w1.heap.size, 0, none⟩ = some (.int .i64 y) := by rw [hW1]; simp [go_sem]
  have c3 : W1.cell? ⟨w1.heap.size, 1, none⟩ = some (.int .i64 m) := by rw [hW1]; simp [go_sem]
  have c4 : W1.cell? ⟨w1.heap.size, 2, none⟩ = some (.int .i64 d) := by rw [hW1]; simp [go_sem]
  have l5 : w1.heap.size < W1.heap.size := by rw [hW1]; simp <;> omega
  rw [← hW1]
  clear hW1
  have vW1 := uw1.trans uW1
  clear uW1 uw1
  refine (HW.out _).mono ?_
  rintro e w2 ⟨rfl, qw2⟩
  have l6 := Nat.lt_of_lt_of_le l5 qw2.size
  have c7 := qw2.cell c2
  have c8 := qw2.cell c3
  have c9 := qw2.cell c4
  clear l5 c2 c3 c4
  have uw2 := vW1.trans qw2
  clear qw2 vW1
  go_wp2_with fail
  refine (HRW.out _).mono ?_
  rintro e w3 ⟨rfl, qw3⟩
  have l10 := Nat.lt_of_lt_of_le l6 qw3.size
  have c11 := qw3.cell c7
  have c12 := qw3.cell c8
  have c13 := qw3.cell c9
  clear l6 c7 c8 c9
  have uw3 := uw2.trans qw3
  clear qw3 uw2
  go_wp2_with fail
  refine (HW1.out _).mono ?_
  rintro e w4 ⟨rfl, qw4⟩
  have l14 := Nat.lt_of_lt_of_le l10 qw4.size
  have c15 := qw4.cell c11
  have c16 := qw4.cell c12
  have c17 := qw4.cell c13
  clear l10 c11 c12 c13
  have uw4 := uw3.trans qw4
  clear qw4 uw3
  go_wp2_with fail
  refine (HR4.out _).mono ?_
  rintro e w5 ⟨rfl, qw5⟩
  have l18 := Nat.lt_of_lt_of_le l14 qw5.size
  have c19 := qw5.cell c15
  have c20 := qw5.cell c16
  have c21 := qw5.cell c17
  clear l14 c15 c16 c17
  have uw5 := uw4.trans qw5
  clear qw5 uw4
  go_wp2_with fail
  have hS22 := kdVk_3 (W := w5) (Dn.refl _) ⟨Dn.refl _, c19, c20, c21⟩
  have HShS22 := Lib.hid hS22
  clear c19 c20 c21
  go_region_held3 (fun w' => Dn w5 w' ∧ w'.cell? ⟨w1.heap.size, 0, none⟩ = some (.int .i64 y) ∧ w'.cell? ⟨w1.heap.size, 1, none⟩ = some (.int .i64 m) ∧ w'.cell? ⟨w1.heap.size, 2, none⟩ = some (.int .i64 d))
    (first | exact kdVk_3 ((Dn.refl _).drew) hS22 | exact kdVk_3 ‹Dn _ _› ‹_› | exact kdVk_3 (Up.dn ‹Up _ _›) ‹_› | assumption | exact kdVk_3 ((Dn.refl _).alloc _) ‹_›)
    (first
      | (go_at_call 31; refine (HR6.out _).mono ?_; rintro e wa ⟨rfl, qa⟩)
      | (go_at_call 19; refine (g6_any _ _ _ _ _ _ _ _ _ ?_).mono ?_; (first | exact Or.inl ⟨rfl, rfl, rfl, rfl, rfl⟩ | exact Or.inr ⟨by decide, rfl, rfl, rfl, rfl⟩); rintro e wa ⟨rfl, qa⟩)
      | (go_at_call 13; refine (cvChk _ _ _ 0 _ (hE.dn (Dn.trans uw5 (‹Dn w5 _ ∧ _› : _ ∧ _).1)) HC.out).mono ?_; rintro e wa ⟨rfl, qa⟩))
  all_goals
    clear hS22
    obtain ⟨uf26, c23, c24, c25⟩ := (‹Dn w5 _ ∧ _› : _ ∧ _)
    obtain ⟨w27, rfl⟩ : ∃ w27 : World, w27 = wa := ⟨_, rfl⟩
    have l28 := Nat.lt_of_lt_of_le l18 uf26.size
    clear l18
    have vuf26 := uw5.trans uf26
    clear uf26 uw5 HShS22
    go_wp2_with fail
    refine (HO2.out _ (hE.dn vuf26)).mono ?_
    rintro e w6 ⟨rfl, qw6⟩
    have l29 := Nat.lt_of_lt_of_le l28 qw6.size
    have c30 := qw6.cell c23
    have c31 := qw6.cell c24
    have c32 := qw6.cell c25
    clear l28 c23 c24 c25
    have uw6 := vuf26.trans qw6
    clear qw6 vuf26
    go_wp2_with fail
    obtain ⟨W33, hW33⟩ : ∃ W33, W33 = w6.alloc (.cells #[.int .i64 z, .int .i64 n, .int .i64 f] 23) := ⟨_, rfl⟩
    have uW33 : Dn w6 W33 := by rw [hW33]; exact (Dn.refl _).alloc _
    have l34 := Nat.lt_of_lt_of_le l29 uW33.size
    have c35 := uW33.cell c30
    have c36 := uW33.cell c31
    have c37 := uW33.cell c32
    clear l29 c30 c31 c32
    have c38 : W33.cell? ⟨w6.heap.size, 0, none⟩ = some (.int .i64 z) := by rw [hW33]; simp [go_sem]
    have c39 : W33.cell? ⟨w6.heap.size, 1, none⟩ = some (.int .i64 n) := by rw [hW33]; simp [go_sem]
    have c40 : W33.cell? ⟨w6.heap.size, 2, none⟩ = some (.int .i64 f) := by rw [hW33]; simp [go_sem]
    have l41 : w6.heap.size < W33.heap.size := by rw [hW33]; simp <;> omega
    rw [← hW33]
    clear hW33
    have vW33 := uw6.trans uW33
    clear uW33 uw6
    refine (HCm.out _).mono ?_
    rintro e w7 ⟨rfl, qw7⟩
    have l42 := Nat.lt_of_lt_of_le l34 qw7.size
    have c43 := qw7.cell c35
    have c44 := qw7.cell c36
    have c45 := qw7.cell c37
    have l46 := Nat.lt_of_lt_of_le l41 qw7.size
    have c47 := qw7.cell c38
    have c48 := qw7.cell c39
    have c49 := qw7.cell c40
    clear l34 c35 c36 c37 l41 c38 c39 c40
    have uw7 := vW33.trans qw7
    clear qw7 vW33
    go_wp2_with fail
    refine (lives6 _ (hE.dn uw7)).mono ?_
    rintro e w8 ⟨rfl, qw8⟩
    have l50 := Nat.lt_of_lt_of_le l42 qw8.size
    have c51 := qw8.cell c43
    have c52 := qw8.cell c44
    have c53 := qw8.cell c45
    have l54 := Nat.lt_of_lt_of_le l46 qw8.size
    have c55 := qw8.cell c47
    have c56 := qw8.cell c48
    have c57 := qw8.cell c49
    clear l42 c43 c44 c45 l46 c47 c48 c49
    have uw8 := uw7.trans qw8
    clear qw8 uw7
    go_wp2_with fail
    go_ret
    exact ⟨retb (by simp), uw8⟩
theorem sameDn {P : Program} {f : FuncId} {args : Array Value} {w : World} {v : Value} (h : Calls P f args w fun e w' => e = .returned v ∧ w = w') : Calls P f args w fun e w' => e = .returned v ∧ Dn w w' :=
  h.mono fun _ _ ⟨a, b⟩ => ⟨a, b ▸ Dn.refl _⟩
/-- The civil day that has a day, told. -/
theorem civ_ex (day : Int) (hd : I64 day) (h : IsY (Cal.yr day)) : ∃ y m d, cErr y m d = 0 ∧ Cal.sm y m + d - 1 = day ∧ Cal.yr day = y ∧ mo day = m ∧ day - Cal.sm y m + 1 = d := by
  obtain ⟨m1, m2, m3, m4⟩ := mo_spec day
  rw [sm_succ _ _ m1 m2] at m4
  exact ⟨_, _, _, cErr_of ⟨h, m1, m2⟩ (by omega) (by omega), by omega, rfl, rfl, rfl⟩
/-- Civil days lie as their days. -/
theorem civ_lt {y m d z n f : Int} (h1 : cErr y m d = 0) (h2 : cErr z n f = 0) (h : y < z ∨ (y = z ∧ (m < n ∨ (m = n ∧ d < f)))) : Cal.sm y m + d - 1 < Cal.sm z n + f - 1 := by
  obtain ⟨a1, a2, a3⟩ := cErr_ok h1
  obtain ⟨b1, b2, b3⟩ := cErr_ok h2
  have hs := sm_succ y m a1.2.1 a1.2.2
  rcases h with h | ⟨rfl, h | ⟨rfl, h⟩⟩
  · have c1 := sm_mono y (m + 1) 13 (by have := a1.2; omega) (by have := a1.2; omega) (by omega)
    have c2 := Cal.sy_mono (y + 1) z (by omega)
    have c3 := sm_mono z 1 n (by omega) b1.2.1 (by have := b1.2; omega)
    rw [sm_13] at c1
    rw [sm_one] at c3
    omega
  · have c1 := sm_mono y (m + 1) n (by have := a1.2; omega) (by omega) (by have := b1.2; omega)
    omega
  · omega
theorem civ_cmp {y m d z n f day other : Int} (h1 : cErr y m d = 0) (h2 : cErr z n f = 0) (e1 : Cal.sm y m + d - 1 = day) (e2 : Cal.sm z n + f - 1 = other) : oq (cq y z) (cq m n) (cq d f) = cq day other := by
  subst e1 e2
  rcases Int.lt_trichotomy y z with h | h | h
  · rw [cq_lt h, cq_lt (civ_lt h1 h2 (Or.inl h))]; simp [oq]
  · subst h
    rcases Int.lt_trichotomy m n with h | h | h
    · rw [cq_eq, cq_lt h, cq_lt (civ_lt h1 h2 (Or.inr ⟨rfl, Or.inl h⟩))]; simp [oq]
    · subst h
      rcases Int.lt_trichotomy d f with h | h | h
      · rw [cq_eq, cq_eq, cq_lt h, cq_lt (civ_lt h1 h2 (Or.inr ⟨rfl, Or.inr ⟨rfl, h⟩⟩))]; simp [oq]
      · subst h; rw [cq_eq, cq_eq, cq_eq, cq_eq]; simp [oq]
      · rw [cq_eq, cq_eq, cq_gt h, cq_gt (civ_lt h2 h1 (Or.inr ⟨rfl, Or.inr ⟨rfl, h⟩⟩))]; simp [oq]
    · rw [cq_eq, cq_gt h, cq_gt (civ_lt h2 h1 (Or.inr ⟨rfl, Or.inl h⟩))]; simp [oq]
  · rw [cq_gt h, cq_gt (civ_lt h2 h1 (Or.inl h))]; simp [oq]
theorem civilsOf_true (day other : Int) (w : World) (hd : I64 day) (ho : I64 other) (hE : EnvC w) :
    Calls Tryz.prog 7 #[.int .i64 day, .int .i64 other] w fun ro w' => ro = .returned (.bool true) ∧ Dn w w' := by
  have HW := Lib.hid (fun W => cvWd day hd W)
  have HRW := Lib.hid (fun W => rc6Wd day W)
  have b1 : 0 ≤ (day % 7 + 5) % 7 := by omega
  have b2 : (day % 7 + 5) % 7 ≤ 6 := by omega
  have hW1 : day < 9223372036854775807 → ∀ W, Calls Tryz.prog 28 #[.int .i64 (day + 1)] W fun o w' => o = .returned (.int .i64 (((day % 7 + 5) % 7 + 1) % 7)) ∧ Dn W w' := by
    intro hlt W
    have := cvWd (day + 1) ⟨by have := hd.1; omega, by omega⟩ W
    rw [show ((day + 1) % 7 + 5) % 7 = ((day % 7 + 5) % 7 + 1) % 7 by omega] at this
    exact this
  by_cases h : IsY (Cal.yr day)
  · obtain ⟨y, m, d, hc, hv, rfl, rfl, rfl⟩ := civ_ex day hd h
    have hlt : day < 9223372036854775807 := by
      obtain ⟨hm, d1, d2⟩ := cErr_ok hc
      have := sm_bd _ _ hm
      have := Cal.mlen_bd (Cal.yr day) (mo day)
      omega
    have HO := Lib.hid (fun W (hW : EnvC W) => cvOf_yes day hd h W hW)
    have HR4 := Lib.hid (fun W => sameDn (rOf_yes day W hd h))
    have HR6 := Lib.hid (fun W => rc6Of day hd h W)
    have HW1 := Lib.hid (hW1 hlt)
    by_cases h2 : IsY (Cal.yr other)
    · obtain ⟨z, n, f, hc2, hv2, rfl, rfl, rfl⟩ := civ_ex other ho h2
      have HO2 := Lib.hid (fun W (hW : EnvC W) => cvOf_yes other ho h2 W hW)
      have HCm := Lib.hid (fun W => cvCmp (Cal.yr day) (mo day) (day - Cal.sm (Cal.yr day) (mo day) + 1) (Cal.yr other) (mo other) (other - Cal.sm (Cal.yr other) (mo other) + 1) W)
      rw [civ_cmp hc hc2 hv hv2] at HCm
      rcases Int.lt_trichotomy day other with h3 | h3 | h3
      · rw [cq_lt h3] at HCm
        exact of6_lt day other _ hd.1 hd.2 b1 b2 _ _ _ _ _ _ hlt h3 (Lib.hid hc) HO HW HRW HW1 HR4 HR6 HO2 HCm w hE
      · rw [show cq day other = 0 by rw [h3, cq_eq]] at HCm
        exact of6_eq day other _ hd.1 hd.2 b1 b2 _ _ _ _ _ _ hlt h3 (Lib.hid hc) HO HW HRW HW1 HR4 HR6 HO2 HCm w hE
      · rw [cq_gt h3] at HCm
        exact of6_gt day other _ hd.1 hd.2 b1 b2 _ _ _ _ _ _ hlt h3 (Lib.hid hc) HO HW HRW HW1 HR4 HR6 HO2 HCm w hE
    · have HO2 := Lib.hid (fun W (hW : EnvC W) => cvOf_no other ho h2 W hW)
      exact of6_no day other _ hd.1 hd.2 b1 b2 _ _ _ 0 0 0 hlt (Lib.hid hc) HO HW HRW HW1 HR4 HR6 HO2 w hE
  · have HO := Lib.hid (fun W (hW : EnvC W) => cvOf_no day hd h W hW)
    have HR4 := Lib.hid (fun W => sameDn (rOf_no day W hd h))
    by_cases hlt : day < 9223372036854775807
    · exact of6_n1 day other _ hd.1 hd.2 b1 b2 _ hlt HO HW HRW (Lib.hid (hW1 hlt)) HR4 w hE
    · refine of6_n0 day other _ hd.1 hd.2 b1 b2 _ hlt HO HW HRW HR4 w hE
end Go.Proofs.YtopbbcbpanfigaaGreatDoor
