/-
  WALKS OF circalaw06: CivilsOrdinal, CivilsDay. (Printed by wip/gen/civ7.py.)
-/
import Derived.Test.YtopbbcbpanfigaaGreatDoorCivF
import Derived.Test.YtopbbcbpanfigaaGreatDoorCivH
namespace Go.Proofs.YtopbbcbpanfigaaGreatDoor
open Go.RowKit
set_option linter.unusedVariables false
set_option linter.unusedSimpArgs false
theorem kdVj_3 {W w1 w2 : World} {a0 a1 a2 : Addr} {v0 v1 v2 : Value} (k : Dn w1 w2) (h : Dn W w1 ∧ w1.cell? a0 = some v0 ∧ w1.cell? a1 = some v1 ∧ w1.cell? a2 = some v2) :
    Dn W w2 ∧ w2.cell? a0 = some v0 ∧ w2.cell? a1 = some v1 ∧ w2.cell? a2 = some v2 := by
  obtain ⟨h1, c0, c1, c2⟩ := h
  exact ⟨h1.trans k, k.cell c0, k.cell c1, k.cell c2⟩
set_option maxHeartbeats 16000000 in
set_option maxRecDepth 100000 in
theorem or6_no (y n : Int) (h : ¬ IsY y) (w : World) (hE : EnvC w) :
    Calls Tryz.prog 6 #[.int .i64 y, .int .i64 n] w fun ro w' => ro = .returned (.bool true) ∧ Dn w w' := by
  have HY := Lib.hid h
  clear h
  go_enter Tryz.func6, Tryz.ntmps6
  go_wp2_with fail
  refine (cvFo_no y n HY.out _ hE).mono ?_
  rintro e w1 ⟨rfl, qw1⟩
  have uw1 := qw1
  clear qw1
  go_wp2_with fail
  obtain ⟨W1, hW1⟩ : ∃ W1, W1 = w1.alloc (.cells #[.int .i64 0, .int .i64 0, .int .i64 0] 23) := ⟨_, rfl⟩
  have uW1 : Dn w1 W1 := by rw [hW1]; exact (Dn.refl _).alloc _
  have c2 : W1.cell? ⟨w1.heap.size, 0, none⟩ = some (.int .i64 0) := by rw [hW1]; simp [go_sem]
  have c3 : W1.cell? ⟨w1.heap.size, 1, none⟩ = some (.int .i64 0) := by rw [hW1]; simp [go_sem]
  have c4 : W1.cell? ⟨w1.heap.size, 2, none⟩ = some (.int .i64 0) := by rw [hW1]; simp [go_sem]
  have l5 : w1.heap.size < W1.heap.size := by rw [hW1]; simp <;> omega
  rw [← hW1]
  clear hW1
  have vW1 := uw1.trans uW1
  clear uW1 uw1
  refine (rIs_no y _ HY.out).mono ?_
  rintro e w2 ⟨rfl, rfl⟩
  go_wp2_with fail
  have hS6 := kdVj_3 (W := W1) (Dn.refl _) ⟨Dn.refl _, c2, c3, c4⟩
  have HShS6 := Lib.hid hS6
  clear c2 c3 c4
  go_region_held3 (fun w' => Dn W1 w' ∧ w'.cell? ⟨w1.heap.size, 0, none⟩ = some (.int .i64 0) ∧ w'.cell? ⟨w1.heap.size, 1, none⟩ = some (.int .i64 0) ∧ w'.cell? ⟨w1.heap.size, 2, none⟩ = some (.int .i64 0))
    (first | exact kdVj_3 ((Dn.refl _).drew) hS6 | exact kdVj_3 ‹Dn _ _› ‹_› | exact kdVj_3 (Up.dn ‹Up _ _›) ‹_› | assumption | exact kdVj_3 ((Dn.refl _).alloc _) ‹_›)
    (first
      | (go_at_call 25; refine (cl6 _ _ _ _).mono ?_; rintro e wa ⟨rfl, qa⟩)
      | (go_at_call 19; refine (g6_any _ _ _ _ _ _ _ _ _ ?_).mono ?_; (first | exact Or.inl ⟨rfl, rfl, rfl, rfl, rfl⟩ | exact Or.inr ⟨by decide, rfl, rfl, rfl, rfl⟩); rintro e wa ⟨rfl, qa⟩)
      | (go_at_call 14; refine (lives6 _ (hE.dn (Dn.trans vW1 (‹Dn W1 _ ∧ _› : _ ∧ _).1))).mono ?_; rintro e wa ⟨rfl, qa⟩))
  all_goals
    clear hS6
    obtain ⟨uf10, c7, c8, c9⟩ := (‹Dn W1 _ ∧ _› : _ ∧ _)
    obtain ⟨w11, rfl⟩ : ∃ w11 : World, w11 = wa := ⟨_, rfl⟩
    have l12 := Nat.lt_of_lt_of_le l5 uf10.size
    clear l5
    have vuf10 := vW1.trans uf10
    clear uf10 vW1 HShS6
    go_wp2_with fail
    go_ret
    exact ⟨retb (by simp), vuf10⟩
set_option maxHeartbeats 16000000 in
set_option maxRecDepth 100000 in
theorem or6_r1 (y n : Int) (h : IsY y) (h2 : n < 1) (w : World) (hE : EnvC w) :
    Calls Tryz.prog 6 #[.int .i64 y, .int .i64 n] w fun ro w' => ro = .returned (.bool true) ∧ Dn w w' := by
  have HY := Lib.hid h
  have HN := Lib.hid h2
  have c1 : decide (n < 1) = true := by simpa using h2
  clear h h2
  go_enter Tryz.func6, Tryz.ntmps6
  go_wp2_with fail
  refine (cvFo_r1 y n HY.out (by have := HN.out; omega) _ hE).mono ?_
  rintro e w1 ⟨rfl, qw1⟩
  have uw1 := qw1
  clear qw1
  go_wp2_with fail
  obtain ⟨W1, hW1⟩ : ∃ W1, W1 = w1.alloc (.cells #[.int .i64 0, .int .i64 0, .int .i64 0] 23) := ⟨_, rfl⟩
  have uW1 : Dn w1 W1 := by rw [hW1]; exact (Dn.refl _).alloc _
  have c2 : W1.cell? ⟨w1.heap.size, 0, none⟩ = some (.int .i64 0) := by rw [hW1]; simp [go_sem]
  have c3 : W1.cell? ⟨w1.heap.size, 1, none⟩ = some (.int .i64 0) := by rw [hW1]; simp [go_sem]
  have c4 : W1.cell? ⟨w1.heap.size, 2, none⟩ = some (.int .i64 0) := by rw [hW1]; simp [go_sem]
  have l5 : w1.heap.size < W1.heap.size := by rw [hW1]; simp <;> omega
  rw [← hW1]
  clear hW1
  have vW1 := uw1.trans uW1
  clear uW1 uw1
  refine (rIs_yes y _ HY.out).mono ?_
  rintro e w2 ⟨rfl, rfl⟩
  go_wp2_with fail
  have hS6 := kdVj_3 (W := W1) (Dn.refl _) ⟨Dn.refl _, c2, c3, c4⟩
  have HShS6 := Lib.hid hS6
  clear c2 c3 c4
  go_region_held3 (fun w' => Dn W1 w' ∧ w'.cell? ⟨w1.heap.size, 0, none⟩ = some (.int .i64 0) ∧ w'.cell? ⟨w1.heap.size, 1, none⟩ = some (.int .i64 0) ∧ w'.cell? ⟨w1.heap.size, 2, none⟩ = some (.int .i64 0))
    (first | exact kdVj_3 ((Dn.refl _).drew) hS6 | exact kdVj_3 ‹Dn _ _› ‹_› | exact kdVj_3 (Up.dn ‹Up _ _›) ‹_› | assumption | exact kdVj_3 ((Dn.refl _).alloc _) ‹_›)
    (first
      | (go_at_call 25; refine (cl6 _ _ _ _).mono ?_; rintro e wa ⟨rfl, qa⟩)
      | (go_at_call 19; refine (g6_any _ _ _ _ _ _ _ _ _ ?_).mono ?_; (first | exact Or.inl ⟨rfl, rfl, rfl, rfl, rfl⟩ | exact Or.inr ⟨by decide, rfl, rfl, rfl, rfl⟩); rintro e wa ⟨rfl, qa⟩)
      | (go_at_call 14; refine (lives6 _ (hE.dn (Dn.trans vW1 (‹Dn W1 _ ∧ _› : _ ∧ _).1))).mono ?_; rintro e wa ⟨rfl, qa⟩))
  all_goals
    clear hS6
    obtain ⟨uf10, c7, c8, c9⟩ := (‹Dn W1 _ ∧ _› : _ ∧ _)
    obtain ⟨w11, rfl⟩ : ∃ w11 : World, w11 = wa := ⟨_, rfl⟩
    have l12 := Nat.lt_of_lt_of_le l5 uf10.size
    clear l5
    have vuf10 := vW1.trans uf10
    clear uf10 vW1 HShS6
    go_wp2_with fail
    go_ret
    exact ⟨retb (by simp), vuf10⟩
set_option maxHeartbeats 16000000 in
set_option maxRecDepth 100000 in
theorem or6_r2 (y n : Int) (h : IsY y) (h2 : ¬ n < 1) (h3 : Cal.len y < n) (w : World) (hE : EnvC w) :
    Calls Tryz.prog 6 #[.int .i64 y, .int .i64 n] w fun ro w' => ro = .returned (.bool true) ∧ Dn w w' := by
  have HY := Lib.hid h
  have HN := Lib.hid h2
  have HL := Lib.hid h3
  have c1 : decide (n < 1) = false := by simpa using h2
  have c2 : decide (Cal.len y < n) = true := by simpa using h3
  clear h h2 h3
  go_enter Tryz.func6, Tryz.ntmps6
  go_wp2_with fail
  refine (cvFo_r2 y n HY.out (by have := HN.out; omega) (by have := HL.out; omega) _ hE).mono ?_
  rintro e w1 ⟨rfl, qw1⟩
  have uw1 := qw1
  clear qw1
  go_wp2_with fail
  obtain ⟨W1, hW1⟩ : ∃ W1, W1 = w1.alloc (.cells #[.int .i64 0, .int .i64 0, .int .i64 0] 23) := ⟨_, rfl⟩
  have uW1 : Dn w1 W1 := by rw [hW1]; exact (Dn.refl _).alloc _
  have c2 : W1.cell? ⟨w1.heap.size, 0, none⟩ = some (.int .i64 0) := by rw [hW1]; simp [go_sem]
  have c3 : W1.cell? ⟨w1.heap.size, 1, none⟩ = some (.int .i64 0) := by rw [hW1]; simp [go_sem]
  have c4 : W1.cell? ⟨w1.heap.size, 2, none⟩ = some (.int .i64 0) := by rw [hW1]; simp [go_sem]
  have l5 : w1.heap.size < W1.heap.size := by rw [hW1]; simp <;> omega
  rw [← hW1]
  clear hW1
  have vW1 := uw1.trans uW1
  clear uW1 uw1
  refine (rIs_yes y _ HY.out).mono ?_
  rintro e w2 ⟨rfl, rfl⟩
  go_wp2_with fail
  refine (rLen y _ HY.out.b).mono ?_
  rintro e w3 ⟨rfl, rfl⟩
  go_wp2_with fail
  have hS6 := kdVj_3 (W := W1) (Dn.refl _) ⟨Dn.refl _, c2, c3, c4⟩
  have HShS6 := Lib.hid hS6
  clear c2 c3 c4
  go_region_held3 (fun w' => Dn W1 w' ∧ w'.cell? ⟨w1.heap.size, 0, none⟩ = some (.int .i64 0) ∧ w'.cell? ⟨w1.heap.size, 1, none⟩ = some (.int .i64 0) ∧ w'.cell? ⟨w1.heap.size, 2, none⟩ = some (.int .i64 0))
    (first | exact kdVj_3 ((Dn.refl _).drew) hS6 | exact kdVj_3 ‹Dn _ _› ‹_› | exact kdVj_3 (Up.dn ‹Up _ _›) ‹_› | assumption | exact kdVj_3 ((Dn.refl _).alloc _) ‹_›)
    (first
      | (go_at_call 25; refine (cl6 _ _ _ _).mono ?_; rintro e wa ⟨rfl, qa⟩)
      | (go_at_call 19; refine (g6_any _ _ _ _ _ _ _ _ _ ?_).mono ?_; (first | exact Or.inl ⟨rfl, rfl, rfl, rfl, rfl⟩ | exact Or.inr ⟨by decide, rfl, rfl, rfl, rfl⟩); rintro e wa ⟨rfl, qa⟩)
      | (go_at_call 14; refine (lives6 _ (hE.dn (Dn.trans vW1 (‹Dn W1 _ ∧ _› : _ ∧ _).1))).mono ?_; rintro e wa ⟨rfl, qa⟩))
  all_goals
    clear hS6
    obtain ⟨uf10, c7, c8, c9⟩ := (‹Dn W1 _ ∧ _› : _ ∧ _)
    obtain ⟨w11, rfl⟩ : ∃ w11 : World, w11 = wa := ⟨_, rfl⟩
    have l12 := Nat.lt_of_lt_of_le l5 uf10.size
    clear l5
    have vuf10 := vW1.trans uf10
    clear uf10 vW1 HShS6
    go_wp2_with fail
    go_ret
    exact ⟨retb (by simp), vuf10⟩
set_option maxHeartbeats 16000000 in
set_option maxRecDepth 100000 in
theorem or6_ok (y n M D : Int) (h : IsY y) (h2 : ¬ n < 1) (h3 : ¬ Cal.len y < n) (HC : Hid (cErr y M D = 0)) (HV : Hid (Cal.sm y M + D - 1 = Cal.sy y + n - 1)) (HF : Hid (∀ W, EnvC W → Calls Tryz.prog 17 #[.int .i64 y, .int .i64 n] W fun o w' => o = .returned (.tuple #[.agg #[.int .i64 y, .int .i64 M, .int .i64 D], .int .i64 0]) ∧ Dn W w')) (w : World) (hE : EnvC w) :
    Calls Tryz.prog 6 #[.int .i64 y, .int .i64 n] w fun ro w' => ro = .returned (.bool true) ∧ Dn w w' := by
  have HY := Lib.hid h
  have hs := sy_bdY y h
  have hl := len_bd y
  have c1 : decide (n < 1) = false := by simpa using h2
  have c2 : decide (Cal.len y < n) = false := by simpa using h3
  have n1 : 1 ≤ n ∧ n ≤ 366 := by omega
  clear h h2 h3 hl
  go_enter Tryz.func6, Tryz.ntmps6
  go_wp2_with fail
  refine (HF.out _ hE).mono ?_
  rintro e w1 ⟨rfl, qw1⟩
  have uw1 := qw1
  clear qw1
  go_wp2_with fail
  obtain ⟨W1, hW1⟩ : ∃ W1, W1 = w1.alloc (.cells #[.int .i64 y, .int .i64 M, .int .i64 D] 23) := ⟨_, rfl⟩
  have uW1 : Dn w1 W1 := by rw [hW1]; exact (Dn.refl _).alloc _
  have c2 : W1.cell? ⟨w1.heap.size, 0, none⟩ = some (.int .i64 y) := by rw [hW1]; simp [go_sem]
  have c3 : W1.cell? ⟨w1.heap.size, 1, none⟩ = some (.int .i64 M) := by rw [hW1]; simp [go_sem]
  have c4 : W1.cell? ⟨w1.heap.size, 2, none⟩ = some (.int .i64 D) := by rw [hW1]; simp [go_sem]
  have l5 : w1.heap.size < W1.heap.size := by rw [hW1]; simp <;> omega
  rw [← hW1]
  clear hW1
  have vW1 := uw1.trans uW1
  clear uW1 uw1
  refine (rIs_yes y _ HY.out).mono ?_
  rintro e w2 ⟨rfl, rfl⟩
  go_wp2_with fail
  refine (rLen y _ HY.out.b).mono ?_
  rintro e w3 ⟨rfl, rfl⟩
  go_wp2_with fail
  refine (cvDay_at y M D (Cal.sy y + n - 1) _ (hE.dn vW1) HC.out HV.out).mono ?_
  rintro e w4 ⟨rfl, qw4⟩
  have l6 := Nat.lt_of_lt_of_le l5 qw4.size
  have c7 := qw4.cell c2
  have c8 := qw4.cell c3
  have c9 := qw4.cell c4
  clear l5 c2 c3 c4
  have uw4 := vW1.trans qw4
  clear qw4 vW1
  go_wp2_with fail
  refine (rStart y _ HY.out.b).mono ?_
  rintro e w5 ⟨rfl, rfl⟩
  go_wp2_with fail
  refine (nm6 (Cal.sy y + n - 1) _).mono ?_
  rintro e w6 ⟨rfl, qw6⟩
  have l10 := Nat.lt_of_lt_of_le l6 qw6.size
  have c11 := qw6.cell c7
  have c12 := qw6.cell c8
  have c13 := qw6.cell c9
  clear l6 c7 c8 c9
  have uw6 := uw4.trans qw6
  clear qw6 uw4
  go_wp2_with fail
  refine (lives6 _ (hE.dn uw6)).mono ?_
  rintro e w7 ⟨rfl, qw7⟩
  have l14 := Nat.lt_of_lt_of_le l10 qw7.size
  have c15 := qw7.cell c11
  have c16 := qw7.cell c12
  have c17 := qw7.cell c13
  clear l10 c11 c12 c13
  have uw7 := uw6.trans qw7
  clear qw7 uw6
  go_wp2_with fail
  go_ret
  exact ⟨retb (by simp), uw7⟩
theorem civilsOrdinal_true (y n : Int) (w : World) (_ : I64 y) (_ : I64 n) (hE : EnvC w) :
    Calls Tryz.prog 6 #[.int .i64 y, .int .i64 n] w fun ro w' => ro = .returned (.bool true) ∧ Dn w w' := by
  by_cases h : IsY y
  · by_cases h2 : n < 1
    · exact or6_r1 y n h h2 w hE
    · by_cases h3 : Cal.len y < n
      · exact or6_r2 y n h h2 h3 w hE
      · have hyr : Cal.yr (Cal.sy y + n - 1) = y := Cal.yr_of _ _ (by omega) (by rw [Cal.sy_succ]; omega)
        obtain ⟨m1, m2, m3, m4⟩ := mo_spec (Cal.sy y + n - 1)
        rw [hyr] at m3 m4
        rw [sm_succ y _ m1 m2] at m4
        exact or6_ok y n _ _ h h2 h3 (Lib.hid (cErr_of ⟨h, m1, m2⟩ (by omega) (by omega))) (Lib.hid (by omega)) (Lib.hid fun W hW => cvFo_ok y n h h2 h3 W hW) w hE
  · exact or6_no y n h w hE
set_option maxHeartbeats 16000000 in
set_option maxRecDepth 100000 in
theorem da6_bad (y m d E : Int) (he : cErr y m d = E) (h0 : E ≠ 0) (w : World) (hE : EnvC w) :
    Calls Tryz.prog 3 #[.agg #[.int .i64 y, .int .i64 m, .int .i64 d]] w fun ro w' => ro = .returned (.bool true) ∧ Dn w w' := by
  have H := Lib.hid he
  have H0 := Lib.hid h0
  have t : (E != 0) = true := by simpa using h0
  clear he h0
  go_enter Tryz.func3, Tryz.ntmps3
  go_wp2_with fail
  obtain ⟨W1, hW1⟩ : ∃ W1, W1 = w.alloc (.cells #[.int .i64 y, .int .i64 m, .int .i64 d] 23) := ⟨_, rfl⟩
  have uW1 : Dn w W1 := by rw [hW1]; exact (Dn.refl _).alloc _
  have c2 : W1.cell? ⟨w.heap.size, 0, none⟩ = some (.int .i64 y) := by rw [hW1]; simp [go_sem]
  have c3 : W1.cell? ⟨w.heap.size, 1, none⟩ = some (.int .i64 m) := by rw [hW1]; simp [go_sem]
  have c4 : W1.cell? ⟨w.heap.size, 2, none⟩ = some (.int .i64 d) := by rw [hW1]; simp [go_sem]
  have l5 : w.heap.size < W1.heap.size := by rw [hW1]; simp <;> omega
  rw [← hW1]
  clear hW1
  refine (rc6Chk y m d E _ H.out).mono ?_
  rintro e w1 ⟨rfl, qw1⟩
  have l6 := Nat.lt_of_lt_of_le l5 qw1.size
  have c7 := qw1.cell c2
  have c8 := qw1.cell c3
  have c9 := qw1.cell c4
  clear l5 c2 c3 c4
  have uw1 := uW1.trans qw1
  clear qw1 uW1
  go_wp2_with fail
  refine (cvDay_bad y m d E H.out H0.out _ (hE.dn uw1)).mono ?_
  rintro e w2 ⟨rfl, qw2⟩
  have l10 := Nat.lt_of_lt_of_le l6 qw2.size
  have c11 := qw2.cell c7
  have c12 := qw2.cell c8
  have c13 := qw2.cell c9
  clear l6 c7 c8 c9
  have uw2 := uw1.trans qw2
  clear qw2 uw1
  go_wp2_with fail
  refine (cvOrd_bad y m d E H.out H0.out _ (hE.dn uw2)).mono ?_
  rintro e w3 ⟨rfl, qw3⟩
  have l14 := Nat.lt_of_lt_of_le l10 qw3.size
  have c15 := qw3.cell c11
  have c16 := qw3.cell c12
  have c17 := qw3.cell c13
  clear l10 c11 c12 c13
  have uw3 := uw2.trans qw3
  clear qw3 uw2
  go_wp2_with fail
  refine (cvChk y m d E _ (hE.dn uw3) H.out).mono ?_
  rintro e w4 ⟨rfl, qw4⟩
  have l18 := Nat.lt_of_lt_of_le l14 qw4.size
  have c19 := qw4.cell c15
  have c20 := qw4.cell c16
  have c21 := qw4.cell c17
  clear l14 c15 c16 c17
  have uw4 := uw3.trans qw4
  clear qw4 uw3
  go_wp2_with fail
  refine (lives6 _ (hE.dn uw4)).mono ?_
  rintro e w5 ⟨rfl, qw5⟩
  have l22 := Nat.lt_of_lt_of_le l18 qw5.size
  have c23 := qw5.cell c19
  have c24 := qw5.cell c20
  have c25 := qw5.cell c21
  clear l18 c19 c20 c21
  have uw5 := uw4.trans qw5
  clear qw5 uw4
  go_wp2_with fail
  go_ret
  exact ⟨retb (by simp), uw5⟩
set_option maxHeartbeats 16000000 in
set_option maxRecDepth 100000 in
theorem da6_ok (y m d V O : Int) (H : Hid (cErr y m d = 0)) (HM : Hid (IsM y m)) (HV : Hid (Cal.sm y m + d - 1 = V)) (HO : Hid (Cal.sm y m + d - 1 - Cal.sy y + 1 = O)) (hO : V - Cal.sy y + 1 = O) (hb : -3652425000000000000 ≤ V ∧ V ≤ 3652425000000000366) (hs : -3652425000000000000 ≤ Cal.sy y ∧ Cal.sy y ≤ 3652425000000000000) (HF : Hid (¬ O < 1 ∧ ¬ Cal.len y < O ∧ Cal.sm y m + d - 1 = Cal.sy y + O - 1)) (HD : Hid (∀ W, Calls Tryz.prog 15 #[.agg #[.int .i64 y, .int .i64 m, .int .i64 d]] W fun o w' => o = .returned (.int .i64 V) ∧ Dn W w')) (w : World) (hE : EnvC w) :
    Calls Tryz.prog 3 #[.agg #[.int .i64 y, .int .i64 m, .int .i64 d]] w fun ro w' => ro = .returned (.bool true) ∧ Dn w w' := by
  have e0 : (O == V - Cal.sy y + 1) = true := by rw [beq_iff_eq]; exact hO.symm
  have e1 : ¬ O ≠ V - Cal.sy y + 1 := fun h => h hO.symm
  go_enter Tryz.func3, Tryz.ntmps3
  go_wp2_with fail
  obtain ⟨W1, hW1⟩ : ∃ W1, W1 = w.alloc (.cells #[.int .i64 y, .int .i64 m, .int .i64 d] 23) := ⟨_, rfl⟩
  have uW1 : Dn w W1 := by rw [hW1]; exact (Dn.refl _).alloc _
  have c2 : W1.cell? ⟨w.heap.size, 0, none⟩ = some (.int .i64 y) := by rw [hW1]; simp [go_sem]
  have c3 : W1.cell? ⟨w.heap.size, 1, none⟩ = some (.int .i64 m) := by rw [hW1]; simp [go_sem]
  have c4 : W1.cell? ⟨w.heap.size, 2, none⟩ = some (.int .i64 d) := by rw [hW1]; simp [go_sem]
  have l5 : w.heap.size < W1.heap.size := by rw [hW1]; simp <;> omega
  rw [← hW1]
  clear hW1
  refine (rc6Chk y m d 0 _ H.out).mono ?_
  rintro e w1 ⟨rfl, qw1⟩
  have l6 := Nat.lt_of_lt_of_le l5 qw1.size
  have c7 := qw1.cell c2
  have c8 := qw1.cell c3
  have c9 := qw1.cell c4
  clear l5 c2 c3 c4
  have uw1 := uW1.trans qw1
  clear qw1 uW1
  go_wp2_with fail
  refine (cvDay_at y m d V _ (hE.dn uw1) H.out HV.out).mono ?_
  rintro e w2 ⟨rfl, qw2⟩
  have l10 := Nat.lt_of_lt_of_le l6 qw2.size
  have c11 := qw2.cell c7
  have c12 := qw2.cell c8
  have c13 := qw2.cell c9
  clear l6 c7 c8 c9
  have uw2 := uw1.trans qw2
  clear qw2 uw1
  go_wp2_with fail
  refine (cvOrd_at y m d O _ (hE.dn uw2) H.out HO.out).mono ?_
  rintro e w3 ⟨rfl, qw3⟩
  have l14 := Nat.lt_of_lt_of_le l10 qw3.size
  have c15 := qw3.cell c11
  have c16 := qw3.cell c12
  have c17 := qw3.cell c13
  clear l10 c11 c12 c13
  have uw3 := uw2.trans qw3
  clear qw3 uw2
  go_wp2_with fail
  refine (cvChk y m d 0 _ (hE.dn uw3) H.out).mono ?_
  rintro e w4 ⟨rfl, qw4⟩
  have l18 := Nat.lt_of_lt_of_le l14 qw4.size
  have c19 := qw4.cell c15
  have c20 := qw4.cell c16
  have c21 := qw4.cell c17
  clear l14 c15 c16 c17
  have uw4 := uw3.trans qw4
  clear qw4 uw3
  go_wp2_with fail
  refine (HD.out _).mono ?_
  rintro e w5 ⟨rfl, qw5⟩
  have l22 := Nat.lt_of_lt_of_le l18 qw5.size
  have c23 := qw5.cell c19
  have c24 := qw5.cell c20
  have c25 := qw5.cell c21
  clear l18 c19 c20 c21
  have uw5 := uw4.trans qw5
  clear qw5 uw4
  go_wp2_with fail
  refine (cvOf_at V y m d _ (hE.dn uw5) H.out HV.out).mono ?_
  rintro e w6 ⟨rfl, qw6⟩
  have l26 := Nat.lt_of_lt_of_le l22 qw6.size
  have c27 := qw6.cell c23
  have c28 := qw6.cell c24
  have c29 := qw6.cell c25
  clear l22 c23 c24 c25
  have uw6 := uw5.trans qw6
  clear qw6 uw5
  go_wp2_with fail
  obtain ⟨W30, hW30⟩ : ∃ W30, W30 = w6.alloc (.cells #[.int .i64 y, .int .i64 m, .int .i64 d] 23) := ⟨_, rfl⟩
  have uW30 : Dn w6 W30 := by rw [hW30]; exact (Dn.refl _).alloc _
  have l31 := Nat.lt_of_lt_of_le l26 uW30.size
  have c32 := uW30.cell c27
  have c33 := uW30.cell c28
  have c34 := uW30.cell c29
  clear l26 c27 c28 c29
  have c35 : W30.cell? ⟨w6.heap.size, 0, none⟩ = some (.int .i64 y) := by rw [hW30]; simp [go_sem]
  have c36 : W30.cell? ⟨w6.heap.size, 1, none⟩ = some (.int .i64 m) := by rw [hW30]; simp [go_sem]
  have c37 : W30.cell? ⟨w6.heap.size, 2, none⟩ = some (.int .i64 d) := by rw [hW30]; simp [go_sem]
  have l38 : w6.heap.size < W30.heap.size := by rw [hW30]; simp <;> omega
  rw [← hW30]
  clear hW30
  have vW30 := uw6.trans uW30
  clear uW30 uw6
  refine (cvFo_at y O m d _ (hE.dn vW30) H.out (by have := HF.out.1; omega) (by have := HF.out.2.1; omega) (by have := HF.out.2.2; omega)).mono ?_
  rintro e w7 ⟨rfl, qw7⟩
  have l39 := Nat.lt_of_lt_of_le l31 qw7.size
  have c40 := qw7.cell c32
  have c41 := qw7.cell c33
  have c42 := qw7.cell c34
  have l43 := Nat.lt_of_lt_of_le l38 qw7.size
  have c44 := qw7.cell c35
  have c45 := qw7.cell c36
  have c46 := qw7.cell c37
  clear l31 c32 c33 c34 l38 c35 c36 c37
  have uw7 := vW30.trans qw7
  clear qw7 vW30
  go_wp2_with fail
  obtain ⟨W47, hW47⟩ : ∃ W47, W47 = w7.alloc (.cells #[.int .i64 y, .int .i64 m, .int .i64 d] 23) := ⟨_, rfl⟩
  have uW47 : Dn w7 W47 := by rw [hW47]; exact (Dn.refl _).alloc _
  have l48 := Nat.lt_of_lt_of_le l39 uW47.size
  have c49 := uW47.cell c40
  have c50 := uW47.cell c41
  have c51 := uW47.cell c42
  have l52 := Nat.lt_of_lt_of_le l43 uW47.size
  have c53 := uW47.cell c44
  have c54 := uW47.cell c45
  have c55 := uW47.cell c46
  clear l39 c40 c41 c42 l43 c44 c45 c46
  have c56 : W47.cell? ⟨w7.heap.size, 0, none⟩ = some (.int .i64 y) := by rw [hW47]; simp [go_sem]
  have c57 : W47.cell? ⟨w7.heap.size, 1, none⟩ = some (.int .i64 m) := by rw [hW47]; simp [go_sem]
  have c58 : W47.cell? ⟨w7.heap.size, 2, none⟩ = some (.int .i64 d) := by rw [hW47]; simp [go_sem]
  have l59 : w7.heap.size < W47.heap.size := by rw [hW47]; simp <;> omega
  rw [← hW47]
  clear hW47
  have vW47 := uw7.trans uW47
  clear uW47 uw7
  refine (rStart y _ HM.out.y).mono ?_
  rintro e w8 ⟨rfl, rfl⟩
  go_wp2_with fail
  refine (g6_any y m d 0 y m d 0 _ (Or.inl ⟨rfl, rfl, rfl, rfl, rfl⟩)).mono ?_
  rintro e w9 ⟨rfl, qw9⟩
  have l60 := Nat.lt_of_lt_of_le l48 qw9.size
  have c61 := qw9.cell c49
  have c62 := qw9.cell c50
  have c63 := qw9.cell c51
  have l64 := Nat.lt_of_lt_of_le l52 qw9.size
  have c65 := qw9.cell c53
  have c66 := qw9.cell c54
  have c67 := qw9.cell c55
  have l68 := Nat.lt_of_lt_of_le l59 qw9.size
  have c69 := qw9.cell c56
  have c70 := qw9.cell c57
  have c71 := qw9.cell c58
  clear l48 c49 c50 c51 l52 c53 c54 c55 l59 c56 c57 c58
  have uw9 := vW47.trans qw9
  clear qw9 vW47
  go_wp2_with fail
  refine (g6_any y m d 0 y m d 0 _ (Or.inl ⟨rfl, rfl, rfl, rfl, rfl⟩)).mono ?_
  rintro e w10 ⟨rfl, qw10⟩
  have l72 := Nat.lt_of_lt_of_le l60 qw10.size
  have c73 := qw10.cell c61
  have c74 := qw10.cell c62
  have c75 := qw10.cell c63
  have l76 := Nat.lt_of_lt_of_le l64 qw10.size
  have c77 := qw10.cell c65
  have c78 := qw10.cell c66
  have c79 := qw10.cell c67
  have l80 := Nat.lt_of_lt_of_le l68 qw10.size
  have c81 := qw10.cell c69
  have c82 := qw10.cell c70
  have c83 := qw10.cell c71
  clear l60 c61 c62 c63 l64 c65 c66 c67 l68 c69 c70 c71
  have uw10 := uw9.trans qw10
  clear qw10 uw9
  go_wp2_with fail
  refine (lives6 _ (hE.dn uw10)).mono ?_
  rintro e w11 ⟨rfl, qw11⟩
  have l84 := Nat.lt_of_lt_of_le l72 qw11.size
  have c85 := qw11.cell c73
  have c86 := qw11.cell c74
  have c87 := qw11.cell c75
  have l88 := Nat.lt_of_lt_of_le l76 qw11.size
  have c89 := qw11.cell c77
  have c90 := qw11.cell c78
  have c91 := qw11.cell c79
  have l92 := Nat.lt_of_lt_of_le l80 qw11.size
  have c93 := qw11.cell c81
  have c94 := qw11.cell c82
  have c95 := qw11.cell c83
  clear l72 c73 c74 c75 l76 c77 c78 c79 l80 c81 c82 c83
  have uw11 := uw10.trans qw11
  clear qw11 uw10
  go_wp2_with fail
  go_ret
  exact ⟨retb (by simp), uw11⟩
theorem civilsDay_true (y m d : Int) (w : World) (_ : I64 y) (_ : I64 m) (_ : I64 d) (hE : EnvC w) :
    Calls Tryz.prog 3 #[.agg #[.int .i64 y, .int .i64 m, .int .i64 d]] w fun ro w' => ro = .returned (.bool true) ∧ Dn w w' := by
  by_cases h0 : cErr y m d = 0
  · obtain ⟨hm, d1, d2⟩ := cErr_ok h0
    have hb := sm_bd y m hm
    have hl := Cal.mlen_bd y m
    have hs := sy_bdY y hm.1
    have hc := Cal.cum_mono y (m + 1) 13 (by have := hm.2; omega) (by have := hm.2; omega) (by omega)
    have hc1 := Cal.cum_mono y 1 m (by omega) hm.2.1 (by have := hm.2; omega)
    rw [Cal.cum_13] at hc
    rw [Cal.cum_one] at hc1
    have hsm := sm_succ y m hm.2.1 hm.2.2
    have e1 : Cal.sm y m = Cal.sy y + Cal.cum y m := rfl
    have e2 : Cal.sm y (m + 1) = Cal.sy y + Cal.cum y (m + 1) := rfl
    exact da6_ok y m d _ _ (Lib.hid h0) (Lib.hid hm) (Lib.hid rfl) (Lib.hid rfl) rfl ⟨by omega, by omega⟩ ⟨hs.1, hs.2.1⟩ (Lib.hid ⟨by omega, by omega, by omega⟩) (Lib.hid fun W => rc6Day y m d hm d1 d2 W) w hE
  · exact da6_bad y m d _ rfl h0 w hE
end Go.Proofs.YtopbbcbpanfigaaGreatDoor
