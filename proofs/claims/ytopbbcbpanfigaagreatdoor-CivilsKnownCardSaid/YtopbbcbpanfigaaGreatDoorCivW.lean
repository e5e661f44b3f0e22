/- Joined texts: CivJ, CivM, CivN, CivO. (Printed by wip/gen/merge.py.) -/
import Derived.Test.YtopbbcbpanfigaaGreatDoorCivF
import Derived.Test.YtopbbcbpanfigaaGreatDoorCivH
import Derived.Test.YtopbbcbpanfigaaGreatDoorCivL
import Derived.Test.YtopbbcbpanfigaaGreatDoorCivS
import Derived.Test.YtopbbcbpanfigaaGreatDoorCivK
/-
  WALKS OF circalaw06: CivilsOrdinal, CivilsDay. (Printed by wip/gen/civ7.py.)
-/
namespace Go.Proofs.YtopbbcbpanfigaaGreatDoor
open Go.RowKit
set_option linter.unusedVariables false
set_option linter.unusedSimpArgs false
theorem kdVj_3 {W w1 w2 : World} {a0 a1 a2 : Addr} {v0 v1 v2 : Value} (k : Dn w1 w2) (h : Dn W w1 ∧ w1.cell? a0 = some v0 ∧ w1.cell? a1 = some v1 ∧ w1.cell? a2 = some v2) :
    Dn W w2 ∧ w2.cell? a0 = some v0 ∧ w2.cell? a1 = some v1 ∧ w2.cell? a2 = some v2 := by
  obtain ⟨h1, c0, c1, c2⟩ := h
  exact ⟨h1.trans k, k.cell c0, k.cell c1, k.cell c2⟩
set_option maxHeartbeats 16000000 in
set_option maxRecDepth 100000 in
theorem or6_no (y n : Int) (h : ¬ IsY y) (w : World) (hE : EnvC w) :
    Calls Tryz.prog 6 #[.int .i64 y, .int .i64 n] w fun ro w' => ro = .returned (.bool true) ∧ Dn w w' := by
  have HY := Lib.hid h
  clear h
  go_enter Tryz.func6, Tryz.ntmps6
  go_wp2_with fail
  refine (cvFo_no y n HY.out _ hE).mono ?_
  rintro e w1 ⟨rfl, qw1⟩
  have uw1 := qw1
  clear qw1
  go_wp2_with fail
  obtain ⟨W1, hW1⟩ : ∃ W1, W1 = w1.alloc (.cells #[.int .i64 0, .int .i64 0, .int .i64 0] 23) := ⟨_, rfl⟩
  have uW1 : Dn w1 W1 := by rw [hW1]; exact (Dn.refl _).alloc _
  have c2 : W1.cell? ⟨w1.heap.size, 0, none⟩ = some (.int .i64 0) := by rw [hW1]; simp [go_sem]
  have c3 : W1.cell? ⟨w1.heap.size, 1, none⟩ = some (.int .i64 0) := by rw [hW1]; simp [go_sem]
  have c4 : W1.cell? ⟨w1.heap.size, 2, none⟩ = some (.int .i64 0) := by rw [hW1]; simp [go_sem]
  have l5 : w1.heap.size < W1.heap.size := by rw [hW1]; simp <;> omega
  rw [← hW1]
  clear hW1
  have vW1 := uw1.trans uW1
  clear uW1 uw1
  refine (rIs_no y _ HY.out).mono ?_
  rintro e w2 ⟨rfl, rfl⟩
  go_wp2_with fail
  have hS6 := kdVj_3 (W := W1) (Dn.refl _) ⟨Dn.refl _, c2, c3, c4⟩
  have HShS6 := Lib.hid hS6
  clear c2 c3 c4
  go_region_held3 (fun w' => Dn W1 w' ∧ w'.cell? ⟨w1.heap.size, 0, none⟩ = some (.int .i64 0) ∧ w'.cell? ⟨w1.heap.size, 1, none⟩ = some (.int .i64 0) ∧ w'.cell? ⟨w1.heap.size, 2, none⟩ = some (.int .i64 0))
    (first | exact kdVj_3 ((Dn.refl _).drew) hS6 | exact kdVj_3 ‹Dn _ _› ‹_› | exact kdVj_3 (Up.dn ‹Up _ _›) ‹_› | assumption | exact kdVj_3 ((Dn.refl _).alloc _) ‹_›)
    (first
      | (go_at_call 25; refine (cl6 _ _ _ _).mono ?_; rintro e wa ⟨rfl, qa⟩)
      | (go_at_call 19; refine (g6_any _ _ _ _ _ _ _ _ _ ?_).mono ?_; (first | exact Or.inl ⟨rfl, rfl, rfl, rfl, rfl⟩ | exact Or.inr ⟨by decide, rfl, rfl, rfl, rfl⟩); rintro e wa ⟨rfl, qa⟩)
      | (go_at_call 14; refine (lives6 _ (hE.dn (Dn.trans vW1 (‹Dn W1 _ ∧ _› : _ ∧ _).1))).mono ?_; rintro e wa ⟨rfl, qa⟩))
  all_goals
    clear hS6
    obtain ⟨uf10, c7, c8, c9⟩ := (‹Dn W1 _ ∧ _› : _ ∧ _)
    obtain ⟨w11, rfl⟩ : ∃ w11 : World, w11 = wa := ⟨_, rfl⟩
    have l12 := Nat.lt_of_lt_of_le l5 uf10.size
    clear l5
    have vuf10 := vW1.trans uf10
    clear uf10 vW1 HShS6
    go_wp2_with fail
    go_ret
    exact ⟨retb (by simp), vuf10⟩
set_option maxHeartbeats 16000000 in
set_option maxRecDepth 100000 in
theorem or6_r1 (y n : Int) (h : IsY y) (h2 : n < 1) (w : World) (hE : EnvC w) :
    Calls Tryz.prog 6 #[.int .i64 y, .int .i64 n] w fun ro w' => ro = .returned (.bool true) ∧ Dn w w' := by
  have HY := Lib.hid h
  have HN := Lib.hid h2
  have c1 : decide (n < 1) = true := by simpa using h2
  clear h h2
  go_enter Tryz.func6, Tryz.ntmps6
  go_wp2_with fail
  refine (cvFo_r1 y n HY.out (by have := HN.out; omega) _ hE).mono ?_
  rintro e w1 ⟨rfl, qw1⟩
  have uw1 := qw1
  clear qw1
  go_wp2_with fail
  obtain ⟨W1, hW1⟩ : ∃ W1, W1 = w1.alloc (.cells #[.int .i64 0, .int .i64 0, .int .i64 0] 23) := ⟨_, rfl⟩
  have uW1 : Dn w1 W1 := by rw [hW1]; exact (Dn.refl _).alloc _
  have c2 : W1.cell? ⟨w1.heap.size, 0, none⟩ = some (.int .i64 0) := by rw [hW1]; simp [go_sem]
  have c3 : W1.cell? ⟨w1.heap.size, 1, none⟩ = some (.int .i64 0) := by rw [hW1]; simp [go_sem]
  have c4 : W1.cell? ⟨w1.heap.size, 2, none⟩ = some (.int .i64 0) := by rw [hW1]; simp [go_sem]
  have l5 : w1.heap.size < W1.heap.size := by rw [hW1]; simp <;> omega
  rw [← hW1]
  clear hW1
  have vW1 := uw1.trans uW1
  clear uW1 uw1
  refine (rIs_yes y _ HY.out).mono ?_
  rintro e w2 ⟨rfl, rfl⟩
  go_wp2_with fail
  have hS6 := kdVj_3 (W := W1) (Dn.refl _) ⟨Dn.refl _, c2, c3, c4⟩
  have HShS6 := Lib.hid hS6
  clear c2 c3 c4
  go_region_held3 (fun w' => Dn W1 w' ∧ w'.cell? ⟨w1.heap.size, 0, none⟩ = some (.int .i64 0) ∧ w'.cell? ⟨w1.heap.size, 1, none⟩ = some (.int .i64 0) ∧ w'.cell? ⟨w1.heap.size, 2, none⟩ = some (.int .i64 0))
    (first | exact kdVj_3 ((Dn.refl _).drew) hS6 | exact kdVj_3 ‹Dn _ _› ‹_› | exact kdVj_3 (Up.dn ‹Up _ _›) ‹_› | assumption | exact kdVj_3 ((Dn.refl _).alloc _) ‹_›)
    (first
      | (go_at_call 25; refine (cl6 _ _ _ _).mono ?_; rintro e wa ⟨rfl, qa⟩)
      | (go_at_call 19; refine (g6_any _ _ _ _ _ _ _ _ _ ?_).mono ?_; (first | exact Or.inl ⟨rfl, rfl, rfl, rfl, rfl⟩ | exact Or.inr ⟨by decide, rfl, rfl, rfl, rfl⟩); rintro e wa ⟨rfl, qa⟩)
      | (go_at_call 14; refine (lives6 _ (hE.dn (Dn.trans vW1 (‹Dn W1 _ ∧ _› : _ ∧ _).1))).mono ?_; rintro e wa ⟨rfl, qa⟩))
  all_goals
    clear hS6
    obtain ⟨uf10, c7, c8, c9⟩ := (‹Dn W1 _ ∧ _› : _ ∧ _)
    obtain ⟨w11, rfl⟩ : ∃ w11 : World, w11 = wa := ⟨_, rfl⟩
    have l12 := Nat.lt_of_lt_of_le l5 uf10.size
    clear l5
    have vuf10 := vW1.trans uf10
    clear uf10 vW1 HShS6
    go_wp2_with fail
    go_ret
    exact ⟨retb (by simp), vuf10⟩
set_option maxHeartbeats 16000000 in
set_option maxRecDepth 100000 in
theorem or6_r2 (y n : Int) (h : IsY y) (h2 : ¬ n < 1) (h3 : Cal.len y < n) (w : World) (hE : EnvC w) :
    Calls Tryz.prog 6 #[.int .i64 y, .int .i64 n] w fun ro w' => ro = .returned (.bool true) ∧ Dn w w' := by
  have HY := Lib.hid h
  have HN := Lib.hid h2
  have HL := Lib.hid h3
  have c1 : decide (n < 1) = false := by simpa using h2
  have c2 : decide (Cal.len y < n) = true := by simpa using h3
  clear h h2 h3
  go_enter Tryz.func6, Tryz.ntmps6
  go_wp2_with fail
  refine (cvFo_r2 y n HY.out (by have := HN.out; omega) (by have := HL.out; omega) _ hE).mono ?_
  rintro e w1 ⟨rfl, qw1⟩
  have uw1 := qw1
  clear qw1
  go_wp2_with fail
  obtain ⟨W1, hW1⟩ : ∃ W1, W1 = w1.alloc (.cells #[.int .i64 0, .int .i64 0, .int .i64 0] 23) := ⟨_, rfl⟩
  have uW1 : Dn w1 W1 := by rw [hW1]; exact (Dn.refl _).alloc _
  have c2 : W1.cell? ⟨w1.heap.size, 0, none⟩ = some (.int .i64 0) := by rw [hW1]; simp [go_sem]
  have c3 : W1.cell? ⟨w1.heap.size, 1, none⟩ = some (.int .i64 0) := by rw [hW1]; simp [go_sem]
  have c4 : W1.cell? ⟨w1.heap.size, 2, none⟩ = some (.int .i64 0) := by rw [hW1]; simp [go_sem]
  have l5 : w1.heap.size < W1.heap.size := by rw [hW1]; simp <;> omega
  rw [← hW1]
  clear hW1
  have vW1 := uw1.trans uW1
  clear uW1 uw1
  refine (rIs_yes y _ HY.out).mono ?_
  rintro e w2 ⟨rfl, rfl⟩
  go_wp2_with fail
  refine (rLen y _ HY.out.b).mono ?_
  rintro e w3 ⟨rfl, rfl⟩
  go_wp2_with fail
  have hS6 := kdVj_3 (W := W1) (Dn.refl _) ⟨Dn.refl _, c2, c3, c4⟩
  have HShS6 := Lib.hid hS6
  clear c2 c3 c4
  go_region_held3 (fun w' => Dn W1 w' ∧ w'.cell? ⟨w1.heap.size, 0, none⟩ = some (.int .i64 0) ∧ w'.cell? ⟨w1.heap.size, 1, none⟩ = some (.int .i64 0) ∧ w'.cell? ⟨w1.heap.size, 2, none⟩ = some (.int .i64 0))
    (first | exact kdVj_3 ((Dn.refl _).drew) hS6 | exact kdVj_3 ‹Dn _ _› ‹_› | exact kdVj_3 (Up.dn ‹Up _ _›) ‹_› | assumption | exact kdVj_3 ((Dn.refl _).alloc _) ‹_›)
    (first
      | (go_at_call 25; refine (cl6 _ _ _ _).mono ?_; rintro e wa ⟨rfl, qa⟩)
      | (go_at_call 19; refine (g6_any _ _ _ _ _ _ _ _ _ ?_).mono ?_; (first | exact Or.inl ⟨rfl, rfl, rfl, rfl, rfl⟩ | exact Or.inr ⟨by decide, rfl, rfl, rfl, rfl⟩); rintro e wa ⟨rfl, qa⟩)
      | (go_at_call 14; refine (lives6 _ (hE.dn (Dn.trans vW1 (‹Dn W1 _ ∧ _› : _ ∧ _).1))).mono ?_; rintro e wa ⟨rfl, qa⟩))
  all_goals
    clear hS6
    obtain ⟨uf10, c7, c8, c9⟩ := (‹Dn W1 _ ∧ _› : _ ∧ _)
    obtain ⟨w11, rfl⟩ : ∃ w11 : World, w11 = wa := ⟨_, rfl⟩
    have l12 := Nat.lt_of_lt_of_le l5 uf10.size
    clear l5
    have vuf10 := vW1.trans uf10
    clear uf10 vW1 HShS6
    go_wp2_with fail
    go_ret
    exact ⟨retb (by simp), vuf10⟩
set_option maxHeartbeats 16000000 in
set_option maxRecDepth 100000 in
theorem or6_ok (y n M D : Int) (h : IsY y) (h2 : ¬ n < 1) (h3 : ¬ Cal.len y < n) (HC : Hid (cErr y M D = 0)) (HV : Hid (Cal.sm y M + D - 1 = Cal.sy y + n - 1)) (HF : Hid (∀ W, EnvC W → Calls Tryz.prog 17 #[.int .i64 y, .int .i64 n] W fun o w' => o = .returned (.tuple #[.agg #[.int .i64 y, .int .i64 M, .int .i64 D], .int .i64 0]) ∧ Dn W w')) (w : World) (hE : EnvC w) :
    Calls Tryz.prog 6 #[.int .i64 y, .int .i64 n] w fun ro w' => ro = .returned (.bool true) ∧ Dn w w' := by
  have HY := Lib.hid h
  have hs := sy_bdY y h
  have hl := len_bd y
  have c1 : decide (n < 1) = false := by simpa using h2
  have c2 : decide (Cal.len y < n) = false := by simpa using h3
  have n1 : 1 ≤ n ∧ n ≤ 366 := by omega
  clear h h2 h3 hl
  go_enter Tryz.func6, Tryz.ntmps6
  go_wp2_with fail
  refine (HF.out _ hE).mono ?_
  rintro e w1 ⟨rfl, qw1⟩
  have uw1 := qw1
  clear qw1
  go_wp2_with fail
  obtain ⟨W1, hW1⟩ : ∃ W1, W1 = w1.alloc (.cells #[.int .i64 y, .int .i64 M, .int .i64 D] 23) := ⟨_, rfl⟩
  have uW1 : Dn w1 W1 := by rw [hW1]; exact (Dn.refl _).alloc _
  have c2 : W1.cell? ⟨w1.heap.size, 0, none⟩ = some (.int .i64 y) := by rw [hW1]; simp [go_sem]
  have c3 : W1.cell? ⟨w1.heap.size, 1, none⟩ = some (.int .i64 M) := by rw [hW1]; simp [go_sem]
  have c4 : W1.cell? ⟨w1.heap.size, 2, none⟩ = some (.int .i64 D) := by rw [hW1]; simp [go_sem]
  have l5 : w1.heap.size < W1.heap.size := by rw [hW1]; simp <;> omega
  rw [← hW1]
  clear hW1
  have vW1 := uw1.trans uW1
  clear uW1 uw1
  refine (rIs_yes y _ HY.out).mono ?_
  rintro e w2 ⟨rfl, rfl⟩
  go_wp2_with fail
  refine (rLen y _ HY.out.b).mono ?_
  rintro e w3 ⟨rfl, rfl⟩
  go_wp2_with fail
  refine (cvDay_at y M D (Cal.sy y + n - 1) _ (hE.dn vW1) HC.out HV.out).mono ?_
  rintro e w4 ⟨rfl, qw4⟩
  have l6 := Nat.lt_of_lt_of_le l5 qw4.size
  have c7 := qw4.cell c2
  have c8 := qw4.cell c3
  have c9 := qw4.cell c4
  clear l5 c2 c3 c4
  have uw4 := vW1.trans qw4
  clear qw4 vW1
  go_wp2_with fail
  refine (rStart y _ HY.out.b).mono ?_
  rintro e w5 ⟨rfl, rfl⟩
  go_wp2_with fail
  refine (nm6 (Cal.sy y + n - 1) _).mono ?_
  rintro e w6 ⟨rfl, qw6⟩
  have l10 := Nat.lt_of_lt_of_le l6 qw6.size
  have c11 := qw6.cell c7
  have c12 := qw6.cell c8
  have c13 := qw6.cell c9
  clear l6 c7 c8 c9
  have uw6 := uw4.trans qw6
  clear qw6 uw4
  go_wp2_with fail
  refine (lives6 _ (hE.dn uw6)).mono ?_
  rintro e w7 ⟨rfl, qw7⟩
  have l14 := Nat.lt_of_lt_of_le l10 qw7.size
  have c15 := qw7.cell c11
  have c16 := qw7.cell c12
  have c17 := qw7.cell c13
  clear l10 c11 c12 c13
  have uw7 := uw6.trans qw7
  clear qw7 uw6
  go_wp2_with fail
  go_ret
  exact ⟨retb (by simp), uw7⟩
theorem civilsOrdinal_true (y n : Int) (w : World) (_ : I64 y) (_ : I64 n) (hE : EnvC w) :
    Calls Tryz.prog 6 #[.int .i64 y, .int .i64 n] w fun ro w' => ro = .returned (.bool true) ∧ Dn w w' := by
  by_cases h : IsY y
  · by_cases h2 : n < 1
    · exact or6_r1 y n h h2 w hE
    · by_cases h3 : Cal.len y < n
      · exact or6_r2 y n h h2 h3 w hE
      · have hyr : Cal.yr (Cal.sy y + n - 1) = y := Cal.yr_of _ _ (by omega) (by rw [Cal.sy_succ]; omega)
        obtain ⟨m1, m2, m3, m4⟩ := mo_spec (Cal.sy y + n - 1)
        rw [hyr] at m3 m4
        rw [sm_succ y _ m1 m2] at m4
        exact or6_ok y n _ _ h h2 h3 (Lib.hid (cErr_of ⟨h, m1, m2⟩ (by omega) (by omega))) (Lib.hid (by omega)) (Lib.hid fun W hW => cvFo_ok y n h h2 h3 W hW) w hE
  · exact or6_no y n h w hE
set_option maxHeartbeats 16000000 in
set_option maxRecDepth 100000 in
theorem da6_bad (y m d E : Int) (he : cErr y m d = E) (h0 : E ≠ 0) (w : World) (hE : EnvC w) :
    Calls Tryz.prog 3 #[.agg #[.int .i64 y, .int .i64 m, .int .i64 d]] w fun ro w' => ro = .returned (.bool true) ∧ Dn w w' := by
  have H := Lib.hid he
  have H0 := Lib.hid h0
  have t : (E != 0) = true := by simpa using h0
  clear he h0
  go_enter Tryz.func3, Tryz.ntmps3
  go_wp2_with fail
  obtain ⟨W1, hW1⟩ : ∃ W1, W1 = w.alloc (.cells #[.int .i64 y, .int .i64 m, .int .i64 d] 23) := ⟨_, rfl⟩
  have uW1 : Dn w W1 := by rw [hW1]; exact (Dn.refl _).alloc _
  have c2 : W1.cell? ⟨w.heap.size, 0, none⟩ = some (.int .i64 y) := by rw [hW1]; simp [go_sem]
  have c3 : W1.cell? ⟨w.heap.size, 1, none⟩ = some (.int .i64 m) := by rw [hW1]; simp [go_sem]
  have c4 : W1.cell? ⟨w.heap.size, 2, none⟩ = some (.int .i64 d) := by rw [hW1]; simp [go_sem]
  have l5 : w.heap.size < W1.heap.size := by rw [hW1]; simp <;> omega
  rw [← hW1]
  clear hW1
  refine (rc6Chk y m d E _ H.out).mono ?_
  rintro e w1 ⟨rfl, qw1⟩
  have l6 := Nat.lt_of_lt_of_le l5 qw1.size
  have c7 := qw1.cell c2
  have c8 := qw1.cell c3
  have c9 := qw1.cell c4
  clear l5 c2 c3 c4
  have uw1 := uW1.trans qw1
  clear qw1 uW1
  go_wp2_with fail
  refine (cvDay_bad y m d E H.out H0.out _ (hE.dn uw1)).mono ?_
  rintro e w2 ⟨rfl, qw2⟩
  have l10 := Nat.lt_of_lt_of_le l6 qw2.size
  have c11 := qw2.cell c7
  have c12 := qw2.cell c8
  have c13 := qw2.cell c9
  clear l6 c7 c8 c9
  have uw2 := uw1.trans qw2
  clear qw2 uw1
  go_wp2_with fail
  refine (cvOrd_bad y m d E H.out H0.out _ (hE.dn uw2)).mono ?_
  rintro e w3 ⟨rfl, qw3⟩
  have l14 := Nat.lt_of_lt_of_le l10 qw3.size
  have c15 := qw3.cell c11
  have c16 := qw3.cell c12
  have c17 := qw3.cell c13
  clear l10 c11 c12 c13
  have uw3 := uw2.trans qw3
  clear qw3 uw2
  go_wp2_with fail
  refine (cvChk y m d E _ (hE.dn uw3) H.out).mono ?_
  rintro e w4 ⟨rfl, qw4⟩
  have l18 := Nat.lt_of_lt_of_le l14 qw4.size
  have c19 := qw4.cell c15
  have c20 := qw4.cell c16
  have c21 := qw4.cell c17
  clear l14 c15 c16 c17
  have uw4 := uw3.trans qw4
  clear qw4 uw3
  go_wp2_with fail
  refine (lives6 _ (hE.dn uw4)).mono ?_
  rintro e w5 ⟨rfl, qw5⟩
  have l22 := Nat.lt_of_lt_of_le l18 qw5.size
  have c23 := qw5.cell c19
  have c24 := qw5.cell c20
  have c25 := qw5.cell c21
  clear l18 c19 c20 c21
  have uw5 := uw4.trans qw5
  clear qw5 uw4
  go_wp2_with fail
  go_ret
  exact ⟨retb (by simp), uw5⟩
set_option maxHeartbeats 16000000 in
set_option maxRecDepth 100000 in
theorem da6_ok (y m d V O : Int) (H : Hid (cErr y m d = 0)) (HM : Hid (IsM y m)) (HV : Hid (Cal.sm y m + d - 1 = V)) (HO : Hid (Cal.sm y m + d - 1 - Cal.sy y + 1 = O)) (hO : V - Cal.sy y + 1 = O) (hb : -3652425000000000000 ≤ V ∧ V ≤ 3652425000000000366) (hs : -3652425000000000000 ≤ Cal.sy y ∧ Cal.sy y ≤ 3652425000000000000) (HF : Hid (¬ O < 1 ∧ ¬ Cal.len y < O ∧ Cal.sm y m + d - 1 = Cal.sy y + O - 1)) (HD : Hid (∀ W, Calls Tryz.prog 15 #[.agg #[.int .i64 y, .int .i64 m, .int .i64 d]] W fun o w' => o = .returned (.int .i64 V) ∧ Dn W w')) (w : World) (hE : EnvC w) :
    Calls Tryz.prog 3 #[.agg #[.int .i64 y, .int .i64 m, .int .i64 d]] w fun ro w' => ro = .returned (.bool true) ∧ Dn w w' := by
  have e0 : (O == V - Cal.sy y + 1) = true := by rw [beq_iff_eq]; exact hO.symm
  have e1 : ¬ O ≠ V - Cal.sy y + 1 := fun h => h hO.symm
  go_enter Tryz.func3, Tryz.ntmps3
  go_wp2_with fail
  obtain ⟨W1, hW1⟩ : ∃ W1, W1 = w.alloc (.cells #[.int .i64 y, .int .i64 m, .int .i64 d] 23) := ⟨_, rfl⟩
  have uW1 : Dn w W1 := by rw [hW1]; exact (Dn.refl _).alloc _
  have c2 : W1.cell? ⟨w.heap.size, 0, none⟩ = some (.int .i64 y) := by rw [hW1]; simp [go_sem]
  have c3 : W1.cell? ⟨w.heap.size, 1, none⟩ = some (.int .i64 m) := by rw [hW1]; simp [go_sem]
  have c4 : W1.cell? ⟨w.heap.size, 2, none⟩ = some (.int .i64 d) := by rw [hW1]; simp [go_sem]
  have l5 : w.heap.size < W1.heap.size := by rw [hW1]; simp <;> omega
  rw [← hW1]
  clear hW1
  refine (rc6Chk y m d 0 _ H.out).mono ?_
  rintro e w1 ⟨rfl, qw1⟩
  have l6 := Nat.lt_of_lt_of_le l5 qw1.size
  have c7 := qw1.cell c2
  have c8 := qw1.cell c3
  have c9 := qw1.cell c4
  clear l5 c2 c3 c4
  have uw1 := uW1.trans qw1
  clear qw1 uW1
  go_wp2_with fail
  refine (cvDay_at y m d V _ (hE.dn uw1) H.out HV.out).mono ?_
  rintro e w2 ⟨rfl, qw2⟩
  have l10 := Nat.lt_of_lt_of_le l6 qw2.size
  have c11 := qw2.cell c7
  have c12 := qw2.cell c8
  have c13 := qw2.cell c9
  clear l6 c7 c8 c9
  have uw2 := uw1.trans qw2
  clear qw2 uw1
  go_wp2_with fail
  refine (cvOrd_at y m d O _ (hE.dn uw2) H.out HO.out).mono ?_
  rintro e w3 ⟨rfl, qw3⟩
  have l14 := Nat.lt_of_lt_of_le l10 qw3.size
  have c15 := qw3.cell c11
  have c16 := qw3.cell c12
  have c17 := qw3.cell c13
  clear l10 c11 c12 c13
  have uw3 := uw2.trans qw3
  clear qw3 uw2
  go_wp2_with fail
  refine (cvChk y m d 0 _ (hE.dn uw3) H.out).mono ?_
  rintro e w4 ⟨rfl, qw4⟩
  have l18 := Nat.lt_of_lt_of_le l14 qw4.size
  have c19 := qw4.cell c15
  have c20 := qw4.cell c16
  have c21 := qw4.cell c17
  clear l14 c15 c16 c17
  have uw4 := uw3.trans qw4
  clear qw4 uw3
  go_wp2_with fail
  refine (HD.out _).mono ?_
  rintro e w5 ⟨rfl, qw5⟩
  have l22 := Nat.lt_of_lt_of_le l18 qw5.size
  have c23 := qw5.cell c19
  have c24 := qw5.cell c20
  have c25 := qw5.cell c21
  clear l18 c19 c20 c21
  have uw5 := uw4.trans qw5
  clear qw5 uw4
  go_wp2_with fail
  refine (cvOf_at V y m d _ (hE.dn uw5) H.out HV.out).mono ?_
  rintro e w6 ⟨rfl, qw6⟩
  have l26 := Nat.lt_of_lt_of_le l22 qw6.size
  have c27 := qw6.cell c23
  have c28 := qw6.cell c24
  have c29 := qw6.cell c25
  clear l22 c23 c24 c25
  have uw6 := uw5.trans qw6
  clear qw6 uw5
  go_wp2_with fail
  obtain ⟨W30, hW30⟩ : ∃ W30, W30 = w6.alloc (.cells #[.int .i64 y, .int .i64 m, .int .i64 d] 23) := ⟨_, rfl⟩
  have uW30 : Dn w6 W30 := by rw [hW30]; exact (Dn.refl _).alloc _
  have l31 := Nat.lt_of_lt_of_le l26 uW30.size
  have c32 := uW30.cell c27
  have c33 := uW30.cell c28
  have c34 := uW30.cell c29
  clear l26 c27 c28 c29
  have c35 : W30.cell? ⟨w6.heap.size, 0, none⟩ = some (.int .i64 y) := by rw [hW30]; simp [go_sem]
  have c36 : W30.cell? ⟨w6.heap.size, 1, none⟩ = some (.int .i64 m) := by rw [hW30]; simp [go_sem]
  have c37 : W30.cell? ⟨w6.heap.size, 2, none⟩ = some (.int .i64 d) := by rw [hW30]; simp [go_sem]
  have l38 : w6.heap.size < W30.heap.size := by rw [hW30]; simp <;> omega
  rw [← hW30]
  clear hW30
  have vW30 := uw6.trans uW30
  clear uW30 uw6
  refine (cvFo_at y O m d _ (hE.dn vW30) H.out (by have := HF.out.1; omega) (by have := HF.out.2.1; omega) (by have := HF.out.2.2; omega)).mono ?_
  rintro e w7 ⟨rfl, qw7⟩
  have l39 := Nat.lt_of_lt_of_le l31 qw7.size
  have c40 := qw7.cell c32
  have c41 := qw7.cell c33
  have c42 := qw7.cell c34
  have l43 := Nat.lt_of_lt_of_le l38 qw7.size
  have c44 := qw7.cell c35
  have c45 := qw7.cell c36
  have c46 := qw7.cell c37
  clear l31 c32 c33 c34 l38 c35 c36 c37
  have uw7 := vW30.trans qw7
  clear qw7 vW30
  go_wp2_with fail
  obtain ⟨W47, hW47⟩ : ∃ W47, W47 = w7.alloc (.cells #[.int .i64 y, .int .i64 m, .int .i64 d] 23) := ⟨_, rfl⟩
  have uW47 : Dn w7 W47 := by rw [hW47]; exact (Dn.refl _).alloc _
  have l48 := Nat.lt_of_lt_of_le l39 uW47.size
  have c49 := uW47.cell c40
  have c50 := uW47.cell c41
  have c51 := uW47.cell c42
  have l52 := Nat.lt_of_lt_of_le l43 uW47.size
  have c53 := uW47.cell c44
  have c54 := uW47.cell c45
  have c55 := uW47.cell c46
  clear l39 c40 c41 c42 l43 c44 c45 c46
  have c56 : W47.cell? ⟨w7.heap.size, 0, none⟩ = some (.int .i64 y) := by rw [hW47]; simp [go_sem]
  have c57 : W47.cell? ⟨w7.heap.size, 1, none⟩ = some (.int .i64 m) := by rw [hW47]; simp [go_sem]
  have c58 : W47.cell? ⟨w7.heap.size, 2, none⟩ = some (.int .i64 d) := by rw [hW47]; simp [go_sem]
  have l59 : w7.heap.size < W47.heap.size := by rw [hW47]; simp <;> omega
  rw [← hW47]
  clear hW47
  have vW47 := uw7.trans uW47
  clear uW47 uw7
  refine (rStart y _ HM.out.y).mono ?_
  rintro e w8 ⟨rfl, rfl⟩
  go_wp2_with fail
  refine (g6_any y m d 0 y m d 0 _ (Or.inl ⟨rfl, rfl, rfl, rfl, rfl⟩)).mono ?_
  rintro e w9 ⟨rfl, qw9⟩
  have l60 := Nat.lt_of_lt_of_le l48 qw9.size
  have c61 := qw9.cell c49
  have c62 := qw9.cell c50
  have c63 := qw9.cell c51
  have l64 := Nat.lt_of_lt_of_le l52 qw9.size
  have c65 := qw9.cell c53
  have c66 := qw9.cell c54
  have c67 := qw9.cell c55
  have l68 := Nat.lt_of_lt_of_le l59 qw9.size
  have c69 := qw9.cell c56
  have c70 := qw9.cell c57
  have c71 := qw9.cell c58
  clear l48 c49 c50 c51 l52 c53 c54 c55 l59 c56 c57 c58
  have uw9 := vW47.trans qw9
  clear qw9 vW47
  go_wp2_with fail
  refine (g6_any y m d 0 y m d 0 _ (Or.inl ⟨rfl, rfl, rfl, rfl, rfl⟩)).mono ?_
  rintro e w10 ⟨rfl, qw10⟩
  have l72 := Nat.lt_of_lt_of_le l60 qw10.size
  have c73 := qw10.cell c61
  have c74 := qw10.cell c62
  have c75 := qw10.cell c63
  have l76 := Nat.lt_of_lt_of_le l64 qw10.size
  have c77 := qw10.cell c65
  have c78 := qw10.cell c66
  have c79 := qw10.cell c67
  have l80 := Nat.lt_of_lt_of_le l68 qw10.size
  have c81 := qw10.cell c69
  have c82 := qw10.cell c70
  have c83 := qw10.cell c71
  clear l60 c61 c62 c63 l64 c65 c66 c67 l68 c69 c70 c71
  have uw10 := uw9.trans qw10
  clear qw10 uw9
  go_wp2_with fail
  refine (lives6 _ (hE.dn uw10)).mono ?_
  rintro e w11 ⟨rfl, qw11⟩
  have l84 := Nat.lt_of_lt_of_le l72 qw11.size
  have c85 := qw11.cell c73
  have c86 := qw11.cell c74
  have c87 := qw11.cell c75
  have l88 := Nat.lt_of_lt_of_le l76 qw11.size
  have c89 := qw11.cell c77
  have c90 := qw11.cell c78
  have c91 := qw11.cell c79
  have l92 := Nat.lt_of_lt_of_le l80 qw11.size
  have c93 := qw11.cell c81
  have c94 := qw11.cell c82
  have c95 := qw11.cell c83
  clear l72 c73 c74 c75 l76 c77 c78 c79 l80 c81 c82 c83
  have uw11 := uw10.trans qw11
  clear qw11 uw10
  go_wp2_with fail
  go_ret
  exact ⟨retb (by simp), uw11⟩
theorem civilsDay_true (y m d : Int) (w : World) (_ : I64 y) (_ : I64 m) (_ : I64 d) (hE : EnvC w) :
    Calls Tryz.prog 3 #[.agg #[.int .i64 y, .int .i64 m, .int .i64 d]] w fun ro w' => ro = .returned (.bool true) ∧ Dn w w' := by
  by_cases h0 : cErr y m d = 0
  · obtain ⟨hm, d1, d2⟩ := cErr_ok h0
    have hb := sm_bd y m hm
    have hl := Cal.mlen_bd y m
    have hs := sy_bdY y hm.1
    have hc := Cal.cum_mono y (m + 1) 13 (by have := hm.2; omega) (by have := hm.2; omega) (by omega)
    have hc1 := Cal.cum_mono y 1 m (by omega) hm.2.1 (by have := hm.2; omega)
    rw [Cal.cum_13] at hc
    rw [Cal.cum_one] at hc1
    have hsm := sm_succ y m hm.2.1 hm.2.2
    have e1 : Cal.sm y m = Cal.sy y + Cal.cum y m := rfl
    have e2 : Cal.sm y (m + 1) = Cal.sy y + Cal.cum y (m + 1) := rfl
    exact da6_ok y m d _ _ (Lib.hid h0) (Lib.hid hm) (Lib.hid rfl) (Lib.hid rfl) rfl ⟨by omega, by omega⟩ ⟨hs.1, hs.2.1⟩ (Lib.hid ⟨by omega, by omega, by omega⟩) (Lib.hid fun W => rc6Day y m d hm d1 d2 W) w hE
  · exact da6_bad y m d _ rfl h0 w hE
end Go.Proofs.YtopbbcbpanfigaaGreatDoor

/-
  WALKS OF circalaw06: CivilsText. (Printed by wip/gen/civ11.py.)
-/
namespace Go.Proofs.YtopbbcbpanfigaaGreatDoor
open Go.RowKit
set_option linter.unusedVariables false
set_option linter.unusedSimpArgs false
set_option maxHeartbeats 16000000 in
set_option maxRecDepth 100000 in
theorem tx6_bad (y m d E : Int) (he : cErr y m d = E) (h0 : E ≠ 0) (w : World) (hE : EnvC w) :
    Calls Tryz.prog 4 #[.agg #[.int .i64 y, .int .i64 m, .int .i64 d]] w fun ro w' => ro = .returned (.bool true) ∧ Dn w w' := by
  have H := Lib.hid he
  have H0 := Lib.hid h0
  have t : (E != 0) = true := by simpa using h0
  clear he h0
  go_enter Tryz.func4, Tryz.ntmps4
  go_wp2_with fail
  obtain ⟨W1, hW1⟩ : ∃ W1, W1 = w.alloc (.cells #[.int .i64 y, .int .i64 m, .int .i64 d] 23) := ⟨_, rfl⟩
  have uW1 : Dn w W1 := by rw [hW1]; exact (Dn.refl _).alloc _
  have c2 : W1.cell? ⟨w.heap.size, 0, none⟩ = some (.int .i64 y) := by rw [hW1]; simp [go_sem]
  have c3 : W1.cell? ⟨w.heap.size, 1, none⟩ = some (.int .i64 m) := by rw [hW1]; simp [go_sem]
  have c4 : W1.cell? ⟨w.heap.size, 2, none⟩ = some (.int .i64 d) := by rw [hW1]; simp [go_sem]
  have l5 : w.heap.size < W1.heap.size := by rw [hW1]; simp <;> omega
  rw [← hW1]
  clear hW1
  refine (rc6Chk y m d E _ H.out).mono ?_
  rintro e w1 ⟨rfl, qw1⟩
  have l6 := Nat.lt_of_lt_of_le l5 qw1.size
  have c7 := qw1.cell c2
  have c8 := qw1.cell c3
  have c9 := qw1.cell c4
  clear l5 c2 c3 c4
  have uw1 := uW1.trans qw1
  clear qw1 uW1
  go_wp2_with fail
  refine (cvTx_bad y m d E H.out H0.out _ (hE.dn uw1)).mono ?_
  rintro e w2 ⟨rfl, qw2⟩
  have l10 := Nat.lt_of_lt_of_le l6 qw2.size
  have c11 := qw2.cell c7
  have c12 := qw2.cell c8
  have c13 := qw2.cell c9
  clear l6 c7 c8 c9
  have uw2 := uw1.trans qw2
  clear qw2 uw1
  go_wp2_with fail
  refine (lives6 _ (hE.dn uw2)).mono ?_
  rintro e w3 ⟨rfl, qw3⟩
  have l14 := Nat.lt_of_lt_of_le l10 qw3.size
  have c15 := qw3.cell c11
  have c16 := qw3.cell c12
  have c17 := qw3.cell c13
  clear l10 c11 c12 c13
  have uw3 := uw2.trans qw3
  clear qw3 uw2
  go_wp2_with fail
  go_ret
  exact ⟨retb (by simp), uw3⟩
set_option maxHeartbeats 16000000 in
set_option maxRecDepth 100000 in
theorem tx6_ok (y m d : Int) (S : ByteArray) (H : Hid (cErr y m d = 0)) (HTx : Hid (∀ W, EnvC W → Calls Tryz.prog 20 #[.agg #[.int .i64 y, .int .i64 m, .int .i64 d]] W fun o w' => o = .returned (.tuple #[.string S, .int .i64 0]) ∧ Dn W w')) (HPs : Hid (∀ W, EnvC W → Calls Tryz.prog 21 #[.string S] W fun o w' => o = .returned (.tuple #[.agg #[.int .i64 y, .int .i64 m, .int .i64 d], .int .i64 0]) ∧ Dn W w')) (HRx : Hid (∀ W, Calls Tryz.prog 22 #[.agg #[.int .i64 y, .int .i64 m, .int .i64 d]] W fun o w' => o = .returned (.string S) ∧ Dn W w')) (w : World) (hE : EnvC w) :
    Calls Tryz.prog 4 #[.agg #[.int .i64 y, .int .i64 m, .int .i64 d]] w fun ro w' => ro = .returned (.bool true) ∧ Dn w w' := by
  go_enter Tryz.func4, Tryz.ntmps4
  go_wp2_with fail
  obtain ⟨W1, hW1⟩ : ∃ W1, W1 = w.alloc (.cells #[.int .i64 y, .int .i64 m, .int .i64 d] 23) := ⟨_, rfl⟩
  have uW1 : Dn w W1 := by rw [hW1]; exact (Dn.refl _).alloc _
  have c2 : W1.cell? ⟨w.heap.size, 0, none⟩ = some (.int .i64 y) := by rw [hW1]; simp [go_sem]
  have c3 : W1.cell? ⟨w.heap.size, 1, none⟩ = some (.int .i64 m) := by rw [hW1]; simp [go_sem]
  have c4 : W1.cell? ⟨w.heap.size, 2, none⟩ = some (.int .i64 d) := by rw [hW1]; simp [go_sem]
  have l5 : w.heap.size < W1.heap.size := by rw [hW1]; simp <;> omega
  rw [← hW1]
  clear hW1
  refine (rc6Chk y m d 0 _ H.out).mono ?_
  rintro e w1 ⟨rfl, qw1⟩
  have l6 := Nat.lt_of_lt_of_le l5 qw1.size
  have c7 := qw1.cell c2
  have c8 := qw1.cell c3
  have c9 := qw1.cell c4
  clear l5 c2 c3 c4
  have uw1 := uW1.trans qw1
  clear qw1 uW1
  go_wp2_with fail
  refine (HTx.out _ (hE.dn uw1)).mono ?_
  rintro e w2 ⟨rfl, qw2⟩
  have l10 := Nat.lt_of_lt_of_le l6 qw2.size
  have c11 := qw2.cell c7
  have c12 := qw2.cell c8
  have c13 := qw2.cell c9
  clear l6 c7 c8 c9
  have uw2 := uw1.trans qw2
  clear qw2 uw1
  go_wp2_with fail
  refine (HPs.out _ (hE.dn uw2)).mono ?_
  rintro e w3 ⟨rfl, qw3⟩
  have l14 := Nat.lt_of_lt_of_le l10 qw3.size
  have c15 := qw3.cell c11
  have c16 := qw3.cell c12
  have c17 := qw3.cell c13
  clear l10 c11 c12 c13
  have uw3 := uw2.trans qw3
  clear qw3 uw2
  go_wp2_with fail
  obtain ⟨W18, hW18⟩ : ∃ W18, W18 = w3.alloc (.cells #[.int .i64 y, .int .i64 m, .int .i64 d] 23) := ⟨_, rfl⟩
  have uW18 : Dn w3 W18 := by rw [hW18]; exact (Dn.refl _).alloc _
  have l19 := Nat.lt_of_lt_of_le l14 uW18.size
  have c20 := uW18.cell c15
  have c21 := uW18.cell c16
  have c22 := uW18.cell c17
  clear l14 c15 c16 c17
  have c23 : W18.cell? ⟨w3.heap.size, 0, none⟩ = some (.int .i64 y) := by rw [hW18]; simp [go_sem]
  have c24 : W18.cell? ⟨w3.heap.size, 1, none⟩ = some (.int .i64 m) := by rw [hW18]; simp [go_sem]
  have c25 : W18.cell? ⟨w3.heap.size, 2, none⟩ = some (.int .i64 d) := by rw [hW18]; simp [go_sem]
  have l26 : w3.heap.size < W18.heap.size := by rw [hW18]; simp <;> omega
  rw [← hW18]
  clear hW18
  have vW18 := uw3.trans uW18
  clear uW18 uw3
  refine (HRx.out _).mono ?_
  rintro e w4 ⟨rfl, qw4⟩
  have l27 := Nat.lt_of_lt_of_le l19 qw4.size
  have c28 := qw4.cell c20
  have c29 := qw4.cell c21
  have c30 := qw4.cell c22
  have l31 := Nat.lt_of_lt_of_le l26 qw4.size
  have c32 := qw4.cell c23
  have c33 := qw4.cell c24
  have c34 := qw4.cell c25
  clear l19 c20 c21 c22 l26 c23 c24 c25
  have uw4 := vW18.trans qw4
  clear qw4 vW18
  go_wp2_with fail
  refine (g6_any y m d 0 y m d 0 _ (Or.inl ⟨rfl, rfl, rfl, rfl, rfl⟩)).mono ?_
  rintro e w5 ⟨rfl, qw5⟩
  have l35 := Nat.lt_of_lt_of_le l27 qw5.size
  have c36 := qw5.cell c28
  have c37 := qw5.cell c29
  have c38 := qw5.cell c30
  have l39 := Nat.lt_of_lt_of_le l31 qw5.size
  have c40 := qw5.cell c32
  have c41 := qw5.cell c33
  have c42 := qw5.cell c34
  clear l27 c28 c29 c30 l31 c32 c33 c34
  have uw5 := uw4.trans qw5
  clear qw5 uw4
  go_wp2_with fail
  refine (lives6 _ (hE.dn uw5)).mono ?_
  rintro e w6 ⟨rfl, qw6⟩
  have l43 := Nat.lt_of_lt_of_le l35 qw6.size
  have c44 := qw6.cell c36
  have c45 := qw6.cell c37
  have c46 := qw6.cell c38
  have l47 := Nat.lt_of_lt_of_le l39 qw6.size
  have c48 := qw6.cell c40
  have c49 := qw6.cell c41
  have c50 := qw6.cell c42
  clear l35 c36 c37 c38 l39 c40 c41 c42
  have uw6 := uw5.trans qw6
  clear qw6 uw5
  go_wp2_with fail
  go_ret
  exact ⟨retb (by simp), uw6⟩
theorem cT_len (y m d : Int) (h : cErr y m d = 0) : (cT y m d).length ≤ 1000 := by
  obtain ⟨⟨⟨y1, y2⟩, m1, m2⟩, d1, d2⟩ := cErr_ok h
  have hml := Cal.mlen_bd y m
  have ly : (dcm y.natAbs).length ≤ 17 := dcm_len _ 17 (by decide) (by rw [show Dg.p10 17 = 100000000000000000 by decide]; omega)
  have lm := dcm_two m.natAbs (by omega)
  have ld := dcm_two d.natAbs (by omega)
  unfold cT
  split <;> simp [padd_len] <;> omega
theorem civilsText_true (y m d : Int) (w : World) (_ : I64 y) (_ : I64 m) (_ : I64 d) (hE : EnvC w) :
    Calls Tryz.prog 4 #[.agg #[.int .i64 y, .int .i64 m, .int .i64 d]] w fun ro w' => ro = .returned (.bool true) ∧ Dn w w' := by
  by_cases h0 : cErr y m d = 0
  · obtain ⟨hm, d1, d2⟩ := cErr_ok h0
    have hl := Cal.mlen_bd y m
    obtain ⟨f1, f2, f3, f4⟩ := cT_form y m d ⟨by have := hm.2; omega, by have := hm.2; omega⟩ ⟨by omega, by omega⟩
    have hp : PRes (cT y m d) y m d 0 := Or.inr (Or.inr ⟨f1, by rw [f2, f3, f4]; exact h0, f2.symm, f3.symm, f4.symm, rfl⟩)
    exact tx6_ok y m d _ (Lib.hid h0) (Lib.hid fun W hW => cvTx_ok y m d W hW h0) (Lib.hid fun W hW => cvParse (cT y m d) y m d 0 W hW (cT_len y m d h0) hp) (Lib.hid fun W => rc6Tx y m d W h0) w hE
  · exact tx6_bad y m d _ rfl h0 w hE
end Go.Proofs.YtopbbcbpanfigaaGreatDoor

/-
  WALKS OF circalaw06: CivilsParse. (Printed by wip/gen/civ11.py.)
-/
namespace Go.Proofs.YtopbbcbpanfigaaGreatDoor
open Go.RowKit
set_option linter.unusedVariables false
set_option linter.unusedSimpArgs false
set_option maxHeartbeats 16000000 in
set_option maxRecDepth 100000 in
theorem ps6_big (s : ByteArray) (h : 100 < s.size) (w : World) (hE : EnvC w) :
    Calls Tryz.prog 5 #[.string s] w fun ro w' => ro = .returned (.bool true) ∧ Dn w w' := by
  have t1 : decide (100 < (s.size : Int)) = true := by simp; omega
  go_enter Tryz.func5, Tryz.ntmps5
  go_wp2_with fail
  refine (lives6 _ hE).mono ?_
  rintro e w1 ⟨rfl, qw1⟩
  have uw1 := qw1
  clear qw1
  go_wp2_with fail
  go_ret
  exact ⟨rfl, uw1⟩
set_option maxHeartbeats 16000000 in
set_option maxRecDepth 100000 in
theorem ps6_bad (s : ByteArray) (E : Int) (h : ¬ 100 < s.size) (h0 : E ≠ 0) (HP : Hid (∀ W, EnvC W → Calls Tryz.prog 21 #[.string s] W fun o w' => o = .returned (.tuple #[.agg #[.int .i64 0, .int .i64 0, .int .i64 0], .int .i64 E]) ∧ Dn W w')) (HR : Hid (∀ W, EnvC W → Calls Tryz.prog 23 #[.string s] W fun o w' => o = .returned (.tuple #[.agg #[.int .i64 0, .int .i64 0, .int .i64 0], .int .i64 E]) ∧ Dn W w')) (w : World) (hE : EnvC w) :
    Calls Tryz.prog 5 #[.string s] w fun ro w' => ro = .returned (.bool true) ∧ Dn w w' := by
  have t1 : decide (100 < (s.size : Int)) = false := by simp; omega
  have t2 : ¬ 100 < s.size := by omega
  have t3 : s.size ≤ 100 := by omega
  clear h
  have H0 := Lib.hid h0
  have t0 : (E != 0) = true := by simpa using h0
  clear h0
  go_enter Tryz.func5, Tryz.ntmps5
  go_wp2_with fail
  refine (HP.out _ hE).mono ?_
  rintro e w1 ⟨rfl, qw1⟩
  have uw1 := qw1
  clear qw1
  go_wp2_with fail
  obtain ⟨W1, hW1⟩ : ∃ W1, W1 = w1.alloc (.cells #[.int .i64 0, .int .i64 0, .int .i64 0] 23) := ⟨_, rfl⟩
  have uW1 : Dn w1 W1 := by rw [hW1]; exact (Dn.refl _).alloc _
  have c2 : W1.cell? ⟨w1.heap.size, 0, none⟩ = some (.int .i64 0) := by rw [hW1]; simp [go_sem]
  have c3 : W1.cell? ⟨w1.heap.size, 1, none⟩ = some (.int .i64 0) := by rw [hW1]; simp [go_sem]
  have c4 : W1.cell? ⟨w1.heap.size, 2, none⟩ = some (.int .i64 0) := by rw [hW1]; simp [go_sem]
  have l5 : w1.heap.size < W1.heap.size := by rw [hW1]; simp <;> omega
  rw [← hW1]
  clear hW1
  have vW1 := uw1.trans uW1
  clear uW1 uw1
  refine (HR.out _ (hE.dn vW1)).mono ?_
  rintro e w2 ⟨rfl, qw2⟩
  have l6 := Nat.lt_of_lt_of_le l5 qw2.size
  have c7 := qw2.cell c2
  have c8 := qw2.cell c3
  have c9 := qw2.cell c4
  clear l5 c2 c3 c4
  have uw2 := vW1.trans qw2
  clear qw2 vW1
  go_wp2_with fail
  obtain ⟨W10, hW10⟩ : ∃ W10, W10 = w2.alloc (.cells #[.int .i64 0, .int .i64 0, .int .i64 0] 23) := ⟨_, rfl⟩
  have uW10 : Dn w2 W10 := by rw [hW10]; exact (Dn.refl _).alloc _
  have l11 := Nat.lt_of_lt_of_le l6 uW10.size
  have c12 := uW10.cell c7
  have c13 := uW10.cell c8
  have c14 := uW10.cell c9
  clear l6 c7 c8 c9
  have c15 : W10.cell? ⟨w2.heap.size, 0, none⟩ = some (.int .i64 0) := by rw [hW10]; simp [go_sem]
  have c16 : W10.cell? ⟨w2.heap.size, 1, none⟩ = some (.int .i64 0) := by rw [hW10]; simp [go_sem]
  have c17 : W10.cell? ⟨w2.heap.size, 2, none⟩ = some (.int .i64 0) := by rw [hW10]; simp [go_sem]
  have l18 : w2.heap.size < W10.heap.size := by rw [hW10]; simp <;> omega
  rw [← hW10]
  clear hW10
  have vW10 := uw2.trans uW10
  clear uW10 uw2
  refine (g6_any 0 0 0 E 0 0 0 E _ (Or.inr ⟨H0.out, rfl, rfl, rfl, rfl⟩)).mono ?_
  rintro e w3 ⟨rfl, qw3⟩
  have l19 := Nat.lt_of_lt_of_le l11 qw3.size
  have c20 := qw3.cell c12
  have c21 := qw3.cell c13
  have c22 := qw3.cell c14
  have l23 := Nat.lt_of_lt_of_le l18 qw3.size
  have c24 := qw3.cell c15
  have c25 := qw3.cell c16
  have c26 := qw3.cell c17
  clear l11 c12 c13 c14 l18 c15 c16 c17
  have uw3 := vW10.trans qw3
  clear qw3 vW10
  go_wp2_with fail
  refine (lives6 _ (hE.dn uw3)).mono ?_
  rintro e w4 ⟨rfl, qw4⟩
  have l27 := Nat.lt_of_lt_of_le l19 qw4.size
  have c28 := qw4.cell c20
  have c29 := qw4.cell c21
  have c30 := qw4.cell c22
  have l31 := Nat.lt_of_lt_of_le l23 qw4.size
  have c32 := qw4.cell c24
  have c33 := qw4.cell c25
  have c34 := qw4.cell c26
  clear l19 c20 c21 c22 l23 c24 c25 c26
  have uw4 := uw3.trans qw4
  clear qw4 uw3
  go_wp2_with fail
  go_ret
  exact ⟨rfl, uw4⟩
set_option maxHeartbeats 16000000 in
set_option maxRecDepth 100000 in
theorem ps6_ok (s : ByteArray) (y m d : Int) (h : ¬ 100 < s.size) (HP : Hid (∀ W, EnvC W → Calls Tryz.prog 21 #[.string s] W fun o w' => o = .returned (.tuple #[.agg #[.int .i64 y, .int .i64 m, .int .i64 d], .int .i64 0]) ∧ Dn W w')) (HR : Hid (∀ W, EnvC W → Calls Tryz.prog 23 #[.string s] W fun o w' => o = .returned (.tuple #[.agg #[.int .i64 y, .int .i64 m, .int .i64 d], .int .i64 0]) ∧ Dn W w')) (HTx : Hid (∀ W, EnvC W → Calls Tryz.prog 20 #[.agg #[.int .i64 y, .int .i64 m, .int .i64 d]] W fun o w' => o = .returned (.tuple #[.string s, .int .i64 0]) ∧ Dn W w')) (w : World) (hE : EnvC w) :
    Calls Tryz.prog 5 #[.string s] w fun ro w' => ro = .returned (.bool true) ∧ Dn w w' := by
  have t1 : decide (100 < (s.size : Int)) = false := by simp; omega
  have t2 : ¬ 100 < s.size := by omega
  have t3 : s.size ≤ 100 := by omega
  clear h
  go_enter Tryz.func5, Tryz.ntmps5
  go_wp2_with fail
  refine (HP.out _ hE).mono ?_
  rintro e w1 ⟨rfl, qw1⟩
  have uw1 := qw1
  clear qw1
  go_wp2_with fail
  obtain ⟨W1, hW1⟩ : ∃ W1, W1 = w1.alloc (.cells #[.int .i64 y, .int .i64 m, .int .i64 d] 23) := ⟨_, rfl⟩
  have uW1 : Dn w1 W1 := by rw [hW1]; exact (Dn.refl _).alloc _
  have c2 : W1.cell? ⟨w1.heap.size, 0, none⟩ = some (.int .i64 y) := by rw [hW1]; simp [go_sem]
  have c3 : W1.cell? ⟨w1.heap.size, 1, none⟩ = some (.int .i64 m) := by rw [hW1]; simp [go_sem]
  have c4 : W1.cell? ⟨w1.heap.size, 2, none⟩ = some (.int .i64 d) := by rw [hW1]; simp [go_sem]
  have l5 : w1.heap.size < W1.heap.size := by rw [hW1]; simp <;> omega
  rw [← hW1]
  clear hW1
  have vW1 := uw1.trans uW1
  clear uW1 uw1
  refine (HR.out _ (hE.dn vW1)).mono ?_
  rintro e w2 ⟨rfl, qw2⟩
  have l6 := Nat.lt_of_lt_of_le l5 qw2.size
  have c7 := qw2.cell c2
  have c8 := qw2.cell c3
  have c9 := qw2.cell c4
  clear l5 c2 c3 c4
  have uw2 := vW1.trans qw2
  clear qw2 vW1
  go_wp2_with fail
  obtain ⟨W10, hW10⟩ : ∃ W10, W10 = w2.alloc (.cells #[.int .i64 y, .int .i64 m, .int .i64 d] 23) := ⟨_, rfl⟩
  have uW10 : Dn w2 W10 := by rw [hW10]; exact (Dn.refl _).alloc _
  have l11 := Nat.lt_of_lt_of_le l6 uW10.size
  have c12 := uW10.cell c7
  have c13 := uW10.cell c8
  have c14 := uW10.cell c9
  clear l6 c7 c8 c9
  have c15 : W10.cell? ⟨w2.heap.size, 0, none⟩ = some (.int .i64 y) := by rw [hW10]; simp [go_sem]
  have c16 : W10.cell? ⟨w2.heap.size, 1, none⟩ = some (.int .i64 m) := by rw [hW10]; simp [go_sem]
  have c17 : W10.cell? ⟨w2.heap.size, 2, none⟩ = some (.int .i64 d) := by rw [hW10]; simp [go_sem]
  have l18 : w2.heap.size < W10.heap.size := by rw [hW10]; simp <;> omega
  rw [← hW10]
  clear hW10
  have vW10 := uw2.trans uW10
  clear uW10 uw2
  refine (g6_any y m d 0 y m d 0 _ (Or.inl ⟨rfl, rfl, rfl, rfl, rfl⟩)).mono ?_
  rintro e w3 ⟨rfl, qw3⟩
  have l19 := Nat.lt_of_lt_of_le l11 qw3.size
  have c20 := qw3.cell c12
  have c21 := qw3.cell c13
  have c22 := qw3.cell c14
  have l23 := Nat.lt_of_lt_of_le l18 qw3.size
  have c24 := qw3.cell c15
  have c25 := qw3.cell c16
  have c26 := qw3.cell c17
  clear l11 c12 c13 c14 l18 c15 c16 c17
  have uw3 := vW10.trans qw3
  clear qw3 vW10
  go_wp2_with fail
  refine (HTx.out _ (hE.dn uw3)).mono ?_
  rintro e w4 ⟨rfl, qw4⟩
  have l27 := Nat.lt_of_lt_of_le l19 qw4.size
  have c28 := qw4.cell c20
  have c29 := qw4.cell c21
  have c30 := qw4.cell c22
  have l31 := Nat.lt_of_lt_of_le l23 qw4.size
  have c32 := qw4.cell c24
  have c33 := qw4.cell c25
  have c34 := qw4.cell c26
  clear l19 c20 c21 c22 l23 c24 c25 c26
  have uw4 := uw3.trans qw4
  clear qw4 uw3
  go_wp2_with fail
  refine (lives6 _ (hE.dn uw4)).mono ?_
  rintro e w5 ⟨rfl, qw5⟩
  have l35 := Nat.lt_of_lt_of_le l27 qw5.size
  have c36 := qw5.cell c28
  have c37 := qw5.cell c29
  have c38 := qw5.cell c30
  have l39 := Nat.lt_of_lt_of_le l31 qw5.size
  have c40 := qw5.cell c32
  have c41 := qw5.cell c33
  have c42 := qw5.cell c34
  clear l27 c28 c29 c30 l31 c32 c33 c34
  have uw5 := uw4.trans qw5
  clear qw5 uw4
  go_wp2_with fail
  go_ret
  exact ⟨retb (by simp), uw5⟩
theorem civilsParse_true (s : ByteArray) (w : World) (_ : s.size ≤ 9223372036854775807) (hE : EnvC w) :
    Calls Tryz.prog 5 #[.string s] w fun ro w' => ro = .returned (.bool true) ∧ Dn w w' := by
  by_cases h : 100 < s.size
  · exact ps6_big s h w hE
  · have hl : s.data.toList.length ≤ 100 := by rw [len_is]; omega
    obtain ⟨y, m, d, e, hp⟩ := PRes.ex s.data.toList
    have HP := Lib.hid (fun W (hW : EnvC W) => cvParse s.data.toList y m d e W hW (by omega) hp)
    have HR := Lib.hid (fun W (hW : EnvC W) => rc6Parse s.data.toList y m d e W hl hp)
    rcases hp with ⟨_, rfl, rfl, rfl, rfl⟩ | ⟨_, _, h0, rfl, rfl, rfl⟩ | ⟨hc, h1, rfl, rfl, rfl, rfl⟩
    · exact ps6_bad s 5 h (by decide) HP HR w hE
    · exact ps6_bad s e h h0 HP HR w hE
    · have hT := fun W (hW : EnvC W) => cvTx_ok (yV s.data.toList) (mV s.data.toList) (dV s.data.toList) W hW h1
      rw [cT_of _ hc] at hT
      exact ps6_ok s _ _ _ h HP HR (Lib.hid hT) w hE
end Go.Proofs.YtopbbcbpanfigaaGreatDoor

/-
  WALKS OF circalaw06: CivilsKnown. (Printed by wip/gen/civ12.py.)
-/
namespace Go.Proofs.YtopbbcbpanfigaaGreatDoor
open Go.RowKit
set_option linter.unusedVariables false
set_option linter.unusedSimpArgs false
theorem kdVo_24 {W w1 w2 : World} {a0 a1 a2 a3 a4 a5 a6 a7 a8 a9 a10 a11 a12 a13 a14 a15 a16 a17 a18 a19 a20 a21 a22 a23 : Addr} {v0 v1 v2 v3 v4 v5 v6 v7 v8 v9 v10 v11 v12 v13 v14 v15 v16 v17 v18 v19 v20 v21 v22 v23 : Value} (k : Dn w1 w2) (h : Dn W w1 ∧ w1.cell? a0 = some v0 ∧ w1.cell? a1 = some v1 ∧ w1.cell? a2 = some v2 ∧ w1.cell? a3 = some v3 ∧ w1.cell? a4 = some v4 ∧ w1.cell? a5 = some v5 ∧ w1.cell? a6 = some v6 ∧ w1.cell? a7 = some v7 ∧ w1.cell? a8 = some v8 ∧ w1.cell? a9 = some v9 ∧ w1.cell? a10 = some v10 ∧ w1.cell? a11 = some v11 ∧ w1.cell? a12 = some v12 ∧ w1.cell? a13 = some v13 ∧ w1.cell? a14 = some v14 ∧ w1.cell? a15 = some v15 ∧ w1.cell? a16 = some v16 ∧ w1.cell? a17 = some v17 ∧ w1.cell? a18 = some v18 ∧ w1.cell? a19 = some v19 ∧ w1.cell? a20 = some v20 ∧ w1.cell? a21 = some v21 ∧ w1.cell? a22 = some v22 ∧ w1.cell? a23 = some v23) :
    Dn W w2 ∧ w2.cell? a0 = some v0 ∧ w2.cell? a1 = some v1 ∧ w2.cell? a2 = some v2 ∧ w2.cell? a3 = some v3 ∧ w2.cell? a4 = some v4 ∧ w2.cell? a5 = some v5 ∧ w2.cell? a6 = some v6 ∧ w2.cell? a7 = some v7 ∧ w2.cell? a8 = some v8 ∧ w2.cell? a9 = some v9 ∧ w2.cell? a10 = some v10 ∧ w2.cell? a11 = some v11 ∧ w2.cell? a12 = some v12 ∧ w2.cell? a13 = some v13 ∧ w2.cell? a14 = some v14 ∧ w2.cell? a15 = some v15 ∧ w2.cell? a16 = some v16 ∧ w2.cell? a17 = some v17 ∧ w2.cell? a18 = some v18 ∧ w2.cell? a19 = some v19 ∧ w2.cell? a20 = some v20 ∧ w2.cell? a21 = some v21 ∧ w2.cell? a22 = some v22 ∧ w2.cell? a23 = some v23 := by
  obtain ⟨h1, c0, c1, c2, c3, c4, c5, c6, c7, c8, c9, c10, c11, c12, c13, c14, c15, c16, c17, c18, c19, c20, c21, c22, c23⟩ := h
  exact ⟨h1.trans k, k.cell c0, k.cell c1, k.cell c2, k.cell c3, k.cell c4, k.cell c5, k.cell c6, k.cell c7, k.cell c8, k.cell c9, k.cell c10, k.cell c11, k.cell c12, k.cell c13, k.cell c14, k.cell c15, k.cell c16, k.cell c17, k.cell c18, k.cell c19, k.cell c20, k.cell c21, k.cell c22, k.cell c23⟩
theorem kn6_0 : cErr 1582 10 15 = 0 ∧ Cal.sm 1582 10 + 15 - 1 = 578101 ∧ ((578101 : Int) % 7 + 5) % 7 = 4 := by decide +kernel
theorem kn6_1 : cErr 1970 1 1 = 0 ∧ Cal.sm 1970 1 + 1 - 1 = 719528 ∧ ((719528 : Int) % 7 + 5) % 7 = 3 := by decide +kernel
theorem kn6_2 : cErr 2000 1 1 = 0 ∧ Cal.sm 2000 1 + 1 - 1 = 730485 ∧ ((730485 : Int) % 7 + 5) % 7 = 5 := by decide +kernel
theorem kn6_3 : cErr 2024 2 29 = 0 ∧ Cal.sm 2024 2 + 29 - 1 = 739310 ∧ ((739310 : Int) % 7 + 5) % 7 = 3 := by decide +kernel
theorem kn6_4 : cErr 1 1 1 = 0 ∧ Cal.sm 1 1 + 1 - 1 = 366 ∧ ((366 : Int) % 7 + 5) % 7 = 0 := by decide +kernel
theorem kn6_5 : cErr (-1) 12 31 = 0 ∧ Cal.sm (-1) 12 + 31 - 1 = (-1) ∧ (((-1) : Int) % 7 + 5) % 7 = 4 := by decide +kernel
theorem kn6_s : YrB (-6) ∧ YrB 6 ∧ Cal.sy (-6) = -2191 ∧ Cal.sy 6 = 2192 := by unfold YrB; decide +kernel
theorem rStart_at (y v : Int) (w : World) (hy : YrB y) (hv : Cal.sy y = v) : Calls Tryz.prog 18 #[.int .i64 y] w fun e w' => e = .returned (.int .i64 v) ∧ w = w' := by
  subst hv; exact rStart y w hy
theorem rc6Wd_at (d v : Int) (w : World) (hv : (d % 7 + 5) % 7 = v) : Calls Tryz.prog 29 #[.int .i64 d] w fun ro w' => ro = .returned (.int .i64 v) ∧ Dn w w' := by
  subst hv; exact rc6Wd d w
theorem kw6_0 (W : World) : Calls Tryz.prog 28 #[.int .i64 578101] W fun e w' => e = .returned (.int .i64 4) ∧ Dn W w' := cvWd_at _ _ _ ⟨by decide, by decide⟩ kn6_0.2.2
theorem kw6_1 (W : World) : Calls Tryz.prog 28 #[.int .i64 719528] W fun e w' => e = .returned (.int .i64 3) ∧ Dn W w' := cvWd_at _ _ _ ⟨by decide, by decide⟩ kn6_1.2.2
theorem kw6_2 (W : World) : Calls Tryz.prog 28 #[.int .i64 730485] W fun e w' => e = .returned (.int .i64 5) ∧ Dn W w' := cvWd_at _ _ _ ⟨by decide, by decide⟩ kn6_2.2.2
theorem kw6_3 (W : World) : Calls Tryz.prog 28 #[.int .i64 739310] W fun e w' => e = .returned (.int .i64 3) ∧ Dn W w' := cvWd_at _ _ _ ⟨by decide, by decide⟩ kn6_3.2.2
theorem kw6_4 (W : World) : Calls Tryz.prog 28 #[.int .i64 366] W fun e w' => e = .returned (.int .i64 0) ∧ Dn W w' := cvWd_at _ _ _ ⟨by decide, by decide⟩ kn6_4.2.2
theorem kw6_5 (W : World) : Calls Tryz.prog 28 #[.int .i64 (-1)] W fun e w' => e = .returned (.int .i64 4) ∧ Dn W w' := cvWd_at _ _ _ ⟨by decide, by decide⟩ kn6_5.2.2
theorem kt6_0 (W : World) (hE : EnvC W) : Calls Tryz.prog 4 #[.agg #[.int .i64 1582, .int .i64 10, .int .i64 15]] W fun e w' => e = .returned (.bool true) ∧ Dn W w' := civilsText_true 1582 10 15 _ ⟨by decide, by decide⟩ ⟨by decide, by decide⟩ ⟨by decide, by decide⟩ hE
theorem kd6_0 (W : World) (hE : EnvC W) : Calls Tryz.prog 3 #[.agg #[.int .i64 1582, .int .i64 10, .int .i64 15]] W fun e w' => e = .returned (.bool true) ∧ Dn W w' := civilsDay_true 1582 10 15 _ ⟨by decide, by decide⟩ ⟨by decide, by decide⟩ ⟨by decide, by decide⟩ hE
theorem kt6_1 (W : World) (hE : EnvC W) : Calls Tryz.prog 4 #[.agg #[.int .i64 1970, .int .i64 1, .int .i64 1]] W fun e w' => e = .returned (.bool true) ∧ Dn W w' := civilsText_true 1970 1 1 _ ⟨by decide, by decide⟩ ⟨by decide, by decide⟩ ⟨by decide, by decide⟩ hE
theorem kd6_1 (W : World) (hE : EnvC W) : Calls Tryz.prog 3 #[.agg #[.int .i64 1970, .int .i64 1, .int .i64 1]] W fun e w' => e = .returned (.bool true) ∧ Dn W w' := civilsDay_true 1970 1 1 _ ⟨by decide, by decide⟩ ⟨by decide, by decide⟩ ⟨by decide, by decide⟩ hE
theorem kt6_2 (W : World) (hE : EnvC W) : Calls Tryz.prog 4 #[.agg #[.int .i64 2000, .int .i64 1, .int .i64 1]] W fun e w' => e = .returned (.bool true) ∧ Dn W w' := civilsText_true 2000 1 1 _ ⟨by decide, by decide⟩ ⟨by decide, by decide⟩ ⟨by decide, by decide⟩ hE
theorem kd6_2 (W : World) (hE : EnvC W) : Calls Tryz.prog 3 #[.agg #[.int .i64 2000, .int .i64 1, .int .i64 1]] W fun e w' => e = .returned (.bool true) ∧ Dn W w' := civilsDay_true 2000 1 1 _ ⟨by decide, by decide⟩ ⟨by decide, by decide⟩ ⟨by decide, by decide⟩ hE
theorem kt6_3 (W : World) (hE : EnvC W) : Calls Tryz.prog 4 #[.agg #[.int .i64 2024, .int .i64 2, .int .i64 29]] W fun e w' => e = .returned (.bool true) ∧ Dn W w' := civilsText_true 2024 2 29 _ ⟨by decide, by decide⟩ ⟨by decide, by decide⟩ ⟨by decide, by decide⟩ hE
theorem kd6_3 (W : World) (hE : EnvC W) : Calls Tryz.prog 3 #[.agg #[.int .i64 2024, .int .i64 2, .int .i64 29]] W fun e w' => e = .returned (.bool true) ∧ Dn W w' := civilsDay_true 2024 2 29 _ ⟨by decide, by decide⟩ ⟨by decide, by decide⟩ ⟨by decide, by decide⟩ hE
theorem kt6_4 (W : World) (hE : EnvC W) : Calls Tryz.prog 4 #[.agg #[.int .i64 1, .int .i64 1, .int .i64 1]] W fun e w' => e = .returned (.bool true) ∧ Dn W w' := civilsText_true 1 1 1 _ ⟨by decide, by decide⟩ ⟨by decide, by decide⟩ ⟨by decide, by decide⟩ hE
theorem kd6_4 (W : World) (hE : EnvC W) : Calls Tryz.prog 3 #[.agg #[.int .i64 1, .int .i64 1, .int .i64 1]] W fun e w' => e = .returned (.bool true) ∧ Dn W w' := civilsDay_true 1 1 1 _ ⟨by decide, by decide⟩ ⟨by decide, by decide⟩ ⟨by decide, by decide⟩ hE
theorem kt6_5 (W : World) (hE : EnvC W) : Calls Tryz.prog 4 #[.agg #[.int .i64 (-1), .int .i64 12, .int .i64 31]] W fun e w' => e = .returned (.bool true) ∧ Dn W w' := civilsText_true (-1) 12 31 _ ⟨by decide, by decide⟩ ⟨by decide, by decide⟩ ⟨by decide, by decide⟩ hE
theorem kd6_5 (W : World) (hE : EnvC W) : Calls Tryz.prog 3 #[.agg #[.int .i64 (-1), .int .i64 12, .int .i64 31]] W fun e w' => e = .returned (.bool true) ∧ Dn W w' := civilsDay_true (-1) 12 31 _ ⟨by decide, by decide⟩ ⟨by decide, by decide⟩ ⟨by decide, by decide⟩ hE
theorem kt6_6 (W : World) (hE : EnvC W) : Calls Tryz.prog 4 #[.agg #[.int .i64 10000000000000000, .int .i64 12, .int .i64 31]] W fun e w' => e = .returned (.bool true) ∧ Dn W w' := civilsText_true 10000000000000000 12 31 _ ⟨by decide, by decide⟩ ⟨by decide, by decide⟩ ⟨by decide, by decide⟩ hE
theorem kd6_6 (W : World) (hE : EnvC W) : Calls Tryz.prog 3 #[.agg #[.int .i64 10000000000000000, .int .i64 12, .int .i64 31]] W fun e w' => e = .returned (.bool true) ∧ Dn W w' := civilsDay_true 10000000000000000 12 31 _ ⟨by decide, by decide⟩ ⟨by decide, by decide⟩ ⟨by decide, by decide⟩ hE
theorem kt6_7 (W : World) (hE : EnvC W) : Calls Tryz.prog 4 #[.agg #[.int .i64 (-10000000000000000), .int .i64 1, .int .i64 1]] W fun e w' => e = .returned (.bool true) ∧ Dn W w' := civilsText_true (-10000000000000000) 1 1 _ ⟨by decide, by decide⟩ ⟨by decide, by decide⟩ ⟨by decide, by decide⟩ hE
theorem kd6_7 (W : World) (hE : EnvC W) : Calls Tryz.prog 3 #[.agg #[.int .i64 (-10000000000000000), .int .i64 1, .int .i64 1]] W fun e w' => e = .returned (.bool true) ∧ Dn W w' := civilsDay_true (-10000000000000000) 1 1 _ ⟨by decide, by decide⟩ ⟨by decide, by decide⟩ ⟨by decide, by decide⟩ hE
set_option maxHeartbeats 32000000 in
set_option maxRecDepth 100000 in
theorem civilsKnown_true (w : World) (hE : EnvC w) :
    Calls Tryz.prog 9 #[] w fun ro w' => ro = .returned (.bool true) ∧ Dn w w' := by
  go_enter Tryz.func9, Tryz.ntmps9
  go_wp2_with fail
  refine (rStart_at (-6) (-2191) _ kn6_s.1 kn6_s.2.2.1).mono ?_
  rintro e w1 ⟨rfl, rfl⟩
  go_wp2_with fail
  go_loopw [1] (fun dv wr => ∃ k : Int, -2191 ≤ k ∧ k ≤ 2192 ∧ dv = .int .i64 k ∧ Dn w wr) (fun dv _ => (2192 - intOf dv).toNat)
  case atStart => exact ⟨-2191, by omega, by omega, rfl, Dn.refl _⟩
  case round =>
    obtain ⟨k, k1, k2, rfl, hu⟩ := hrel
    by_cases hlt : k < 2192
    · go_wp2_with fail
      refine (rStart_at 6 2192 _ kn6_s.2.1 kn6_s.2.2.2).mono ?_
      rintro e w1 ⟨rfl, rfl⟩
      go_wp2_with fail
      refine (civilsOf_true k (k + 1) _ ⟨by omega, by omega⟩ ⟨by omega, by omega⟩ (hE.dn hu)).mono ?_
      rintro e w2 ⟨rfl, q⟩
      go_wp2_with fail
      go_roundw
      case rel => exact ⟨k + 1, by omega, by omega, rfl, hu.trans q⟩
      case measure => simp [intOf]; omega
    ·
      obtain rfl : k = 2192 := by omega
      clear k1 k2 hlt
      go_wp2_with fail
      refine (rStart_at 6 2192 _ kn6_s.2.1 kn6_s.2.2.2).mono ?_
      rintro e wq ⟨rfl, rfl⟩
      go_wp2_with fail
      refine (cl6 1582 10 15 _).mono ?_
      rintro e v2 ⟨rfl, qv2⟩
      have uv2 := hu.trans qv2
      clear qv2 hu
      go_wp2_with fail
      refine (cl6 1970 1 1 _).mono ?_
      rintro e v3 ⟨rfl, qv3⟩
      have uv3 := uv2.trans qv3
      clear qv3 uv2
      go_wp2_with fail
      refine (cl6 2000 1 1 _).mono ?_
      rintro e v4 ⟨rfl, qv4⟩
      have uv4 := uv3.trans qv4
      clear qv4 uv3
      go_wp2_with fail
      refine (cl6 2024 2 29 _).mono ?_
      rintro e v5 ⟨rfl, qv5⟩
      have uv5 := uv4.trans qv5
      clear qv5 uv4
      go_wp2_with fail
      refine (cl6 1 1 1 _).mono ?_
      rintro e v6 ⟨rfl, qv6⟩
      have uv6 := uv5.trans qv6
      clear qv6 uv5
      go_wp2_with fail
      refine (cl6 (-1) 12 31 _).mono ?_
      rintro e v7 ⟨rfl, qv7⟩
      have uv7 := uv6.trans qv7
      clear qv7 uv6
      go_wp2_with fail
      obtain ⟨W1, hW1⟩ : ∃ W1, W1 = (v7.alloc (.cells #[.int .i64 1582, .int .i64 10, .int .i64 15, .int .i64 1970, .int .i64 1, .int .i64 1, .int .i64 2000, .int .i64 1, .int .i64 1, .int .i64 2024, .int .i64 2, .int .i64 29, .int .i64 1, .int .i64 1, .int .i64 1, .int .i64 (-1), .int .i64 12, .int .i64 31] 23)).alloc (.cells #[.int .i64 4, .int .i64 3, .int .i64 5, .int .i64 3, .int .i64 0, .int .i64 4] 3) := ⟨_, rfl⟩
      have uW1 : Dn v7 W1 := by rw [hW1]; exact ((Dn.refl _).alloc _).alloc _
      have c2 : W1.cell? ⟨v7.heap.size, 0, none⟩ = some (.int .i64 1582) := by rw [hW1]; simp [go_sem]
      have c3 : W1.cell? ⟨v7.heap.size, 1, none⟩ = some (.int .i64 10) := by rw [hW1]; simp [go_sem]
      have c4 : W1.cell? ⟨v7.heap.size, 2, none⟩ = some (.int .i64 15) := by rw [hW1]; simp [go_sem]
      have c5 : W1.cell? ⟨v7.heap.size, 3, none⟩ = some (.int .i64 1970) := by rw [hW1]; simp [go_sem]
      have c6 : W1.cell? ⟨v7.heap.size, 4, none⟩ = some (.int .i64 1) := by rw [hW1]; simp [go_sem]
      have c7 : W1.cell? ⟨v7.heap.size, 5, none⟩ = some (.int .i64 1) := by rw [hW1]; simp [go_sem]
      have c8 : W1.cell? ⟨v7.heap.size, 6, none⟩ = some (.int .i64 2000) := by rw [hW1]; simp [go_sem]
      have c9 : W1.cell? ⟨v7.heap.size, 7, none⟩ = some (.int .i64 1) := by rw [hW1]; simp [go_sem]
      have c10 : W1.cell? ⟨v7.heap.size, 8, none⟩ = some (.int .i64 1) := by rw [hW1]; simp [go_sem]
      have c11 : W1.cell? ⟨v7.heap.size, 9, none⟩ = some (.int .i64 2024) := by rw [hW1]; simp [go_sem]
      have c12 : W1.cell? ⟨v7.heap.size, 10, none⟩ = some (.int .i64 2) := by rw [hW1]; simp [go_sem]
      have c13 : W1.cell? ⟨v7.heap.size, 11, none⟩ = some (.int .i64 29) := by rw [hW1]; simp [go_sem]
      have c14 : W1.cell? ⟨v7.heap.size, 12, none⟩ = some (.int .i64 1) := by rw [hW1]; simp [go_sem]
      have c15 : W1.cell? ⟨v7.heap.size, 13, none⟩ = some (.int .i64 1) := by rw [hW1]; simp [go_sem]
      have c16 : W1.cell? ⟨v7.heap.size, 14, none⟩ = some (.int .i64 1) := by rw [hW1]; simp [go_sem]
      have c17 : W1.cell? ⟨v7.heap.size, 15, none⟩ = some (.int .i64 (-1)) := by rw [hW1]; simp [go_sem]
      have c18 : W1.cell? ⟨v7.heap.size, 16, none⟩ = some (.int .i64 12) := by rw [hW1]; simp [go_sem]
      have c19 : W1.cell? ⟨v7.heap.size, 17, none⟩ = some (.int .i64 31) := by rw [hW1]; simp [go_sem]
      have l20 : v7.heap.size < W1.heap.size := by rw [hW1]; simp <;> omega
      have c21 : W1.cell? ⟨v7.heap.size + 1, 0, none⟩ = some (.int .i64 4) := by rw [hW1]; simp [go_sem]
      have c22 : W1.cell? ⟨v7.heap.size + 1, 1, none⟩ = some (.int .i64 3) := by rw [hW1]; simp [go_sem]
      have c23 : W1.cell? ⟨v7.heap.size + 1, 2, none⟩ = some (.int .i64 5) := by rw [hW1]; simp [go_sem]
      have c24 : W1.cell? ⟨v7.heap.size + 1, 3, none⟩ = some (.int .i64 3) := by rw [hW1]; simp [go_sem]
      have c25 : W1.cell? ⟨v7.heap.size + 1, 4, none⟩ = some (.int .i64 0) := by rw [hW1]; simp [go_sem]
      have c26 : W1.cell? ⟨v7.heap.size + 1, 5, none⟩ = some (.int .i64 4) := by rw [hW1]; simp [go_sem]
      have l27 : v7.heap.size + 1 < W1.heap.size := by rw [hW1]; simp <;> omega
      rw [← hW1]
      clear hW1
      have vW1 := uv7.trans uW1
      clear uW1 uv7
      refine wp_loop_rounds 7 ?_
      rw [rounds_succ]
      go_wp2_with fail
      refine (cvDay_at 1582 10 15 578101 _ (hE.dn vW1) kn6_0.1 kn6_0.2.1).mono ?_
      rintro e v8 ⟨rfl, qv8⟩
      have l28 := Nat.lt_of_lt_of_le l20 qv8.size
      have c29 := qv8.cell c2
      have c30 := qv8.cell c3
      have c31 := qv8.cell c4
      have c32 := qv8.cell c5
      have c33 := qv8.cell c6
      have c34 := qv8.cell c7
      have c35 := qv8.cell c8
      have c36 := qv8.cell c9
      have c37 := qv8.cell c10
      have c38 := qv8.cell c11
      have c39 := qv8.cell c12
      have c40 := qv8.cell c13
      have c41 := qv8.cell c14
      have c42 := qv8.cell c15
      have c43 := qv8.cell c16
      have c44 := qv8.cell c17
      have c45 := qv8.cell c18
      have c46 := qv8.cell c19
      have l47 := Nat.lt_of_lt_of_le l27 qv8.size
      have c48 := qv8.cell c21
      have c49 := qv8.cell c22
      have c50 := qv8.cell c23
      have c51 := qv8.cell c24
      have c52 := qv8.cell c25
      have c53 := qv8.cell c26
      clear l20 c2 c3 c4 c5 c6 c7 c8 c9 c10 c11 c12 c13 c14 c15 c16 c17 c18 c19 l27 c21 c22 c23 c24 c25 c26
      have uv8 := vW1.trans qv8
      clear qv8 vW1
      go_wp2_with fail
      have hS54 := kdVo_24 (W := v8) (Dn.refl _) ⟨Dn.refl _, c29, c30, c31, c32, c33, c34, c35, c36, c37, c38, c39, c40, c41, c42, c43, c44, c45, c46, c48, c49, c50, c51, c52, c53⟩
      have HShS54 := Lib.hid hS54
      clear c29 c30 c31 c32 c33 c34 c35 c36 c37 c38 c39 c40 c41 c42 c43 c44 c45 c46 c48 c49 c50 c51 c52 c53
      go_region_held3 (fun w' => Dn v8 w' ∧ w'.cell? ⟨v7.heap.size, 0, none⟩ = some (.int .i64 1582) ∧ w'.cell? ⟨v7.heap.size, 1, none⟩ = some (.int .i64 10) ∧ w'.cell? ⟨v7.heap.size, 2, none⟩ = some (.int .i64 15) ∧ w'.cell? ⟨v7.heap.size, 3, none⟩ = some (.int .i64 1970) ∧ w'.cell? ⟨v7.heap.size, 4, none⟩ = some (.int .i64 1) ∧ w'.cell? ⟨v7.heap.size, 5, none⟩ = some (.int .i64 1) ∧ w'.cell? ⟨v7.heap.size, 6, none⟩ = some (.int .i64 2000) ∧ w'.cell? ⟨v7.heap.size, 7, none⟩ = some (.int .i64 1) ∧ w'.cell? ⟨v7.heap.size, 8, none⟩ = some (.int .i64 1) ∧ w'.cell? ⟨v7.heap.size, 9, none⟩ = some (.int .i64 2024) ∧ w'.cell? ⟨v7.heap.size, 10, none⟩ = some (.int .i64 2) ∧ w'.cell? ⟨v7.heap.size, 11, none⟩ = some (.int .i64 29) ∧ w'.cell? ⟨v7.heap.size, 12, none⟩ = some (.int .i64 1) ∧ w'.cell? ⟨v7.heap.size, 13, none⟩ = some (.int .i64 1) ∧ w'.cell? ⟨v7.heap.size, 14, none⟩ = some (.int .i64 1) ∧ w'.cell? ⟨v7.heap.size, 15, none⟩ = some (.int .i64 (-1)) ∧ w'.cell? ⟨v7.heap.size, 16, none⟩ = some (.int .i64 12) ∧ w'.cell? ⟨v7.heap.size, 17, none⟩ = some (.int .i64 31) ∧ w'.cell? ⟨v7.heap.size + 1, 0, none⟩ = some (.int .i64 4) ∧ w'.cell? ⟨v7.heap.size + 1, 1, none⟩ = some (.int .i64 3) ∧ w'.cell? ⟨v7.heap.size + 1, 2, none⟩ = some (.int .i64 5) ∧ w'.cell? ⟨v7.heap.size + 1, 3, none⟩ = some (.int .i64 3) ∧ w'.cell? ⟨v7.heap.size + 1, 4, none⟩ = some (.int .i64 0) ∧ w'.cell? ⟨v7.heap.size + 1, 5, none⟩ = some (.int .i64 4))
        (first | exact kdVo_24 ((Dn.refl _).drew) hS54 | exact kdVo_24 ‹Dn _ _› ‹_› | exact kdVo_24 (Up.dn ‹Up _ _›) ‹_› | assumption | exact kdVo_24 ((Dn.refl _).alloc _) ‹_›)
        (first
          | (go_at_call 28; refine (kw6_0 _).mono ?_; rintro e wa ⟨rfl, qa⟩)
          | (go_at_call 4; refine (kt6_0 _ (hE.dn (Dn.trans uv8 (‹Dn v8 _ ∧ _› : _ ∧ _).1))).mono ?_; rintro e wa ⟨rfl, qa⟩)
          | (go_at_call 3; refine (kd6_0 _ (hE.dn (Dn.trans uv8 (‹Dn v8 _ ∧ _› : _ ∧ _).1))).mono ?_; rintro e wa ⟨rfl, qa⟩))
      all_goals
        clear hS54
        obtain ⟨uf79, c55, c56, c57, c58, c59, c60, c61, c62, c63, c64, c65, c66, c67, c68, c69, c70, c71, c72, c73, c74, c75, c76, c77, c78⟩ := (‹Dn v8 _ ∧ _› : _ ∧ _)
        obtain ⟨w80, rfl⟩ : ∃ w80 : World, w80 = wa := ⟨_, rfl⟩
        have l81 := Nat.lt_of_lt_of_le l28 uf79.size
        clear l28
        have l82 := Nat.lt_of_lt_of_le l47 uf79.size
        clear l47
        have vuf79 := uv8.trans uf79
        clear uf79 uv8 HShS54
        go_wp2_with fail
        rw [rounds_succ]
        go_wp2_with fail
        refine (cvDay_at 1970 1 1 719528 _ (hE.dn vuf79) kn6_1.1 kn6_1.2.1).mono ?_
        rintro e v9 ⟨rfl, qv9⟩
        have l83 := Nat.lt_of_lt_of_le l81 qv9.size
        have c84 := qv9.cell c55
        have c85 := qv9.cell c56
        have c86 := qv9.cell c57
        have c87 := qv9.cell c58
        have c88 := qv9.cell c59
        have c89 := qv9.cell c60
        have c90 := qv9.cell c61
        have c91 := qv9.cell c62
        have c92 := qv9.cell c63
        have c93 := qv9.cell c64
        have c94 := qv9.cell c65
        have c95 := qv9.cell c66
        have c96 := qv9.cell c67
        have c97 := qv9.cell c68
        have c98 := qv9.cell c69
        have c99 := qv9.cell c70
        have c100 := qv9.cell c71
        have c101 := qv9.cell c72
        have l102 := Nat.lt_of_lt_of_le l82 qv9.size
        have c103 := qv9.cell c73
        have c104 := qv9.cell c74
        have c105 := qv9.cell c75
        have c106 := qv9.cell c76
        have c107 := qv9.cell c77
        have c108 := qv9.cell c78
        clear l81 c55 c56 c57 c58 c59 c60 c61 c62 c63 c64 c65 c66 c67 c68 c69 c70 c71 c72 l82 c73 c74 c75 c76 c77 c78
        have uv9 := vuf79.trans qv9
        clear qv9 vuf79
        go_wp2_with fail
        have hS109 := kdVo_24 (W := v9) (Dn.refl _) ⟨Dn.refl _, c84, c85, c86, c87, c88, c89, c90, c91, c92, c93, c94, c95, c96, c97, c98, c99, c100, c101, c103, c104, c105, c106, c107, c108⟩
        have HShS109 := Lib.hid hS109
        clear c84 c85 c86 c87 c88 c89 c90 c91 c92 c93 c94 c95 c96 c97 c98 c99 c100 c101 c103 c104 c105 c106 c107 c108
        go_region_held3 (fun w' => Dn v9 w' ∧ w'.cell? ⟨v7.heap.size, 0, none⟩ = some (.int .i64 1582) ∧ w'.cell? ⟨v7.heap.size, 1, none⟩ = some (.int .i64 10) ∧ w'.cell? ⟨v7.heap.size, 2, none⟩ = some (.int .i64 15) ∧ w'.cell? ⟨v7.heap.size, 3, none⟩ = some (.int .i64 1970) ∧ w'.cell? ⟨v7.heap.size, 4, none⟩ = some (.int .i64 1) ∧ w'.cell? ⟨v7.heap.size, 5, none⟩ = some (.int .i64 1) ∧ w'.cell? ⟨v7.heap.size, 6, none⟩ = some (.int .i64 2000) ∧ w'.cell? ⟨v7.heap.size, 7, none⟩ = some (.int .i64 1) ∧ w'.cell? ⟨v7.heap.size, 8, none⟩ = some (.int .i64 1) ∧ w'.cell? ⟨v7.heap.size, 9, none⟩ = some (.int .i64 2024) ∧ w'.cell? ⟨v7.heap.size, 10, none⟩ = some (.int .i64 2) ∧ w'.cell? ⟨v7.heap.size, 11, none⟩ = some (.int .i64 29) ∧ w'.cell? ⟨v7.heap.size, 12, none⟩ = some (.int .i64 1) ∧ w'.cell? ⟨v7.heap.size, 13, none⟩ = some (.int .i64 1) ∧ w'.cell? ⟨v7.heap.size, 14, none⟩ = some (.int .i64 1) ∧ w'.cell? ⟨v7.heap.size, 15, none⟩ = some (.int .i64 (-1)) ∧ w'.cell? ⟨v7.heap.size, 16, none⟩ = some (.int .i64 12) ∧ w'.cell? ⟨v7.heap.size, 17, none⟩ = some (.int .i64 31) ∧ w'.cell? ⟨v7.heap.size + 1, 0, none⟩ = some (.int .i64 4) ∧ w'.cell? ⟨v7.heap.size + 1, 1, none⟩ = some (.int .i64 3) ∧ w'.cell? ⟨v7.heap.size + 1, 2, none⟩ = some (.int .i64 5) ∧ w'.cell? ⟨v7.heap.size + 1, 3, none⟩ = some (.int .i64 3) ∧ w'.cell? ⟨v7.heap.size + 1, 4, none⟩ = some (.int .i64 0) ∧ w'.cell? ⟨v7.heap.size + 1, 5, none⟩ = some (.int .i64 4))
          (first | exact kdVo_24 ((Dn.refl _).drew) hS109 | exact kdVo_24 ‹Dn _ _› ‹_› | exact kdVo_24 (Up.dn ‹Up _ _›) ‹_› | assumption | exact kdVo_24 ((Dn.refl _).alloc _) ‹_›)
          (first
            | (go_at_call 28; refine (kw6_1 _).mono ?_; rintro e wa ⟨rfl, qa⟩)
            | (go_at_call 4; refine (kt6_1 _ (hE.dn (Dn.trans uv9 (‹Dn v9 _ ∧ _› : _ ∧ _).1))).mono ?_; rintro e wa ⟨rfl, qa⟩)
            | (go_at_call 3; refine (kd6_1 _ (hE.dn (Dn.trans uv9 (‹Dn v9 _ ∧ _› : _ ∧ _).1))).mono ?_; rintro e wa ⟨rfl, qa⟩))
        all_goals
          clear hS109
          obtain ⟨uf134, c110, c111, c112, c113, c114, c115, c116, c117, c118, c119, c120, c121, c122, c123, c124, c125, c126, c127, c128, c129, c130, c131, c132, c133⟩ := (‹Dn v9 _ ∧ _› : _ ∧ _)
          obtain ⟨w135, rfl⟩ : ∃ w135 : World, w135 = wa := ⟨_, rfl⟩
          have l136 := Nat.lt_of_lt_of_le l83 uf134.size
          clear l83
          have l137 := Nat.lt_of_lt_of_le l102 uf134.size
          clear l102
          have vuf134 := uv9.trans uf134
          clear uf134 uv9 HShS109
          go_wp2_with fail
          rw [rounds_succ]
          go_wp2_with fail
          refine (cvDay_at 2000 1 1 730485 _ (hE.dn vuf134) kn6_2.1 kn6_2.2.1).mono ?_
          rintro e v10 ⟨rfl, qv10⟩
          have l138 := Nat.lt_of_lt_of_le l136 qv10.size
          have c139 := qv10.cell c110
          have c140 := qv10.cell c111
          have c141 := qv10.cell c112
          have c142 := qv10.cell c113
          have c143 := qv10.cell c114
          have c144 := qv10.cell c115
          have c145 := qv10.cell c116
          have c146 := qv10.cell c117
          have c147 := qv10.cell c118
          have c148 := qv10.cell c119
          have c149 := qv10.cell c120
          have c150 := qv10.cell c121
          have c151 := qv10.cell c122
          have c152 := qv10.cell c123
          have c153 := qv10.cell c124
          have c154 := qv10.cell c125
          have c155 := qv10.cell c126
          have c156 := qv10.cell c127
          have l157 := Nat.lt_of_lt_of_le l137 qv10.size
          have c158 := qv10.cell c128
          have c159 := qv10.cell c129
          have c160 := qv10.cell c130
          have c161 := qv10.cell c131
          have c162 := qv10.cell c132
          have c163 := qv10.cell c133
          clear l136 c110 c111 c112 c113 c114 c115 c116 c117 c118 c119 c120 c121 c122 c123 c124 c125 c126 c127 l137 c128 c129 c130 c131 c132 c133
          have uv10 := vuf134.trans qv10
          clear qv10 vuf134
          go_wp2_with fail
          have hS164 := kdVo_24 (W := v10) (Dn.refl _) ⟨Dn.refl _, c139, c140, c141, c142, c143, c144, c145, c146, c147, c148, c149, c150, c151, c152, c153, c154, c155, c156, c158, c159, c160, c161, c162, c163⟩
          have HShS164 := Lib.hid hS164
          clear c139 c140 c141 c142 c143 c144 c145 c146 c147 c148 c149 c150 c151 c152 c153 c154 c155 c156 c158 c159 c160 c161 c162 c163
          go_region_held3 (fun w' => Dn v10 w' ∧ w'.cell? ⟨v7.heap.size, 0, none⟩ = some (.int .i64 1582) ∧ w'.cell? ⟨v7.heap.size, 1, none⟩ = some (.int .i64 10) ∧ w'.cell? ⟨v7.heap.size, 2, none⟩ = some (.int .i64 15) ∧ w'.cell? ⟨v7.heap.size, 3, none⟩ = some (.int .i64 1970) ∧ w'.cell? ⟨v7.heap.size, 4, none⟩ = some (.int .i64 1) ∧ w'.cell? ⟨v7.heap.size, 5, none⟩ = some (.int .i64 1) ∧ w'.cell? ⟨v7.heap.size, 6, none⟩ = some (.int .i64 2000) ∧ w'.cell? ⟨v7.heap.size, 7, none⟩ = some (.int .i64 1) ∧ w'.cell? ⟨v7.heap.size, 8, none⟩ = some (.int .i64 1) ∧ w'.cell? ⟨v7.heap.size, 9, none⟩ = some (.int .i64 2024) ∧ w'.cell? ⟨v7.heap.size, 10, none⟩ = some (.int .i64 2) ∧ w'.cell? ⟨v7.heap.size, 11, none⟩ = some (.int .i64 29) ∧ w'.cell? ⟨v7.heap.size, 12, none⟩ = some (.int .i64 1) ∧ w'.cell? ⟨v7.heap.size, 13, none⟩ = some (.int .i64 1) ∧ w'.cell? ⟨v7.heap.size, 14, none⟩ = some (.int .i64 1) ∧ w'.cell? ⟨v7.heap.size, 15, none⟩ = some (.int .i64 (-1)) ∧ w'.cell? ⟨v7.heap.size, 16, none⟩ = some (.int .i64 12) ∧ w'.cell? ⟨v7.heap.size, 17, none⟩ = some (.int .i64 31) ∧ w'.cell? ⟨v7.heap.size + 1, 0, none⟩ = some (.int .i64 4) ∧ w'.cell? ⟨v7.heap.size + 1, 1, none⟩ = some (.int .i64 3) ∧ w'.cell? ⟨v7.heap.size + 1, 2, none⟩ = some (.int .i64 5) ∧ w'.cell? ⟨v7.heap.size + 1, 3, none⟩ = some (.int .i64 3) ∧ w'.cell? ⟨v7.heap.size + 1, 4, none⟩ = some (.int .i64 0) ∧ w'.cell? ⟨v7.heap.size + 1, 5, none⟩ = some (.int .i64 4))
            (first | exact kdVo_24 ((Dn.refl _).drew) hS164 | exact kdVo_24 ‹Dn _ _› ‹_› | exact kdVo_24 (Up.dn ‹Up _ _›) ‹_› | assumption | exact kdVo_24 ((Dn.refl _).alloc _) ‹_›)
            (first
              | (go_at_call 28; refine (kw6_2 _).mono ?_; rintro e wa ⟨rfl, qa⟩)
              | (go_at_call 4; refine (kt6_2 _ (hE.dn (Dn.trans uv10 (‹Dn v10 _ ∧ _› : _ ∧ _).1))).mono ?_; rintro e wa ⟨rfl, qa⟩)
              | (go_at_call 3; refine (kd6_2 _ (hE.dn (Dn.trans uv10 (‹Dn v10 _ ∧ _› : _ ∧ _).1))).mono ?_; rintro e wa ⟨rfl, qa⟩))
          all_goals
            clear hS164
            obtain ⟨uf189, c165, c166, c167, c168, c169, c170, c171, c172, c173, c174, c175, c176, c177, c178, c179, c180, c181, c182, c183, c184, c185, c186, c187, c188⟩ := (‹Dn v10 _ ∧ _› : _ ∧ _)
            obtain ⟨w190, rfl⟩ : ∃ w190 : World, w190 = wa := ⟨_, rfl⟩
            have l191 := Nat.lt_of_lt_of_le l138 uf189.size
            clear l138
            have l192 := Nat.lt_of_lt_of_le l157 uf189.size
            clear l157
            have vuf189 := uv10.trans uf189
            clear uf189 uv10 HShS164
            go_wp2_with fail
            rw [rounds_succ]
            go_wp2_with fail
            refine (cvDay_at 2024 2 29 739310 _ (hE.dn vuf189) kn6_3.1 kn6_3.2.1).mono ?_
            rintro e v11 ⟨rfl, qv11⟩
            have l193 := Nat.lt_of_lt_of_le l191 qv11.size
            have c194 := qv11.cell c165
            have c195 := qv11.cell c166
            have c196 := qv11.cell c167
            have c197 := qv11.cell c168
            have c198 := qv11.cell c169
            have c199 := qv11.cell c170
            have c200 := qv11.cell c171
            have c201 := qv11.cell c172
            have c202 := qv11.cell c173
            have c203 := qv11.cell c174
            have c204 := qv11.cell c175
            have c205 := qv11.cell c176
            have c206 := qv11.cell c177
            have c207 := qv11.cell c178
            have c208 := qv11.cell c179
            have c209 := qv11.cell c180
            have c210 := qv11.cell c181
            have c211 := qv11.cell c182
            have l212 := Nat.lt_of_lt_of_le l192 qv11.size
            have c213 := qv11.cell c183
            have c214 := qv11.cell c184
            have c215 := qv11.cell c185
            have c216 := qv11.cell c186
            have c217 := qv11.cell c187
            have c218 := qv11.cell c188
            clear l191 c165 c166 c167 c168 c169 c170 c171 c172 c173 c174 c175 c176 c177 c178 c179 c180 c181 c182 l192 c183 c184 c185 c186 c187 c188
            have uv11 := vuf189.trans qv11
            clear qv11 vuf189
            go_wp2_with fail
            have hS219 := kdVo_24 (W := v11) (Dn.refl _) ⟨Dn.refl _, c194, c195, c196, c197, c198, c199, c200, c201, c202, c203, c204, c205, c206, c207, c208, c209, c210, c211, c213, c214, c215, c216, c217, c218⟩
            have HShS219 := Lib.hid hS219
            clear c194 c195 c196 c197 c198 c199 c200 c201 c202 c203 c204 c205 c206 c207 c208 c209 c210 c211 c213 c214 c215 c216 c217 c218
            go_region_held3 (fun w' => Dn v11 w' ∧ w'.cell? ⟨v7.heap.size, 0, none⟩ = some (.int .i64 1582) ∧ w'.cell? ⟨v7.heap.size, 1, none⟩ = some (.int .i64 10) ∧ w'.cell? ⟨v7.heap.size, 2, none⟩ = some (.int .i64 15) ∧ w'.cell? ⟨v7.heap.size, 3, none⟩ = some (.int .i64 1970) ∧ w'.cell? ⟨v7.heap.size, 4, none⟩ = some (.int .i64 1) ∧ w'.cell? ⟨v7.heap.size, 5, none⟩ = some (.int .i64 1) ∧ w'.cell? ⟨v7.heap.size, 6, none⟩ = some (.int .i64 2000) ∧ w'.cell? ⟨v7.heap.size, 7, none⟩ = some (.int .i64 1) ∧ w'.cell? ⟨v7.heap.size, 8, none⟩ = some (.int .i64 1) ∧ w'.cell? ⟨v7.heap.size, 9, none⟩ = some (.int .i64 2024) ∧ w'.cell? ⟨v7.heap.size, 10, none⟩ = some (.int .i64 2) ∧ w'.cell? ⟨v7.heap.size, 11, none⟩ = some (.int .i64 29) ∧ w'.cell? ⟨v7.heap.size, 12, none⟩ = some (.int .i64 1) ∧ w'.cell? ⟨v7.heap.size, 13, none⟩ = some (.int .i64 1) ∧ w'.cell? ⟨v7.heap.size, 14, none⟩ = some (.int .i64 1) ∧ w'.cell? ⟨v7.heap.size, 15, none⟩ = some (.int .i64 (-1)) ∧ w'.cell? ⟨v7.heap.size, 16, none⟩ = some (.int .i64 12) ∧ w'.cell? ⟨v7.heap.size, 17, none⟩ = some (.int .i64 31) ∧ w'.cell? ⟨v7.heap.size + 1, 0, none⟩ = some (.int .i64 4) ∧ w'.cell? ⟨v7.heap.size + 1, 1, none⟩ = some (.int .i64 3) ∧ w'.cell? ⟨v7.heap.size + 1, 2, none⟩ = some (.int .i64 5) ∧ w'.cell? ⟨v7.heap.size + 1, 3, none⟩ = some (.int .i64 3) ∧ w'.cell? ⟨v7.heap.size + 1, 4, none⟩ = some (.int .i64 0) ∧ w'.cell? ⟨v7.heap.size + 1, 5, none⟩ = some (.int .i64 4))
              (first | exact kdVo_24 ((Dn.refl _).drew) hS219 | exact kdVo_24 ‹Dn _ _› ‹_› | exact kdVo_24 (Up.dn ‹Up _ _›) ‹_› | assumption | exact kdVo_24 ((Dn.refl _).alloc _) ‹_›)
              (first
                | (go_at_call 28; refine (kw6_3 _).mono ?_; rintro e wa ⟨rfl, qa⟩)
                | (go_at_call 4; refine (kt6_3 _ (hE.dn (Dn.trans uv11 (‹Dn v11 _ ∧ _› : _ ∧ _).1))).mono ?_; rintro e wa ⟨rfl, qa⟩)
                | (go_at_call 3; refine (kd6_3 _ (hE.dn (Dn.trans uv11 (‹Dn v11 _ ∧ _› : _ ∧ _).1))).mono ?_; rintro e wa ⟨rfl, qa⟩))
            all_goals
              clear hS219
              obtain ⟨uf244, c220, c221, c222, c223, c224, c225, c226, c227, c228, c229, c230, c231, c232, c233, c234, c235, c236, c237, c238, c239, c240, c241, c242, c243⟩ := (‹Dn v11 _ ∧ _› : _ ∧ _)
              obtain ⟨w245, rfl⟩ : ∃ w245 : World, w245 = wa := ⟨_, rfl⟩
              have l246 := Nat.lt_of_lt_of_le l193 uf244.size
              clear l193
              have l247 := Nat.lt_of_lt_of_le l212 uf244.size
              clear l212
              have vuf244 := uv11.trans uf244
              clear uf244 uv11 HShS219
              go_wp2_with fail
              rw [rounds_succ]
              go_wp2_with fail
              refine (cvDay_at 1 1 1 366 _ (hE.dn vuf244) kn6_4.1 kn6_4.2.1).mono ?_
              rintro e v12 ⟨rfl, qv12⟩
              have l248 := Nat.lt_of_lt_of_le l246 qv12.size
              have c249 := qv12.cell c220
              have c250 := qv12.cell c221
              have c251 := qv12.cell c222
              have c252 := qv12.cell c223
              have c253 := qv12.cell c224
              have c254 := qv12.cell c225
              have c255 := qv12.cell c226
              have c256 := qv12.cell c227
              have c257 := qv12.cell c228
              have c258 := qv12.cell c229
              have c259 := qv12.cell c230
              have c260 := qv12.cell c231
              have c261 := qv12.cell c232
              have c262 := qv12.cell c233
              have c263 := qv12.cell c234
              have c264 := qv12.cell c235
              have c265 := qv12.cell c236
              have c266 := qv12.cell c237
              have l267 := Nat.lt_of_lt_of_le l247 qv12.size
              have c268 := qv12.cell c238
              have c269 := qv12.cell c239
              have c270 := qv12.cell c240
              have c271 := qv12.cell c241
              have c272 := qv12.cell c242
              have c273 := qv12.cell c243
              clear l246 c220 c221 c222 c223 c224 c225 c226 c227 c228 c229 c230 c231 c232 c233 c234 c235 c236 c237 l247 c238 c239 c240 c241 c242 c243
              have uv12 := vuf244.trans qv12
              clear qv12 vuf244
              go_wp2_with fail
              have hS274 := kdVo_24 (W := v12) (Dn.refl _) ⟨Dn.refl _, c249, c250, c251, c252, c253, c254, c255, c256, c257, c258, c259, c260, c261, c262, c263, c264, c265, c266, c268, c269, c270, c271, c272, c273⟩
              have HShS274 := Lib.hid hS274
              clear c249 c250 c251 c252 c253 c254 c255 c256 c257 c258 c259 c260 c261 c262 c263 c264 c265 c266 c268 c269 c270 c271 c272 c273
              go_region_held3 (fun w' => Dn v12 w' ∧ w'.cell? ⟨v7.heap.size, 0, none⟩ = some (.int .i64 1582) ∧ w'.cell? ⟨v7.heap.size, 1, none⟩ = some (.int .i64 10) ∧ w'.cell? ⟨v7.heap.size, 2, none⟩ = some (.int .i64 15) ∧ w'.cell? ⟨v7.heap.size, 3, none⟩ = some (.int .i64 1970) ∧ w'.cell? ⟨v7.heap.size, 4, none⟩ = some (.int .i64 1) ∧ w'.cell? ⟨v7.heap.size, 5, none⟩ = some (.int .i64 1) ∧ w'.cell? ⟨v7.heap.size, 6, none⟩ = some (.int .i64 2000) ∧ w'.cell? ⟨v7.heap.size, 7, none⟩ = some (.int .i64 1) ∧ w'.cell? ⟨v7.heap.size, 8, none⟩ = some (.int .i64 1) ∧ w'.cell? ⟨v7.heap.size, 9, none⟩ = some (.int .i64 2024) ∧ w'.cell? ⟨v7.heap.size, 10, none⟩ = some (.int .i64 2) ∧ w'.cell? ⟨v7.heap.size, 11, none⟩ = some (.int .i64 29) ∧ w'.cell? ⟨v7.heap.size, 12, none⟩ = some (.int .i64 1) ∧ w'.cell? ⟨v7.heap.size, 13, none⟩ = some (.int .i64 1) ∧ w'.cell? ⟨v7.heap.size, 14, none⟩ = some (.int .i64 1) ∧ w'.cell? ⟨v7.heap.size, 15, none⟩ = some (.int .i64 (-1)) ∧ w'.cell? ⟨v7.heap.size, 16, none⟩ = some (.int .i64 12) ∧ w'.cell? ⟨v7.heap.size, 17, none⟩ = some (.int .i64 31) ∧ w'.cell? ⟨v7.heap.size + 1, 0, none⟩ = some (.int .i64 4) ∧ w'.cell? ⟨v7.heap.size + 1, 1, none⟩ = some (.int .i64 3) ∧ w'.cell? ⟨v7.heap.size + 1, 2, none⟩ = some (.int .i64 5) ∧ w'.cell? ⟨v7.heap.size + 1, 3, none⟩ = some (.int .i64 3) ∧ w'.cell? ⟨v7.heap.size + 1, 4, none⟩ = some (.int .i64 0) ∧ w'.cell? ⟨v7.heap.size + 1, 5, none⟩ = some (.int .i64 4))
                (first | exact kdVo_24 ((Dn.refl _).drew) hS274 | exact kdVo_24 ‹Dn _ _› ‹_› | exact kdVo_24 (Up.dn ‹Up _ _›) ‹_› | assumption | exact kdVo_24 ((Dn.refl _).alloc _) ‹_›)
                (first
                  | (go_at_call 28; refine (kw6_4 _).mono ?_; rintro e wa ⟨rfl, qa⟩)
                  | (go_at_call 4; refine (kt6_4 _ (hE.dn (Dn.trans uv12 (‹Dn v12 _ ∧ _› : _ ∧ _).1))).mono ?_; rintro e wa ⟨rfl, qa⟩)
                  | (go_at_call 3; refine (kd6_4 _ (hE.dn (Dn.trans uv12 (‹Dn v12 _ ∧ _› : _ ∧ _).1))).mono ?_; rintro e wa ⟨rfl, qa⟩))
              all_goals
                clear hS274
                obtain ⟨uf299, c275, c276, c277, c278, c279, c280, c281, c282, c283, c284, c285, c286, c287, c288, c289, c290, c291, c292, c293, c294, c295, c296, c297, c298⟩ := (‹Dn v12 _ ∧ _› : _ ∧ _)
                obtain ⟨w300, rfl⟩ : ∃ w300 : World, w300 = wa := ⟨_, rfl⟩
                have l301 := Nat.lt_of_lt_of_le l248 uf299.size
                clear l248
                have l302 := Nat.lt_of_lt_of_le l267 uf299.size
                clear l267
                have vuf299 := uv12.trans uf299
                clear uf299 uv12 HShS274
                go_wp2_with fail
                rw [rounds_succ]
                go_wp2_with fail
                refine (cvDay_at (-1) 12 31 (-1) _ (hE.dn vuf299) kn6_5.1 kn6_5.2.1).mono ?_
                rintro e v13 ⟨rfl, qv13⟩
                have l303 := Nat.lt_of_lt_of_le l301 qv13.size
                have c304 := qv13.cell c275
                have c305 := qv13.cell c276
                have c306 := qv13.cell c277
                have c307 := qv13.cell c278
                have c308 := qv13.cell c279
                have c309 := qv13.cell c280
                have c310 := qv13.cell c281
                have c311 := qv13.cell c282
                have c312 := qv13.cell c283
                have c313 := qv13.cell c284
                have c314 := qv13.cell c285
                have c315 := qv13.cell c286
                have c316 := qv13.cell c287
                have c317 := qv13.cell c288
                have c318 := qv13.cell c289
                have c319 := qv13.cell c290
                have c320 := qv13.cell c291
                have c321 := qv13.cell c292
                have l322 := Nat.lt_of_lt_of_le l302 qv13.size
                have c323 := qv13.cell c293
                have c324 := qv13.cell c294
                have c325 := qv13.cell c295
                have c326 := qv13.cell c296
                have c327 := qv13.cell c297
                have c328 := qv13.cell c298
                clear l301 c275 c276 c277 c278 c279 c280 c281 c282 c283 c284 c285 c286 c287 c288 c289 c290 c291 c292 l302 c293 c294 c295 c296 c297 c298
                have uv13 := vuf299.trans qv13
                clear qv13 vuf299
                go_wp2_with fail
                have hS329 := kdVo_24 (W := v13) (Dn.refl _) ⟨Dn.refl _, c304, c305, c306, c307, c308, c309, c310, c311, c312, c313, c314, c315, c316, c317, c318, c319, c320, c321, c323, c324, c325, c326, c327, c328⟩
                have HShS329 := Lib.hid hS329
                clear c304 c305 c306 c307 c308 c309 c310 c311 c312 c313 c314 c315 c316 c317 c318 c319 c320 c321 c323 c324 c325 c326 c327 c328
                go_region_held3 (fun w' => Dn v13 w' ∧ w'.cell? ⟨v7.heap.size, 0, none⟩ = some (.int .i64 1582) ∧ w'.cell? ⟨v7.heap.size, 1, none⟩ = some (.int .i64 10) ∧ w'.cell? ⟨v7.heap.size, 2, none⟩ = some (.int .i64 15) ∧ w'.cell? ⟨v7.heap.size, 3, none⟩ = some (.int .i64 1970) ∧ w'.cell? ⟨v7.heap.size, 4, none⟩ = some (.int .i64 1) ∧ w'.cell? ⟨v7.heap.size, 5, none⟩ = some (.int .i64 1) ∧ w'.cell? ⟨v7.heap.size, 6, none⟩ = some (.int .i64 2000) ∧ w'.cell? ⟨v7.heap.size, 7, none⟩ = some (.int .i64 1) ∧ w'.cell? ⟨v7.heap.size, 8, none⟩ = some (.int .i64 1) ∧ w'.cell? ⟨v7.heap.size, 9, none⟩ = some (.int .i64 2024) ∧ w'.cell? ⟨v7.heap.size, 10, none⟩ = some (.int .i64 2) ∧ w'.cell? ⟨v7.heap.size, 11, none⟩ = some (.int .i64 29) ∧ w'.cell? ⟨v7.heap.size, 12, none⟩ = some (.int .i64 1) ∧ w'.cell? ⟨v7.heap.size, 13, none⟩ = some (.int .i64 1) ∧ w'.cell? ⟨v7.heap.size, 14, none⟩ = some (.int .i64 1) ∧ w'.cell? ⟨v7.heap.size, 15, none⟩ = some (.int .i64 (-1)) ∧ w'.cell? ⟨v7.heap.size, 16, none⟩ = some (.int .i64 12) ∧ w'.cell? ⟨v7.heap.size, 17, none⟩ = some (.int .i64 31) ∧ w'.cell? ⟨v7.heap.size + 1, 0, none⟩ = some (.int .i64 4) ∧ w'.cell? ⟨v7.heap.size + 1, 1, none⟩ = some (.int .i64 3) ∧ w'.cell? ⟨v7.heap.size + 1, 2, none⟩ = some (.int .i64 5) ∧ w'.cell? ⟨v7.heap.size + 1, 3, none⟩ = some (.int .i64 3) ∧ w'.cell? ⟨v7.heap.size + 1, 4, none⟩ = some (.int .i64 0) ∧ w'.cell? ⟨v7.heap.size + 1, 5, none⟩ = some (.int .i64 4))
                  (first | exact kdVo_24 ((Dn.refl _).drew) hS329 | exact kdVo_24 ‹Dn _ _› ‹_› | exact kdVo_24 (Up.dn ‹Up _ _›) ‹_› | assumption | exact kdVo_24 ((Dn.refl _).alloc _) ‹_›)
                  (first
                    | (go_at_call 28; refine (kw6_5 _).mono ?_; rintro e wa ⟨rfl, qa⟩)
                    | (go_at_call 4; refine (kt6_5 _ (hE.dn (Dn.trans uv13 (‹Dn v13 _ ∧ _› : _ ∧ _).1))).mono ?_; rintro e wa ⟨rfl, qa⟩)
                    | (go_at_call 3; refine (kd6_5 _ (hE.dn (Dn.trans uv13 (‹Dn v13 _ ∧ _› : _ ∧ _).1))).mono ?_; rintro e wa ⟨rfl, qa⟩))
                all_goals
                  clear hS329
                  obtain ⟨uf354, c330, c331, c332, c333, c334, c335, c336, c337, c338, c339, c340, c341, c342, c343, c344, c345, c346, c347, c348, c349, c350, c351, c352, c353⟩ := (‹Dn v13 _ ∧ _› : _ ∧ _)
                  obtain ⟨w355, rfl⟩ : ∃ w355 : World, w355 = wa := ⟨_, rfl⟩
                  have l356 := Nat.lt_of_lt_of_le l303 uf354.size
                  clear l303
                  have l357 := Nat.lt_of_lt_of_le l322 uf354.size
                  clear l322
                  have vuf354 := uv13.trans uf354
                  clear uf354 uv13 HShS329
                  go_wp2_with fail
                  rw [rounds_succ]
                  go_wp2_with fail
                  clear c330 c331 c332 c333 c334 c335 c336 c337 c338 c339 c340 c341 c342 c343 c344 c345 c346 c347 l356
                  clear c348 c349 c350 c351 c352 c353 l357
                  obtain ⟨W358, hW358⟩ : ∃ W358, W358 = w355.alloc (.cells #[.string ⟨#[]⟩, .string ⟨#[45]⟩, .string ⟨#[48, 48, 48, 48, 45, 48, 49, 45, 48, 49]⟩, .string ⟨#[49, 48, 48, 48, 48, 48, 48, 48, 48, 48, 48, 48, 48, 48, 48, 48, 48, 45, 49, 50, 45, 51, 49]⟩, .string ⟨#[49, 48, 48, 48, 48, 48, 48, 48, 48, 48, 48, 48, 48, 48, 48, 48, 49, 45, 48, 49, 45, 48, 49]⟩, .string ⟨#[45, 49, 48, 48, 48, 48, 48, 48, 48, 48, 48, 48, 48, 48, 48, 48, 48, 48, 45, 48, 49, 45, 48, 49]⟩, .string ⟨#[57, 57, 57, 57, 57, 57, 57, 57, 57, 57, 57, 57, 57, 57, 57, 57, 57, 57, 57, 57, 57, 57, 57, 45, 48, 49, 45, 48, 49]⟩, .string ⟨#[48, 48, 48, 48, 49, 45, 48, 49, 45, 48, 49]⟩, .string ⟨#[50, 48, 48, 48, 45, 48, 49, 45, 48, 49, 32]⟩, .string ⟨#[50, 48, 48, 48, 45, 48, 49, 45, 48, 49, 49]⟩, .string ⟨#[50, 48, 48, 48, 45, 45, 49, 45, 48, 49]⟩, .string ⟨#[50, 48, 48, 48, 45, 48, 49, 45, 45, 49]⟩, .string ⟨#[50, 48, 88, 48, 45, 48, 49, 45, 48, 49]⟩, .string ⟨#[50, 48, 48, 48, 47, 48, 49, 47, 48, 49]⟩, .string ⟨#[45, 50, 48, 48, 48, 45, 49, 50, 45, 51, 49]⟩, .string ⟨#[45, 45, 50, 48, 48, 48, 45, 49, 50, 45, 51, 49]⟩, .string ⟨#[50, 48, 48, 48, 45, 48, 48, 45, 49, 48]⟩, .string ⟨#[50, 48, 48, 48, 45, 49, 51, 45, 49, 48]⟩, .string ⟨#[50, 48, 48, 48, 45, 48, 49, 45, 48, 48]⟩, .string ⟨#[50, 48, 48, 48, 45, 48, 49, 45, 51, 50]⟩] 9) := ⟨_, rfl⟩
                  have uW358 : Dn w355 W358 := by rw [hW358]; exact (Dn.refl _).alloc _
                  have c359 : W358.cell? ⟨w355.heap.size, 0, none⟩ = some (.string ⟨#[]⟩) := by rw [hW358]; simp [go_sem]
                  have c360 : W358.cell? ⟨w355.heap.size, 1, none⟩ = some (.string ⟨#[45]⟩) := by rw [hW358]; simp [go_sem]
                  have c361 : W358.cell? ⟨w355.heap.size, 2, none⟩ = some (.string ⟨#[48, 48, 48, 48, 45, 48, 49, 45, 48, 49]⟩) := by rw [hW358]; simp [go_sem]
                  have c362 : W358.cell? ⟨w355.heap.size, 3, none⟩ = some (.string ⟨#[49, 48, 48, 48, 48, 48, 48, 48, 48, 48, 48, 48, 48, 48, 48, 48, 48, 45, 49, 50, 45, 51, 49]⟩) := by rw [hW358]; simp [go_sem]
                  have c363 : W358.cell? ⟨w355.heap.size, 4, none⟩ = some (.string ⟨#[49, 48, 48, 48, 48, 48, 48, 48, 48, 48, 48, 48, 48, 48, 48, 48, 49, 45, 48, 49, 45, 48, 49]⟩) := by rw [hW358]; simp [go_sem]
                  have c364 : W358.cell? ⟨w355.heap.size, 5, none⟩ = some (.string ⟨#[45, 49, 48, 48, 48, 48, 48, 48, 48, 48, 48, 48, 48, 48, 48, 48, 48, 48, 45, 48, 49, 45, 48, 49]⟩) := by rw [hW358]; simp [go_sem]
                  have c365 : W358.cell? ⟨w355.heap.size, 6, none⟩ = some (.string ⟨#[57, 57, 57, 57, 57, 57, 57, 57, 57, 57, 57, 57, 57, 57, 57, 57, 57, 57, 57, 57, 57, 57, 57, 45, 48, 49, 45, 48, 49]⟩) := by rw [hW358]; simp [go_sem]
                  have c366 : W358.cell? ⟨w355.heap.size, 7, none⟩ = some (.string ⟨#[48, 48, 48, 48, 49, 45, 48, 49, 45, 48, 49]⟩) := by rw [hW358]; simp [go_sem]
                  have c367 : W358.cell? ⟨w355.heap.size, 8, none⟩ = some (.string ⟨#[50, 48, 48, 48, 45, 48, 49, 45, 48, 49, 32]⟩) := by rw [hW358]; simp [go_sem]
                  have c368 : W358.cell? ⟨w355.heap.size, 9, none⟩ = some (.string ⟨#[50, 48, 48, 48, 45, 48, 49, 45, 48, 49, 49]⟩) := by rw [hW358]; simp [go_sem]
                  have c369 : W358.cell? ⟨w355.heap.size, 10, none⟩ = some (.string ⟨#[50, 48, 48, 48, 45, 45, 49, 45, 48, 49]⟩) := by rw [hW358]; simp [go_sem]
                  have c370 : W358.cell? ⟨w355.heap.size, 11, none⟩ = some (.string ⟨#[50, 48, 48, 48, 45, 48, 49, 45, 45, 49]⟩) := by rw [hW358]; simp [go_sem]
                  have c371 : W358.cell? ⟨w355.heap.size, 12, none⟩ = some (.string ⟨#[50, 48, 88, 48, 45, 48, 49, 45, 48, 49]⟩) := by rw [hW358]; simp [go_sem]
                  have c372 : W358.cell? ⟨w355.heap.size, 13, none⟩ = some (.string ⟨#[50, 48, 48, 48, 47, 48, 49, 47, 48, 49]⟩) := by rw [hW358]; simp [go_sem]
                  have c373 : W358.cell? ⟨w355.heap.size, 14, none⟩ = some (.string ⟨#[45, 50, 48, 48, 48, 45, 49, 50, 45, 51, 49]⟩) := by rw [hW358]; simp [go_sem]
                  have c374 : W358.cell? ⟨w355.heap.size, 15, none⟩ = some (.string ⟨#[45, 45, 50, 48, 48, 48, 45, 49, 50, 45, 51, 49]⟩) := by rw [hW358]; simp [go_sem]
                  have c375 : W358.cell? ⟨w355.heap.size, 16, none⟩ = some (.string ⟨#[50, 48, 48, 48, 45, 48, 48, 45, 49, 48]⟩) := by rw [hW358]; simp [go_sem]
                  have c376 : W358.cell? ⟨w355.heap.size, 17, none⟩ = some (.string ⟨#[50, 48, 48, 48, 45, 49, 51, 45, 49, 48]⟩) := by rw [hW358]; simp [go_sem]
                  have c377 : W358.cell? ⟨w355.heap.size, 18, none⟩ = some (.string ⟨#[50, 48, 48, 48, 45, 48, 49, 45, 48, 48]⟩) := by rw [hW358]; simp [go_sem]
                  have c378 : W358.cell? ⟨w355.heap.size, 19, none⟩ = some (.string ⟨#[50, 48, 48, 48, 45, 48, 49, 45, 51, 50]⟩) := by rw [hW358]; simp [go_sem]
                  have l379 : w355.heap.size < W358.heap.size := by rw [hW358]; simp <;> omega
                  rw [← hW358]
                  clear hW358
                  have vW358 := vuf354.trans uW358
                  clear uW358 vuf354
                  refine wp_loop_rounds 21 ?_
                  rw [rounds_succ]
                  go_wp2_with fail
                  refine (civilsParse_true _ _ (by decide) (hE.dn vW358)).mono ?_
                  rintro e v14 ⟨rfl, qv14⟩
                  have l380 := Nat.lt_of_lt_of_le l379 qv14.size
                  have c381 := qv14.cell c359
                  have c382 := qv14.cell c360
                  have c383 := qv14.cell c361
                  have c384 := qv14.cell c362
                  have c385 := qv14.cell c363
                  have c386 := qv14.cell c364
                  have c387 := qv14.cell c365
                  have c388 := qv14.cell c366
                  have c389 := qv14.cell c367
                  have c390 := qv14.cell c368
                  have c391 := qv14.cell c369
                  have c392 := qv14.cell c370
                  have c393 := qv14.cell c371
                  have c394 := qv14.cell c372
                  have c395 := qv14.cell c373
                  have c396 := qv14.cell c374
                  have c397 := qv14.cell c375
                  have c398 := qv14.cell c376
                  have c399 := qv14.cell c377
                  have c400 := qv14.cell c378
                  clear l379 c359 c360 c361 c362 c363 c364 c365 c366 c367 c368 c369 c370 c371 c372 c373 c374 c375 c376 c377 c378
                  have uv14 := vW358.trans qv14
                  clear qv14 vW358
                  go_wp2_with fail
                  rw [rounds_succ]
                  go_wp2_with fail
                  refine (civilsParse_true _ _ (by decide) (hE.dn uv14)).mono ?_
                  rintro e v15 ⟨rfl, qv15⟩
                  have l401 := Nat.lt_of_lt_of_le l380 qv15.size
                  have c402 := qv15.cell c381
                  have c403 := qv15.cell c382
                  have c404 := qv15.cell c383
                  have c405 := qv15.cell c384
                  have c406 := qv15.cell c385
                  have c407 := qv15.cell c386
                  have c408 := qv15.cell c387
                  have c409 := qv15.cell c388
                  have c410 := qv15.cell c389
                  have c411 := qv15.cell c390
                  have c412 := qv15.cell c391
                  have c413 := qv15.cell c392
                  have c414 := qv15.cell c393
                  have c415 := qv15.cell c394
                  have c416 := qv15.cell c395
                  have c417 := qv15.cell c396
                  have c418 := qv15.cell c397
                  have c419 := qv15.cell c398
                  have c420 := qv15.cell c399
                  have c421 := qv15.cell c400
                  clear l380 c381 c382 c383 c384 c385 c386 c387 c388 c389 c390 c391 c392 c393 c394 c395 c396 c397 c398 c399 c400
                  have uv15 := uv14.trans qv15
                  clear qv15 uv14
                  go_wp2_with fail
                  rw [rounds_succ]
                  go_wp2_with fail
                  refine (civilsParse_true _ _ (by decide) (hE.dn uv15)).mono ?_
                  rintro e v16 ⟨rfl, qv16⟩
                  have l422 := Nat.lt_of_lt_of_le l401 qv16.size
                  have c423 := qv16.cell c402
                  have c424 := qv16.cell c403
                  have c425 := qv16.cell c404
                  have c426 := qv16.cell c405
                  have c427 := qv16.cell c406
                  have c428 := qv16.cell c407
                  have c429 := qv16.cell c408
                  have c430 := qv16.cell c409
                  have c431 := qv16.cell c410
                  have c432 := qv16.cell c411
                  have c433 := qv16.cell c412
                  have c434 := qv16.cell c413
                  have c435 := qv16.cell c414
                  have c436 := qv16.cell c415
                  have c437 := qv16.cell c416
                  have c438 := qv16.cell c417
                  have c439 := qv16.cell c418
                  have c440 := qv16.cell c419
                  have c441 := qv16.cell c420
                  have c442 := qv16.cell c421
                  clear l401 c402 c403 c404 c405 c406 c407 c408 c409 c410 c411 c412 c413 c414 c415 c416 c417 c418 c419 c420 c421
                  have uv16 := uv15.trans qv16
                  clear qv16 uv15
                  go_wp2_with fail
                  rw [rounds_succ]
                  go_wp2_with fail
                  refine (civilsParse_true _ _ (by decide) (hE.dn uv16)).mono ?_
                  rintro e v17 ⟨rfl, qv17⟩
                  have l443 := Nat.lt_of_lt_of_le l422 qv17.size
                  have c444 := qv17.cell c423
                  have c445 := qv17.cell c424
                  have c446 := qv17.cell c425
                  have c447 := qv17.cell c426
                  have c448 := qv17.cell c427
                  have c449 := qv17.cell c428
                  have c450 := qv17.cell c429
                  have c451 := qv17.cell c430
                  have c452 := qv17.cell c431
                  have c453 := qv17.cell c432
                  have c454 := qv17.cell c433
                  have c455 := qv17.cell c434
                  have c456 := qv17.cell c435
                  have c457 := qv17.cell c436
                  have c458 := qv17.cell c437
                  have c459 := qv17.cell c438
                  have c460 := qv17.cell c439
                  have c461 := qv17.cell c440
                  have c462 := qv17.cell c441
                  have c463 := qv17.cell c442
                  clear l422 c423 c424 c425 c426 c427 c428 c429 c430 c431 c432 c433 c434 c435 c436 c437 c438 c439 c440 c441 c442
                  have uv17 := uv16.trans qv17
                  clear qv17 uv16
                  go_wp2_with fail
                  rw [rounds_succ]
                  go_wp2_with fail
                  refine (civilsParse_true _ _ (by decide) (hE.dn uv17)).mono ?_
                  rintro e v18 ⟨rfl, qv18⟩
                  have l464 := Nat.lt_of_lt_of_le l443 qv18.size
                  have c465 := qv18.cell c444
                  have c466 := qv18.cell c445
                  have c467 := qv18.cell c446
                  have c468 := qv18.cell c447
                  have c469 := qv18.cell c448
                  have c470 := qv18.cell c449
                  have c471 := qv18.cell c450
                  have c472 := qv18.cell c451
                  have c473 := qv18.cell c452
                  have c474 := qv18.cell c453
                  have c475 := qv18.cell c454
                  have c476 := qv18.cell c455
                  have c477 := qv18.cell c456
                  have c478 := qv18.cell c457
                  have c479 := qv18.cell c458
                  have c480 := qv18.cell c459
                  have c481 := qv18.cell c460
                  have c482 := qv18.cell c461
                  have c483 := qv18.cell c462
                  have c484 := qv18.cell c463
                  clear l443 c444 c445 c446 c447 c448 c449 c450 c451 c452 c453 c454 c455 c456 c457 c458 c459 c460 c461 c462 c463
                  have uv18 := uv17.trans qv18
                  clear qv18 uv17
                  go_wp2_with fail
                  rw [rounds_succ]
                  go_wp2_with fail
                  refine (civilsParse_true _ _ (by decide) (hE.dn uv18)).mono ?_
                  rintro e v19 ⟨rfl, qv19⟩
                  have l485 := Nat.lt_of_lt_of_le l464 qv19.size
                  have c486 := qv19.cell c465
                  have c487 := qv19.cell c466
                  have c488 := qv19.cell c467
                  have c489 := qv19.cell c468
                  have c490 := qv19.cell c469
                  have c491 := qv19.cell c470
                  have c492 := qv19.cell c471
                  have c493 := qv19.cell c472
                  have c494 := qv19.cell c473
                  have c495 := qv19.cell c474
                  have c496 := qv19.cell c475
                  have c497 := qv19.cell c476
                  have c498 := qv19.cell c477
                  have c499 := qv19.cell c478
                  have c500 := qv19.cell c479
                  have c501 := qv19.cell c480
                  have c502 := qv19.cell c481
                  have c503 := qv19.cell c482
                  have c504 := qv19.cell c483
                  have c505 := qv19.cell c484
                  clear l464 c465 c466 c467 c468 c469 c470 c471 c472 c473 c474 c475 c476 c477 c478 c479 c480 c481 c482 c483 c484
                  have uv19 := uv18.trans qv19
                  clear qv19 uv18
                  go_wp2_with fail
                  rw [rounds_succ]
                  go_wp2_with fail
                  refine (civilsParse_true _ _ (by decide) (hE.dn uv19)).mono ?_
                  rintro e v20 ⟨rfl, qv20⟩
                  have l506 := Nat.lt_of_lt_of_le l485 qv20.size
                  have c507 := qv20.cell c486
                  have c508 := qv20.cell c487
                  have c509 := qv20.cell c488
                  have c510 := qv20.cell c489
                  have c511 := qv20.cell c490
                  have c512 := qv20.cell c491
                  have c513 := qv20.cell c492
                  have c514 := qv20.cell c493
                  have c515 := qv20.cell c494
                  have c516 := qv20.cell c495
                  have c517 := qv20.cell c496
                  have c518 := qv20.cell c497
                  have c519 := qv20.cell c498
                  have c520 := qv20.cell c499
                  have c521 := qv20.cell c500
                  have c522 := qv20.cell c501
                  have c523 := qv20.cell c502
                  have c524 := qv20.cell c503
                  have c525 := qv20.cell c504
                  have c526 := qv20.cell c505
                  clear l485 c486 c487 c488 c489 c490 c491 c492 c493 c494 c495 c496 c497 c498 c499 c500 c501 c502 c503 c504 c505
                  have uv20 := uv19.trans qv20
                  clear qv20 uv19
                  go_wp2_with fail
                  rw [rounds_succ]
                  go_wp2_with fail
                  refine (civilsParse_true _ _ (by decide) (hE.dn uv20)).mono ?_
                  rintro e v21 ⟨rfl, qv21⟩
                  have l527 := Nat.lt_of_lt_of_le l506 qv21.size
                  have c528 := qv21.cell c507
                  have c529 := qv21.cell c508
                  have c530 := qv21.cell c509
                  have c531 := qv21.cell c510
                  have c532 := qv21.cell c511
                  have c533 := qv21.cell c512
                  have c534 := qv21.cell c513
                  have c535 := qv21.cell c514
                  have c536 := qv21.cell c515
                  have c537 := qv21.cell c516
                  have c538 := qv21.cell c517
                  have c539 := qv21.cell c518
                  have c540 := qv21.cell c519
                  have c541 := qv21.cell c520
                  have c542 := qv21.cell c521
                  have c543 := qv21.cell c522
                  have c544 := qv21.cell c523
                  have c545 := qv21.cell c524
                  have c546 := qv21.cell c525
                  have c547 := qv21.cell c526
                  clear l506 c507 c508 c509 c510 c511 c512 c513 c514 c515 c516 c517 c518 c519 c520 c521 c522 c523 c524 c525 c526
                  have uv21 := uv20.trans qv21
                  clear qv21 uv20
                  go_wp2_with fail
                  rw [rounds_succ]
                  go_wp2_with fail
                  refine (civilsParse_true _ _ (by decide) (hE.dn uv21)).mono ?_
                  rintro e v22 ⟨rfl, qv22⟩
                  have l548 := Nat.lt_of_lt_of_le l527 qv22.size
                  have c549 := qv22.cell c528
                  have c550 := qv22.cell c529
                  have c551 := qv22.cell c530
                  have c552 := qv22.cell c531
                  have c553 := qv22.cell c532
                  have c554 := qv22.cell c533
                  have c555 := qv22.cell c534
                  have c556 := qv22.cell c535
                  have c557 := qv22.cell c536
                  have c558 := qv22.cell c537
                  have c559 := qv22.cell c538
                  have c560 := qv22.cell c539
                  have c561 := qv22.cell c540
                  have c562 := qv22.cell c541
                  have c563 := qv22.cell c542
                  have c564 := qv22.cell c543
                  have c565 := qv22.cell c544
                  have c566 := qv22.cell c545
                  have c567 := qv22.cell c546
                  have c568 := qv22.cell c547
                  clear l527 c528 c529 c530 c531 c532 c533 c534 c535 c536 c537 c538 c539 c540 c541 c542 c543 c544 c545 c546 c547
                  have uv22 := uv21.trans qv22
                  clear qv22 uv21
                  go_wp2_with fail
                  rw [rounds_succ]
                  go_wp2_with fail
                  refine (civilsParse_true _ _ (by decide) (hE.dn uv22)).mono ?_
                  rintro e v23 ⟨rfl, qv23⟩
                  have l569 := Nat.lt_of_lt_of_le l548 qv23.size
                  have c570 := qv23.cell c549
                  have c571 := qv23.cell c550
                  have c572 := qv23.cell c551
                  have c573 := qv23.cell c552
                  have c574 := qv23.cell c553
                  have c575 := qv23.cell c554
                  have c576 := qv23.cell c555
                  have c577 := qv23.cell c556
                  have c578 := qv23.cell c557
                  have c579 := qv23.cell c558
                  have c580 := qv23.cell c559
                  have c581 := qv23.cell c560
                  have c582 := qv23.cell c561
                  have c583 := qv23.cell c562
                  have c584 := qv23.cell c563
                  have c585 := qv23.cell c564
                  have c586 := qv23.cell c565
                  have c587 := qv23.cell c566
                  have c588 := qv23.cell c567
                  have c589 := qv23.cell c568
                  clear l548 c549 c550 c551 c552 c553 c554 c555 c556 c557 c558 c559 c560 c561 c562 c563 c564 c565 c566 c567 c568
                  have uv23 := uv22.trans qv23
                  clear qv23 uv22
                  go_wp2_with fail
                  rw [rounds_succ]
                  go_wp2_with fail
                  refine (civilsParse_true _ _ (by decide) (hE.dn uv23)).mono ?_
                  rintro e v24 ⟨rfl, qv24⟩
                  have l590 := Nat.lt_of_lt_of_le l569 qv24.size
                  have c591 := qv24.cell c570
                  have c592 := qv24.cell c571
                  have c593 := qv24.cell c572
                  have c594 := qv24.cell c573
                  have c595 := qv24.cell c574
                  have c596 := qv24.cell c575
                  have c597 := qv24.cell c576
                  have c598 := qv24.cell c577
                  have c599 := qv24.cell c578
                  have c600 := qv24.cell c579
                  have c601 := qv24.cell c580
                  have c602 := qv24.cell c581
                  have c603 := qv24.cell c582
                  have c604 := qv24.cell c583
                  have c605 := qv24.cell c584
                  have c606 := qv24.cell c585
                  have c607 := qv24.cell c586
                  have c608 := qv24.cell c587
                  have c609 := qv24.cell c588
                  have c610 := qv24.cell c589
                  clear l569 c570 c571 c572 c573 c574 c575 c576 c577 c578 c579 c580 c581 c582 c583 c584 c585 c586 c587 c588 c589
                  have uv24 := uv23.trans qv24
                  clear qv24 uv23
                  go_wp2_with fail
                  rw [rounds_succ]
                  go_wp2_with fail
                  refine (civilsParse_true _ _ (by decide) (hE.dn uv24)).mono ?_
                  rintro e v25 ⟨rfl, qv25⟩
                  have l611 := Nat.lt_of_lt_of_le l590 qv25.size
                  have c612 := qv25.cell c591
                  have c613 := qv25.cell c592
                  have c614 := qv25.cell c593
                  have c615 := qv25.cell c594
                  have c616 := qv25.cell c595
                  have c617 := qv25.cell c596
                  have c618 := qv25.cell c597
                  have c619 := qv25.cell c598
                  have c620 := qv25.cell c599
                  have c621 := qv25.cell c600
                  have c622 := qv25.cell c601
                  have c623 := qv25.cell c602
                  have c624 := qv25.cell c603
                  have c625 := qv25.cell c604
                  have c626 := qv25.cell c605
                  have c627 := qv25.cell c606
                  have c628 := qv25.cell c607
                  have c629 := qv25.cell c608
                  have c630 := qv25.cell c609
                  have c631 := qv25.cell c610
                  clear l590 c591 c592 c593 c594 c595 c596 c597 c598 c599 c600 c601 c602 c603 c604 c605 c606 c607 c608 c609 c610
                  have uv25 := uv24.trans qv25
                  clear qv25 uv24
                  go_wp2_with fail
                  rw [rounds_succ]
                  go_wp2_with fail
                  refine (civilsParse_true _ _ (by decide) (hE.dn uv25)).mono ?_
                  rintro e v26 ⟨rfl, qv26⟩
                  have l632 := Nat.lt_of_lt_of_le l611 qv26.size
                  have c633 := qv26.cell c612
                  have c634 := qv26.cell c613
                  have c635 := qv26.cell c614
                  have c636 := qv26.cell c615
                  have c637 := qv26.cell c616
                  have c638 := qv26.cell c617
                  have c639 := qv26.cell c618
                  have c640 := qv26.cell c619
                  have c641 := qv26.cell c620
                  have c642 := qv26.cell c621
                  have c643 := qv26.cell c622
                  have c644 := qv26.cell c623
                  have c645 := qv26.cell c624
                  have c646 := qv26.cell c625
                  have c647 := qv26.cell c626
                  have c648 := qv26.cell c627
                  have c649 := qv26.cell c628
                  have c650 := qv26.cell c629
                  have c651 := qv26.cell c630
                  have c652 := qv26.cell c631
                  clear l611 c612 c613 c614 c615 c616 c617 c618 c619 c620 c621 c622 c623 c624 c625 c626 c627 c628 c629 c630 c631
                  have uv26 := uv25.trans qv26
                  clear qv26 uv25
                  go_wp2_with fail
                  rw [rounds_succ]
                  go_wp2_with fail
                  refine (civilsParse_true _ _ (by decide) (hE.dn uv26)).mono ?_
                  rintro e v27 ⟨rfl, qv27⟩
                  have l653 := Nat.lt_of_lt_of_le l632 qv27.size
                  have c654 := qv27.cell c633
                  have c655 := qv27.cell c634
                  have c656 := qv27.cell c635
                  have c657 := qv27.cell c636
                  have c658 := qv27.cell c637
                  have c659 := qv27.cell c638
                  have c660 := qv27.cell c639
                  have c661 := qv27.cell c640
                  have c662 := qv27.cell c641
                  have c663 := qv27.cell c642
                  have c664 := qv27.cell c643
                  have c665 := qv27.cell c644
                  have c666 := qv27.cell c645
                  have c667 := qv27.cell c646
                  have c668 := qv27.cell c647
                  have c669 := qv27.cell c648
                  have c670 := qv27.cell c649
                  have c671 := qv27.cell c650
                  have c672 := qv27.cell c651
                  have c673 := qv27.cell c652
                  clear l632 c633 c634 c635 c636 c637 c638 c639 c640 c641 c642 c643 c644 c645 c646 c647 c648 c649 c650 c651 c652
                  have uv27 := uv26.trans qv27
                  clear qv27 uv26
                  go_wp2_with fail
                  rw [rounds_succ]
                  go_wp2_with fail
                  refine (civilsParse_true _ _ (by decide) (hE.dn uv27)).mono ?_
                  rintro e v28 ⟨rfl, qv28⟩
                  have l674 := Nat.lt_of_lt_of_le l653 qv28.size
                  have c675 := qv28.cell c654
                  have c676 := qv28.cell c655
                  have c677 := qv28.cell c656
                  have c678 := qv28.cell c657
                  have c679 := qv28.cell c658
                  have c680 := qv28.cell c659
                  have c681 := qv28.cell c660
                  have c682 := qv28.cell c661
                  have c683 := qv28.cell c662
                  have c684 := qv28.cell c663
                  have c685 := qv28.cell c664
                  have c686 := qv28.cell c665
                  have c687 := qv28.cell c666
                  have c688 := qv28.cell c667
                  have c689 := qv28.cell c668
                  have c690 := qv28.cell c669
                  have c691 := qv28.cell c670
                  have c692 := qv28.cell c671
                  have c693 := qv28.cell c672
                  have c694 := qv28.cell c673
                  clear l653 c654 c655 c656 c657 c658 c659 c660 c661 c662 c663 c664 c665 c666 c667 c668 c669 c670 c671 c672 c673
                  have uv28 := uv27.trans qv28
                  clear qv28 uv27
                  go_wp2_with fail
                  rw [rounds_succ]
                  go_wp2_with fail
                  refine (civilsParse_true _ _ (by decide) (hE.dn uv28)).mono ?_
                  rintro e v29 ⟨rfl, qv29⟩
                  have l695 := Nat.lt_of_lt_of_le l674 qv29.size
                  have c696 := qv29.cell c675
                  have c697 := qv29.cell c676
                  have c698 := qv29.cell c677
                  have c699 := qv29.cell c678
                  have c700 := qv29.cell c679
                  have c701 := qv29.cell c680
                  have c702 := qv29.cell c681
                  have c703 := qv29.cell c682
                  have c704 := qv29.cell c683
                  have c705 := qv29.cell c684
                  have c706 := qv29.cell c685
                  have c707 := qv29.cell c686
                  have c708 := qv29.cell c687
                  have c709 := qv29.cell c688
                  have c710 := qv29.cell c689
                  have c711 := qv29.cell c690
                  have c712 := qv29.cell c691
                  have c713 := qv29.cell c692
                  have c714 := qv29.cell c693
                  have c715 := qv29.cell c694
                  clear l674 c675 c676 c677 c678 c679 c680 c681 c682 c683 c684 c685 c686 c687 c688 c689 c690 c691 c692 c693 c694
                  have uv29 := uv28.trans qv29
                  clear qv29 uv28
                  go_wp2_with fail
                  rw [rounds_succ]
                  go_wp2_with fail
                  refine (civilsParse_true _ _ (by decide) (hE.dn uv29)).mono ?_
                  rintro e v30 ⟨rfl, qv30⟩
                  have l716 := Nat.lt_of_lt_of_le l695 qv30.size
                  have c717 := qv30.cell c696
                  have c718 := qv30.cell c697
                  have c719 := qv30.cell c698
                  have c720 := qv30.cell c699
                  have c721 := qv30.cell c700
                  have c722 := qv30.cell c701
                  have c723 := qv30.cell c702
                  have c724 := qv30.cell c703
                  have c725 := qv30.cell c704
                  have c726 := qv30.cell c705
                  have c727 := qv30.cell c706
                  have c728 := qv30.cell c707
                  have c729 := qv30.cell c708
                  have c730 := qv30.cell c709
                  have c731 := qv30.cell c710
                  have c732 := qv30.cell c711
                  have c733 := qv30.cell c712
                  have c734 := qv30.cell c713
                  have c735 := qv30.cell c714
                  have c736 := qv30.cell c715
                  clear l695 c696 c697 c698 c699 c700 c701 c702 c703 c704 c705 c706 c707 c708 c709 c710 c711 c712 c713 c714 c715
                  have uv30 := uv29.trans qv30
                  clear qv30 uv29
                  go_wp2_with fail
                  rw [rounds_succ]
                  go_wp2_with fail
                  refine (civilsParse_true _ _ (by decide) (hE.dn uv30)).mono ?_
                  rintro e v31 ⟨rfl, qv31⟩
                  have l737 := Nat.lt_of_lt_of_le l716 qv31.size
                  have c738 := qv31.cell c717
                  have c739 := qv31.cell c718
                  have c740 := qv31.cell c719
                  have c741 := qv31.cell c720
                  have c742 := qv31.cell c721
                  have c743 := qv31.cell c722
                  have c744 := qv31.cell c723
                  have c745 := qv31.cell c724
                  have c746 := qv31.cell c725
                  have c747 := qv31.cell c726
                  have c748 := qv31.cell c727
                  have c749 := qv31.cell c728
                  have c750 := qv31.cell c729
                  have c751 := qv31.cell c730
                  have c752 := qv31.cell c731
                  have c753 := qv31.cell c732
                  have c754 := qv31.cell c733
                  have c755 := qv31.cell c734
                  have c756 := qv31.cell c735
                  have c757 := qv31.cell c736
                  clear l716 c717 c718 c719 c720 c721 c722 c723 c724 c725 c726 c727 c728 c729 c730 c731 c732 c733 c734 c735 c736
                  have uv31 := uv30.trans qv31
                  clear qv31 uv30
                  go_wp2_with fail
                  rw [rounds_succ]
                  go_wp2_with fail
                  refine (civilsParse_true _ _ (by decide) (hE.dn uv31)).mono ?_
                  rintro e v32 ⟨rfl, qv32⟩
                  have l758 := Nat.lt_of_lt_of_le l737 qv32.size
                  have c759 := qv32.cell c738
                  have c760 := qv32.cell c739
                  have c761 := qv32.cell c740
                  have c762 := qv32.cell c741
                  have c763 := qv32.cell c742
                  have c764 := qv32.cell c743
                  have c765 := qv32.cell c744
                  have c766 := qv32.cell c745
                  have c767 := qv32.cell c746
                  have c768 := qv32.cell c747
                  have c769 := qv32.cell c748
                  have c770 := qv32.cell c749
                  have c771 := qv32.cell c750
                  have c772 := qv32.cell c751
                  have c773 := qv32.cell c752
                  have c774 := qv32.cell c753
                  have c775 := qv32.cell c754
                  have c776 := qv32.cell c755
                  have c777 := qv32.cell c756
                  have c778 := qv32.cell c757
                  clear l737 c738 c739 c740 c741 c742 c743 c744 c745 c746 c747 c748 c749 c750 c751 c752 c753 c754 c755 c756 c757
                  have uv32 := uv31.trans qv32
                  clear qv32 uv31
                  go_wp2_with fail
                  rw [rounds_succ]
                  go_wp2_with fail
                  refine (civilsParse_true _ _ (by decide) (hE.dn uv32)).mono ?_
                  rintro e v33 ⟨rfl, qv33⟩
                  have l779 := Nat.lt_of_lt_of_le l758 qv33.size
                  have c780 := qv33.cell c759
                  have c781 := qv33.cell c760
                  have c782 := qv33.cell c761
                  have c783 := qv33.cell c762
                  have c784 := qv33.cell c763
                  have c785 := qv33.cell c764
                  have c786 := qv33.cell c765
                  have c787 := qv33.cell c766
                  have c788 := qv33.cell c767
                  have c789 := qv33.cell c768
                  have c790 := qv33.cell c769
                  have c791 := qv33.cell c770
                  have c792 := qv33.cell c771
                  have c793 := qv33.cell c772
                  have c794 := qv33.cell c773
                  have c795 := qv33.cell c774
                  have c796 := qv33.cell c775
                  have c797 := qv33.cell c776
                  have c798 := qv33.cell c777
                  have c799 := qv33.cell c778
                  clear l758 c759 c760 c761 c762 c763 c764 c765 c766 c767 c768 c769 c770 c771 c772 c773 c774 c775 c776 c777 c778
                  have uv33 := uv32.trans qv33
                  clear qv33 uv32
                  go_wp2_with fail
                  rw [rounds_succ]
                  clear c780 c781 c782 c783 c784 c785 c786 c787 c788 c789 c790 c791 c792 c793 c794 c795 c796 c797 c798 c799 l779
                  go_wp2_with fail
                  refine (cvWd_at 9223372036854775807 5 _ ⟨by decide, by decide⟩ (by decide)).mono ?_
                  rintro e v34 ⟨rfl, qv34⟩
                  have uv34 := uv33.trans qv34
                  clear qv34 uv33
                  go_wp2_with fail
                  refine (rc6Wd_at 9223372036854775807 5 _ (by decide)).mono ?_
                  rintro e v35 ⟨rfl, qv35⟩
                  have uv35 := uv34.trans qv35
                  clear qv35 uv34
                  go_wp2_with fail
                  refine (cvWd_at (-9223372036854775808) 4 _ ⟨by decide, by decide⟩ (by decide)).mono ?_
                  rintro e v36 ⟨rfl, qv36⟩
                  have uv36 := uv35.trans qv36
                  clear qv36 uv35
                  go_wp2_with fail
                  refine (rc6Wd_at (-9223372036854775808) 4 _ (by decide)).mono ?_
                  rintro e v37 ⟨rfl, qv37⟩
                  have uv37 := uv36.trans qv37
                  clear qv37 uv36
                  go_wp2_with fail
                  refine (cl6 10000000000000000 12 31 _).mono ?_
                  rintro e v38 ⟨rfl, qv38⟩
                  have uv38 := uv37.trans qv38
                  clear qv38 uv37
                  go_wp2_with fail
                  refine (kt6_6 _ (hE.dn uv38)).mono ?_
                  rintro e v39 ⟨rfl, qv39⟩
                  have uv39 := uv38.trans qv39
                  clear qv39 uv38
                  go_wp2_with fail
                  refine (cl6 (-10000000000000000) 1 1 _).mono ?_
                  rintro e v40 ⟨rfl, qv40⟩
                  have uv40 := uv39.trans qv40
                  clear qv40 uv39
                  go_wp2_with fail
                  refine (kd6_7 _ (hE.dn uv40)).mono ?_
                  rintro e v41 ⟨rfl, qv41⟩
                  have uv41 := uv40.trans qv41
                  clear qv41 uv40
                  go_wp2_with fail
                  refine (lives6 _ (hE.dn uv41)).mono ?_
                  rintro e v42 ⟨rfl, qv42⟩
                  have uv42 := uv41.trans qv42
                  clear qv42 uv41
                  go_wp2_with fail
                  go_ret
                  exact ⟨rfl, uv42⟩
end Go.Proofs.YtopbbcbpanfigaaGreatDoor
