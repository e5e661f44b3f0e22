/-
  WALKS OF circaref06: Text. (Printed by wip/gen/civ9.py.)
-/
import Derived.Test.YtopbbcbpanfigaaGreatDoorCivF
import Derived.Test.YtopbbcbpanfigaaGreatDoorIntsF
namespace Go.Proofs.YtopbbcbpanfigaaGreatDoor
open Go.RowKit
set_option linter.unusedVariables false
set_option linter.unusedSimpArgs false
theorem abs_isN {w : World} {p : Option Addr} {n cap : Nat} {y : Int} (h : SlD w (.slice p n cap) (Dg.dl y.natAbs)) (o : Obj) : IsN (w.alloc o) (.agg #[.bool false, .slice p n cap]) (y.natAbs : Int) := by
  have h2 : IsN w (.agg #[.bool false, .slice p n cap]) (y.natAbs : Int) := ⟨.slice p n cap, by rw [show decide ((y.natAbs : Int) < 0) = false by simp], by rw [Int.natAbs_natCast]; exact h⟩
  exact h2.dn ((Dn.refl _).alloc _)
theorem kdVl_3 {W w1 w2 : World} {a0 a1 a2 : Addr} {v0 v1 v2 : Value} (k : Dn w1 w2) (h : Dn W w1 ∧ w1.cell? a0 = some v0 ∧ w1.cell? a1 = some v1 ∧ w1.cell? a2 = some v2) :
    Dn W w2 ∧ w2.cell? a0 = some v0 ∧ w2.cell? a1 = some v1 ∧ w2.cell? a2 = some v2 := by
  obtain ⟨h1, c0, c1, c2⟩ := h
  exact ⟨h1.trans k, k.cell c0, k.cell c1, k.cell c2⟩
set_option maxHeartbeats 8000000 in
set_option maxRecDepth 100000 in
theorem rtx1p (y m d : Int) (D P2 P3 : ByteArray) (s4 : D.size ≤ 1000) (s2 : P2.size ≤ 1000) (s3 : P3.size ≤ 1000) (hk : D.size = 1) (HB : Hid (decide (y < 0) = false))
    (HOf : Hid (∀ W, Calls Tryz.prog 49 #[.int .i64 y] W fun e w' => ∃ v, e = .returned v ∧ IsN w' v y ∧ Dn W w')) (HT : Hid (∀ W v, IsN W v (y.natAbs : Int) → Calls Tryz.prog 50 #[v] W fun e w' => e = .returned (.string D) ∧ Dn W w'))
    (HP2 : Hid (∀ W, Calls Tryz.prog 51 #[.int .i64 m] W fun e w' => e = .returned (.string P2) ∧ Dn W w')) (HP3 : Hid (∀ W, Calls Tryz.prog 51 #[.int .i64 d] W fun e w' => e = .returned (.string P3) ∧ Dn W w')) (w : World) :
    Calls Tryz.prog 22 #[.agg #[.int .i64 y, .int .i64 m, .int .i64 d]] w fun ro w' => ro = .returned (.string ((⟨#[48]⟩ ++ (⟨#[48]⟩ ++ (⟨#[48]⟩ ++ D))) ++ ⟨#[45]⟩ ++ P2 ++ ⟨#[45]⟩ ++ P3)) ∧ Dn w w' := by
  have n0 : ¬ (9223372036854775807 < 4) := by omega
  have n1 : ¬ (9223372036854775807 < 4 + 1) := by omega
  have n2 : ¬ (9223372036854775807 < 4 + 1 + P2.size) := by omega
  have n3 : ¬ (9223372036854775807 < 4 + 1 + P2.size + 1) := by omega
  have n4 : ¬ (9223372036854775807 < 4 + 1 + P2.size + 1 + P3.size) := by omega
  have n5 : ¬ (9223372036854775807 < 5 + P2.size) := by omega
  have n6 : ¬ (9223372036854775807 < 5 + P2.size + 1) := by omega
  have n7 : ¬ (9223372036854775807 < 5 + P2.size + 1 + P3.size) := by omega
  clear s4 s2 s3
  go_enter Tryz.func22, Tryz.ntmps22
  go_wp2_with fail
  obtain ⟨W1, hW1⟩ : ∃ W1, W1 = w.alloc (.cells #[.int .i64 y, .int .i64 m, .int .i64 d] 23) := ⟨_, rfl⟩
  have uW1 : Dn w W1 := by rw [hW1]; exact (Dn.refl _).alloc _
  have c2 : W1.cell? ⟨w.heap.size, 0, none⟩ = some (.int .i64 y) := by rw [hW1]; simp [go_sem]
  have c3 : W1.cell? ⟨w.heap.size, 1, none⟩ = some (.int .i64 m) := by rw [hW1]; simp [go_sem]
  have c4 : W1.cell? ⟨w.heap.size, 2, none⟩ = some (.int .i64 d) := by rw [hW1]; simp [go_sem]
  have l5 : w.heap.size < W1.heap.size := by rw [hW1]; simp <;> omega
  rw [← hW1]
  clear hW1
  refine (HOf.out _).mono ?_
  rintro e w1 ⟨v, rfl, hI, q1⟩
  obtain ⟨p, n, cap, rfl, hS⟩ := hI.form
  rw [HB.out]
  have l6 := Nat.lt_of_lt_of_le l5 q1.size
  have c7 := q1.cell c2
  have c8 := q1.cell c3
  have c9 := q1.cell c4
  clear l5 c2 c3 c4
  have u1 := uW1.trans q1
  clear q1 uW1
  go_wp2_with fail
  have hN : IsN (w1.alloc (.cells #[.bool false, .slice p n cap] 80)) (.agg #[.bool false, .slice p n cap]) (y.natAbs : Int) := abs_isN hS _
  obtain ⟨W10, hW10⟩ : ∃ W10, W10 = w1.alloc (.cells #[.bool false, .slice p n cap] 80) := ⟨_, rfl⟩
  have uW10 : Dn w1 W10 := by rw [hW10]; exact (Dn.refl _).alloc _
  have l11 := Nat.lt_of_lt_of_le l6 uW10.size
  have c12 := uW10.cell c7
  have c13 := uW10.cell c8
  have c14 := uW10.cell c9
  clear l6 c7 c8 c9
  have c15 : W10.cell? ⟨w1.heap.size, 0, none⟩ = some (.bool false) := by rw [hW10]; simp [go_sem]
  have c16 : W10.cell? ⟨w1.heap.size, 1, none⟩ = some (.slice p n cap) := by rw [hW10]; simp [go_sem]
  have l17 : w1.heap.size < W10.heap.size := by rw [hW10]; simp <;> omega
  rw [← hW10] at hN ⊢
  clear hW10
  have vW10 := u1.trans uW10
  clear uW10 u1
  refine (HT.out _ _ hN).mono ?_
  rintro e w2 ⟨rfl, q2⟩
  have l18 := Nat.lt_of_lt_of_le l11 q2.size
  have c19 := q2.cell c12
  have c20 := q2.cell c13
  have c21 := q2.cell c14
  have l22 := Nat.lt_of_lt_of_le l17 q2.size
  have c23 := q2.cell c15
  have c24 := q2.cell c16
  clear l11 c12 c13 c14 l17 c15 c16
  have u2 := vW10.trans q2
  clear q2 vW10
  go_wp2_with fail
  refine wp_loop_rounds 4 ?_
  rw [rounds_succ]
  go_wp2_with fail
  rw [rounds_succ]
  go_wp2_with fail
  rw [rounds_succ]
  go_wp2_with fail
  rw [rounds_succ]
  go_wp2_with fail
  have hS25 := kdVl_3 (W := w2) (Dn.refl _) ⟨Dn.refl _, c19, c20, c21⟩
  have k26 := Lib.hid c23
  have k27 := Lib.hid c24
  have HShS25 := Lib.hid hS25
  clear c19 c20 c21 c23 c24
  go_region_held3 (fun w' => Dn w2 w' ∧ w'.cell? ⟨w.heap.size, 0, none⟩ = some (.int .i64 y) ∧ w'.cell? ⟨w.heap.size, 1, none⟩ = some (.int .i64 m) ∧ w'.cell? ⟨w.heap.size, 2, none⟩ = some (.int .i64 d))
    (first | exact kdVl_3 ((Dn.refl _).drew) hS25 | exact kdVl_3 ‹Dn _ _› ‹_› | exact kdVl_3 (Up.dn ‹Up _ _›) ‹_› | assumption | exact kdVl_3 ((Dn.refl _).alloc _) ‹_›)
    (first
      | (go_at_call 51; (with_reducible refine (HP2.out _).mono ?_); rintro e wa ⟨rfl, qa⟩)
      | (go_at_call 51; (with_reducible refine (HP3.out _).mono ?_); rintro e wa ⟨rfl, qa⟩))
  all_goals
    clear hS25
    obtain ⟨uf31, c28, c29, c30⟩ := (‹Dn w2 _ ∧ _› : _ ∧ _)
    obtain ⟨w32, rfl⟩ : ∃ w32 : World, w32 = wa := ⟨_, rfl⟩
    have l33 := Nat.lt_of_lt_of_le l18 uf31.size
    clear l18
    have l34 := Nat.lt_of_lt_of_le l22 uf31.size
    clear l22
    have c35 := uf31.cell k26.out
    have c36 := uf31.cell k27.out
    clear k26 k27
    have vuf31 := u2.trans uf31
    clear uf31 u2 HShS25
    go_wp2_with fail
    go_ret
    exact ⟨rfl, vuf31⟩
set_option maxHeartbeats 8000000 in
set_option maxRecDepth 100000 in
theorem rtx2p (y m d : Int) (D P2 P3 : ByteArray) (s4 : D.size ≤ 1000) (s2 : P2.size ≤ 1000) (s3 : P3.size ≤ 1000) (hk : D.size = 2) (HB : Hid (decide (y < 0) = false))
    (HOf : Hid (∀ W, Calls Tryz.prog 49 #[.int .i64 y] W fun e w' => ∃ v, e = .returned v ∧ IsN w' v y ∧ Dn W w')) (HT : Hid (∀ W v, IsN W v (y.natAbs : Int) → Calls Tryz.prog 50 #[v] W fun e w' => e = .returned (.string D) ∧ Dn W w'))
    (HP2 : Hid (∀ W, Calls Tryz.prog 51 #[.int .i64 m] W fun e w' => e = .returned (.string P2) ∧ Dn W w')) (HP3 : Hid (∀ W, Calls Tryz.prog 51 #[.int .i64 d] W fun e w' => e = .returned (.string P3) ∧ Dn W w')) (w : World) :
    Calls Tryz.prog 22 #[.agg #[.int .i64 y, .int .i64 m, .int .i64 d]] w fun ro w' => ro = .returned (.string ((⟨#[48]⟩ ++ (⟨#[48]⟩ ++ D)) ++ ⟨#[45]⟩ ++ P2 ++ ⟨#[45]⟩ ++ P3)) ∧ Dn w w' := by
  have n0 : ¬ (9223372036854775807 < 4) := by omega
  have n1 : ¬ (9223372036854775807 < 4 + 1) := by omega
  have n2 : ¬ (9223372036854775807 < 4 + 1 + P2.size) := by omega
  have n3 : ¬ (9223372036854775807 < 4 + 1 + P2.size + 1) := by omega
  have n4 : ¬ (9223372036854775807 < 4 + 1 + P2.size + 1 + P3.size) := by omega
  have n5 : ¬ (9223372036854775807 < 5 + P2.size) := by omega
  have n6 : ¬ (9223372036854775807 < 5 + P2.size + 1) := by omega
  have n7 : ¬ (9223372036854775807 < 5 + P2.size + 1 + P3.size) := by omega
  clear s4 s2 s3
  go_enter Tryz.func22, Tryz.ntmps22
  go_wp2_with fail
  obtain ⟨W1, hW1⟩ : ∃ W1, W1 = w.alloc (.cells #[.int .i64 y, .int .i64 m, .int .i64 d] 23) := ⟨_, rfl⟩
  have uW1 : Dn w W1 := by rw [hW1]; exact (Dn.refl _).alloc _
  have c2 : W1.cell? ⟨w.heap.size, 0, none⟩ = some (.int .i64 y) := by rw [hW1]; simp [go_sem]
  have c3 : W1.cell? ⟨w.heap.size, 1, none⟩ = some (.int .i64 m) := by rw [hW1]; simp [go_sem]
  have c4 : W1.cell? ⟨w.heap.size, 2, none⟩ = some (.int .i64 d) := by rw [hW1]; simp [go_sem]
  have l5 : w.heap.size < W1.heap.size := by rw [hW1]; simp <;> omega
  rw [← hW1]
  clear hW1
  refine (HOf.out _).mono ?_
  rintro e w1 ⟨v, rfl, hI, q1⟩
  obtain ⟨p, n, cap, rfl, hS⟩ := hI.form
  rw [HB.out]
  have l6 := Nat.lt_of_lt_of_le l5 q1.size
  have c7 := q1.cell c2
  have c8 := q1.cell c3
  have c9 := q1.cell c4
  clear l5 c2 c3 c4
  have u1 := uW1.trans q1
  clear q1 uW1
  go_wp2_with fail
  have hN : IsN (w1.alloc (.cells #[.bool false, .slice p n cap] 80)) (.agg #[.bool false, .slice p n cap]) (y.natAbs : Int) := abs_isN hS _
  obtain ⟨W10, hW10⟩ : ∃ W10, W10 = w1.alloc (.cells #[.bool false, .slice p n cap] 80) := ⟨_, rfl⟩
  have uW10 : Dn w1 W10 := by rw [hW10]; exact (Dn.refl _).alloc _
  have l11 := Nat.lt_of_lt_of_le l6 uW10.size
  have c12 := uW10.cell c7
  have c13 := uW10.cell c8
  have c14 := uW10.cell c9
  clear l6 c7 c8 c9
  have c15 : W10.cell? ⟨w1.heap.size, 0, none⟩ = some (.bool false) := by rw [hW10]; simp [go_sem]
  have c16 : W10.cell? ⟨w1.heap.size, 1, none⟩ = some (.slice p n cap) := by rw [hW10]; simp [go_sem]
  have l17 : w1.heap.size < W10.heap.size := by rw [hW10]; simp <;> omega
  rw [← hW10] at hN ⊢
  clear hW10
  have vW10 := u1.trans uW10
  clear uW10 u1
  refine (HT.out _ _ hN).mono ?_
  rintro e w2 ⟨rfl, q2⟩
  have l18 := Nat.lt_of_lt_of_le l11 q2.size
  have c19 := q2.cell c12
  have c20 := q2.cell c13
  have c21 := q2.cell c14
  have l22 := Nat.lt_of_lt_of_le l17 q2.size
  have c23 := q2.cell c15
  have c24 := q2.cell c16
  clear l11 c12 c13 c14 l17 c15 c16
  have u2 := vW10.trans q2
  clear q2 vW10
  go_wp2_with fail
  refine wp_loop_rounds 3 ?_
  rw [rounds_succ]
  go_wp2_with fail
  rw [rounds_succ]
  go_wp2_with fail
  rw [rounds_succ]
  go_wp2_with fail
  have hS25 := kdVl_3 (W := w2) (Dn.refl _) ⟨Dn.refl _, c19, c20, c21⟩
  have k26 := Lib.hid c23
  have k27 := Lib.hid c24
  have HShS25 := Lib.hid hS25
  clear c19 c20 c21 c23 c24
  go_region_held3 (fun w' => Dn w2 w' ∧ w'.cell? ⟨w.heap.size, 0, none⟩ = some (.int .i64 y) ∧ w'.cell? ⟨w.heap.size, 1, none⟩ = some (.int .i64 m) ∧ w'.cell? ⟨w.heap.size, 2, none⟩ = some (.int .i64 d))
    (first | exact kdVl_3 ((Dn.refl _).drew) hS25 | exact kdVl_3 ‹Dn _ _› ‹_› | exact kdVl_3 (Up.dn ‹Up _ _›) ‹_› | assumption | exact kdVl_3 ((Dn.refl _).alloc _) ‹_›)
    (first
      | (go_at_call 51; (with_reducible refine (HP2.out _).mono ?_); rintro e wa ⟨rfl, qa⟩)
      | (go_at_call 51; (with_reducible refine (HP3.out _).mono ?_); rintro e wa ⟨rfl, qa⟩))
  all_goals
    clear hS25
    obtain ⟨uf31, c28, c29, c30⟩ := (‹Dn w2 _ ∧ _› : _ ∧ _)
    obtain ⟨w32, rfl⟩ : ∃ w32 : World, w32 = wa := ⟨_, rfl⟩
    have l33 := Nat.lt_of_lt_of_le l18 uf31.size
    clear l18
    have l34 := Nat.lt_of_lt_of_le l22 uf31.size
    clear l22
    have c35 := uf31.cell k26.out
    have c36 := uf31.cell k27.out
    clear k26 k27
    have vuf31 := u2.trans uf31
    clear uf31 u2 HShS25
    go_wp2_with fail
    go_ret
    exact ⟨rfl, vuf31⟩
set_option maxHeartbeats 8000000 in
set_option maxRecDepth 100000 in
theorem rtx3p (y m d : Int) (D P2 P3 : ByteArray) (s4 : D.size ≤ 1000) (s2 : P2.size ≤ 1000) (s3 : P3.size ≤ 1000) (hk : D.size = 3) (HB : Hid (decide (y < 0) = false))
    (HOf : Hid (∀ W, Calls Tryz.prog 49 #[.int .i64 y] W fun e w' => ∃ v, e = .returned v ∧ IsN w' v y ∧ Dn W w')) (HT : Hid (∀ W v, IsN W v (y.natAbs : Int) → Calls Tryz.prog 50 #[v] W fun e w' => e = .returned (.string D) ∧ Dn W w'))
    (HP2 : Hid (∀ W, Calls Tryz.prog 51 #[.int .i64 m] W fun e w' => e = .returned (.string P2) ∧ Dn W w')) (HP3 : Hid (∀ W, Calls Tryz.prog 51 #[.int .i64 d] W fun e w' => e = .returned (.string P3) ∧ Dn W w')) (w : World) :
    Calls Tryz.prog 22 #[.agg #[.int .i64 y, .int .i64 m, .int .i64 d]] w fun ro w' => ro = .returned (.string ((⟨#[48]⟩ ++ D) ++ ⟨#[45]⟩ ++ P2 ++ ⟨#[45]⟩ ++ P3)) ∧ Dn w w' := by
  have n0 : ¬ (9223372036854775807 < 4) := by omega
  have n1 : ¬ (9223372036854775807 < 4 + 1) := by omega
  have n2 : ¬ (9223372036854775807 < 4 + 1 + P2.size) := by omega
  have n3 : ¬ (9223372036854775807 < 4 + 1 + P2.size + 1) := by omega
  have n4 : ¬ (9223372036854775807 < 4 + 1 + P2.size + 1 + P3.size) := by omega
  have n5 : ¬ (9223372036854775807 < 5 + P2.size) := by omega
  have n6 : ¬ (9223372036854775807 < 5 + P2.size + 1) := by omega
  have n7 : ¬ (9223372036854775807 < 5 + P2.size + 1 + P3.size) := by omega
  clear s4 s2 s3
  go_enter Tryz.func22, Tryz.ntmps22
  go_wp2_with fail
  obtain ⟨W1, hW1⟩ : ∃ W1, W1 = w.alloc (.cells #[.int .i64 y, .int .i64 m, .int .i64 d] 23) := ⟨_, rfl⟩
  have uW1 : Dn w W1 := by rw [hW1]; exact (Dn.refl _).alloc _
  have c2 : W1.cell? ⟨w.heap.size, 0, none⟩ = some (.int .i64 y) := by rw [hW1]; simp [go_sem]
  have c3 : W1.cell? ⟨w.heap.size, 1, none⟩ = some (.int .i64 m) := by rw [hW1]; simp [go_sem]
  have c4 : W1.cell? ⟨w.heap.size, 2, none⟩ = some (.int .i64 d) := by rw [hW1]; simp [go_sem]
  have l5 : w.heap.size < W1.heap.size := by rw [hW1]; simp <;> omega
  rw [← hW1]
  clear hW1
  refine (HOf.out _).mono ?_
  rintro e w1 ⟨v, rfl, hI, q1⟩
  obtain ⟨p, n, cap, rfl, hS⟩ := hI.form
  rw [HB.out]
  have l6 := Nat.lt_of_lt_of_le l5 q1.size
  have c7 := q1.cell c2
  have c8 := q1.cell c3
  have c9 := q1.cell c4
  clear l5 c2 c3 c4
  have u1 := uW1.trans q1
  clear q1 uW1
  go_wp2_with fail
  have hN : IsN (w1.alloc (.cells #[.bool false, .slice p n cap] 80)) (.agg #[.bool false, .slice p n cap]) (y.natAbs : Int) := abs_isN hS _
  obtain ⟨W10, hW10⟩ : ∃ W10, W10 = w1.alloc (.cells #[.bool false, .slice p n cap] 80) := ⟨_, rfl⟩
  have uW10 : Dn w1 W10 := by rw [hW10]; exact (Dn.refl _).alloc _
  have l11 := Nat.lt_of_lt_of_le l6 uW10.size
  have c12 := uW10.cell c7
  have c13 := uW10.cell c8
  have c14 := uW10.cell c9
  clear l6 c7 c8 c9
  have c15 : W10.cell? ⟨w1.heap.size, 0, none⟩ = some (.bool false) := by rw [hW10]; simp [go_sem]
  have c16 : W10.cell? ⟨w1.heap.size, 1, none⟩ = some (.slice p n cap) := by rw [hW10]; simp [go_sem]
  have l17 : w1.heap.size < W10.heap.size := by rw [hW10]; simp <;> omega
  rw [← hW10] at hN ⊢
  clear hW10
  have vW10 := u1.trans uW10
  clear uW10 u1
  refine (HT.out _ _ hN).mono ?_
  rintro e w2 ⟨rfl, q2⟩
  have l18 := Nat.lt_of_lt_of_le l11 q2.size
  have c19 := q2.cell c12
  have c20 := q2.cell c13
  have c21 := q2.cell c14
  have l22 := Nat.lt_of_lt_of_le l17 q2.size
  have c23 := q2.cell c15
  have c24 := q2.cell c16
  clear l11 c12 c13 c14 l17 c15 c16
  have u2 := vW10.trans q2
  clear q2 vW10
  go_wp2_with fail
  refine wp_loop_rounds 2 ?_
  rw [rounds_succ]
  go_wp2_with fail
  rw [rounds_succ]
  go_wp2_with fail
  have hS25 := kdVl_3 (W := w2) (Dn.refl _) ⟨Dn.refl _, c19, c20, c21⟩
  have k26 := Lib.hid c23
  have k27 := Lib.hid c24
  have HShS25 := Lib.hid hS25
  clear c19 c20 c21 c23 c24
  go_region_held3 (fun w' => Dn w2 w' ∧ w'.cell? ⟨w.heap.size, 0, none⟩ = some (.int .i64 y) ∧ w'.cell? ⟨w.heap.size, 1, none⟩ = some (.int .i64 m) ∧ w'.cell? ⟨w.heap.size, 2, none⟩ = some (.int .i64 d))
    (first | exact kdVl_3 ((Dn.refl _).drew) hS25 | exact kdVl_3 ‹Dn _ _› ‹_› | exact kdVl_3 (Up.dn ‹Up _ _›) ‹_› | assumption | exact kdVl_3 ((Dn.refl _).alloc _) ‹_›)
    (first
      | (go_at_call 51; (with_reducible refine (HP2.out _).mono ?_); rintro e wa ⟨rfl, qa⟩)
      | (go_at_call 51; (with_reducible refine (HP3.out _).mono ?_); rintro e wa ⟨rfl, qa⟩))
  all_goals
    clear hS25
    obtain ⟨uf31, c28, c29, c30⟩ := (‹Dn w2 _ ∧ _› : _ ∧ _)
    obtain ⟨w32, rfl⟩ : ∃ w32 : World, w32 = wa := ⟨_, rfl⟩
    have l33 := Nat.lt_of_lt_of_le l18 uf31.size
    clear l18
    have l34 := Nat.lt_of_lt_of_le l22 uf31.size
    clear l22
    have c35 := uf31.cell k26.out
    have c36 := uf31.cell k27.out
    clear k26 k27
    have vuf31 := u2.trans uf31
    clear uf31 u2 HShS25
    go_wp2_with fail
    go_ret
    exact ⟨rfl, vuf31⟩
set_option maxHeartbeats 8000000 in
set_option maxRecDepth 100000 in
theorem rtx4p (y m d : Int) (D P2 P3 : ByteArray) (s4 : D.size ≤ 1000) (s2 : P2.size ≤ 1000) (s3 : P3.size ≤ 1000) (hk : ¬ D.size < 4) (HB : Hid (decide (y < 0) = false))
    (HOf : Hid (∀ W, Calls Tryz.prog 49 #[.int .i64 y] W fun e w' => ∃ v, e = .returned v ∧ IsN w' v y ∧ Dn W w')) (HT : Hid (∀ W v, IsN W v (y.natAbs : Int) → Calls Tryz.prog 50 #[v] W fun e w' => e = .returned (.string D) ∧ Dn W w'))
    (HP2 : Hid (∀ W, Calls Tryz.prog 51 #[.int .i64 m] W fun e w' => e = .returned (.string P2) ∧ Dn W w')) (HP3 : Hid (∀ W, Calls Tryz.prog 51 #[.int .i64 d] W fun e w' => e = .returned (.string P3) ∧ Dn W w')) (w : World) :
    Calls Tryz.prog 22 #[.agg #[.int .i64 y, .int .i64 m, .int .i64 d]] w fun ro w' => ro = .returned (.string (D ++ ⟨#[45]⟩ ++ P2 ++ ⟨#[45]⟩ ++ P3)) ∧ Dn w w' := by
  have n0 : ¬ (9223372036854775807 < D.size) := by omega
  have n1 : ¬ (9223372036854775807 < D.size + 1) := by omega
  have n2 : ¬ (9223372036854775807 < D.size + 1 + P2.size) := by omega
  have n3 : ¬ (9223372036854775807 < D.size + 1 + P2.size + 1) := by omega
  have n4 : ¬ (9223372036854775807 < D.size + 1 + P2.size + 1 + P3.size) := by omega
  have n5 : ¬ (9223372036854775807 < 0 + D.size) := by omega
  have n6 : ¬ (9223372036854775807 < 0 + D.size + 1) := by omega
  have n7 : ¬ (9223372036854775807 < 0 + D.size + 1 + P2.size) := by omega
  have n8 : ¬ (9223372036854775807 < 0 + D.size + 1 + P2.size + 1) := by omega
  have n9 : ¬ (9223372036854775807 < 0 + D.size + 1 + P2.size + 1 + P3.size) := by omega
  have k1 : decide ((D.size : Int) < 4) = false := by simp; omega
  clear s4 s2 s3
  go_enter Tryz.func22, Tryz.ntmps22
  go_wp2_with fail
  obtain ⟨W1, hW1⟩ : ∃ W1, W1 = w.alloc (.cells #[.int .i64 y, .int .i64 m, .int .i64 d] 23) := ⟨_, rfl⟩
  have uW1 : Dn w W1 := by rw [hW1]; exact (Dn.refl _).alloc _
  have c2 : W1.cell? ⟨w.heap.size, 0, none⟩ = some (.int .i64 y) := by rw [hW1]; simp [go_sem]
  have c3 : W1.cell? ⟨w.heap.size, 1, none⟩ = some (.int .i64 m) := by rw [hW1]; simp [go_sem]
  have c4 : W1.cell? ⟨w.heap.size, 2, none⟩ = some (.int .i64 d) := by rw [hW1]; simp [go_sem]
  have l5 : w.heap.size < W1.heap.size := by rw [hW1]; simp <;> omega
  rw [← hW1]
  clear hW1
  refine (HOf.out _).mono ?_
  rintro e w1 ⟨v, rfl, hI, q1⟩
  obtain ⟨p, n, cap, rfl, hS⟩ := hI.form
  rw [HB.out]
  have l6 := Nat.lt_of_lt_of_le l5 q1.size
  have c7 := q1.cell c2
  have c8 := q1.cell c3
  have c9 := q1.cell c4
  clear l5 c2 c3 c4
  have u1 := uW1.trans q1
  clear q1 uW1
  go_wp2_with fail
  have hN : IsN (w1.alloc (.cells #[.bool false, .slice p n cap] 80)) (.agg #[.bool false, .slice p n cap]) (y.natAbs : Int) := abs_isN hS _
  obtain ⟨W10, hW10⟩ : ∃ W10, W10 = w1.alloc (.cells #[.bool false, .slice p n cap] 80) := ⟨_, rfl⟩
  have uW10 : Dn w1 W10 := by rw [hW10]; exact (Dn.refl _).alloc _
  have l11 := Nat.lt_of_lt_of_le l6 uW10.size
  have c12 := uW10.cell c7
  have c13 := uW10.cell c8
  have c14 := uW10.cell c9
  clear l6 c7 c8 c9
  have c15 : W10.cell? ⟨w1.heap.size, 0, none⟩ = some (.bool false) := by rw [hW10]; simp [go_sem]
  have c16 : W10.cell? ⟨w1.heap.size, 1, none⟩ = some (.slice p n cap) := by rw [hW10]; simp [go_sem]
  have l17 : w1.heap.size < W10.heap.size := by rw [hW10]; simp <;> omega
  rw [← hW10] at hN ⊢
  clear hW10
  have vW10 := u1.trans uW10
  clear uW10 u1
  refine (HT.out _ _ hN).mono ?_
  rintro e w2 ⟨rfl, q2⟩
  have l18 := Nat.lt_of_lt_of_le l11 q2.size
  have c19 := q2.cell c12
  have c20 := q2.cell c13
  have c21 := q2.cell c14
  have l22 := Nat.lt_of_lt_of_le l17 q2.size
  have c23 := q2.cell c15
  have c24 := q2.cell c16
  clear l11 c12 c13 c14 l17 c15 c16
  have u2 := vW10.trans q2
  clear q2 vW10
  go_wp2_with fail
  refine wp_loop_rounds 1 ?_
  rw [rounds_succ]
  go_wp2_with fail
  have hS25 := kdVl_3 (W := w2) (Dn.refl _) ⟨Dn.refl _, c19, c20, c21⟩
  have k26 := Lib.hid c23
  have k27 := Lib.hid c24
  have HShS25 := Lib.hid hS25
  clear c19 c20 c21 c23 c24
  go_region_held3 (fun w' => Dn w2 w' ∧ w'.cell? ⟨w.heap.size, 0, none⟩ = some (.int .i64 y) ∧ w'.cell? ⟨w.heap.size, 1, none⟩ = some (.int .i64 m) ∧ w'.cell? ⟨w.heap.size, 2, none⟩ = some (.int .i64 d))
    (first | exact kdVl_3 ((Dn.refl _).drew) hS25 | exact kdVl_3 ‹Dn _ _› ‹_› | exact kdVl_3 (Up.dn ‹Up _ _›) ‹_› | assumption | exact kdVl_3 ((Dn.refl _).alloc _) ‹_›)
    (first
      | (go_at_call 51; (with_reducible refine (HP2.out _).mono ?_); rintro e wa ⟨rfl, qa⟩)
      | (go_at_call 51; (with_reducible refine (HP3.out _).mono ?_); rintro e wa ⟨rfl, qa⟩))
  all_goals
    clear hS25
    obtain ⟨uf31, c28, c29, c30⟩ := (‹Dn w2 _ ∧ _› : _ ∧ _)
    obtain ⟨w32, rfl⟩ : ∃ w32 : World, w32 = wa := ⟨_, rfl⟩
    have l33 := Nat.lt_of_lt_of_le l18 uf31.size
    clear l18
    have l34 := Nat.lt_of_lt_of_le l22 uf31.size
    clear l22
    have c35 := uf31.cell k26.out
    have c36 := uf31.cell k27.out
    clear k26 k27
    have vuf31 := u2.trans uf31
    clear uf31 u2 HShS25
    go_wp2_with fail
    go_ret
    exact ⟨rfl, vuf31⟩
set_option maxHeartbeats 8000000 in
set_option maxRecDepth 100000 in
theorem rtx1n (y m d : Int) (D P2 P3 : ByteArray) (s4 : D.size ≤ 1000) (s2 : P2.size ≤ 1000) (s3 : P3.size ≤ 1000) (hk : D.size = 1) (HB : Hid (decide (y < 0) = true))
    (HOf : Hid (∀ W, Calls Tryz.prog 49 #[.int .i64 y] W fun e w' => ∃ v, e = .returned v ∧ IsN w' v y ∧ Dn W w')) (HT : Hid (∀ W v, IsN W v (y.natAbs : Int) → Calls Tryz.prog 50 #[v] W fun e w' => e = .returned (.string D) ∧ Dn W w'))
    (HP2 : Hid (∀ W, Calls Tryz.prog 51 #[.int .i64 m] W fun e w' => e = .returned (.string P2) ∧ Dn W w')) (HP3 : Hid (∀ W, Calls Tryz.prog 51 #[.int .i64 d] W fun e w' => e = .returned (.string P3) ∧ Dn W w')) (w : World) :
    Calls Tryz.prog 22 #[.agg #[.int .i64 y, .int .i64 m, .int .i64 d]] w fun ro w' => ro = .returned (.string ((⟨#[45]⟩ ++ (⟨#[48]⟩ ++ (⟨#[48]⟩ ++ (⟨#[48]⟩ ++ D)))) ++ ⟨#[45]⟩ ++ P2 ++ ⟨#[45]⟩ ++ P3)) ∧ Dn w w' := by
  have n0 : ¬ (9223372036854775807 < 5) := by omega
  have n1 : ¬ (9223372036854775807 < 5 + 1) := by omega
  have n2 : ¬ (9223372036854775807 < 5 + 1 + P2.size) := by omega
  have n3 : ¬ (9223372036854775807 < 5 + 1 + P2.size + 1) := by omega
  have n4 : ¬ (9223372036854775807 < 5 + 1 + P2.size + 1 + P3.size) := by omega
  have n5 : ¬ (9223372036854775807 < 6 + P2.size) := by omega
  have n6 : ¬ (9223372036854775807 < 6 + P2.size + 1) := by omega
  have n7 : ¬ (9223372036854775807 < 6 + P2.size + 1 + P3.size) := by omega
  have n8 : ¬ (9223372036854775807 < 1 + 4) := by omega
  clear s4 s2 s3
  go_enter Tryz.func22, Tryz.ntmps22
  go_wp2_with fail
  obtain ⟨W1, hW1⟩ : ∃ W1, W1 = w.alloc (.cells #[.int .i64 y, .int .i64 m, .int .i64 d] 23) := ⟨_, rfl⟩
  have uW1 : Dn w W1 := by rw [hW1]; exact (Dn.refl _).alloc _
  have c2 : W1.cell? ⟨w.heap.size, 0, none⟩ = some (.int .i64 y) := by rw [hW1]; simp [go_sem]
  have c3 : W1.cell? ⟨w.heap.size, 1, none⟩ = some (.int .i64 m) := by rw [hW1]; simp [go_sem]
  have c4 : W1.cell? ⟨w.heap.size, 2, none⟩ = some (.int .i64 d) := by rw [hW1]; simp [go_sem]
  have l5 : w.heap.size < W1.heap.size := by rw [hW1]; simp <;> omega
  rw [← hW1]
  clear hW1
  refine (HOf.out _).mono ?_
  rintro e w1 ⟨v, rfl, hI, q1⟩
  obtain ⟨p, n, cap, rfl, hS⟩ := hI.form
  rw [HB.out]
  have l6 := Nat.lt_of_lt_of_le l5 q1.size
  have c7 := q1.cell c2
  have c8 := q1.cell c3
  have c9 := q1.cell c4
  clear l5 c2 c3 c4
  have u1 := uW1.trans q1
  clear q1 uW1
  go_wp2_with fail
  have hN : IsN (w1.alloc (.cells #[.bool true, .slice p n cap] 80)) (.agg #[.bool false, .slice p n cap]) (y.natAbs : Int) := abs_isN hS _
  obtain ⟨W10, hW10⟩ : ∃ W10, W10 = w1.alloc (.cells #[.bool true, .slice p n cap] 80) := ⟨_, rfl⟩
  have uW10 : Dn w1 W10 := by rw [hW10]; exact (Dn.refl _).alloc _
  have l11 := Nat.lt_of_lt_of_le l6 uW10.size
  have c12 := uW10.cell c7
  have c13 := uW10.cell c8
  have c14 := uW10.cell c9
  clear l6 c7 c8 c9
  have c15 : W10.cell? ⟨w1.heap.size, 0, none⟩ = some (.bool true) := by rw [hW10]; simp [go_sem]
  have c16 : W10.cell? ⟨w1.heap.size, 1, none⟩ = some (.slice p n cap) := by rw [hW10]; simp [go_sem]
  have l17 : w1.heap.size < W10.heap.size := by rw [hW10]; simp <;> omega
  rw [← hW10] at hN ⊢
  clear hW10
  have vW10 := u1.trans uW10
  clear uW10 u1
  refine (HT.out _ _ hN).mono ?_
  rintro e w2 ⟨rfl, q2⟩
  have l18 := Nat.lt_of_lt_of_le l11 q2.size
  have c19 := q2.cell c12
  have c20 := q2.cell c13
  have c21 := q2.cell c14
  have l22 := Nat.lt_of_lt_of_le l17 q2.size
  have c23 := q2.cell c15
  have c24 := q2.cell c16
  clear l11 c12 c13 c14 l17 c15 c16
  have u2 := vW10.trans q2
  clear q2 vW10
  go_wp2_with fail
  refine wp_loop_rounds 4 ?_
  rw [rounds_succ]
  go_wp2_with fail
  rw [rounds_succ]
  go_wp2_with fail
  rw [rounds_succ]
  go_wp2_with fail
  rw [rounds_succ]
  go_wp2_with fail
  have hS25 := kdVl_3 (W := w2) (Dn.refl _) ⟨Dn.refl _, c19, c20, c21⟩
  have k26 := Lib.hid c23
  have k27 := Lib.hid c24
  have HShS25 := Lib.hid hS25
  clear c19 c20 c21 c23 c24
  go_region_held3 (fun w' => Dn w2 w' ∧ w'.cell? ⟨w.heap.size, 0, none⟩ = some (.int .i64 y) ∧ w'.cell? ⟨w.heap.size, 1, none⟩ = some (.int .i64 m) ∧ w'.cell? ⟨w.heap.size, 2, none⟩ = some (.int .i64 d))
    (first | exact kdVl_3 ((Dn.refl _).drew) hS25 | exact kdVl_3 ‹Dn _ _› ‹_› | exact kdVl_3 (Up.dn ‹Up _ _›) ‹_› | assumption | exact kdVl_3 ((Dn.refl _).alloc _) ‹_›)
    (first
      | (go_at_call 51; (with_reducible refine (HP2.out _).mono ?_); rintro e wa ⟨rfl, qa⟩)
      | (go_at_call 51; (with_reducible refine (HP3.out _).mono ?_); rintro e wa ⟨rfl, qa⟩))
  all_goals
    clear hS25
    obtain ⟨uf31, c28, c29, c30⟩ := (‹Dn w2 _ ∧ _› : _ ∧ _)
    obtain ⟨w32, rfl⟩ : ∃ w32 : World, w32 = wa := ⟨_, rfl⟩
    have l33 := Nat.lt_of_lt_of_le l18 uf31.size
    clear l18
    have l34 := Nat.lt_of_lt_of_le l22 uf31.size
    clear l22
    have c35 := uf31.cell k26.out
    have c36 := uf31.cell k27.out
    clear k26 k27
    have vuf31 := u2.trans uf31
    clear uf31 u2 HShS25
    go_wp2_with fail
    go_ret
    exact ⟨rfl, vuf31⟩
set_option maxHeartbeats 8000000 in
set_option maxRecDepth 100000 in
theorem rtx2n (y m d : Int) (D P2 P3 : ByteArray) (s4 : D.size ≤ 1000) (s2 : P2.size ≤ 1000) (s3 : P3.size ≤ 1000) (hk : D.size = 2) (HB : Hid (decide (y < 0) = true))
    (HOf : Hid (∀ W, Calls Tryz.prog 49 #[.int .i64 y] W fun e w' => ∃ v, e = .returned v ∧ IsN w' v y ∧ Dn W w')) (HT : Hid (∀ W v, IsN W v (y.natAbs : Int) → Calls Tryz.prog 50 #[v] W fun e w' => e = .returned (.string D) ∧ Dn W w'))
    (HP2 : Hid (∀ W, Calls Tryz.prog 51 #[.int .i64 m] W fun e w' => e = .returned (.string P2) ∧ Dn W w')) (HP3 : Hid (∀ W, Calls Tryz.prog 51 #[.int .i64 d] W fun e w' => e = .returned (.string P3) ∧ Dn W w')) (w : World) :
    Calls Tryz.prog 22 #[.agg #[.int .i64 y, .int .i64 m, .int .i64 d]] w fun ro w' => ro = .returned (.string ((⟨#[45]⟩ ++ (⟨#[48]⟩ ++ (⟨#[48]⟩ ++ D))) ++ ⟨#[45]⟩ ++ P2 ++ ⟨#[45]⟩ ++ P3)) ∧ Dn w w' := by
  have n0 : ¬ (9223372036854775807 < 5) := by omega
  have n1 : ¬ (9223372036854775807 < 5 + 1) := by omega
  have n2 : ¬ (9223372036854775807 < 5 + 1 + P2.size) := by omega
  have n3 : ¬ (9223372036854775807 < 5 + 1 + P2.size + 1) := by omega
  have n4 : ¬ (9223372036854775807 < 5 + 1 + P2.size + 1 + P3.size) := by omega
  have n5 : ¬ (9223372036854775807 < 6 + P2.size) := by omega
  have n6 : ¬ (9223372036854775807 < 6 + P2.size + 1) := by omega
  have n7 : ¬ (9223372036854775807 < 6 + P2.size + 1 + P3.size) := by omega
  have n8 : ¬ (9223372036854775807 < 1 + 4) := by omega
  clear s4 s2 s3
  go_enter Tryz.func22, Tryz.ntmps22
  go_wp2_with fail
  obtain ⟨W1, hW1⟩ : ∃ W1, W1 = w.alloc (.cells #[.int .i64 y, .int .i64 m, .int .i64 d] 23) := ⟨_, rfl⟩
  have uW1 : Dn w W1 := by rw [hW1]; exact (Dn.refl _).alloc _
  have c2 : W1.cell? ⟨w.heap.size, 0, none⟩ = some (.int .i64 y) := by rw [hW1]; simp [go_sem]
  have c3 : W1.cell? ⟨w.heap.size, 1, none⟩ = some (.int .i64 m) := by rw [hW1]; simp [go_sem]
  have c4 : W1.cell? ⟨w.heap.size, 2, none⟩ = some (.int .i64 d) := by rw [hW1]; simp [go_sem]
  have l5 : w.heap.size < W1.heap.size := by rw [hW1]; simp <;> omega
  rw [← hW1]
  clear hW1
  refine (HOf.out _).mono ?_
  rintro e w1 ⟨v, rfl, hI, q1⟩
  obtain ⟨p, n, cap, rfl, hS⟩ := hI.form
  rw [HB.out]
  have l6 := Nat.lt_of_lt_of_le l5 q1.size
  have c7 := q1.cell c2
  have c8 := q1.cell c3
  have c9 := q1.cell c4
  clear l5 c2 c3 c4
  have u1 := uW1.trans q1
  clear q1 uW1
  go_wp2_with fail
  have hN : IsN (w1.alloc (.cells #[.bool true, .slice p n cap] 80)) (.agg #[.bool false, .slice p n cap]) (y.natAbs : Int) := abs_isN hS _
  obtain ⟨W10, hW10⟩ : ∃ W10, W10 = w1.alloc (.cells #[.bool true, .slice p n cap] 80) := ⟨_, rfl⟩
  have uW10 : Dn w1 W10 := by rw [hW10]; exact (Dn.refl _).alloc _
  have l11 := Nat.lt_of_lt_of_le l6 uW10.size
  have c12 := uW10.cell c7
  have c13 := uW10.cell c8
  have c14 := uW10.cell c9
  clear l6 c7 c8 c9
  have c15 : W10.cell? ⟨w1.heap.size, 0, none⟩ = some (.bool true) := by rw [hW10]; simp [go_sem]
  have c16 : W10.cell? ⟨w1.heap.size, 1, none⟩ = some (.slice p n cap) := by rw [hW10]; simp [go_sem]
  have l17 : w1.heap.size < W10.heap.size := by rw [hW10]; simp <;> omega
  rw [← hW10] at hN ⊢
  clear hW10
  have vW10 := u1.trans uW10
  clear uW10 u1
  refine (HT.out _ _ hN).mono ?_
  rintro e w2 ⟨rfl, q2⟩
  have l18 := Nat.lt_of_lt_of_le l11 q2.size
  have c19 := q2.cell c12
  have c20 := q2.cell c13
  have c21 := q2.cell c14
  have l22 := Nat.lt_of_lt_of_le l17 q2.size
  have c23 := q2.cell c15
  have c24 := q2.cell c16
  clear l11 c12 c13 c14 l17 c15 c16
  have u2 := vW10.trans q2
  clear q2 vW10
  go_wp2_with fail
  refine wp_loop_rounds 3 ?_
  rw [rounds_succ]
  go_wp2_with fail
  rw [rounds_succ]
  go_wp2_with fail
  rw [rounds_succ]
  go_wp2_with fail
  have hS25 := kdVl_3 (W := w2) (Dn.refl _) ⟨Dn.refl _, c19, c20, c21⟩
  have k26 := Lib.hid c23
  have k27 := Lib.hid c24
  have HShS25 := Lib.hid hS25
  clear c19 c20 c21 c23 c24
  go_region_held3 (fun w' => Dn w2 w' ∧ w'.cell? ⟨w.heap.size, 0, none⟩ = some (.int .i64 y) ∧ w'.cell? ⟨w.heap.size, 1, none⟩ = some (.int .i64 m) ∧ w'.cell? ⟨w.heap.size, 2, none⟩ = some (.int .i64 d))
    (first | exact kdVl_3 ((Dn.refl _).drew) hS25 | exact kdVl_3 ‹Dn _ _› ‹_› | exact kdVl_3 (Up.dn ‹Up _ _›) ‹_› | assumption | exact kdVl_3 ((Dn.refl _).alloc _) ‹_›)
    (first
      | (go_at_call 51; (with_reducible refine (HP2.out _).mono ?_); rintro e wa ⟨rfl, qa⟩)
      | (go_at_call 51; (with_reducible refine (HP3.out _).mono ?_); rintro e wa ⟨rfl, qa⟩))
  all_goals
    clear hS25
    obtain ⟨uf31, c28, c29, c30⟩ := (‹Dn w2 _ ∧ _› : _ ∧ _)
    obtain ⟨w32, rfl⟩ : ∃ w32 : World, w32 = wa := ⟨_, rfl⟩
    have l33 := Nat.lt_of_lt_of_le l18 uf31.size
    clear l18
    have l34 := Nat.lt_of_lt_of_le l22 uf31.size
    clear l22
    have c35 := uf31.cell k26.out
    have c36 := uf31.cell k27.out
    clear k26 k27
    have vuf31 := u2.trans uf31
    clear uf31 u2 HShS25
    go_wp2_with fail
    go_ret
    exact ⟨rfl, vuf31⟩
set_option maxHeartbeats 8000000 in
set_option maxRecDepth 100000 in
theorem rtx3n (y m d : Int) (D P2 P3 : ByteArray) (s4 : D.size ≤ 1000) (s2 : P2.size ≤ 1000) (s3 : P3.size ≤ 1000) (hk : D.size = 3) (HB : Hid (decide (y < 0) = true))
    (HOf : Hid (∀ W, Calls Tryz.prog 49 #[.int .i64 y] W fun e w' => ∃ v, e = .returned v ∧ IsN w' v y ∧ Dn W w')) (HT : Hid (∀ W v, IsN W v (y.natAbs : Int) → Calls Tryz.prog 50 #[v] W fun e w' => e = .returned (.string D) ∧ Dn W w'))
    (HP2 : Hid (∀ W, Calls Tryz.prog 51 #[.int .i64 m] W fun e w' => e = .returned (.string P2) ∧ Dn W w')) (HP3 : Hid (∀ W, Calls Tryz.prog 51 #[.int .i64 d] W fun e w' => e = .returned (.string P3) ∧ Dn W w')) (w : World) :
    Calls Tryz.prog 22 #[.agg #[.int .i64 y, .int .i64 m, .int .i64 d]] w fun ro w' => ro = .returned (.string ((⟨#[45]⟩ ++ (⟨#[48]⟩ ++ D)) ++ ⟨#[45]⟩ ++ P2 ++ ⟨#[45]⟩ ++ P3)) ∧ Dn w w' := by
  have n0 : ¬ (9223372036854775807 < 5) := by omega
  have n1 : ¬ (9223372036854775807 < 5 + 1) := by omega
  have n2 : ¬ (9223372036854775807 < 5 + 1 + P2.size) := by omega
  have n3 : ¬ (9223372036854775807 < 5 + 1 + P2.size + 1) := by omega
  have n4 : ¬ (9223372036854775807 < 5 + 1 + P2.size + 1 + P3.size) := by omega
  have n5 : ¬ (9223372036854775807 < 6 + P2.size) := by omega
  have n6 : ¬ (9223372036854775807 < 6 + P2.size + 1) := by omega
  have n7 : ¬ (9223372036854775807 < 6 + P2.size + 1 + P3.size) := by omega
  have n8 : ¬ (9223372036854775807 < 1 + 4) := by omega
  clear s4 s2 s3
  go_enter Tryz.func22, Tryz.ntmps22
  go_wp2_with fail
  obtain ⟨W1, hW1⟩ : ∃ W1, W1 = w.alloc (.cells #[.int .i64 y, .int .i64 m, .int .i64 d] 23) := ⟨_, rfl⟩
  have uW1 : Dn w W1 := by rw [hW1]; exact (Dn.refl _).alloc _
  have c2 : W1.cell? ⟨w.heap.size, 0, none⟩ = some (.int .i64 y) := by rw [hW1]; simp [go_sem]
  have c3 : W1.cell? ⟨w.heap.size, 1, none⟩ = some (.int .i64 m) := by rw [hW1]; simp [go_sem]
  have c4 : W1.cell? ⟨w.heap.size, 2, none⟩ = some (.int .i64 d) := by rw [hW1]; simp [go_sem]
  have l5 : w.heap.size < W1.heap.size := by rw [hW1]; simp <;> omega
  rw [← hW1]
  clear hW1
  refine (HOf.out _).mono ?_
  rintro e w1 ⟨v, rfl, hI, q1⟩
  obtain ⟨p, n, cap, rfl, hS⟩ := hI.form
  rw [HB.out]
  have l6 := Nat.lt_of_lt_of_le l5 q1.size
  have c7 := q1.cell c2
  have c8 := q1.cell c3
  have c9 := q1.cell c4
  clear l5 c2 c3 c4
  have u1 := uW1.trans q1
  clear q1 uW1
  go_wp2_with fail
  have hN : IsN (w1.alloc (.cells #[.bool true, .slice p n cap] 80)) (.agg #[.bool false, .slice p n cap]) (y.natAbs : Int) := abs_isN hS _
  obtain ⟨W10, hW10⟩ : ∃ W10, W10 = w1.alloc (.cells #[.bool true, .slice p n cap] 80) := ⟨_, rfl⟩
  have uW10 : Dn w1 W10 := by rw [hW10]; exact (Dn.refl _).alloc _
  have l11 := Nat.lt_of_lt_of_le l6 uW10.size
  have c12 := uW10.cell c7
  have c13 := uW10.cell c8
  have c14 := uW10.cell c9
  clear l6 c7 c8 c9
  have c15 : W10.cell? ⟨w1.heap.size, 0, none⟩ = some (.bool true) := by rw [hW10]; simp [go_sem]
  have c16 : W10.cell? ⟨w1.heap.size, 1, none⟩ = some (.slice p n cap) := by rw [hW10]; simp [go_sem]
  have l17 : w1.heap.size < W10.heap.size := by rw [hW10]; simp <;> omega
  rw [← hW10] at hN ⊢
  clear hW10
  have vW10 := u1.trans uW10
  clear uW10 u1
  refine (HT.out _ _ hN).mono ?_
  rintro e w2 ⟨rfl, q2⟩
  have l18 := Nat.lt_of_lt_of_le l11 q2.size
  have c19 := q2.cell c12
  have c20 := q2.cell c13
  have c21 := q2.cell c14
  have l22 := Nat.lt_of_lt_of_le l17 q2.size
  have c23 := q2.cell c15
  have c24 := q2.cell c16
  clear l11 c12 c13 c14 l17 c15 c16
  have u2 := vW10.trans q2
  clear q2 vW10
  go_wp2_with fail
  refine wp_loop_rounds 2 ?_
  rw [rounds_succ]
  go_wp2_with fail
  rw [rounds_succ]
  go_wp2_with fail
  have hS25 := kdVl_3 (W := w2) (Dn.refl _) ⟨Dn.refl _, c19, c20, c21⟩
  have k26 := Lib.hid c23
  have k27 := Lib.hid c24
  have HShS25 := Lib.hid hS25
  clear c19 c20 c21 c23 c24
  go_region_held3 (fun w' => Dn w2 w' ∧ w'.cell? ⟨w.heap.size, 0, none⟩ = some (.int .i64 y) ∧ w'.cell? ⟨w.heap.size, 1, none⟩ = some (.int .i64 m) ∧ w'.cell? ⟨w.heap.size, 2, none⟩ = some (.int .i64 d))
    (first | exact kdVl_3 ((Dn.refl _).drew) hS25 | exact kdVl_3 ‹Dn _ _› ‹_› | exact kdVl_3 (Up.dn ‹Up _ _›) ‹_› | assumption | exact kdVl_3 ((Dn.refl _).alloc _) ‹_›)
    (first
      | (go_at_call 51; (with_reducible refine (HP2.out _).mono ?_); rintro e wa ⟨rfl, qa⟩)
      | (go_at_call 51; (with_reducible refine (HP3.out _).mono ?_); rintro e wa ⟨rfl, qa⟩))
  all_goals
    clear hS25
    obtain ⟨uf31, c28, c29, c30⟩ := (‹Dn w2 _ ∧ _› : _ ∧ _)
    obtain ⟨w32, rfl⟩ : ∃ w32 : World, w32 = wa := ⟨_, rfl⟩
    have l33 := Nat.lt_of_lt_of_le l18 uf31.size
    clear l18
    have l34 := Nat.lt_of_lt_of_le l22 uf31.size
    clear l22
    have c35 := uf31.cell k26.out
    have c36 := uf31.cell k27.out
    clear k26 k27
    have vuf31 := u2.trans uf31
    clear uf31 u2 HShS25
    go_wp2_with fail
    go_ret
    exact ⟨rfl, vuf31⟩
set_option maxHeartbeats 8000000 in
set_option maxRecDepth 100000 in
theorem rtx4n (y m d : Int) (D P2 P3 : ByteArray) (s4 : D.size ≤ 1000) (s2 : P2.size ≤ 1000) (s3 : P3.size ≤ 1000) (hk : ¬ D.size < 4) (HB : Hid (decide (y < 0) = true))
    (HOf : Hid (∀ W, Calls Tryz.prog 49 #[.int .i64 y] W fun e w' => ∃ v, e = .returned v ∧ IsN w' v y ∧ Dn W w')) (HT : Hid (∀ W v, IsN W v (y.natAbs : Int) → Calls Tryz.prog 50 #[v] W fun e w' => e = .returned (.string D) ∧ Dn W w'))
    (HP2 : Hid (∀ W, Calls Tryz.prog 51 #[.int .i64 m] W fun e w' => e = .returned (.string P2) ∧ Dn W w')) (HP3 : Hid (∀ W, Calls Tryz.prog 51 #[.int .i64 d] W fun e w' => e = .returned (.string P3) ∧ Dn W w')) (w : World) :
    Calls Tryz.prog 22 #[.agg #[.int .i64 y, .int .i64 m, .int .i64 d]] w fun ro w' => ro = .returned (.string ((⟨#[45]⟩ ++ D) ++ ⟨#[45]⟩ ++ P2 ++ ⟨#[45]⟩ ++ P3)) ∧ Dn w w' := by
  have n0 : ¬ (9223372036854775807 < 1 + D.size) := by omega
  have n1 : ¬ (9223372036854775807 < 1 + D.size + 1) := by omega
  have n2 : ¬ (9223372036854775807 < 1 + D.size + 1 + P2.size) := by omega
  have n3 : ¬ (9223372036854775807 < 1 + D.size + 1 + P2.size + 1) := by omega
  have n4 : ¬ (9223372036854775807 < 1 + D.size + 1 + P2.size + 1 + P3.size) := by omega
  have n5 : ¬ (9223372036854775807 < D.size + 1) := by omega
  have n6 : ¬ (9223372036854775807 < D.size + 1 + 1) := by omega
  have n7 : ¬ (9223372036854775807 < D.size + 1 + 1 + P2.size) := by omega
  have n8 : ¬ (9223372036854775807 < D.size + 1 + 1 + P2.size + 1) := by omega
  have n9 : ¬ (9223372036854775807 < D.size + 1 + 1 + P2.size + 1 + P3.size) := by omega
  have k1 : decide ((D.size : Int) < 4) = false := by simp; omega
  clear s4 s2 s3
  go_enter Tryz.func22, Tryz.ntmps22
  go_wp2_with fail
  obtain ⟨W1, hW1⟩ : ∃ W1, W1 = w.alloc (.cells #[.int .i64 y, .int .i64 m, .int .i64 d] 23) := ⟨_, rfl⟩
  have uW1 : Dn w W1 := by rw [hW1]; exact (Dn.refl _).alloc _
  have c2 : W1.cell? ⟨w.heap.size, 0, none⟩ = some (.int .i64 y) := by rw [hW1]; simp [go_sem]
  have c3 : W1.cell? ⟨w.heap.size, 1, none⟩ = some (.int .i64 m) := by rw [hW1]; simp [go_sem]
  have c4 : W1.cell? ⟨w.heap.size, 2, none⟩ = some (.int .i64 d) := by rw [hW1]; simp [go_sem]
  have l5 : w.heap.size < W1.heap.size := by rw [hW1]; simp <;> omega
  rw [← hW1]
  clear hW1
  refine (HOf.out _).mono ?_
  rintro e w1 ⟨v, rfl, hI, q1⟩
  obtain ⟨p, n, cap, rfl, hS⟩ := hI.form
  rw [HB.out]
  have l6 := Nat.lt_of_lt_of_le l5 q1.size
  have c7 := q1.cell c2
  have c8 := q1.cell c3
  have c9 := q1.cell c4
  clear l5 c2 c3 c4
  have u1 := uW1.trans q1
  clear q1 uW1
  go_wp2_with fail
  have hN : IsN (w1.alloc (.cells #[.bool true, .slice p n cap] 80)) (.agg #[.bool false, .slice p n cap]) (y.natAbs : Int) := abs_isN hS _
  obtain ⟨W10, hW10⟩ : ∃ W10, W10 = w1.alloc (.cells #[.bool true, .slice p n cap] 80) := ⟨_, rfl⟩
  have uW10 : Dn w1 W10 := by rw [hW10]; exact (Dn.refl _).alloc _
  have l11 := Nat.lt_of_lt_of_le l6 uW10.size
  have c12 := uW10.cell c7
  have c13 := uW10.cell c8
  have c14 := uW10.cell c9
  clear l6 c7 c8 c9
  have c15 : W10.cell? ⟨w1.heap.size, 0, none⟩ = some (.bool true) := by rw [hW10]; simp [go_sem]
  have c16 : W10.cell? ⟨w1.heap.size, 1, none⟩ = some (.slice p n cap) := by rw [hW10]; simp [go_sem]
  have l17 : w1.heap.size < W10.heap.size := by rw [hW10]; simp <;> omega
  rw [← hW10] at hN ⊢
  clear hW10
  have vW10 := u1.trans uW10
  clear uW10 u1
  refine (HT.out _ _ hN).mono ?_
  rintro e w2 ⟨rfl, q2⟩
  have l18 := Nat.lt_of_lt_of_le l11 q2.size
  have c19 := q2.cell c12
  have c20 := q2.cell c13
  have c21 := q2.cell c14
  have l22 := Nat.lt_of_lt_of_le l17 q2.size
  have c23 := q2.cell c15
  have c24 := q2.cell c16
  clear l11 c12 c13 c14 l17 c15 c16
  have u2 := vW10.trans q2
  clear q2 vW10
  go_wp2_with fail
  refine wp_loop_rounds 1 ?_
  rw [rounds_succ]
  go_wp2_with fail
  have hS25 := kdVl_3 (W := w2) (Dn.refl _) ⟨Dn.refl _, c19, c20, c21⟩
  have k26 := Lib.hid c23
  have k27 := Lib.hid c24
  have HShS25 := Lib.hid hS25
  clear c19 c20 c21 c23 c24
  go_region_held3 (fun w' => Dn w2 w' ∧ w'.cell? ⟨w.heap.size, 0, none⟩ = some (.int .i64 y) ∧ w'.cell? ⟨w.heap.size, 1, none⟩ = some (.int .i64 m) ∧ w'.cell? ⟨w.heap.size, 2, none⟩ = some (.int .i64 d))
    (first | exact kdVl_3 ((Dn.refl _).drew) hS25 | exact kdVl_3 ‹Dn _ _› ‹_› | exact kdVl_3 (Up.dn ‹Up _ _›) ‹_› | assumption | exact kdVl_3 ((Dn.refl _).alloc _) ‹_›)
    (first
      | (go_at_call 51; (with_reducible refine (HP2.out _).mono ?_); rintro e wa ⟨rfl, qa⟩)
      | (go_at_call 51; (with_reducible refine (HP3.out _).mono ?_); rintro e wa ⟨rfl, qa⟩))
  all_goals
    clear hS25
    obtain ⟨uf31, c28, c29, c30⟩ := (‹Dn w2 _ ∧ _› : _ ∧ _)
    obtain ⟨w32, rfl⟩ : ∃ w32 : World, w32 = wa := ⟨_, rfl⟩
    have l33 := Nat.lt_of_lt_of_le l18 uf31.size
    clear l18
    have l34 := Nat.lt_of_lt_of_le l22 uf31.size
    clear l22
    have c35 := uf31.cell k26.out
    have c36 := uf31.cell k27.out
    clear k26 k27
    have vuf31 := u2.trans uf31
    clear uf31 u2 HShS25
    go_wp2_with fail
    go_ret
    exact ⟨rfl, vuf31⟩
theorem rc6Tx (y m d : Int) (w : World) (he : cErr y m d = 0) : Calls Tryz.prog 22 #[.agg #[.int .i64 y, .int .i64 m, .int .i64 d]] w fun ro w' => ro = .returned (.string (bA (cT y m d))) ∧ Dn w w' := by
  obtain ⟨⟨⟨y1, y2⟩, m1, m2⟩, d1, d2⟩ := cErr_ok he
  have hml := Cal.mlen_bd y m
  have hy : I64 y := ⟨by omega, by omega⟩
  have ly : (dcm y.natAbs).length ≤ 17 := dcm_len _ 17 (by decide) (by rw [show Dg.p10 17 = 100000000000000000 by decide]; omega)
  have lm := dcm_two m.natAbs (by omega)
  have ld := dcm_two d.natAbs (by omega)
  have hp1 := dcm_pos y.natAbs
  have z4 : (bA (dcm y.natAbs)).size ≤ 1000 := by rw [bA_size]; omega
  have z2 : (bA (padd 2 (dcm m.natAbs))).size ≤ 1000 := by rw [bA_size, padd_len]; omega
  have z3 : (bA (padd 2 (dcm d.natAbs))).size ≤ 1000 := by rw [bA_size, padd_len]; omega
  have HOf := Lib.hid (fun W => rOf1 y W hy)
  have HT : Hid (∀ W v, IsN W v (y.natAbs : Int) → Calls Tryz.prog 50 #[v] W fun e w' => e = .returned (.string (bA (dcm y.natAbs))) ∧ Dn W w') := Lib.hid fun W v hv => by
    have h := rText v (y.natAbs : Int) W hv (lenI _ ⟨by omega, by omega⟩)
    rw [itoa_pos _ (by omega), Int.natAbs_natCast] at h
    exact h
  have HP2 := Lib.hid (fun W => rc6Two m (by omega) (by omega) W)
  have HP3 := Lib.hid (fun W => rc6Two d (by omega) (by omega) W)
  have e45 : (⟨#[45]⟩ : ByteArray) = bA [45] := rfl
  have e48 : (⟨#[48]⟩ : ByteArray) = bA [48] := rfl
  have hk : (bA (dcm y.natAbs)).size = 1 ∨ (bA (dcm y.natAbs)).size = 2 ∨ (bA (dcm y.natAbs)).size = 3 ∨ ¬ (bA (dcm y.natAbs)).size < 4 := by rw [bA_size]; omega
  by_cases hn : y < 0
  · have HB := Lib.hid (decide_eq_true hn)
    rcases hk with hk | hk | hk | hk
    · have h := rtx1n y m d _ _ _ z4 z2 z3 hk HB HOf HT HP2 HP3 w
      have e : padd 4 (dcm y.natAbs) = List.replicate 3 48 ++ dcm y.natAbs := congrArg (fun j => List.replicate j 48 ++ dcm y.natAbs) (show 4 - (dcm y.natAbs).length = 3 by have h7 := hk; rw [bA_size] at h7; omega)
      rw [e45, e48] at h
      simp only [bA_app] at h
      rw [show cT y m d = _ from (by unfold cT; rw [if_pos hn, e] : cT y m d = [45] ++ (List.replicate 3 48 ++ dcm y.natAbs ++ 45 :: (padd 2 (dcm m.natAbs) ++ 45 :: padd 2 (dcm d.natAbs))))]
      simpa [List.replicate] using h
    · have h := rtx2n y m d _ _ _ z4 z2 z3 hk HB HOf HT HP2 HP3 w
      have e : padd 4 (dcm y.natAbs) = List.replicate 2 48 ++ dcm y.natAbs := congrArg (fun j => List.replicate j 48 ++ dcm y.natAbs) (show 4 - (dcm y.natAbs).length = 2 by have h7 := hk; rw [bA_size] at h7; omega)
      rw [e45, e48] at h
      simp only [bA_app] at h
      rw [show cT y m d = _ from (by unfold cT; rw [if_pos hn, e] : cT y m d = [45] ++ (List.replicate 2 48 ++ dcm y.natAbs ++ 45 :: (padd 2 (dcm m.natAbs) ++ 45 :: padd 2 (dcm d.natAbs))))]
      simpa [List.replicate] using h
    · have h := rtx3n y m d _ _ _ z4 z2 z3 hk HB HOf HT HP2 HP3 w
      have e : padd 4 (dcm y.natAbs) = List.replicate 1 48 ++ dcm y.natAbs := congrArg (fun j => List.replicate j 48 ++ dcm y.natAbs) (show 4 - (dcm y.natAbs).length = 1 by have h7 := hk; rw [bA_size] at h7; omega)
      rw [e45, e48] at h
      simp only [bA_app] at h
      rw [show cT y m d = _ from (by unfold cT; rw [if_pos hn, e] : cT y m d = [45] ++ (List.replicate 1 48 ++ dcm y.natAbs ++ 45 :: (padd 2 (dcm m.natAbs) ++ 45 :: padd 2 (dcm d.natAbs))))]
      simpa [List.replicate] using h
    · have h := rtx4n y m d _ _ _ z4 z2 z3 hk HB HOf HT HP2 HP3 w
      have e : padd 4 (dcm y.natAbs) = List.replicate 0 48 ++ dcm y.natAbs := congrArg (fun j => List.replicate j 48 ++ dcm y.natAbs) (show 4 - (dcm y.natAbs).length = 0 by have h7 := hk; rw [bA_size] at h7; omega)
      rw [e45] at h
      simp only [bA_app] at h
      rw [show cT y m d = _ from (by unfold cT; rw [if_pos hn, e] : cT y m d = [45] ++ (List.replicate 0 48 ++ dcm y.natAbs ++ 45 :: (padd 2 (dcm m.natAbs) ++ 45 :: padd 2 (dcm d.natAbs))))]
      simpa [List.replicate] using h
  · have HB := Lib.hid (decide_eq_false hn)
    rcases hk with hk | hk | hk | hk
    · have h := rtx1p y m d _ _ _ z4 z2 z3 hk HB HOf HT HP2 HP3 w
      have e : padd 4 (dcm y.natAbs) = List.replicate 3 48 ++ dcm y.natAbs := congrArg (fun j => List.replicate j 48 ++ dcm y.natAbs) (show 4 - (dcm y.natAbs).length = 3 by have h7 := hk; rw [bA_size] at h7; omega)
      rw [e45, e48] at h
      simp only [bA_app] at h
      rw [show cT y m d = _ from (by unfold cT; rw [if_neg hn, e] : cT y m d = [] ++ (List.replicate 3 48 ++ dcm y.natAbs ++ 45 :: (padd 2 (dcm m.natAbs) ++ 45 :: padd 2 (dcm d.natAbs))))]
      simpa [List.replicate] using h
    · have h := rtx2p y m d _ _ _ z4 z2 z3 hk HB HOf HT HP2 HP3 w
      have e : padd 4 (dcm y.natAbs) = List.replicate 2 48 ++ dcm y.natAbs := congrArg (fun j => List.replicate j 48 ++ dcm y.natAbs) (show 4 - (dcm y.natAbs).length = 2 by have h7 := hk; rw [bA_size] at h7; omega)
      rw [e45, e48] at h
      simp only [bA_app] at h
      rw [show cT y m d = _ from (by unfold cT; rw [if_neg hn, e] : cT y m d = [] ++ (List.replicate 2 48 ++ dcm y.natAbs ++ 45 :: (padd 2 (dcm m.natAbs) ++ 45 :: padd 2 (dcm d.natAbs))))]
      simpa [List.replicate] using h
    · have h := rtx3p y m d _ _ _ z4 z2 z3 hk HB HOf HT HP2 HP3 w
      have e : padd 4 (dcm y.natAbs) = List.replicate 1 48 ++ dcm y.natAbs := congrArg (fun j => List.replicate j 48 ++ dcm y.natAbs) (show 4 - (dcm y.natAbs).length = 1 by have h7 := hk; rw [bA_size] at h7; omega)
      rw [e45, e48] at h
      simp only [bA_app] at h
      rw [show cT y m d = _ from (by unfold cT; rw [if_neg hn, e] : cT y m d = [] ++ (List.replicate 1 48 ++ dcm y.natAbs ++ 45 :: (padd 2 (dcm m.natAbs) ++ 45 :: padd 2 (dcm d.natAbs))))]
      simpa [List.replicate] using h
    · have h := rtx4p y m d _ _ _ z4 z2 z3 hk HB HOf HT HP2 HP3 w
      have e : padd 4 (dcm y.natAbs) = List.replicate 0 48 ++ dcm y.natAbs := congrArg (fun j => List.replicate j 48 ++ dcm y.natAbs) (show 4 - (dcm y.natAbs).length = 0 by have h7 := hk; rw [bA_size] at h7; omega)
      rw [e45] at h
      simp only [bA_app] at h
      rw [show cT y m d = _ from (by unfold cT; rw [if_neg hn, e] : cT y m d = [] ++ (List.replicate 0 48 ++ dcm y.natAbs ++ 45 :: (padd 2 (dcm m.natAbs) ++ 45 :: padd 2 (dcm d.natAbs))))]
      simpa [List.replicate] using h
end Go.Proofs.YtopbbcbpanfigaaGreatDoor
