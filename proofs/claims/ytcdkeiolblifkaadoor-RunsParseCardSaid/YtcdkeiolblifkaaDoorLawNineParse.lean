/-
  RunsParse. (Printed by wip/gen/law9c.py.)
-/
import Derived.Test.YtcdkeiolblifkaaDoorLawNine
import Derived.Test.YtcdkeiolblifkaaDoorRefNineP
namespace Go.Proofs.YtcdkeiolblifkaaDoor
open Go.RowKit
set_option linter.unusedVariables false
set_option linter.unusedSimpArgs false
set_option maxHeartbeats 4000000 in
set_option maxRecDepth 100000 in
theorem prs_long (s : ByteArray) (q0 q1 q2 q3 r : Int) (h1 : 100 < s.size)   (w : World) (hE : EnvR w) :
    Calls Tryd.prog 4 #[.string s] w fun ro w' => ro = .returned (.bool true) ∧ Dn w w' := by
  have t1 : decide (100 < (s.size : Int)) = true := by simp; omega
  clear h1
  go_enter Tryd.func4, Tryd.ntmps4
  go_wp2_with fail
  refine (lives9 _ hE).mono ?_
  rintro e w1 ⟨rfl, qw1⟩
  have uw1 := qw1
  clear qw1
  go_wp2_with fail
  go_ret
  exact ⟨rfl, uw1⟩
set_option maxHeartbeats 4000000 in
set_option maxRecDepth 100000 in
theorem prs_ok (s : ByteArray) (q0 q1 q2 q3 r : Int) (h1 : s.size ≤ 100) (HP : Hid (∀ W, EnvR W → Calls Tryd.prog 15 #[.string s] W fun o w' => o = .returned (.tuple #[.agg #[.int .i8 q0, .int .i64 q1, .int .i8 q2, .int .i64 q3], .int .i64 0]) ∧ Dn W w')) (HQ : Hid (∀ W, Calls Tryd.prog 16 #[.string s] W fun o w' => o = .returned (.tuple #[.agg #[.int .i8 q0, .int .i64 q1, .int .i8 q2, .int .i64 q3], .int .i64 0]) ∧ Dn W w'))  (w : World) (hE : EnvR w) :
    Calls Tryd.prog 4 #[.string s] w fun ro w' => ro = .returned (.bool true) ∧ Dn w w' := by
  have t1 : decide (100 < (s.size : Int)) = false := by simp; omega
  clear h1
  go_enter Tryd.func4, Tryd.ntmps4
  go_wp2_with fail
  refine (HP.out _ hE).mono ?_
  rintro e w1 ⟨rfl, qw1⟩
  have uw1 := qw1
  clear qw1
  go_wp2_with fail
  obtain ⟨W1, hW1⟩ : ∃ W1, W1 = w1.alloc (.cells #[.int .i8 q0, .int .i64 q1, .int .i8 q2, .int .i64 q3] 29) := ⟨_, rfl⟩
  have uW1 : Dn w1 W1 := by rw [hW1]; exact (Dn.refl _).alloc _
  have c2 : W1.cell? ⟨w1.heap.size, 0, none⟩ = some (.int .i8 q0) := by rw [hW1]; simp [go_sem]
  have c3 : W1.cell? ⟨w1.heap.size, 1, none⟩ = some (.int .i64 q1) := by rw [hW1]; simp [go_sem]
  have c4 : W1.cell? ⟨w1.heap.size, 2, none⟩ = some (.int .i8 q2) := by rw [hW1]; simp [go_sem]
  have c5 : W1.cell? ⟨w1.heap.size, 3, none⟩ = some (.int .i64 q3) := by rw [hW1]; simp [go_sem]
  have l6 : w1.heap.size < W1.heap.size := by rw [hW1]; simp <;> omega
  rw [← hW1]
  clear hW1
  have vW1 := uw1.trans uW1
  clear uW1 uw1
  refine (HQ.out _).mono ?_
  rintro e w2 ⟨rfl, qw2⟩
  have l7 := Nat.lt_of_lt_of_le l6 qw2.size
  have c8 := qw2.cell c2
  have c9 := qw2.cell c3
  have c10 := qw2.cell c4
  have c11 := qw2.cell c5
  clear l6 c2 c3 c4 c5
  have uw2 := vW1.trans qw2
  clear qw2 vW1
  go_wp2_with fail
  obtain ⟨W12, hW12⟩ : ∃ W12, W12 = w2.alloc (.cells #[.int .i8 q0, .int .i64 q1, .int .i8 q2, .int .i64 q3] 29) := ⟨_, rfl⟩
  have uW12 : Dn w2 W12 := by rw [hW12]; exact (Dn.refl _).alloc _
  have l13 := Nat.lt_of_lt_of_le l7 uW12.size
  have c14 := uW12.cell c8
  have c15 := uW12.cell c9
  have c16 := uW12.cell c10
  have c17 := uW12.cell c11
  clear l7 c8 c9 c10 c11
  have c18 : W12.cell? ⟨w2.heap.size, 0, none⟩ = some (.int .i8 q0) := by rw [hW12]; simp [go_sem]
  have c19 : W12.cell? ⟨w2.heap.size, 1, none⟩ = some (.int .i64 q1) := by rw [hW12]; simp [go_sem]
  have c20 : W12.cell? ⟨w2.heap.size, 2, none⟩ = some (.int .i8 q2) := by rw [hW12]; simp [go_sem]
  have c21 : W12.cell? ⟨w2.heap.size, 3, none⟩ = some (.int .i64 q3) := by rw [hW12]; simp [go_sem]
  have l22 : w2.heap.size < W12.heap.size := by rw [hW12]; simp <;> omega
  rw [← hW12]
  clear hW12
  have vW12 := uw2.trans uW12
  clear uW12 uw2
  refine (g9_ok q0 q1 q2 q3 0 0 0 0 0 _).mono ?_
  rintro e w3 ⟨rfl, qw3⟩
  have l23 := Nat.lt_of_lt_of_le l13 qw3.size
  have c24 := qw3.cell c14
  have c25 := qw3.cell c15
  have c26 := qw3.cell c16
  have c27 := qw3.cell c17
  have l28 := Nat.lt_of_lt_of_le l22 qw3.size
  have c29 := qw3.cell c18
  have c30 := qw3.cell c19
  have c31 := qw3.cell c20
  have c32 := qw3.cell c21
  clear l13 c14 c15 c16 c17 l22 c18 c19 c20 c21
  have uw3 := vW12.trans qw3
  clear qw3 vW12
  go_wp2_with fail
  refine (lives9 _ (hE.dn uw3)).mono ?_
  rintro e w4 ⟨rfl, qw4⟩
  have l33 := Nat.lt_of_lt_of_le l23 qw4.size
  have c34 := qw4.cell c24
  have c35 := qw4.cell c25
  have c36 := qw4.cell c26
  have c37 := qw4.cell c27
  have l38 := Nat.lt_of_lt_of_le l28 qw4.size
  have c39 := qw4.cell c29
  have c40 := qw4.cell c30
  have c41 := qw4.cell c31
  have c42 := qw4.cell c32
  clear l23 c24 c25 c26 c27 l28 c29 c30 c31 c32
  have uw4 := uw3.trans qw4
  clear qw4 uw3
  go_wp2_with fail
  go_ret
  exact ⟨rfl, uw4⟩
set_option maxHeartbeats 4000000 in
set_option maxRecDepth 100000 in
theorem prs_bad (s : ByteArray) (q0 q1 q2 q3 r : Int) (h1 : s.size ≤ 100) (HP : Hid (∀ W, EnvR W → Calls Tryd.prog 15 #[.string s] W fun o w' => o = .returned (.tuple #[.agg #[.int .i8 0, .int .i64 0, .int .i8 0, .int .i64 0], .int .i64 r]) ∧ Dn W w')) (HQ : Hid (∀ W, Calls Tryd.prog 16 #[.string s] W fun o w' => o = .returned (.tuple #[.agg #[.int .i8 0, .int .i64 0, .int .i8 0, .int .i64 0], .int .i64 r]) ∧ Dn W w')) (hr : r ≠ 0) (w : World) (hE : EnvR w) :
    Calls Tryd.prog 4 #[.string s] w fun ro w' => ro = .returned (.bool true) ∧ Dn w w' := by
  have t1 : decide (100 < (s.size : Int)) = false := by simp; omega
  clear h1
  go_enter Tryd.func4, Tryd.ntmps4
  go_wp2_with fail
  refine (HP.out _ hE).mono ?_
  rintro e w1 ⟨rfl, qw1⟩
  have uw1 := qw1
  clear qw1
  go_wp2_with fail
  obtain ⟨W1, hW1⟩ : ∃ W1, W1 = w1.alloc (.cells #[.int .i8 0, .int .i64 0, .int .i8 0, .int .i64 0] 29) := ⟨_, rfl⟩
  have uW1 : Dn w1 W1 := by rw [hW1]; exact (Dn.refl _).alloc _
  have c2 : W1.cell? ⟨w1.heap.size, 0, none⟩ = some (.int .i8 0) := by rw [hW1]; simp [go_sem]
  have c3 : W1.cell? ⟨w1.heap.size, 1, none⟩ = some (.int .i64 0) := by rw [hW1]; simp [go_sem]
  have c4 : W1.cell? ⟨w1.heap.size, 2, none⟩ = some (.int .i8 0) := by rw [hW1]; simp [go_sem]
  have c5 : W1.cell? ⟨w1.heap.size, 3, none⟩ = some (.int .i64 0) := by rw [hW1]; simp [go_sem]
  have l6 : w1.heap.size < W1.heap.size := by rw [hW1]; simp <;> omega
  rw [← hW1]
  clear hW1
  have vW1 := uw1.trans uW1
  clear uW1 uw1
  refine (HQ.out _).mono ?_
  rintro e w2 ⟨rfl, qw2⟩
  have l7 := Nat.lt_of_lt_of_le l6 qw2.size
  have c8 := qw2.cell c2
  have c9 := qw2.cell c3
  have c10 := qw2.cell c4
  have c11 := qw2.cell c5
  clear l6 c2 c3 c4 c5
  have uw2 := vW1.trans qw2
  clear qw2 vW1
  go_wp2_with fail
  obtain ⟨W12, hW12⟩ : ∃ W12, W12 = w2.alloc (.cells #[.int .i8 0, .int .i64 0, .int .i8 0, .int .i64 0] 29) := ⟨_, rfl⟩
  have uW12 : Dn w2 W12 := by rw [hW12]; exact (Dn.refl _).alloc _
  have l13 := Nat.lt_of_lt_of_le l7 uW12.size
  have c14 := uW12.cell c8
  have c15 := uW12.cell c9
  have c16 := uW12.cell c10
  have c17 := uW12.cell c11
  clear l7 c8 c9 c10 c11
  have c18 : W12.cell? ⟨w2.heap.size, 0, none⟩ = some (.int .i8 0) := by rw [hW12]; simp [go_sem]
  have c19 : W12.cell? ⟨w2.heap.size, 1, none⟩ = some (.int .i64 0) := by rw [hW12]; simp [go_sem]
  have c20 : W12.cell? ⟨w2.heap.size, 2, none⟩ = some (.int .i8 0) := by rw [hW12]; simp [go_sem]
  have c21 : W12.cell? ⟨w2.heap.size, 3, none⟩ = some (.int .i64 0) := by rw [hW12]; simp [go_sem]
  have l22 : w2.heap.size < W12.heap.size := by rw [hW12]; simp <;> omega
  rw [← hW12]
  clear hW12
  have vW12 := uw2.trans uW12
  clear uW12 uw2
  refine (g9_bad 0 0 0 0 0 0 0 0 r _ hr).mono ?_
  rintro e w3 ⟨rfl, qw3⟩
  have l23 := Nat.lt_of_lt_of_le l13 qw3.size
  have c24 := qw3.cell c14
  have c25 := qw3.cell c15
  have c26 := qw3.cell c16
  have c27 := qw3.cell c17
  have l28 := Nat.lt_of_lt_of_le l22 qw3.size
  have c29 := qw3.cell c18
  have c30 := qw3.cell c19
  have c31 := qw3.cell c20
  have c32 := qw3.cell c21
  clear l13 c14 c15 c16 c17 l22 c18 c19 c20 c21
  have uw3 := vW12.trans qw3
  clear qw3 vW12
  go_wp2_with fail
  refine (lives9 _ (hE.dn uw3)).mono ?_
  rintro e w4 ⟨rfl, qw4⟩
  have l33 := Nat.lt_of_lt_of_le l23 qw4.size
  have c34 := qw4.cell c24
  have c35 := qw4.cell c25
  have c36 := qw4.cell c26
  have c37 := qw4.cell c27
  have l38 := Nat.lt_of_lt_of_le l28 qw4.size
  have c39 := qw4.cell c29
  have c40 := qw4.cell c30
  have c41 := qw4.cell c31
  have c42 := qw4.cell c32
  clear l23 c24 c25 c26 c27 l28 c29 c30 c31 c32
  have uw4 := uw3.trans qw4
  clear qw4 uw3
  go_wp2_with fail
  go_ret
  exact ⟨rfl, uw4⟩
theorem ep_ex9 (s : ByteArray) : ∃ i d e, EP s i d e := by
  by_cases h1 : s = sP
  · exact ⟨1, 0, 0, Or.inl ⟨h1, rfl, rfl, rfl⟩⟩
  by_cases h2 : s = sM
  · exact ⟨-1, 0, 0, Or.inr (Or.inl ⟨h2, rfl, rfl, rfl⟩)⟩
  by_cases hp : pOk s.data.toList
  · by_cases hi : I64 (pVal s.data.toList)
    · exact ⟨0, _, 0, Or.inr (Or.inr ⟨h1, h2, rfl, Or.inl ⟨hp, Or.inl ⟨hi, rfl, rfl⟩⟩⟩)⟩
    · exact ⟨0, 0, 15, Or.inr (Or.inr ⟨h1, h2, rfl, Or.inl ⟨hp, Or.inr ⟨hi, rfl, rfl⟩⟩⟩)⟩
  · exact ⟨0, 0, 5, Or.inr (Or.inr ⟨h1, h2, rfl, Or.inr ⟨hp, rfl, rfl⟩⟩)⟩
theorem rp_ex (s : ByteArray) : ∃ q0 q1 q2 q3 r, RP s q0 q1 q2 q3 r ∧ (r = 0 ∨ (r ≠ 0 ∧ q0 = 0 ∧ q1 = 0 ∧ q2 = 0 ∧ q3 = 0)) := by
  by_cases hc : (Lib.cut s.data.toList [46, 46]).2.2 = true
  · obtain ⟨i1, d1, r1, h1⟩ := ep_ex9 ⟨(Lib.cut s.data.toList [46, 46]).1.toArray⟩
    obtain ⟨i2, d2, r2, h2⟩ := ep_ex9 ⟨(Lib.cut s.data.toList [46, 46]).2.1.toArray⟩
    have e1 := ep_err h1
    have e2 := ep_err h2
    by_cases k1 : r1 = 5 ∨ r2 = 5
    · exact ⟨0, 0, 0, 0, 5, Or.inr ⟨hc, i1, d1, r1, i2, d2, r2, h1, h2, Or.inl ⟨k1, rfl, rfl, rfl, rfl, rfl⟩⟩, Or.inr ⟨by decide, rfl, rfl, rfl, rfl⟩⟩
    · by_cases k2 : r1 ≠ 0 ∨ r2 ≠ 0
      · exact ⟨0, 0, 0, 0, 15, Or.inr ⟨hc, i1, d1, r1, i2, d2, r2, h1, h2, Or.inr (Or.inl ⟨by omega, by omega, k2, rfl, rfl, rfl, rfl, rfl⟩)⟩, Or.inr ⟨by decide, rfl, rfl, rfl, rfl⟩⟩
      · by_cases k3 : rnErr i1 d1 i2 d2 = 0
        · exact ⟨i1, d1, i2, d2, 0, Or.inr ⟨hc, i1, d1, r1, i2, d2, r2, h1, h2, Or.inr (Or.inr (Or.inr ⟨by omega, by omega, k3, rfl, rfl, rfl, rfl, rfl⟩))⟩, Or.inl rfl⟩
        · exact ⟨0, 0, 0, 0, _, Or.inr ⟨hc, i1, d1, r1, i2, d2, r2, h1, h2, Or.inr (Or.inr (Or.inl ⟨by omega, by omega, k3, rfl, rfl, rfl, rfl, rfl⟩))⟩, Or.inr ⟨k3, rfl, rfl, rfl, rfl⟩⟩
  · exact ⟨0, 0, 0, 0, 5, Or.inl ⟨by simpa using hc, rfl, rfl, rfl, rfl, rfl⟩, Or.inr ⟨by decide, rfl, rfl, rfl, rfl⟩⟩
theorem runsParse_true (s : ByteArray) (w : World) (hm : s.size ≤ 9223372036854775807) (hE : EnvR w) :
    Calls Tryd.prog 4 #[.string s] w fun ro w' => ro = .returned (.bool true) ∧ Dn w w' := by
  by_cases hs : s.size ≤ 100
  · obtain ⟨q0, q1, q2, q3, r, h, hx⟩ := rp_ex s
    have HP := Lib.hid (fun W hW => rnParse s q0 q1 q2 q3 r W (by omega) h hW)
    have HQ := Lib.hid (fun W => rfParse s q0 q1 q2 q3 r W (by omega) h)
    rcases hx with rfl | ⟨hr, rfl, rfl, rfl, rfl⟩
    · exact prs_ok s q0 q1 q2 q3 0 hs HP HQ w hE
    · exact prs_bad s 0 0 0 0 r hs HP HQ hr w hE
  · exact prs_long s 0 0 0 0 0 (by omega) w hE
end Go.Proofs.YtcdkeiolblifkaaDoor
