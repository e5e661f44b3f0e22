/-
  CONTRACTS OF ints.Div AND ints.Mod AT A DIVISOR ABOVE 1.
-/
import Derived.Test.YtopbbcbpanfigaaGreatDoorBase
namespace Go.Proofs.YtopbbcbpanfigaaGreatDoor
open Go.RowKit

theorem tdiv_neg (a b : Int) (h : a < 0) : a.tdiv b = -((-a) / b) := by
  have := Int.neg_tdiv (a := -a) (b := b)
  rw [Int.neg_neg] at this
  rw [this, Int.tdiv_eq_ediv_of_nonneg (by omega)]
theorem tmod_neg (a b : Int) (h : a < 0) : a.tmod b = -((-a) % b) := by
  have := Int.neg_tmod (a := -a) (b := b)
  rw [Int.neg_neg] at this
  rw [this, Int.tmod_eq_emod_of_nonneg (by omega)]
theorem fdiv_neg1 (a b : Int) (hb : 0 < b) (h : (-a) % b = 0) : -((-a) / b) = a / b ∧ a % b = 0 := by
  have e := Int.mul_ediv_add_emod (-a) b
  rw [h, Int.add_zero] at e
  generalize (-a) / b = q at *
  have e2 : a = b * (-q) + 0 := by rw [Int.mul_neg, e]; omega
  have := (Int.ediv_emod_unique (a := a) (b := b) (r := 0) (q := -q) hb).2 ⟨by omega, by omega, by omega⟩
  exact ⟨this.1.symm, this.2⟩
theorem fdiv_neg2 (a b : Int) (hb : 0 < b) (h : ¬ (-a) % b = 0) : -((-a) / b) - 1 = a / b ∧ b - (-a) % b = a % b := by
  have e := Int.mul_ediv_add_emod (-a) b
  have h1 := Int.emod_nonneg (-a) (show b ≠ 0 by omega)
  have h2 := Int.emod_lt_of_pos (-a) hb
  generalize (-a) / b = q at *
  generalize (-a) % b = r at *
  have e2 : a = b * (-q - 1) + (b - r) := by rw [Int.mul_sub, Int.mul_neg]; omega
  have := (Int.ediv_emod_unique (a := a) (b := b) (r := b - r) (q := -q - 1) hb).2 ⟨by omega, by omega, by omega⟩
  exact ⟨this.1.symm, this.2.symm⟩
theorem fdiv_half (a b : Int) (hb : 1 < b) : (0 ≤ a → 0 ≤ a / b ∧ 2 * (a / b) ≤ a) ∧ (a < 0 → a / b < 0 ∧ a - 1 ≤ 2 * (a / b)) := by
  have e := Int.mul_ediv_add_emod a b
  have h1 := Int.emod_nonneg a (show b ≠ 0 by omega)
  have h2 := Int.emod_lt_of_pos a (show 0 < b by omega)
  generalize hq : a / b = q at *
  generalize a % b = r at *
  constructor
  · intro h
    have hq0 : 0 ≤ q := by rw [← hq]; exact Int.ediv_nonneg h (by omega)
    have := Int.mul_le_mul_of_nonneg_right (show 2 ≤ b by omega) hq0
    omega
  · intro h
    have hq0 : q < 0 := by rw [← hq]; exact Int.ediv_neg_of_neg_of_pos h (by omega)
    have h3 := Int.mul_le_mul_of_nonneg_right (show 2 ≤ b by omega) (show 0 ≤ -q - 1 by omega)
    rw [Int.mul_sub b, Int.mul_neg] at h3
    omega
theorem divp1 (a b : Int) (h : a < 0) (hb : 1 < b) (h3 : a.tmod b = 0) : a.tdiv b = a / b := by
  rw [tmod_neg a b h] at h3
  rw [tdiv_neg a b h]
  exact (fdiv_neg1 a b (by omega) (by omega)).1
theorem divp2 (a b : Int) (ha : I64 a) (h : a < 0) (hb : 1 < b) (h3 : ¬ a.tmod b = 0) : wrap64 (a.tdiv b - 1) = a / b := by
  rw [tmod_neg a b h] at h3
  have e := (fdiv_neg2 a b (by omega) (by omega)).1
  have := (fdiv_half a b hb).2 h
  obtain ⟨_, _⟩ := ha
  rw [tdiv_neg a b h, e]
  exact IntWalk.wrap64_in _ ⟨by omega, by omega⟩
theorem modp1 (a b : Int) (h : a < 0) (hb : 1 < b) (h3 : a.tmod b = 0) : 0 = a % b := by
  rw [tmod_neg a b h] at h3
  exact (fdiv_neg1 a b (by omega) (by omega)).2.symm
theorem modp2 (a b : Int) (hb2 : b ≤ 9223372036854775807) (h : a < 0) (hb : 1 < b) (h3 : ¬ a.tmod b = 0) : wrap64 (a.tmod b + b) = a % b := by
  have h4 := tmod_neg a b h
  rw [h4] at h3
  have e := (fdiv_neg2 a b (by omega) (by omega)).2
  have h1 := Int.emod_nonneg a (show b ≠ 0 by omega)
  have h2 := Int.emod_lt_of_pos a (show 0 < b by omega)
  rw [h4, show -(-a % b) + b = a % b by omega]
  exact IntWalk.wrap64_in _ ⟨by omega, by omega⟩

set_option maxHeartbeats 400000 in
theorem div_pos (a b : Int) (w : World) (ha : I64 a) (hb : 1 < b) (hb2 : b ≤ 9223372036854775807) :
    Calls Tryz.prog 81 #[.int .i64 a, .int .i64 b] w fun e w' => e = .returned (.tuple #[.int .i64 (a / b), .int .i64 0]) ∧ w = w' := by
  have HA := ha
  obtain ⟨h1, h2⟩ := ha
  have c1 : (b == 0) = false := by rw [beq_eq_false_iff_ne]; omega
  have c2 : (b == -1) = false := by rw [beq_eq_false_iff_ne]; omega
  by_cases h0 : 0 ≤ a
  · have c3 : decide (a < 0) = false := by simp; omega
    have c4 : decide (b < 0) = false := by simp; omega
    by_cases h3 : a % b = 0
    all_goals
      go_enter Tryz.func81, Tryz.ntmps81
      go_wp2_with fail
      go_ret2
      exact ⟨rfl, rfl⟩
  · have c3 : decide (a < 0) = true := by simp; omega
    have c4 : decide (b < 0) = false := by simp; omega
    go_enter Tryz.func81, Tryz.ntmps81
    go_wp2_with fail
    · go_ret2
      exact ⟨ret2_i (divp1 a b (by omega) hb ‹_›) rfl, rfl⟩
    · go_ret2
      exact ⟨ret2_i (divp2 a b HA (by omega) hb ‹_›) rfl, rfl⟩
set_option maxHeartbeats 400000 in
theorem mod_pos (a b : Int) (w : World) (ha : I64 a) (hb : 1 < b) (hb2 : b ≤ 9223372036854775807) :
    Calls Tryz.prog 57 #[.int .i64 a, .int .i64 b] w fun e w' => e = .returned (.tuple #[.int .i64 (a % b), .int .i64 0]) ∧ w = w' := by
  obtain ⟨h1, h2⟩ := ha
  have c1 : (b == 0) = false := by rw [beq_eq_false_iff_ne]; omega
  have c2 : (b == -1) = false := by rw [beq_eq_false_iff_ne]; omega
  by_cases h0 : 0 ≤ a
  · have c3 : decide (a % b < 0) = false := by have := Int.emod_nonneg a (show b ≠ 0 by omega); simp; omega
    have c4 : decide (b < 0) = false := by simp; omega
    by_cases h3 : a % b = 0
    all_goals
      go_enter Tryz.func57, Tryz.ntmps57
      go_wp2_with fail
      go_ret2
      exact ⟨by first | rfl | (rw [h3]), rfl⟩
  · have c4 : decide (b < 0) = false := by simp; omega
    have e5 := tmod_neg a b (by omega)
    have h6 := Int.emod_nonneg (-a) (show b ≠ 0 by omega)
    by_cases h3 : a.tmod b = 0
    · have e6 : a.tmod b = 0 := h3
      have c5 : (a.tmod b != 0) = false := by simp [h3]
      clear e5
      go_enter Tryz.func57, Tryz.ntmps57
      go_wp2_with fail
      go_ret2
      exact ⟨ret2_i (modp1 a b (by omega) hb h3) rfl, rfl⟩
    · have c3 : decide (a.tmod b < 0) = true := by simp; omega
      have c5 : (a.tmod b != 0) = true := by simp [h3]
      clear e5
      go_enter Tryz.func57, Tryz.ntmps57
      go_wp2_with fail
      go_ret2
      exact ⟨ret2_i (modp2 a b hb2 (by omega) hb h3) rfl, rfl⟩
end Go.Proofs.YtopbbcbpanfigaaGreatDoor
