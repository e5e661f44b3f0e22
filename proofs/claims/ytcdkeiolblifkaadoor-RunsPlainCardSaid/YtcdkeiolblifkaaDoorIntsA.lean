/-
  CONTRACTS OF ints.Div AND ints.Mod AT A DIVISOR ABOVE 1.
-/
import Derived.Test.YtcdkeiolblifkaaDoorBase
namespace Go.Proofs.YtcdkeiolblifkaaDoor
open Go.RowKit

theorem tdiv_neg (a b : Int) (h : a < 0) : a.tdiv b = -((-a) / b) := by
  have := Int.neg_tdiv (a := -a) (b := b)
  rw [Int.neg_neg] at this
  rw [this, Int.tdiv_eq_ediv_of_nonneg (by omega)]
theorem tmod_neg (a b : Int) (h : a < 0) : a.tmod b = -((-a) % b) := by
  have := Int.neg_tmod (a := -a) (b := b)
  rw [Int.neg_neg] at this
  rw [this, Int.tmod_eq_emod_of_nonneg (by omega)]
theorem fdiv_neg1 (a b : Int) (hb : 0 < b) (h : (-a) % b = 0) : -((-a) / b) = a / b ∧ a % b = 0 := by
  have e := Int.mul_ediv_add_emod (-a) b
  rw [h, Int.add_zero] at e
  generalize (-a) / b = q at *
  have e2 : a = b * (-q) + 0 := by rw [Int.mul_neg, e]; omega
  have := (Int.ediv_emod_unique (a := a) (b := b) (r := 0) (q := -q) hb).2 ⟨by omega, by omega, by omega⟩
  exact ⟨this.1.symm, this.2⟩
theorem fdiv_neg2 (a b : Int) (hb : 0 < b) (h : ¬ (-a) % b = 0) : -((-a) / b) - 1 = a / b ∧ b - (-a) % b = a % b := by
  have e := Int.mul_ediv_add_emod (-a) b
  have h1 := Int.emod_nonneg (-a) (show b ≠ 0 by omega)
  have h2 := Int.emod_lt_of_pos (-a) hb
  generalize (-a) / b = q at *
  generalize (-a) % b = r at *
  have e2 : a = b * (-q - 1) + (b - r) := by rw [Int.mul_sub, Int.mul_neg]; omega
  have := (Int.ediv_emod_unique (a := a) (b := b) (r := b - r) (q := -q - 1) hb).2 ⟨by omega, by omega, by omega⟩
  exact ⟨this.1.symm, this.2.symm⟩
theorem fdiv_half (a b : Int) (hb : 1 < b) : (0 ≤ a → 0 ≤ a / b ∧ 2 * (a / b) ≤ a) ∧ (a < 0 → a / b < 0 ∧ a - 1 ≤ 2 * (a / b)) := by
  have e := Int.mul_ediv_add_emod a b
  have h1 := Int.emod_nonneg a (show b ≠ 0 by omega)
  have h2 := Int.emod_lt_of_pos a (show 0 < b by omega)
  generalize hq : a / b = q at *
  generalize a % b = r at *
  constructor
  · intro h
    have hq0 : 0 ≤ q := by rw [← hq]; exact Int.ediv_nonneg h (by omega)
    have := Int.mul_le_mul_of_nonneg_right (show 2 ≤ b by omega) hq0
    omega
  · intro h
    have hq0 : q < 0 := by rw [← hq]; exact Int.ediv_neg_of_neg_of_pos h (by omega)
    have h3 := Int.mul_le_mul_of_nonneg_right (show 2 ≤ b by omega) (show 0 ≤ -q - 1 by omega)
    rw [Int.mul_sub b, Int.mul_neg] at h3
    omega
theorem divp1 (a b : Int) (h : a < 0) (hb : 1 < b) (h3 : a.tmod b = 0) : a.tdiv b = a / b := by
  rw [tmod_neg a b h] at h3
  rw [tdiv_neg a b h]
  exact (fdiv_neg1 a b (by omega) (by omega)).1
theorem divp2 (a b : Int) (ha : I64 a) (h : a < 0) (hb : 1 < b) (h3 : ¬ a.tmod b = 0) : wrap64 (a.tdiv b - 1) = a / b := by
  rw [tmod_neg a b h] at h3
  have e := (fdiv_neg2 a b (by omega) (by omega)).1
  have := (fdiv_half a b hb).2 h
  obtain ⟨_, _⟩ := ha
  rw [tdiv_neg a b h, e]
  exact IntWalk.wrap64_in _ ⟨by omega, by omega⟩
theorem modp1 (a b : Int) (h : a < 0) (hb : 1 < b) (h3 : a.tmod b = 0) : 0 = a % b := by
  rw [tmod_neg a b h] at h3
  exact (fdiv_neg1 a b (by omega) (by omega)).2.symm
theorem modp2 (a b : Int) (hb2 : b ≤ 9223372036854775807) (h : a < 0) (hb : 1 < b) (h3 : ¬ a.tmod b = 0) : wrap64 (a.tmod b + b) = a % b := by
  have h4 := tmod_neg a b h
  rw [h4] at h3
  have e := (fdiv_neg2 a b (by omega) (by omega)).2
  have h1 := Int.emod_nonneg a (show b ≠ 0 by omega)
  have h2 := Int.emod_lt_of_pos a (show 0 < b by omega)
  rw [h4, show -(-a % b) + b = a % b by omega]
  exact IntWalk.wrap64_in _ ⟨by omega, by omega⟩

end Go.Proofs.YtcdkeiolblifkaaDoor
