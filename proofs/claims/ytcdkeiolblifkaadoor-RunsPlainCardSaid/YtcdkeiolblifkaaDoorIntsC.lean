/-
  WALKS OF circa/ints: Div, Mod, Pow10, Gcd.
-/
import Derived.Test.YtcdkeiolblifkaaDoorIntsB
namespace Go.Proofs.YtcdkeiolblifkaaDoor
open Go.RowKit
/-- The quotient, rounded down, and what is left. -/
def fd (a b : Int) : Int := if a.tmod b ≠ 0 ∧ decide (a < 0) ≠ decide (b < 0) then a.tdiv b - 1 else a.tdiv b
def fm (a b : Int) : Int := if a.tmod b ≠ 0 ∧ decide (a < 0) ≠ decide (b < 0) then a.tmod b + b else a.tmod b
theorem tmod_sign (a b : Int) (hb : b ≠ 0) : (0 ≤ a → 0 ≤ a.tmod b ∧ a.tmod b < b.natAbs) ∧ (a < 0 → a.tmod b ≤ 0 ∧ -(b.natAbs : Int) < a.tmod b) := by
  constructor
  · intro h
    have hl : (a.tmod b).natAbs < b.natAbs := by rw [Int.natAbs_tmod]; exact Nat.mod_lt _ (by omega)
    have := Int.tmod_nonneg b h
    omega
  · intro h
    have e : a.tmod b = -((-a).tmod b) := by
      have := Int.neg_tmod (a := -a) (b := b)
      rwa [Int.neg_neg] at this
    have h1 : 0 ≤ (-a).tmod b := Int.tmod_nonneg _ (by omega)
    have hl : (a.tmod b).natAbs < b.natAbs := by rw [Int.natAbs_tmod]; exact Nat.mod_lt _ (by omega)
    omega
structure DivM (a b q m : Int) : Prop where
  e : q * b + m = a
  p : 0 < b → 0 ≤ m ∧ m < b
  n : b < 0 → b < m ∧ m ≤ 0
theorem fd_fm (a b : Int) (hb : b ≠ 0) : DivM a b (fd a b) (fm a b) := by
  have h := Int.mul_tdiv_add_tmod a b
  rw [Int.mul_comm] at h
  obtain ⟨s1, s2⟩ := tmod_sign a b hb
  unfold fd fm
  by_cases hc : a.tmod b ≠ 0 ∧ decide (a < 0) ≠ decide (b < 0)
  · rw [if_pos hc, if_pos hc]
    obtain ⟨h1, h2⟩ := hc
    refine ⟨by rw [Int.sub_mul]; omega, ?_, ?_⟩
    · intro hb
      have ha : a < 0 := by
        by_cases ha : a < 0
        · exact ha
        · simp [ha, show ¬ b < 0 by omega] at h2
      have := s2 ha
      omega
    · intro hb
      have ha : ¬ a < 0 := by
        intro ha
        simp [ha, hb] at h2
      have := s1 (by omega)
      omega
  · rw [if_neg hc, if_neg hc]
    refine ⟨h, ?_, ?_⟩
    · intro hb
      by_cases ha : a < 0
      · have h0 : a.tmod b = 0 := by
          by_cases h0 : a.tmod b = 0
          · exact h0
          · exact absurd ⟨h0, by simp [ha, show ¬ b < 0 by omega]⟩ hc
        omega
      · have := s1 (by omega)
        omega
    · intro hb
      by_cases ha : a < 0
      · have := s2 ha
        omega
      · have h0 : a.tmod b = 0 := by
          by_cases h0 : a.tmod b = 0
          · exact h0
          · exact absurd ⟨h0, by simp [ha, hb]⟩ hc
        omega
theorem DivM.mono {a c b q m q' m' : Int} (h : DivM a b q m) (h' : DivM c b q' m') (hb : 0 < b) (hac : a ≤ c) : q ≤ q' := by
  have p1 := h.p hb
  have p2 := h'.p hb
  have e1 := h.e
  have e2 := h'.e
  by_cases hc : q ≤ q'
  · exact hc
  · have : (q' + 1) * b ≤ q * b := Int.mul_le_mul_of_nonneg_right (by omega) (by omega)
    rw [Int.add_mul] at this
    omega
theorem tdiv_in (a b : Int) (ha : I64 a) (hb : b ≠ 0) (h1 : b ≠ -1) : I64 (a.tdiv b) ∧ (a.tmod b ≠ 0 → I64 (a.tdiv b - 1)) := by
  by_cases hb1 : b = 1
  · subst hb1
    simp [Int.tdiv_one]
    exact ha
  · have hq : (a.tdiv b).natAbs = a.natAbs / b.natAbs := Int.natAbs_tdiv a b
    have h2 : 2 ≤ b.natAbs := by omega
    have h3 : a.natAbs / b.natAbs ≤ a.natAbs / 2 := Nat.div_le_div_left h2 (by omega)
    obtain ⟨a1, a2⟩ := ha
    exact ⟨⟨by omega, by omega⟩, fun _ => ⟨by omega, by omega⟩⟩
theorem fm_cond (a b : Int) (hb : b ≠ 0) (h : a.tmod b ≠ 0) : decide (a.tmod b < 0) = decide (a < 0) := by
  obtain ⟨s1, s2⟩ := tmod_sign a b hb
  rw [Bool.eq_iff_iff]; simp only [decide_eq_true_eq]
  by_cases ha : a < 0
  · have := s2 ha; omega
  · have := s1 (by omega); omega
theorem p10_18 (k : Nat) (h : k ≤ 18) : 1 ≤ Dg.p10 k ∧ Dg.p10 k ≤ 1000000000000000000 := by
  have h1 := Dg.p10_pos k
  have h2 := Dg.p10_mono h
  have h3 : Dg.p10 18 = 1000000000000000000 := by decide
  omega
theorem gcd_step (X Y : Nat) : Nat.gcd Y (X % Y) = Nat.gcd X Y := by
  rw [Nat.gcd_comm Y, ← Nat.gcd_rec, Nat.gcd_comm]
end Go.Proofs.YtcdkeiolblifkaaDoor
