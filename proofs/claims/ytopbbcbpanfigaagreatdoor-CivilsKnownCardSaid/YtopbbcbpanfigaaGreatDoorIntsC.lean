/-
  WALKS OF circa/ints: Div, Mod, Pow10, Gcd.
-/
import Derived.Test.YtopbbcbpanfigaaGreatDoorIntsB
namespace Go.Proofs.YtopbbcbpanfigaaGreatDoor
open Go.RowKit
/-- The quotient, rounded down, and what is left. -/
def fd (a b : Int) : Int := if a.tmod b ≠ 0 ∧ decide (a < 0) ≠ decide (b < 0) then a.tdiv b - 1 else a.tdiv b
def fm (a b : Int) : Int := if a.tmod b ≠ 0 ∧ decide (a < 0) ≠ decide (b < 0) then a.tmod b + b else a.tmod b
theorem tmod_sign (a b : Int) (hb : b ≠ 0) : (0 ≤ a → 0 ≤ a.tmod b ∧ a.tmod b < b.natAbs) ∧ (a < 0 → a.tmod b ≤ 0 ∧ -(b.natAbs : Int) < a.tmod b) := by
  constructor
  · intro h
    have hl : (a.tmod b).natAbs < b.natAbs := by rw [Int.natAbs_tmod]; exact Nat.mod_lt _ (by omega)
    have := Int.tmod_nonneg b h
    omega
  · intro h
    have e : a.tmod b = -((-a).tmod b) := by
      have := Int.neg_tmod (a := -a) (b := b)
      rwa [Int.neg_neg] at this
    have h1 : 0 ≤ (-a).tmod b := Int.tmod_nonneg _ (by omega)
    have hl : (a.tmod b).natAbs < b.natAbs := by rw [Int.natAbs_tmod]; exact Nat.mod_lt _ (by omega)
    omega
structure DivM (a b q m : Int) : Prop where
  e : q * b + m = a
  p : 0 < b → 0 ≤ m ∧ m < b
  n : b < 0 → b < m ∧ m ≤ 0
theorem fd_fm (a b : Int) (hb : b ≠ 0) : DivM a b (fd a b) (fm a b) := by
  have h := Int.mul_tdiv_add_tmod a b
  rw [Int.mul_comm] at h
  obtain ⟨s1, s2⟩ := tmod_sign a b hb
  unfold fd fm
  by_cases hc : a.tmod b ≠ 0 ∧ decide (a < 0) ≠ decide (b < 0)
  · rw [if_pos hc, if_pos hc]
    obtain ⟨h1, h2⟩ := hc
    refine ⟨by rw [Int.sub_mul]; omega, ?_, ?_⟩
    · intro hb
      have ha : a < 0 := by
        by_cases ha : a < 0
        · exact ha
        · simp [ha, show ¬ b < 0 by omega] at h2
      have := s2 ha
      omega
    · intro hb
      have ha : ¬ a < 0 := by
        intro ha
        simp [ha, hb] at h2
      have := s1 (by omega)
      omega
  · rw [if_neg hc, if_neg hc]
    refine ⟨h, ?_, ?_⟩
    · intro hb
      by_cases ha : a < 0
      · have h0 : a.tmod b = 0 := by
          by_cases h0 : a.tmod b = 0
          · exact h0
          · exact absurd ⟨h0, by simp [ha, show ¬ b < 0 by omega]⟩ hc
        omega
      · have := s1 (by omega)
        omega
    · intro hb
      by_cases ha : a < 0
      · have := s2 ha
        omega
      · have h0 : a.tmod b = 0 := by
          by_cases h0 : a.tmod b = 0
          · exact h0
          · exact absurd ⟨h0, by simp [ha, hb]⟩ hc
        omega
theorem DivM.mono {a c b q m q' m' : Int} (h : DivM a b q m) (h' : DivM c b q' m') (hb : 0 < b) (hac : a ≤ c) : q ≤ q' := by
  have p1 := h.p hb
  have p2 := h'.p hb
  have e1 := h.e
  have e2 := h'.e
  by_cases hc : q ≤ q'
  · exact hc
  · have : (q' + 1) * b ≤ q * b := Int.mul_le_mul_of_nonneg_right (by omega) (by omega)
    rw [Int.add_mul] at this
    omega
theorem tdiv_in (a b : Int) (ha : I64 a) (hb : b ≠ 0) (h1 : b ≠ -1) : I64 (a.tdiv b) ∧ (a.tmod b ≠ 0 → I64 (a.tdiv b - 1)) := by
  by_cases hb1 : b = 1
  · subst hb1
    simp [Int.tdiv_one]
    exact ha
  · have hq : (a.tdiv b).natAbs = a.natAbs / b.natAbs := Int.natAbs_tdiv a b
    have h2 : 2 ≤ b.natAbs := by omega
    have h3 : a.natAbs / b.natAbs ≤ a.natAbs / 2 := Nat.div_le_div_left h2 (by omega)
    obtain ⟨a1, a2⟩ := ha
    exact ⟨⟨by omega, by omega⟩, fun _ => ⟨by omega, by omega⟩⟩
set_option maxHeartbeats 1000000 in
set_option maxRecDepth 10000 in
theorem idiv_yes (a b : Int) (w : World) (ha : I64 a) (hb : I64 b) (h0 : b ≠ 0) (hm : ¬ (a = -9223372036854775808 ∧ b = -1)) :
    Calls Tryz.prog 81 #[.int .i64 a, .int .i64 b] w fun e w' => e = .returned (.tuple #[.int .i64 (fd a b), .int .i64 0]) ∧ w = w' := by
  have c0 : (b == 0) = false := by simpa using h0
  by_cases h1 : b = -1
  · subst h1
    have e : fd a (-1) = 0 - a := by
      unfold fd
      rw [if_neg (by simp [Int.tmod_neg, Int.tmod_one])]
      simp [Int.tdiv_neg]
    rw [e]
    have hA := Lib.hid ha
    have hN : I64 (0 - a) := by obtain ⟨a1, a2⟩ := ha; exact ⟨by omega, by omega⟩
    have HN := Lib.hid hN
    clear ha hb hm e h0 hN c0
    go_enter Tryz.func81, Tryz.ntmps81
    go_wp2_with fail
    refine (isub_fits 0 a _ (by decide) hA.out HN.out).mono ?_
    rintro e w1 ⟨rfl, rfl⟩
    go_wp2_with fail
    go_ret2
    exact ⟨ret2_i (by omega) rfl, rfl⟩
  · have c1 : (b == -1) = false := by simpa using h1
    obtain ⟨⟨t1, t2⟩, t3⟩ := tdiv_in a b ha h0 h1
    clear ha hb hm h1
    by_cases hz : a.tmod b = 0
    · have c2 : (a.tmod b == 0) = true := by simpa using hz
      have c3 : (a.tmod b != 0) = false := by simpa using hz
      have HE := Lib.hid (show fd a b = a.tdiv b from if_neg (fun h => h.1 hz))
      clear hz t3
      go_enter Tryz.func81, Tryz.ntmps81
      go_wp2_with fail
      go_ret2
      exact ⟨ret2_i HE.out.symm rfl, rfl⟩
    · have c2 : (a.tmod b == 0) = false := by simpa using hz
      have c3 : (a.tmod b != 0) = true := by simpa using hz
      obtain ⟨t4, t5⟩ := t3 hz
      clear t3
      by_cases hs : decide (a < 0) = decide (b < 0)
      · have HE := Lib.hid (show fd a b = a.tdiv b from if_neg (fun h => h.2 hs))
        clear hz
        cases hsb : decide (b < 0)
        all_goals
          rw [hsb] at hs
          go_enter Tryz.func81, Tryz.ntmps81
          go_wp2_with fail
          go_ret2
          exact ⟨ret2_i HE.out.symm rfl, rfl⟩
      · have HE := Lib.hid (show fd a b = a.tdiv b - 1 from if_pos ⟨hz, hs⟩)
        clear hz
        cases hsb : decide (b < 0)
        all_goals
          rw [hsb] at hs
          have hs := Bool.eq_not_of_ne hs
          simp only [Bool.not_true, Bool.not_false] at hs
          go_enter Tryz.func81, Tryz.ntmps81
          go_wp2_with fail
          go_ret2
          exact ⟨ret2_i HE.out.symm rfl, rfl⟩
theorem idiv_zero (a : Int) (w : World) :
    Calls Tryz.prog 81 #[.int .i64 a, .int .i64 0] w fun e w' => e = .returned (.tuple #[.int .i64 0, .int .i64 1]) ∧ w = w' := by
  go_enter Tryz.func81, Tryz.ntmps81
  go_wp2_with fail
  go_ret2
  exact ⟨rfl, rfl⟩
theorem idiv_over (w : World) :
    Calls Tryz.prog 81 #[.int .i64 (-9223372036854775808), .int .i64 (-1)] w fun e w' => e = .returned (.tuple #[.int .i64 0, .int .i64 15]) ∧ w = w' := by
  go_enter Tryz.func81, Tryz.ntmps81
  go_wp2_with fail
  refine (isub_over 0 (-9223372036854775808) _ (by decide) (by decide) (by decide)).mono ?_
  rintro e w1 ⟨rfl, rfl⟩
  go_wp2_with fail
  go_ret2
  exact ⟨rfl, rfl⟩
theorem imod_zero (a : Int) (w : World) :
    Calls Tryz.prog 57 #[.int .i64 a, .int .i64 0] w fun e w' => e = .returned (.tuple #[.int .i64 0, .int .i64 1]) ∧ w = w' := by
  go_enter Tryz.func57, Tryz.ntmps57
  go_wp2_with fail
  go_ret2
  exact ⟨rfl, rfl⟩
theorem fm_cond (a b : Int) (hb : b ≠ 0) (h : a.tmod b ≠ 0) : decide (a.tmod b < 0) = decide (a < 0) := by
  obtain ⟨s1, s2⟩ := tmod_sign a b hb
  rw [Bool.eq_iff_iff]; simp only [decide_eq_true_eq]
  by_cases ha : a < 0
  · have := s2 ha; omega
  · have := s1 (by omega); omega
set_option maxHeartbeats 1000000 in
set_option maxRecDepth 10000 in
theorem imod_yes (a b : Int) (w : World) (ha : I64 a) (hb : I64 b) (h0 : b ≠ 0) :
    Calls Tryz.prog 57 #[.int .i64 a, .int .i64 b] w fun e w' => e = .returned (.tuple #[.int .i64 (fm a b), .int .i64 0]) ∧ w = w' := by
  have c0 : (b == 0) = false := by simpa using h0
  by_cases h1 : b = -1
  · subst h1
    have e : fm a (-1) = 0 := by
      unfold fm
      rw [if_neg (by simp [Int.tmod_neg, Int.tmod_one])]
      simp [Int.tmod_neg, Int.tmod_one]
    rw [e]
    clear ha hb e h0 c0
    go_enter Tryz.func57, Tryz.ntmps57
    go_wp2_with fail
    go_ret2
    exact ⟨rfl, rfl⟩
  · have c1 : (b == -1) = false := by simpa using h1
    obtain ⟨s1, s2⟩ := tmod_sign a b h0
    obtain ⟨a1, a2⟩ := ha
    obtain ⟨b1, b2⟩ := hb
    have hcond := fm_cond a b h0
    by_cases hz : a.tmod b = 0
    · have c2 : (a.tmod b == 0) = true := by simpa using hz
      have c3 : (a.tmod b != 0) = false := by simpa using hz
      have HE := Lib.hid (show fm a b = 0 by unfold fm; rw [if_neg (fun h => h.1 hz)]; exact hz)
      have HZ := Lib.hid hz
      clear hz s1 s2 hcond h1
      go_enter Tryz.func57, Tryz.ntmps57
      go_wp2_with fail
      go_ret2
      exact ⟨ret2_i (by rw [HE.out]; exact HZ.out) rfl, rfl⟩
    · have c2 : (a.tmod b == 0) = false := by simpa using hz
      have c3 : (a.tmod b != 0) = true := by simpa using hz
      have hlt : -9223372036854775808 ≤ a.tmod b + b ∧ a.tmod b + b ≤ 9223372036854775807 ∨ decide (a < 0) = decide (b < 0) := by
        by_cases hs : decide (a < 0) = decide (b < 0)
        · exact Or.inr hs
        · left
          by_cases ha : a < 0
          · have hb : ¬ b < 0 := by intro hb; simp [ha, hb] at hs
            have := s2 ha; omega
          · have hb : b < 0 := by
              by_cases hb : b < 0
              · exact hb
              · simp [ha, hb] at hs
            have := s1 (by omega); omega
      rw [← hcond hz] at hlt
      by_cases hs : decide (a.tmod b < 0) = decide (b < 0)
      · have HE := Lib.hid (show fm a b = a.tmod b from if_neg (fun h => h.2 (by rw [← hcond hz]; exact hs)))
        clear hz s1 s2 hcond h1 hlt
        cases hsb : decide (b < 0)
        all_goals
          rw [hsb] at hs
          go_enter Tryz.func57, Tryz.ntmps57
          go_wp2_with fail
          go_ret2
          exact ⟨ret2_i HE.out.symm rfl, rfl⟩
      · have HE := Lib.hid (show fm a b = a.tmod b + b from if_pos ⟨hz, by rw [← hcond hz]; exact hs⟩)
        obtain ⟨t1, t2⟩ : -9223372036854775808 ≤ a.tmod b + b ∧ a.tmod b + b ≤ 9223372036854775807 := by
          rcases hlt with h | h
          · exact h
          · exact absurd h hs
        clear hz s1 s2 hcond h1 hlt
        cases hsb : decide (b < 0)
        all_goals
          rw [hsb] at hs
          have hs := Bool.eq_not_of_ne hs
          simp only [Bool.not_true, Bool.not_false] at hs
          go_enter Tryz.func57, Tryz.ntmps57
          go_wp2_with fail
          go_ret2
          exact ⟨ret2_i HE.out.symm rfl, rfl⟩
theorem p10_18 (k : Nat) (h : k ≤ 18) : 1 ≤ Dg.p10 k ∧ Dg.p10 k ≤ 1000000000000000000 := by
  have h1 := Dg.p10_pos k
  have h2 := Dg.p10_mono h
  have h3 : Dg.p10 18 = 1000000000000000000 := by decide
  omega
theorem gcd_step (X Y : Nat) : Nat.gcd Y (X % Y) = Nat.gcd X Y := by
  rw [Nat.gcd_comm Y, ← Nat.gcd_rec, Nat.gcd_comm]
end Go.Proofs.YtopbbcbpanfigaaGreatDoor
