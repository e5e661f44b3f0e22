/-
  PLAIN LAWS OF THE SEASONS: a day's run by its month.
-/
import Derived.Test.YtnaoadmffnbalaaDoorSeasonsB
namespace Go.Proofs.YtnaoadmffnbalaaDoor
open Go.RowKit
/-- The first day of the month of a number. -/
def mS (t : Int) : Int := Cal.sm (t / 12) (t % 12 + 1)
theorem mS_succ (t : Int) : mS (t + 1) = mS t + Cal.mlen (t / 12) (t % 12 + 1) := by
  have h := sm_succ (t / 12) (t % 12 + 1) (by omega) (by omega)
  unfold mS
  rw [← h]
  by_cases hc : t % 12 = 11
  · have a1 : (t + 1) / 12 = t / 12 + 1 := by omega
    have a2 : (t + 1) % 12 + 1 = 1 := by omega
    have a3 : t % 12 + 1 + 1 = 13 := by omega
    rw [a1, a2, a3, sm_13, sm_one]
  · have a1 : (t + 1) / 12 = t / 12 := by omega
    have a2 : (t + 1) % 12 + 1 = t % 12 + 1 + 1 := by omega
    rw [a1, a2]
theorem mS_le (t : Int) (n : Nat) : mS t ≤ mS (t + n) := by
  induction n with
  | zero => simp
  | succ n ih =>
    have h := mS_succ (t + n)
    have hb := Cal.mlen_bd ((t + n) / 12) ((t + n) % 12 + 1)
    have e : t + ((n + 1 : Nat) : Int) = t + n + 1 := by omega
    rw [e]
    omega
theorem mS_mono {a b : Int} (h : a ≤ b) : mS a ≤ mS b := by
  have := mS_le a (b - a).toNat
  have e : a + ((b - a).toNat : Int) = b := by omega
  rwa [e] at this
/-- The number of a day's month. -/
def tOf (d : Int) : Int := mi (Cal.yr d) (mo d)
theorem tOf_spec (d : Int) : mS (tOf d) ≤ d ∧ d < mS (tOf d + 1) := by
  obtain ⟨h1, h2, h3, h4⟩ := mo_spec d
  have a1 : tOf d / 12 = Cal.yr d := by unfold tOf mi; omega
  have a2 : tOf d % 12 + 1 = mo d := by unfold tOf mi; omega
  rw [mS_succ]
  unfold mS
  rw [a1, a2]
  have h := sm_succ (Cal.yr d) (mo d) (by omega) (by omega)
  exact ⟨h3, by rw [← h]; exact h4⟩
theorem mS_iff (a d : Int) : mS a ≤ d ↔ a ≤ tOf d := by
  obtain ⟨h1, h2⟩ := tOf_spec d
  constructor
  · intro h
    by_cases hc : a ≤ tOf d
    · exact hc
    · have := mS_mono (show tOf d + 1 ≤ a by omega)
      omega
  · intro h
    have := mS_mono h
    omega
theorem sLo_eq (y c : Int) (h : IsC c) : sLo y c = mS (mi y (fromS c)) := by
  obtain ⟨b1, b2, b3, b4⟩ := code_bd c h
  have a1 : mi y (fromS c) / 12 = y := by unfold mi; omega
  have a2 : mi y (fromS c) % 12 + 1 = fromS c := by unfold mi; omega
  unfold sLo mS
  rw [a1, a2]
theorem sHi_eq (y c : Int) : sHi y c = mS (lastS y c + 1) - 1 := by
  rw [mS_succ]
  unfold sHi mS
  rw [sm_succ _ _ (by omega) (by omega)]
/-- A code's run of a year has a day exactly if its months have the day's. -/
theorem in_iff (z d c : Int) (h : IsC c) : (sLo z c ≤ d ∧ d ≤ sHi z c) ↔ (mi z (fromS c) ≤ tOf d ∧ tOf d ≤ lastS z c) := by
  rw [sLo_eq z c h, sHi_eq, mS_iff]
  have h2 := mS_iff (lastS z c + 1) d
  constructor
  · rintro ⟨a, b⟩
    exact ⟨a, by
      by_cases hc : lastS z c + 1 ≤ tOf d
      · have := h2.2 hc
        omega
      · omega⟩
  · rintro ⟨a, b⟩
    exact ⟨a, by
      by_cases hc : mS (lastS z c + 1) ≤ d
      · have := h2.1 hc
        omega
      · omega⟩
theorem in_last (d c : Int) (h : IsC c) : (IsSY (Cal.yr d - 1) c ∧ sLo (Cal.yr d - 1) c ≤ d ∧ d ≤ sHi (Cal.yr d - 1) c) ↔ (mo d < fromS c ∧ IsOf d c) := by
  obtain ⟨b1, b2, b3, b4⟩ := code_bd c h
  obtain ⟨m1, m2⟩ := mo_bd d
  rw [in_iff _ _ _ h]
  unfold IsOf ofM ofY lastS tOf mi
  by_cases hl : mo d < fromS c
  · rw [if_pos hl, if_pos hl]
    constructor
    · rintro ⟨a, b1, b2⟩
      exact ⟨hl, by omega, a⟩
    · rintro ⟨a, b, e⟩
      exact ⟨e, by omega, by omega⟩
  · constructor
    · rintro ⟨a, b1, b2⟩
      omega
    · rintro ⟨a, b⟩
      exact absurd a hl
theorem in_this (d c : Int) (h : IsC c) : (IsSY (Cal.yr d) c ∧ sLo (Cal.yr d) c ≤ d ∧ d ≤ sHi (Cal.yr d) c) ↔ (¬ mo d < fromS c ∧ IsOf d c) := by
  obtain ⟨b1, b2, b3, b4⟩ := code_bd c h
  obtain ⟨m1, m2⟩ := mo_bd d
  rw [in_iff _ _ _ h]
  unfold IsOf ofM ofY lastS tOf mi
  by_cases hl : mo d < fromS c
  · constructor
    · rintro ⟨a, b1, b2⟩
      omega
    · rintro ⟨a, b⟩
      exact absurd hl a
  · rw [if_neg hl, if_neg hl]
    constructor
    · rintro ⟨a, b1, b2⟩
      exact ⟨hl, by omega, a⟩
    · rintro ⟨a, b, e⟩
      exact ⟨e, by omega, by omega⟩
end Go.Proofs.YtnaoadmffnbalaaDoor
