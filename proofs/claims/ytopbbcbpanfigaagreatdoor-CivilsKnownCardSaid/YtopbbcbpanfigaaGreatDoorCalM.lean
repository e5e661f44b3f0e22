/-
  PLAIN ARITHMETIC OF MONTHS.
-/
import Derived.Test.YtopbbcbpanfigaaGreatDoorCal
namespace Go.Proofs.YtopbbcbpanfigaaGreatDoor

theorem sm_succ (y m : Int) (h1 : 1 ≤ m) (h2 : m ≤ 12) : Cal.sm y (m + 1) = Cal.sm y m + Cal.mlen y m := by
  unfold Cal.sm; rw [Cal.cum_succ y m h1 h2]; omega
theorem sm_mono (y a b : Int) (h1 : 1 ≤ a) (h2 : a ≤ b) (h3 : b ≤ 13) : Cal.sm y a ≤ Cal.sm y b := by
  have := Cal.cum_mono y a b h1 h2 h3
  unfold Cal.sm; omega
theorem sm_one (y : Int) : Cal.sm y 1 = Cal.sy y := by unfold Cal.sm; rw [Cal.cum_one]; omega
theorem sm_13 (y : Int) : Cal.sm y 13 = Cal.sy (y + 1) := by unfold Cal.sm; rw [Cal.cum_13, Cal.sy_succ]

theorem count_upto (p : Nat → Bool) (k : Nat) (h1 : ∀ i, i < k → p i = true) (h2 : ∀ i, k ≤ i → p i = false) : ∀ n, (List.range n).countP p = min n k := by
  intro n
  induction n with
  | zero => simp
  | succ n ih =>
    rw [List.range_succ, List.countP_append, ih]
    by_cases h : n < k
    · simp only [List.countP_cons, List.countP_nil, h1 n h, if_true]; omega
    · simp only [List.countP_cons, List.countP_nil, h2 n (by omega), Bool.false_eq_true, if_false]; omega
theorem find_step (f : Nat → Int) (d : Int) (h0 : f 0 ≤ d) : ∀ k, d < f (k + 1) → ∃ j, j ≤ k ∧ f j ≤ d ∧ d < f (j + 1) := by
  intro k
  induction k with
  | zero => intro h; exact ⟨0, by omega, h0, h⟩
  | succ k ih =>
    intro h
    by_cases h' : d < f (k + 1)
    · obtain ⟨j, a, b, c⟩ := ih h'; exact ⟨j, by omega, b, c⟩
    · exact ⟨k + 1, by omega, by omega, h⟩
/-- The month that has a day. -/
def mo (d : Int) : Int := 1 + (((List.range 12).countP (fun i : Nat => decide (i < 11 ∧ Cal.sm (Cal.yr d) ((i : Int) + 2) ≤ d)) : Nat) : Int)
theorem mo_spec (d : Int) : 1 ≤ mo d ∧ mo d ≤ 12 ∧ Cal.sm (Cal.yr d) (mo d) ≤ d ∧ d < Cal.sm (Cal.yr d) (mo d + 1) := by
  have hy := Cal.yr_spec d
  unfold mo
  generalize Cal.yr d = y at hy ⊢
  obtain ⟨j, j1, j2, j3⟩ := find_step (fun k => Cal.sm y ((k : Int) + 1)) d (by simpa [sm_one] using hy.1) 11 (by simpa [sm_13] using hy.2)
  have hc := count_upto (fun i : Nat => decide (i < 11 ∧ Cal.sm y ((i : Int) + 2) ≤ d)) j
    (fun i hi => by
      have := sm_mono y ((i : Int) + 2) ((j : Int) + 1) (by omega) (by omega) (by omega)
      simp only [decide_eq_true_eq]
      exact ⟨by omega, by omega⟩)
    (fun i hi => by
      simp only [decide_eq_false_iff_not]
      rintro ⟨h1, h2⟩
      have := sm_mono y (((j + 1 : Nat) : Int) + 1) ((i : Int) + 2) (by omega) (by omega) (by omega)
      omega) 12
  rw [hc, show min 12 j = j by omega]
  refine ⟨by omega, by omega, ?_, ?_⟩
  · rw [Int.add_comm]; exact j2
  · rw [show 1 + (j : Int) + 1 = ((j + 1 : Nat) : Int) + 1 by omega]; exact j3
theorem mo_of (d y m : Int) (h1 : 1 ≤ m) (h2 : m ≤ 12) (h3 : Cal.sm y m ≤ d) (h4 : d < Cal.sm y (m + 1)) : Cal.yr d = y ∧ mo d = m := by
  have hy : Cal.yr d = y := by
    have a := sm_mono y 1 m (by omega) h1 (by omega)
    have b := sm_mono y (m + 1) 13 (by omega) (by omega) (by omega)
    rw [sm_one] at a
    rw [sm_13] at b
    exact Cal.yr_of d y (by omega) (by omega)
  refine ⟨hy, ?_⟩
  obtain ⟨s1, s2, s3, s4⟩ := mo_spec d
  rw [hy] at s3 s4
  rcases Int.lt_trichotomy (mo d) m with h | h | h
  · have := sm_mono y (mo d + 1) m (by omega) (by omega) (by omega); omega
  · exact h
  · have := sm_mono y (m + 1) (mo d) (by omega) (by omega) (by omega); omega
end Go.Proofs.YtopbbcbpanfigaaGreatDoor
