/-
  PLAIN ARITHMETIC OF THE CALENDAR: years, months, days, by numbers alone. No program in sight.
-/
namespace Go.Proofs.YtopbbcbpanfigaaGreatDoor
namespace Cal
/-- leap days ahead of the year y -/
def bf (y : Int) : Int := 1 + (y - 1) / 4 - (y - 1) / 100 + (y - 1) / 400
def sy (y : Int) : Int := 365 * y + bf y
def lp (y : Int) : Bool := decide (y % 400 = 0 ∨ (y % 4 = 0 ∧ y % 100 ≠ 0))
def lpN (y : Int) : Int := if lp y = true then 1 else 0
def len (y : Int) : Int := 365 + lpN y
theorem lpN_eq (y : Int) : lpN y = if y % 400 = 0 ∨ (y % 4 = 0 ∧ y % 100 ≠ 0) then 1 else 0 := by
  unfold lpN lp; simp only [decide_eq_true_eq]
theorem lpN_bd (y : Int) : 0 ≤ lpN y ∧ lpN y ≤ 1 := by unfold lpN; split <;> omega
theorem bf_succ (y : Int) : bf (y + 1) = bf y + lpN y := by
  rw [lpN_eq]; unfold bf; split <;> omega
theorem sy_succ (y : Int) : sy (y + 1) = sy y + len y := by
  unfold sy len; rw [bf_succ]; omega
theorem sy_cycle (q n : Int) : sy (400 * q + n) = 146097 * q + sy n := by unfold sy bf; omega
theorem bf_cycle (q n : Int) : bf (400 * q + n) = 97 * q + bf n := by unfold bf; omega
theorem lpN_cycle (q n : Int) : lpN (400 * q + n) = lpN n := by
  rw [lpN_eq, lpN_eq]; split <;> split <;> omega
theorem lp_cycle (q n : Int) : lp (400 * q + n) = lp n := by
  unfold lp; congr 1; apply propext; omega
theorem sy_mono (a b : Int) (h : a ≤ b) : sy a ≤ sy b := by unfold sy bf; omega
theorem sy_lt (a b : Int) (h : a < b) : sy a + 365 ≤ sy b := by unfold sy bf; omega
theorem sy_zero : sy 0 = 0 := by decide
theorem sy_400 : sy 400 = 146097 := by decide
theorem sy_uniq (d y z : Int) (h1 : sy y ≤ d) (h2 : d < sy (y + 1)) (h3 : sy z ≤ d) (h4 : d < sy (z + 1)) : y = z := by
  rcases Int.lt_trichotomy y z with h | h | h
  · have := sy_mono (y + 1) z (by omega); omega
  · exact h
  · have := sy_mono (z + 1) y (by omega); omega
theorem bf_mono (a b : Int) (h : a ≤ b) : bf a ≤ bf b := by unfold bf; omega
/-- how many of the first 400 years end at most at r -/
def cnt (r : Int) : Nat := (List.range 400).countP (fun i : Nat => !(decide (r < sy ((i : Int) + 1))))
theorem cnt_aux (r : Int) (k : Nat) (h1 : ∀ i : Nat, i < k → sy (i + 1) ≤ r) (h2 : ∀ i : Nat, k ≤ i → r < sy (i + 1)) :
    ∀ n, (List.range n).countP (fun i : Nat => !(decide (r < sy ((i : Int) + 1)))) = min n k := by
  intro n
  induction n with
  | zero => simp
  | succ n ih =>
    rw [List.range_succ, List.countP_append, ih]
    by_cases h : n < k
    · have h3 := h1 n h
      have h4 : ¬ r < sy ((n : Int) + 1) := by omega
      simp only [List.countP_cons, List.countP_nil, h4, decide_false, Bool.not_false, if_true]
      omega
    · have h3 := h2 n (by omega)
      simp only [List.countP_cons, List.countP_nil, h3, decide_true, Bool.not_true, Bool.false_eq_true, if_false]
      omega
theorem year_ex (r : Int) (h0 : 0 ≤ r) : ∀ k : Nat, r < sy (k + 1) → ∃ y : Nat, y ≤ k ∧ sy y ≤ r ∧ r < sy (y + 1) := by
  intro k
  induction k with
  | zero => intro h; exact ⟨0, by omega, by simpa [sy_zero] using h0, h⟩
  | succ k ih =>
    intro h
    by_cases h' : r < sy (k + 1)
    · obtain ⟨y, a, b, c⟩ := ih h'; exact ⟨y, by omega, b, c⟩
    · exact ⟨k + 1, by omega, by simp; omega, h⟩
theorem cnt_spec (r : Int) (h0 : 0 ≤ r) (h1 : r < 146097) : cnt r ≤ 399 ∧ sy (cnt r) ≤ r ∧ r < sy (cnt r + 1) := by
  obtain ⟨y, a, b, c⟩ := year_ex r h0 399 (by simpa [sy_400] using h1)
  have e : cnt r = min 400 y := cnt_aux r y (fun i hi => by have := sy_mono (i + 1) y (by omega); omega) (fun i hi => by have := sy_mono (y + 1) (i + 1) (by omega); omega) 400
  have e' : cnt r = y := by omega
  rw [e']; exact ⟨a, b, c⟩
/-- the year that has a day -/
def yr (d : Int) : Int := 400 * (d / 146097) + cnt (d % 146097)
theorem yr_spec (d : Int) : sy (yr d) ≤ d ∧ d < sy (yr d + 1) := by
  have h := cnt_spec (d % 146097) (by omega) (by omega)
  unfold yr
  rw [sy_cycle, Int.add_assoc, sy_cycle]
  omega
theorem yr_of (d y : Int) (h1 : sy y ≤ d) (h2 : d < sy (y + 1)) : yr d = y := sy_uniq d _ _ (yr_spec d).1 (yr_spec d).2 h1 h2
theorem yr_sy (y : Int) : yr (sy y) = y := yr_of _ _ (by omega) (by have := sy_lt y (y + 1) (by omega); omega)
theorem yr_bd (d : Int) (h1 : -9223372036854775808 ≤ d) (h2 : d ≤ 9223372036854775807) : -25253000000000000 ≤ yr d ∧ yr d ≤ 25253000000000000 := by
  have h := yr_spec d
  have e1 : sy (-25253000000000000) = -9223468852500000000 := by decide +kernel
  have e2 : sy 25253000000000000 = 9223468852500000000 := by decide +kernel
  constructor
  · apply Decidable.byContradiction
    intro hc
    have := sy_mono (yr d + 1) (-25253000000000000) (by omega)
    omega
  · apply Decidable.byContradiction
    intro hc
    have := sy_mono 25253000000000000 (yr d) (by omega)
    omega
/-- months: how long, and how many days of the year lie ahead -/
def mlen (y m : Int) : Int := if m = 2 then 28 + lpN y else if m = 4 ∨ m = 6 ∨ m = 9 ∨ m = 11 then 30 else 31
def cum (y m : Int) : Int := if m ≤ 2 then 31 * (m - 1) else (367 * m - 362) / 12 - 2 + lpN y
def sm (y m : Int) : Int := sy y + cum y m
theorem mlen_bd (y m : Int) : 28 ≤ mlen y m ∧ mlen y m ≤ 31 := by
  have := lpN_bd y; unfold mlen; split <;> (try split) <;> omega
theorem cum_succ (y m : Int) (h1 : 1 ≤ m) (h2 : m ≤ 12) : cum y (m + 1) = cum y m + mlen y m := by
  have := lpN_bd y
  have h : m = 1 ∨ m = 2 ∨ m = 3 ∨ m = 4 ∨ m = 5 ∨ m = 6 ∨ m = 7 ∨ m = 8 ∨ m = 9 ∨ m = 10 ∨ m = 11 ∨ m = 12 := by omega
  rcases h with rfl | rfl | rfl | rfl | rfl | rfl | rfl | rfl | rfl | rfl | rfl | rfl <;> simp [cum, mlen] <;> omega
theorem cum_one (y : Int) : cum y 1 = 0 := by simp [cum]
theorem cum_13 (y : Int) : cum y 13 = len y := by simp [cum, len]
theorem cum_bd (y m : Int) (h1 : 1 ≤ m) (h2 : m ≤ 13) : 0 ≤ cum y m ∧ cum y m ≤ 366 := by
  have := lpN_bd y
  unfold cum; split <;> omega
theorem cum_mono (y a b : Int) (h1 : 1 ≤ a) (h2 : a ≤ b) (h3 : b ≤ 13) : cum y a ≤ cum y b := by
  have := lpN_bd y
  unfold cum; split <;> split <;> omega
theorem cum_lt (y a b : Int) (h1 : 1 ≤ a) (h2 : a < b) (_h3 : b ≤ 13) : cum y a + 28 ≤ cum y b := by
  have := lpN_bd y
  unfold cum; split <;> split <;> omega
end Cal
end Go.Proofs.YtopbbcbpanfigaaGreatDoor
