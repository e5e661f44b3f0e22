/-
  PLAIN LAWS OF DECIMAL DIGITS, THE LEAST FIRST.
-/
import Derived.Lib.ItoaNum
namespace Go.Proofs.YtopbbcbpanfigaaGreatDoor.Dg

def p10 : Nat → Int
  | 0 => 1
  | n + 1 => 10 * p10 n
def val : List Int → Int
  | [] => 0
  | d :: l => d + 10 * val l
/-- Digits. -/
def Digs (l : List Int) : Prop := ∀ d ∈ l, 0 ≤ d ∧ d ≤ 9
def dig (l : List Int) (i : Nat) : Int := l.getD i 0

theorem p10_pos (n : Nat) : 1 ≤ p10 n := by
  induction n with
  | zero => decide
  | succ n ih => rw [p10]; omega
theorem p10_add (m n : Nat) : p10 (m + n) = p10 m * p10 n := by
  induction m with
  | zero => simp [p10]
  | succ m ih => rw [Nat.succ_add, p10, ih, p10, Int.mul_assoc]
theorem p10_mono {m n : Nat} (h : m ≤ n) : p10 m ≤ p10 n := by
  obtain ⟨k, rfl⟩ : ∃ k, n = m + k := ⟨n - m, by omega⟩
  clear h
  induction k with
  | zero => exact Int.le_refl _
  | succ k ih =>
    have := p10_pos (m + k)
    rw [← Nat.add_assoc, p10]
    omega
theorem val_append (a b : List Int) : val (a ++ b) = val a + p10 a.length * val b := by
  induction a with
  | nil => simp [val, p10]
  | cons d a ih =>
    rw [List.cons_append, val, ih, val, List.length_cons, p10, Int.mul_assoc]
    omega
theorem val_snoc (l : List Int) (d : Int) : val (l ++ [d]) = val l + p10 l.length * d := by
  rw [val_append]; simp [val]
theorem Digs.cons {d : Int} {l : List Int} (h : Digs (d :: l)) : (0 ≤ d ∧ d ≤ 9) ∧ Digs l := ⟨h d (by simp), fun x hx => h x (by simp [hx])⟩
theorem Digs.append {a b : List Int} (h : Digs a) (k : Digs b) : Digs (a ++ b) := by
  intro d hd
  rcases List.mem_append.1 hd with hd | hd
  · exact h d hd
  · exact k d hd
theorem Digs.one {d : Int} (h : 0 ≤ d ∧ d ≤ 9) : Digs [d] := by intro x hx; simp at hx; subst hx; exact h
theorem Digs.nil : Digs [] := by intro d hd; simp at hd
theorem Digs.take {l : List Int} (h : Digs l) (n : Nat) : Digs (l.take n) := fun d hd => h d (List.mem_of_mem_take hd)
theorem Digs.drop {l : List Int} (h : Digs l) (n : Nat) : Digs (l.drop n) := fun d hd => h d (List.mem_of_mem_drop hd)
theorem dig_bd {l : List Int} (h : Digs l) (i : Nat) : 0 ≤ dig l i ∧ dig l i ≤ 9 := by
  unfold dig
  by_cases hi : i < l.length
  · have e : l.getD i 0 = l[i] := by simp [List.getD, hi]
    rw [e]; exact h _ (List.getElem_mem hi)
  · rw [show l.getD i 0 = 0 by simp [List.getD, Nat.not_lt.1 hi]]; omega
theorem dig_none {l : List Int} {i : Nat} (h : l.length ≤ i) : dig l i = 0 := by simp [dig, List.getD, h]
theorem dig_some {l : List Int} {i : Nat} (h : i < l.length) : l[i]? = some (dig l i) := by simp [dig, List.getD, h]
theorem val_nonneg {l : List Int} (h : Digs l) : 0 ≤ val l := by
  induction l with
  | nil => simp [val]
  | cons d l ih => have := h.cons; have := ih this.2; rw [val]; omega
theorem val_lt {l : List Int} (h : Digs l) : val l < p10 l.length := by
  induction l with
  | nil => simp [val, p10]
  | cons d l ih => have := h.cons; have := ih this.2; rw [val, List.length_cons, p10]; omega
theorem take_succ (l : List Int) (i : Nat) (h : i < l.length) : l.take (i + 1) = l.take i ++ [dig l i] := by
  rw [List.take_succ_eq_append_getElem h]; simp [dig, List.getD, h]
theorem val_take_succ (l : List Int) (i : Nat) : val (l.take (i + 1)) = val (l.take i) + p10 i * dig l i := by
  by_cases h : i < l.length
  · rw [take_succ l i h, val_snoc, List.length_take, Nat.min_eq_left (by omega)]
  · rw [List.take_of_length_le (by omega), List.take_of_length_le (by omega), dig_none (by omega)]; simp

/-! ### sums -/
def addS (a b : List Int) : Nat → List Int × Int
  | 0 => ([], 0)
  | i + 1 => ((addS a b i).1 ++ [(dig a i + dig b i + (addS a b i).2) % 10], (dig a i + dig b i + (addS a b i).2) / 10)
theorem addS_inv {a b : List Int} (ha : Digs a) (hb : Digs b) (i : Nat) :
    (addS a b i).1.length = i ∧ Digs (addS a b i).1 ∧ 0 ≤ (addS a b i).2 ∧ (addS a b i).2 ≤ 1 ∧ val (addS a b i).1 + p10 i * (addS a b i).2 = val (a.take i) + val (b.take i) := by
  induction i with
  | zero => simp [addS, Digs, val]
  | succ i ih =>
    obtain ⟨h1, h2, h3, h4, h5⟩ := ih
    have da := dig_bd ha i
    have db := dig_bd hb i
    simp only [addS]
    refine ⟨by simp [h1], h2.append (Digs.one (by omega)), by omega, by omega, ?_⟩
    rw [val_snoc, h1, val_take_succ, val_take_succ, p10]
    generalize (addS a b i).2 = c at *
    have e : dig a i + dig b i + c = 10 * ((dig a i + dig b i + c) / 10) + (dig a i + dig b i + c) % 10 := by omega
    generalize (dig a i + dig b i + c) / 10 = q at *
    generalize (dig a i + dig b i + c) % 10 = r at *
    have e2 : p10 i * (dig a i + dig b i + c) = p10 i * (10 * q + r) := by rw [e]
    rw [Int.mul_add, Int.mul_add, Int.mul_add, ← Int.mul_assoc, Int.mul_comm (p10 i) 10] at e2
    omega
theorem addS_end {a b : List Int} (ha : Digs a) (hb : Digs b) (i : Nat) (h1 : a.length < i) (h2 : b.length < i) : (addS a b i).2 = 0 := by
  match i, h1, h2 with
  | i + 1, h1, h2 =>
    have := addS_inv ha hb i
    simp only [addS]
    rw [dig_none (by omega), dig_none (by omega)]
    omega
theorem addS_val {a b : List Int} (ha : Digs a) (hb : Digs b) (i : Nat) (h1 : a.length ≤ i) (h2 : b.length ≤ i) (h3 : (addS a b i).2 = 0) : val (addS a b i).1 = val a + val b := by
  have := (addS_inv ha hb i).2.2.2.2
  rw [h3, List.take_of_length_le h1, List.take_of_length_le h2] at this
  omega

/-! ### differences -/
def subS (a b : List Int) : Nat → List Int × Int
  | 0 => ([], 0)
  | i + 1 => ((subS a b i).1 ++ [(dig a i - dig b i - (subS a b i).2) % 10], if dig a i - dig b i - (subS a b i).2 < 0 then 1 else 0)
theorem subS_inv {a b : List Int} (ha : Digs a) (hb : Digs b) (i : Nat) :
    (subS a b i).1.length = i ∧ Digs (subS a b i).1 ∧ 0 ≤ (subS a b i).2 ∧ (subS a b i).2 ≤ 1 ∧ val (subS a b i).1 - p10 i * (subS a b i).2 = val (a.take i) - val (b.take i) := by
  induction i with
  | zero => simp [subS, Digs, val]
  | succ i ih =>
    obtain ⟨h1, h2, h3, h4, h5⟩ := ih
    have da := dig_bd ha i
    have db := dig_bd hb i
    simp only [subS]
    refine ⟨by simp [h1], h2.append (Digs.one (by omega)), by split <;> omega, by split <;> omega, ?_⟩
    rw [val_snoc, h1, val_take_succ, val_take_succ, p10]
    generalize (subS a b i).2 = c at *
    have e : dig a i - dig b i - c = -10 * (if dig a i - dig b i - c < 0 then 1 else 0) + (dig a i - dig b i - c) % 10 := by split <;> omega
    generalize (if dig a i - dig b i - c < 0 then (1 : Int) else 0) = q at *
    generalize (dig a i - dig b i - c) % 10 = r at *
    have e2 : p10 i * (dig a i - dig b i - c) = p10 i * (-10 * q + r) := by rw [e]
    rw [Int.mul_sub, Int.mul_sub, Int.mul_add, ← Int.mul_assoc, Int.mul_comm (p10 i) (-10), Int.mul_assoc] at e2
    rw [Int.mul_assoc]
    omega
theorem subS_val {a b : List Int} (ha : Digs a) (hb : Digs b) (hl : b.length ≤ a.length) (h : val b ≤ val a) : val (subS a b a.length).1 = val a - val b ∧ (subS a b a.length).2 = 0 := by
  obtain ⟨h1, h2, h3, h4, h5⟩ := subS_inv ha hb a.length
  rw [List.take_of_length_le (Nat.le_refl _), List.take_of_length_le hl] at h5
  have hv := val_lt h2
  rw [h1] at hv
  have hc : (subS a b a.length).2 = 0 ∨ (subS a b a.length).2 = 1 := by omega
  rcases hc with hc | hc
  · rw [hc] at h5
    exact ⟨by omega, hc⟩
  · rw [hc] at h5
    omega

/-! ### canonical lists -/
/-- No zero at the end. -/
def Canon (l : List Int) : Prop := Digs l ∧ (l = [] ∨ dig l (l.length - 1) ≠ 0)
theorem Canon.low {l : List Int} (h : Canon l) (hn : l ≠ []) : p10 (l.length - 1) ≤ val l := by
  obtain ⟨hd, h⟩ := h
  have hlen : 0 < l.length := List.length_pos_iff.2 hn
  have h0 : dig l (l.length - 1) ≠ 0 := by rcases h with h | h; exact absurd h hn; exact h
  have e := val_take_succ l (l.length - 1)
  rw [show l.length - 1 + 1 = l.length by omega, List.take_of_length_le (Nat.le_refl _)] at e
  have b := dig_bd hd (l.length - 1)
  have v := val_nonneg (hd.take (l.length - 1))
  have p := p10_pos (l.length - 1)
  have m : p10 (l.length - 1) * 1 ≤ p10 (l.length - 1) * dig l (l.length - 1) := Int.mul_le_mul_of_nonneg_left (by omega) (by omega)
  omega
theorem Canon.lt_of_len {a b : List Int} (ha : Canon a) (hb : Canon b) (h : a.length < b.length) : val a < val b := by
  have h1 := val_lt ha.1
  have h2 := hb.low (by intro e; subst e; simp at h)
  have h3 : p10 a.length ≤ p10 (b.length - 1) := p10_mono (by omega)
  omega
theorem val_split (l : List Int) (i : Nat) (h : i ≤ l.length) : val l = val (l.take i) + p10 i * val (l.drop i) := by
  have := val_append (l.take i) (l.drop i)
  rw [List.take_append_drop, List.length_take, Nat.min_eq_left h] at this
  exact this
theorem lt_of_top {a b : List Int} (ha : Digs a) (hb : Digs b) (i : Nat) (h1 : i < a.length) (h2 : i < b.length) (hd : a.drop (i + 1) = b.drop (i + 1)) (hlt : dig a i < dig b i) : val a < val b := by
  rw [val_split a (i + 1) (by omega), val_split b (i + 1) (by omega), hd, val_take_succ, val_take_succ]
  have a1 := val_lt (ha.take i)
  have b1 := val_nonneg (hb.take i)
  rw [List.length_take, Nat.min_eq_left (by omega)] at a1
  have p := p10_pos i
  have m : p10 i * (dig a i + 1) ≤ p10 i * dig b i := Int.mul_le_mul_of_nonneg_left (by omega) (by omega)
  rw [Int.mul_add] at m
  omega
/-- The digits of a number. -/
def dl (n : Nat) : List Int := if h : n = 0 then [] else ((n % 10 : Nat) : Int) :: dl (n / 10)
termination_by n
decreasing_by omega
theorem dl_zero : dl 0 = [] := by rw [dl, dif_pos rfl]
theorem dl_pos {n : Nat} (h : n ≠ 0) : dl n = ((n % 10 : Nat) : Int) :: dl (n / 10) := by rw [dl, dif_neg h]
theorem dl_digs (n : Nat) : Digs (dl n) := by
  induction n using Nat.strongRecOn with
  | _ n ih =>
    by_cases h : n = 0
    · subst h; rw [dl_zero]; exact Digs.nil
    · rw [dl_pos h]
      intro d hd
      rcases List.mem_cons.1 hd with rfl | hd
      · omega
      · exact ih (n / 10) (by omega) d hd
theorem dl_val (n : Nat) : val (dl n) = n := by
  induction n using Nat.strongRecOn with
  | _ n ih =>
    by_cases h : n = 0
    · subst h; rw [dl_zero]; rfl
    · rw [dl_pos h, val, ih (n / 10) (by omega)]; omega
theorem dl_nil {n : Nat} (h : dl n = []) : n = 0 := by
  by_cases hn : n = 0
  · exact hn
  · rw [dl_pos hn] at h; simp at h
theorem dig_succ (d : Int) (l : List Int) (i : Nat) : dig (d :: l) (i + 1) = dig l i := by simp [dig, List.getD]
theorem dig_zero (d : Int) (l : List Int) : dig (d :: l) 0 = d := by simp [dig, List.getD]
theorem dl_canon (n : Nat) : Canon (dl n) := by
  refine ⟨dl_digs n, ?_⟩
  induction n using Nat.strongRecOn with
  | _ n ih =>
    by_cases h : n = 0
    · subst h; exact Or.inl dl_zero
    · right
      rw [dl_pos h]
      rcases ih (n / 10) (by omega) with e | e
      · have := dl_nil e
        rw [e]
        simp [dig, List.getD]
        omega
      · have hne : dl (n / 10) ≠ [] := by
          intro e2; rw [e2] at e; simp [dig, List.getD] at e
        have hl : 0 < (dl (n / 10)).length := List.length_pos_iff.2 hne
        rw [List.length_cons, show (dl (n / 10)).length + 1 - 1 = (dl (n / 10)).length - 1 + 1 by omega, dig_succ]
        exact e
theorem Canon.tail {d : Int} {l : List Int} (h : Canon (d :: l)) : Canon l := by
  obtain ⟨hd, h⟩ := h
  refine ⟨hd.cons.2, ?_⟩
  rcases h with h | h
  · simp at h
  · by_cases hn : l = []
    · exact Or.inl hn
    · right
      have hl : 0 < l.length := List.length_pos_iff.2 hn
      rw [List.length_cons, show l.length + 1 - 1 = l.length - 1 + 1 by omega, dig_succ] at h
      exact h
/-- A canonical list is that of its number. -/
theorem Canon.eq_dl {l : List Int} (h : Canon l) : l = dl (val l).toNat := by
  induction l with
  | nil => simp [val, dl_zero]
  | cons d l ih =>
    have ht := ih h.tail
    obtain ⟨hb, hd⟩ := h.1.cons
    have hv := val_nonneg hd
    have hne : (val (d :: l)).toNat ≠ 0 := by
      have := h.low (by simp)
      have := p10_pos ((d :: l).length - 1)
      omega
    rw [dl_pos hne]
    have e1 : (((val (d :: l)).toNat % 10 : Nat) : Int) = d := by rw [val] at *; omega
    have e2 : (val (d :: l)).toNat / 10 = (val l).toNat := by rw [val] at *; omega
    rw [e1, e2, ← ht]
theorem Canon.eq_of {l : List Int} {n : Nat} (h : Canon l) (hv : val l = n) : l = dl n := by
  have := h.eq_dl
  rw [hv] at this
  simpa using this
theorem dl_len {n k : Nat} (h : (n : Int) < p10 k) : (dl n).length ≤ k := by
  by_cases hn : dl n = []
  · rw [hn]; simp
  · have := (dl_canon n).low hn
    rw [dl_val] at this
    by_cases hc : (dl n).length ≤ k
    · exact hc
    · have := p10_mono (show k ≤ (dl n).length - 1 by omega)
      omega
/-- Zeros at the end are struck. -/
theorem trim_canon {l : List Int} {k : Nat} (hd : Digs l) (hk : k ≤ l.length) (hz : ∀ j, k ≤ j → dig l j = 0) (he : k = 0 ∨ dig l (k - 1) ≠ 0) : Canon (l.take k) ∧ val (l.take k) = val l := by
  refine ⟨⟨hd.take k, ?_⟩, ?_⟩
  · rcases he with rfl | he
    · left; simp
    · by_cases h0 : k = 0
      · subst h0; left; simp
      · right
        rw [List.length_take, Nat.min_eq_left hk]
        have : dig (l.take k) (k - 1) = dig l (k - 1) := by
          simp only [dig, List.getD, List.getElem?_take]
          rw [if_pos (by omega)]
        rw [this]; exact he
  · have aux : ∀ n, val (l.take (k + n)) = val (l.take k) := by
      intro n
      induction n with
      | zero => rfl
      | succ n ih => rw [← Nat.add_assoc, val_take_succ, hz _ (by omega), ih]; simp
    have := aux (l.length - k)
    rw [show k + (l.length - k) = l.length by omega, List.take_of_length_le (Nat.le_refl _)] at this
    exact this.symm
end Go.Proofs.YtopbbcbpanfigaaGreatDoor.Dg
