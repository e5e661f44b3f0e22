/-
  PLAIN LAWS OF DECIMAL DIGITS: products, texts, numerals.
-/
import Derived.Test.YtopbbcbpanfigaaGreatDoorDig
import Derived.Lib.ParseIntB
namespace Go.Proofs.YtopbbcbpanfigaaGreatDoor.Dg

/-! ### products -/
theorem val_set (l : List Int) (i : Nat) (x : Int) (h : i < l.length) : val (l.set i x) = val l + p10 i * (x - dig l i) := by
  induction l generalizing i with
  | nil => simp at h
  | cons d l ih =>
    cases i with
    | zero => simp [val, p10, dig_zero]; omega
    | succ i =>
      rw [List.set_cons_succ, val, ih i (by simpa using h), val, dig_succ, p10, Int.mul_assoc]
      omega
theorem dig_set_same (l : List Int) (i : Nat) (x : Int) (h : i < l.length) : dig (l.set i x) i = x := by simp [dig, List.getD, h]
theorem dig_set_other (l : List Int) (i j : Nat) (x : Int) (h : i ≠ j) : dig (l.set i x) j = dig l j := by simp [dig, List.getD, List.getElem?_set_ne h]
theorem Digs.set {l : List Int} (hl : Digs l) (i : Nat) {x : Int} (h : 0 ≤ x ∧ x ≤ 9) : Digs (l.set i x) := by
  intro d hd
  rcases List.mem_or_eq_of_mem_set hd with hd | rfl
  · exact hl d hd
  · exact h
def rowS (O : List Int) (x : Int) (b : List Int) (i : Nat) : Nat → List Int × Int
  | 0 => (O, 0)
  | k + 1 => ((rowS O x b i k).1.set (i + k) ((dig (rowS O x b i k).1 (i + k) + x * dig b k + (rowS O x b i k).2) % 10), (dig (rowS O x b i k).1 (i + k) + x * dig b k + (rowS O x b i k).2) / 10)
theorem mul_bd {x y : Int} (hx : 0 ≤ x ∧ x ≤ 9) (hy : 0 ≤ y ∧ y ≤ 9) : 0 ≤ x * y ∧ x * y ≤ 81 := by
  refine ⟨Int.mul_nonneg hx.1 hy.1, ?_⟩
  have := Int.mul_le_mul hx.2 hy.2 hy.1 (by omega : (0 : Int) ≤ 9)
  omega
theorem rowS_inv {O b : List Int} {x : Int} (hO : Digs O) (hx : 0 ≤ x ∧ x ≤ 9) (hb : Digs b) (i k : Nat) (hk : i + k ≤ O.length) :
    (rowS O x b i k).1.length = O.length ∧ Digs (rowS O x b i k).1 ∧ 0 ≤ (rowS O x b i k).2 ∧ (rowS O x b i k).2 ≤ 9 ∧ (∀ j, i + k ≤ j → dig (rowS O x b i k).1 j = dig O j) ∧
      val (rowS O x b i k).1 + p10 (i + k) * (rowS O x b i k).2 = val O + p10 i * (x * val (b.take k)) := by
  induction k with
  | zero => exact ⟨rfl, hO, by simp [rowS], by simp [rowS], fun _ _ => rfl, by simp [rowS, val]⟩
  | succ k ih =>
    obtain ⟨h1, h2, h3, h4, h5, h6⟩ := ih (by omega)
    have d0 := dig_bd h2 (i + k)
    have xb := mul_bd hx (dig_bd hb k)
    simp only [rowS]
    refine ⟨by simp [h1], h2.set _ (by omega), by omega, by omega, ?_, ?_⟩
    · intro j hj
      rw [dig_set_other _ _ _ _ (by omega)]
      exact h5 j (by omega)
    · rw [val_set _ _ _ (by omega), val_take_succ, ← Nat.add_assoc, p10]
      generalize (rowS O x b i k).2 = c at *
      generalize dig (rowS O x b i k).1 (i + k) = z at *
      have e : z + x * dig b k + c = 10 * ((z + x * dig b k + c) / 10) + (z + x * dig b k + c) % 10 := by omega
      generalize (z + x * dig b k + c) / 10 = q at *
      generalize (z + x * dig b k + c) % 10 = r at *
      have e2 : p10 (i + k) * (z + x * dig b k + c) = p10 (i + k) * (10 * q + r) := by rw [e]
      rw [Int.mul_add, Int.mul_add, Int.mul_add, ← Int.mul_assoc (p10 (i + k)) 10, Int.mul_comm (p10 (i + k)) 10] at e2
      have e3 : p10 i * (x * (val (b.take k) + p10 k * dig b k)) = p10 i * (x * val (b.take k)) + p10 (i + k) * (x * dig b k) := by
        rw [Int.mul_add, Int.mul_add, p10_add, Int.mul_assoc, Int.mul_left_comm x]
      rw [e3, Int.mul_sub]
      omega
theorem rowS_end {O b : List Int} {x : Int} (hO : Digs O) (hx : 0 ≤ x ∧ x ≤ 9) (hb : Digs b) (i : Nat) (hk : i + b.length < O.length) (hz : dig O (i + b.length) = 0) : (rowS O x b i (b.length + 1)).2 = 0 := by
  obtain ⟨h1, h2, h3, h4, h5, h6⟩ := rowS_inv hO hx hb i b.length (by omega)
  simp only [rowS]
  rw [h5 _ (Nat.le_refl _), hz, dig_none (l := b) (Nat.le_refl _)]
  omega
theorem rowS_fin {O a b : List Int} (hO : Digs O) (ha : Digs a) (hb : Digs b) (i k : Nat) (hi : i < a.length) (hlen : O.length = a.length + b.length + 1) (hz : ∀ j, i + b.length ≤ j → dig O j = 0) (hv : val O = val (a.take i) * val b)
    (h1 : b.length ≤ k) (h2 : k ≤ b.length + 1) (hc : (rowS O (dig a i) b i k).2 = 0) :
    (∀ j, i + 1 + b.length ≤ j → dig (rowS O (dig a i) b i k).1 j = 0) ∧ val (rowS O (dig a i) b i k).1 = val (a.take (i + 1)) * val b := by
  obtain ⟨g1, g2, g3, g4, g5, g6⟩ := rowS_inv hO (dig_bd ha i) hb i k (by omega)
  refine ⟨fun j hj => by rw [g5 j (by omega)]; exact hz j (by omega), ?_⟩
  rw [hc, List.take_of_length_le h1, hv] at g6
  rw [val_take_succ, Int.add_mul, Int.mul_assoc]
  omega

/-! ### texts -/
/-- The byte of a digit. -/
def ch (d : Int) : UInt8 := UInt8.ofNat (48 + d.toNat)
theorem decDigits_dl (u : Nat) (h : u ≠ 0) : Lib.decDigits u = (dl u).reverse.map ch := by
  induction u using Nat.strongRecOn with
  | _ u ih =>
    by_cases hu : u < 10
    · rw [Lib.decDigits, dif_pos hu, dl_pos h, show u / 10 = 0 by omega, dl_zero]
      simp [ch, Nat.mod_eq_of_lt hu]
    · rw [Lib.decDigits, dif_neg hu, dl_pos h, ih (u / 10) (by omega) (by omega)]
      rw [List.reverse_cons, List.map_append]
      rfl
/-- The number of a numeral. -/
def nvA (acc : Nat) (l : List UInt8) : Nat := l.foldl (fun a c => a * 10 + (c.toNat - 48)) acc
theorem nvA_nil (acc : Nat) : nvA acc [] = acc := rfl
theorem nvA_cons (acc : Nat) (c : UInt8) (r : List UInt8) : nvA acc (c :: r) = nvA (acc * 10 + (c.toNat - 48)) r := by unfold nvA; rw [List.foldl_cons]
theorem nvA_le (l : List UInt8) : ∀ acc, acc ≤ nvA acc l := by
  induction l with
  | nil => intro acc; exact Nat.le_refl _
  | cons c r ih => intro acc; rw [nvA_cons]; have := ih (acc * 10 + (c.toNat - 48)); omega
/-- A byte that is a digit. -/
def isD (c : UInt8) : Prop := 48 ≤ c.toNat ∧ c.toNat ≤ 57
theorem parse_ok (l : List UInt8) (h : ∀ c ∈ l, isD c) : ∀ acc, nvA acc l ≤ 18446744073709551615 → Lib.parseUintM 18446744073709551615 acc l = .ok (nvA acc l) := by
  induction l with
  | nil => intro acc _; rfl
  | cons c r ih =>
    intro acc hle
    rw [nvA_cons] at hle
    have h1 := nvA_le r (acc * 10 + (c.toNat - 48))
    have hd := h c (by simp)
    unfold isD at hd
    rw [Lib.parseUintM, if_pos hd, if_neg (by omega), if_neg (by omega), ih (fun x hx => h x (by simp [hx])) _ hle, nvA_cons]
theorem parse_range (l : List UInt8) (h : ∀ c ∈ l, isD c) : ∀ acc, acc ≤ 18446744073709551615 → 18446744073709551615 < nvA acc l → Lib.parseUintM 18446744073709551615 acc l = .range := by
  induction l with
  | nil => intro acc h1 h2; rw [nvA_nil] at h2; omega
  | cons c r ih =>
    intro acc h1 hle
    rw [nvA_cons] at hle
    have hd := h c (by simp)
    unfold isD at hd
    rw [Lib.parseUintM, if_pos hd]
    by_cases h2 : 1844674407370955162 ≤ acc
    · rw [if_pos h2]
    · rw [if_neg h2]
      by_cases h3 : 18446744073709551615 < acc * 10 + (c.toNat - 48)
      · rw [if_pos h3]
      · rw [if_neg h3]; exact ih (fun x hx => h x (by simp [hx])) _ (by omega) hle
/-- The digit of a byte. -/
def dv (c : UInt8) : Int := (c.toNat : Int) - 48
theorem nvA_val (l : List UInt8) (h : ∀ c ∈ l, isD c) : ∀ acc, (nvA acc l : Int) = acc * p10 l.length + val (l.reverse.map dv) := by
  induction l with
  | nil => intro acc; simp [nvA_nil, p10, val]
  | cons c r ih =>
    intro acc
    have hd := h c (by simp)
    unfold isD at hd
    rw [nvA_cons, ih (fun x hx => h x (by simp [hx])), List.reverse_cons, List.map_append, val_append]
    simp only [List.length_map, List.length_reverse, List.length_cons, List.map_cons, List.map_nil, val, p10]
    have e : ((acc * 10 + (c.toNat - 48) : Nat) : Int) = acc * 10 + dv c := by unfold dv; omega
    rw [e, Int.add_mul, Int.mul_assoc, Int.mul_comm (dv c)]
    simp
    omega
theorem dv_digs (l : List UInt8) (h : ∀ c ∈ l, isD c) : Digs (l.reverse.map dv) := by
  intro d hd
  simp only [List.mem_map, List.mem_reverse] at hd
  obtain ⟨c, hc, rfl⟩ := hd
  have := h c hc
  unfold isD at this
  unfold dv; omega
theorem ch_dv (c : UInt8) (h : isD c) : ch (dv c) = c := by
  unfold isD at h
  unfold ch dv
  rw [show ((c.toNat : Int) - 48).toNat = c.toNat - 48 by omega, show 48 + (c.toNat - 48) = c.toNat by omega]
  simp
theorem ch_isD (d : Int) (h : 0 ≤ d ∧ d ≤ 9) : isD (ch d) ∧ dv (ch d) = d := by
  unfold isD ch dv
  have : (UInt8.ofNat (48 + d.toNat)).toNat = 48 + d.toNat := by simp; omega
  rw [this]; omega
end Go.Proofs.YtopbbcbpanfigaaGreatDoor.Dg
