/- Walks and laws that the claim's theorem leans on: part 15. -/
import Derived.Test.YteodjglbpfmikaaGreatDoorZUn1
import Derived.Test.YteodjglbpfmikaaGreatDoorZUn2
import GoSem.Core.Float
import GoSem.Extern.MathFloor
import GoSem.Extern.MathFloatBits
import Derived.Laws.Externs
import Derived.Laws.NewFold
import Derived.Laws.FloatArith
import Derived.Laws.Cover2
import Derived.Laws.BitsAll
namespace Go.Proofs.YteodjglbpfmikaaGreatDoor.Fl
open Ieee
def un (k : Nat) : Nat := 2 ^ k
def mg (r : Nat) : Nat := if r < 2 ^ 52 then r else (2 ^ 52 + r % 2 ^ 52) * 2 ^ (r / 2 ^ 52 - 1)
theorem mg_succ (r : Nat) : mg r < mg (r + 1) := by
 unfold mg
 rcases Nat.lt_or_ge (r + 1) (2 ^ 52) with h | h
 · rw [if_pos (by omega), if_pos h]; omega
 rw [if_neg (by omega : ¬ r + 1 < 2 ^ 52)]
 rcases Nat.lt_or_ge r (2 ^ 52) with h2 | h2
 · rw [if_pos h2]
   have e : r + 1 = 2 ^ 52 := by omega
   rw [e]; simp; omega
 rw [if_neg (by omega)]
 obtain ⟨q, hq⟩ : ∃ q, r / 2 ^ 52 = q + 1 := ⟨r / 2 ^ 52 - 1, by omega⟩
 rcases Nat.lt_or_ge (r % 2 ^ 52 + 1) (2 ^ 52) with h3 | h3
 · have e1 : (r + 1) % 2 ^ 52 = r % 2 ^ 52 + 1 := by omega
   have e2 : (r + 1) / 2 ^ 52 = r / 2 ^ 52 := by omega
   rw [e1, e2]
   exact Nat.mul_lt_mul_of_pos_right (by omega) (Nat.two_pow_pos _)
 · have e1 : (r + 1) % 2 ^ 52 = 0 := by omega
   have e2 : (r + 1) / 2 ^ 52 = q + 2 := by omega
   have e3 : r % 2 ^ 52 = 2 ^ 52 - 1 := by omega
   rw [e1, e2, hq, e3]
   simp only [Nat.add_sub_cancel, show q + 2 - 1 = q + 1 from rfl, Nat.pow_succ 2 q]
   have := Nat.two_pow_pos q
   generalize 2 ^ q = z at *
   omega
theorem mg_lt {r s : Nat} (h : r < s) : mg r < mg s := by
 induction s with
 | zero => omega
 | succ s ih =>
   rcases Nat.lt_or_ge r s with h2 | h2
   · exact Nat.lt_trans (ih h2) (mg_succ s)
   · obtain rfl : r = s := by omega
     exact mg_succ r
theorem mg_le {r s : Nat} : mg r ≤ mg s ↔ r ≤ s := by
 constructor
 · intro h
   rcases Nat.lt_or_ge s r with h2 | h2
   · have := mg_lt h2; omega
   · exact h2
 · intro h
   rcases Nat.lt_or_ge r s with h2 | h2
   · exact Nat.le_of_lt (mg_lt h2)
   · obtain rfl : r = s := by omega
     exact Nat.le_refl _
def fsg (x : Nat) : Bool := x / 2 ^ 63 % 2 == 1
def rg (x : Nat) : Nat := x % 2 ^ 63
def top : Nat := 2047 * 2 ^ 52
def val (x : Nat) : Int := if fsg x then -(mg (rg x) : Int) else mg (rg x)
theorem double_words : double.signWeight = 2 ^ 63 ∧ double.binade = 2 ^ 52 ∧ double.infRung = top ∧ double.leastPlace = -1074 ∧ double.fractionBits = 52 := by
 refine ⟨rfl, rfl, rfl, rfl, rfl⟩
theorem read_num {x : Nat} (h : rg x < top) : ∃ m i, double.read x = .number (fsg x) m i ∧ -1074 ≤ i ∧ i ≤ 971 ∧ m < 2 ^ 53 ∧ m * un (i + 1074).toNat = mg (rg x) := by
 obtain ⟨e1, e2, e3, e4, _⟩ := double_words
 unfold Format.read
 simp only [e1, e2, e3, e4]
 show ∃ m i, (if rg x < 2 ^ 52 then Datum.number (fsg x) (rg x) (-1074) else if rg x < top then _ else _) = _ ∧ _
 by_cases h1 : rg x < 2 ^ 52
 · rw [if_pos h1]
   exact ⟨_, _, rfl, by omega, by omega, by omega, by unfold mg; rw [if_pos h1]; exact Nat.mul_one _⟩
 · rw [if_neg h1, if_pos h]
   have h2 : x % 2 ^ 63 / 2 ^ 52 ≤ 2046 := by unfold top rg at h; omega
   refine ⟨_, _, rfl, by omega, by omega, by omega, ?_⟩
   unfold mg
   rw [if_neg h1]
   unfold un
   congr 2
   show (-1074 + ((x % 2 ^ 63 / 2 ^ 52 - 1 : Nat) : Int) + 1074).toNat = x % 2 ^ 63 / 2 ^ 52 - 1
   omega
theorem read_inf {x : Nat} (h : rg x = top) : double.read x = .infinity (fsg x) := by
 obtain ⟨e1, e2, e3, e4, _⟩ := double_words
 unfold Format.read
 simp only [e1, e2, e3, e4]
 show (if rg x < 2 ^ 52 then _ else if rg x < top then _ else if rg x = top then _ else _) = _
 rw [if_neg (by rw [h]; decide), if_neg (by omega), if_pos h]
 rfl
theorem compare_mul {a b k : Int} (hk : 0 < k) : compare (a * k) (b * k) = compare a b := by
 rcases Int.lt_trichotomy a b with h | h | h
 · have := Int.mul_lt_mul_of_pos_right h hk
   rw [show compare a b = .lt by simp [compare, compareOfLessAndEq, h], show compare (a * k) (b * k) = .lt by simp [compare, compareOfLessAndEq, this]]
 · subst h; rw [show compare a a = .eq by simp [compare, compareOfLessAndEq], show compare (a * k) (a * k) = .eq by simp [compare, compareOfLessAndEq]]
 · have h2 := Int.mul_lt_mul_of_pos_right h hk
   rw [show compare a b = .gt by unfold compare instOrdInt compareOfLessAndEq; simp only; rw [if_neg (by omega), if_neg (by omega)], show compare (a * k) (b * k) = .gt by unfold compare instOrdInt compareOfLessAndEq; simp only; rw [if_neg (by omega), if_neg (by omega)]]
theorem signed_mul (s : Bool) (m k : Nat) : signed s m k = (if s then -(m : Int) else m) * ((2 ^ k : Nat) : Int) := by
 unfold signed
 rw [Nat.shiftLeft_eq]
 cases s <;> simp [Int.neg_mul]
theorem val_num {x m : Nat} {i : Int} (h : m * un (i + 1074).toNat = mg (rg x)) : val x = signed (fsg x) m (i + 1074).toNat := by
 rw [signed_mul]
 unfold val
 rw [← h]
 unfold un
 split <;> simp [Int.neg_mul]
theorem order_num {x y : Nat} (hx : rg x < top) (hy : rg y < top) : double.order x y = some (compare (val x) (val y)) := by
 obtain ⟨m, i, e1, i1, _, _, v1⟩ := read_num hx
 obtain ⟨n, j, e2, j1, _, _, v2⟩ := read_num hy
 unfold Format.order
 rw [e1, e2, val_num v1, val_num v2]
 show some (compare (signed (fsg x) m (i - min i j).toNat) (signed (fsg y) n (j - min i j).toNat)) = _
 congr 1
 rw [signed_mul, signed_mul, signed_mul, signed_mul]
 have p1 : (2 : Nat) ^ (i + 1074).toNat = 2 ^ (i - min i j).toNat * 2 ^ (min i j + 1074).toNat := by rw [← Nat.pow_add]; congr 1; omega
 have p2 : (2 : Nat) ^ (j + 1074).toNat = 2 ^ (j - min i j).toNat * 2 ^ (min i j + 1074).toNat := by rw [← Nat.pow_add]; congr 1; omega
 rw [p1, p2, Int.natCast_mul, Int.natCast_mul, ← Int.mul_assoc, ← Int.mul_assoc]
 exact (compare_mul (by have := Nat.two_pow_pos (min i j + 1074).toNat; omega)).symm
theorem mg_top {r : Nat} (h : r < top) : mg r < mg top := mg_lt h
theorem cmp_lt {a b : Int} (h : a < b) : compare a b = .lt := by simp [compare, compareOfLessAndEq, h]
theorem cmp_gt {a b : Int} (h : b < a) : compare a b = .gt := by unfold compare instOrdInt compareOfLessAndEq; simp only; rw [if_neg (by omega), if_neg (by omega)]
theorem cmp_eq (a : Int) : compare a a = .eq := by simp [compare, compareOfLessAndEq]
theorem order_val {x y : Nat} (hx : rg x ≤ top) (hy : rg y ≤ top) : double.order x y = some (compare (val x) (val y)) := by
 rcases Nat.lt_or_ge (rg x) top with h1 | h1 <;> rcases Nat.lt_or_ge (rg y) top with h2 | h2
 · exact order_num h1 h2
 · obtain ⟨m, i, e1, _⟩ := read_num h1
   have h2 : rg y = top := by omega
   have h3 := mg_top h1
   unfold Format.order
   rw [e1, read_inf h2]
   unfold val
   rw [h2]
   show some (if fsg y then Ordering.gt else Ordering.lt) = _
   congr 1
   cases fsg y with
   | true => simp only [if_true]; split <;> exact (cmp_gt (by omega)).symm
   | false => simp only [Bool.false_eq_true, if_false]; split <;> exact (cmp_lt (by omega)).symm
 · obtain ⟨m, i, e1, _⟩ := read_num h2
   have h1 : rg x = top := by omega
   have h3 := mg_top h2
   unfold Format.order
   rw [e1, read_inf h1]
   unfold val
   rw [h1]
   show some (if fsg x then Ordering.lt else Ordering.gt) = _
   congr 1
   cases fsg x with
   | true => simp only [if_true]; split <;> exact (cmp_lt (by omega)).symm
   | false => simp only [Bool.false_eq_true, if_false]; split <;> exact (cmp_gt (by omega)).symm
 · have h1 : rg x = top := by omega
   have h2 : rg y = top := by omega
   have hp : 0 < mg top := Nat.lt_of_le_of_lt (Nat.zero_le _) (mg_top (show 0 < top by decide))
   unfold Format.order
   rw [read_inf h1, read_inf h2]
   unfold val
   rw [h1, h2]
   show some (compare (fsg y).toNat (fsg x).toNat) = _
   congr 1
   cases fsg x <;> cases fsg y
   · exact (cmp_eq _).symm
   · show Ordering.gt = _; exact (cmp_gt (by simp; omega)).symm
   · show Ordering.lt = _; exact (cmp_lt (by simp; omega)).symm
   · exact (cmp_eq _).symm
def U : Int := (un 1074 : Int)
theorem un_pos (k : Nat) : 0 < un k := Nat.two_pow_pos k
theorem un_add (a b : Nat) : un (a + b) = 2 ^ a * un b := Nat.pow_add 2 a b
theorem U_pos : 0 < U := by unfold U; have := un_pos 1074; omega
theorem cut_low (n d : Nat) : n / (1 <<< min d (n.log2 + 2)) = n / 2 ^ d ∧ n % (1 <<< min d (n.log2 + 2)) = n % 2 ^ d := by
 rw [Nat.shiftLeft_eq, Nat.one_mul]
 rcases Nat.lt_or_ge (n.log2 + 2) d with h | h
 · rw [Nat.min_eq_right (by omega)]
   have h1 : n < 2 ^ (n.log2 + 1) := Nat.lt_log2_self
   have h2 : 2 ^ (n.log2 + 1) ≤ 2 ^ (n.log2 + 2) := Nat.pow_le_pow_right (by decide) (by omega)
   have h3 : 2 ^ (n.log2 + 1) ≤ 2 ^ d := Nat.pow_le_pow_right (by decide) (by omega)
   rw [Nat.div_eq_of_lt (by omega), Nat.div_eq_of_lt (by omega), Nat.mod_eq_of_lt (by omega), Nat.mod_eq_of_lt (by omega)]
   exact ⟨rfl, rfl⟩
 · rw [Nat.min_eq_left h]; exact ⟨rfl, rfl⟩
theorem cut_down (s : Bool) (n d : Nat) : Toward.down.cut s n d = n / 2 ^ d + (if s = true ∧ n % 2 ^ d ≠ 0 then 1 else 0) := by
 unfold Toward.cut
 simp only [cut_low]
 cases s <;> by_cases h : n % 2 ^ d = 0 <;> simp [h]
theorem cut_up (s : Bool) (n d : Nat) : Toward.up.cut s n d = n / 2 ^ d + (if s = false ∧ n % 2 ^ d ≠ 0 then 1 else 0) := by
 unfold Toward.cut
 simp only [cut_low]
 cases s <;> by_cases h : n % 2 ^ d = 0 <;> simp [h]
theorem cut_zero (s : Bool) (n d : Nat) : Toward.zero.cut s n d = n / 2 ^ d := by
 unfold Toward.cut
 simp only [cut_low]
 simp
theorem cut_even0 (s : Bool) (n d : Nat) (h : n % 2 ^ d = 0) : Toward.even.cut s n d = n / 2 ^ d := by
 unfold Toward.cut
 simp only [cut_low, h]
 have : ∀ k, ¬ (1 <<< k : Nat) = 0 := fun k => by rw [Nat.shiftLeft_eq]; have := Nat.two_pow_pos k; omega
 simp [this]
theorem word_parts (s : Bool) {r : Nat} (h : r < 2 ^ 63) : rg (double.word s r) = r ∧ fsg (double.word s r) = s ∧ double.word s r < 2 ^ 64 := by
 obtain ⟨e1, _⟩ := double_words
 unfold Format.word rg fsg
 rw [e1]
 cases s
 · refine ⟨by simp; omega, ?_, by simp; omega⟩
   simp; omega
 · refine ⟨by simp; omega, ?_, by simp; omega⟩
   simp; omega
def nr (n : Nat) : Nat := if n = 0 then 0 else (n.log2 + 1022) * 2 ^ 52 + Toward.even.cut false (n * 2 ^ (52 - n.log2)) (n.log2 - 52)
theorem even_sign (s t : Bool) (n d : Nat) : Toward.even.cut s n d = Toward.even.cut t n d := rfl
theorem log_bounds {n : Nat} (h : n ≠ 0) : 2 ^ n.log2 ≤ n ∧ n < 2 ^ (n.log2 + 1) := ⟨Nat.log2_self_le h, Nat.lt_log2_self⟩
theorem quo_bounds {n : Nat} (h : n ≠ 0) : 2 ^ 52 ≤ n * 2 ^ (52 - n.log2) / 2 ^ (n.log2 - 52) ∧ n * 2 ^ (52 - n.log2) / 2 ^ (n.log2 - 52) < 2 ^ 53 := by
 obtain ⟨h1, h2⟩ := log_bounds h
 rw [Nat.le_div_iff_mul_le (Nat.two_pow_pos _), Nat.div_lt_iff_lt_mul (Nat.two_pow_pos _)]
 have p1 : 2 ^ n.log2 * 2 ^ (52 - n.log2) ≤ n * 2 ^ (52 - n.log2) := Nat.mul_le_mul_right _ h1
 have p2 : n * 2 ^ (52 - n.log2) < 2 ^ (n.log2 + 1) * 2 ^ (52 - n.log2) := Nat.mul_lt_mul_of_pos_right h2 (Nat.two_pow_pos _)
 rw [← Nat.pow_add] at p1 p2 ⊢
 rw [← Nat.pow_add]
 have q1 : 2 ^ (52 + (n.log2 - 52)) = 2 ^ (n.log2 + (52 - n.log2)) := by congr 1; omega
 have q2 : 2 ^ (53 + (n.log2 - 52)) = 2 ^ (n.log2 + 1 + (52 - n.log2)) := by congr 1; omega
 rw [q1, q2]
 exact ⟨p1, p2⟩
theorem kept_bounds {n : Nat} (h : n ≠ 0) : 2 ^ 52 ≤ Toward.even.cut false (n * 2 ^ (52 - n.log2)) (n.log2 - 52) ∧ Toward.even.cut false (n * 2 ^ (52 - n.log2)) (n.log2 - 52) ≤ 2 ^ 53 := by
 have hb := quo_bounds h
 unfold Toward.cut
 simp only [cut_low]
 refine ⟨by omega, ?_⟩
 have : ∀ b : Bool, b.toNat ≤ 1 := by decide
 have := this (decide (1 <<< min (n.log2 - 52) ((n * 2 ^ (52 - n.log2)).log2 + 2) < 2 * (n * 2 ^ (52 - n.log2) % 2 ^ (n.log2 - 52))) || 1 <<< min (n.log2 - 52) ((n * 2 ^ (52 - n.log2)).log2 + 2) == 2 * (n * 2 ^ (52 - n.log2) % 2 ^ (n.log2 - 52)) && n * 2 ^ (52 - n.log2) / 2 ^ (n.log2 - 52) % 2 == 1)
 omega
theorem un_mul (a b : Nat) : un a * un b = un (a + b) := (Nat.pow_add 2 a b).symm
theorem un_le {a b : Nat} (h : a ≤ b) : 2 ^ a ≤ un b := Nat.pow_le_pow_right (by decide) h
theorem un_log {n k : Nat} (h0 : n ≠ 0) (h : n < un k) : n.log2 < k := (Nat.log2_lt h0).2 h
theorem mg_top_val : mg top = un 1024 * un 1074 := by
 have h : mg top = un 52 * un 2046 := by decide +kernel
 rw [h, un_mul, un_mul]
theorem log_lt {n : Nat} (h : n < un 1024) : n.log2 ≤ 1023 := by
 by_cases h0 : n = 0
 · subst h0; decide
 · have := un_log h0 h; omega
theorem nr_lt {n : Nat} (h : n < un 1024) : nr n ≤ top := by
 unfold nr
 split
 · decide
 · rename_i h0
   have h1 := (kept_bounds h0).2
   have h2 := log_lt h
   have h3 : (n.log2 + 1022) * 2 ^ 52 ≤ 2045 * 2 ^ 52 := Nat.mul_le_mul_right _ (by omega)
   have h4 : 2045 * 2 ^ 52 + 2 ^ 53 = top := rfl
   rw [← h4]
   exact Nat.add_le_add h3 h1
theorem near_nr (s : Bool) {n : Nat} (h : n < un 1024) : double.nearest s n 0 = double.word s (nr n) := by
 obtain ⟨e1, e2, e3, e4, e5⟩ := double_words
 have h2 := nr_lt h
 unfold Format.nearest
 simp only [e2, e3, e4, e5]
 unfold nr at h2 ⊢
 by_cases h0 : n = 0
 · rw [if_pos h0, if_pos h0]
 · rw [if_neg h0] at h2 ⊢
   rw [if_neg h0]
   have e6 : max ((0 : Int) + n.log2 - (52 : Nat)) (-1074) = (n.log2 : Int) - 52 := by omega
   rw [e6]
   have e7 : ((0 : Int) - ((n.log2 : Int) - 52)).toNat = 52 - n.log2 := by omega
   have e8 : ((n.log2 : Int) - 52 - 0).toNat = n.log2 - 52 := by omega
   have e9 : ((n.log2 : Int) - 52 - (-1074)).toNat = n.log2 + 1022 := by omega
   rw [e7, e8, e9, Nat.shiftLeft_eq, even_sign s false, Nat.min_eq_left h2]
theorem nr_exact {n k : Nat} (hn : n < un 1024) (hk : n % 2 ^ k = 0) (hs : n / 2 ^ k < 2 ^ 53) : mg (nr n) = n * un 1074 := by
 by_cases h0 : n = 0
 · subst h0; rw [Nat.zero_mul]; rfl
 obtain ⟨h1, h2⟩ := log_bounds h0
 have h3 := kept_bounds h0
 have hm : n * 2 ^ (52 - n.log2) % 2 ^ (n.log2 - 52) = 0 := by
   rcases Nat.lt_or_ge 52 n.log2 with h | h
   · have hkk : n.log2 - 52 ≤ k := by
      rcases Nat.lt_or_ge k (n.log2 - 52) with h4 | h4
      · exfalso
        have h5 : n < 2 ^ 53 * 2 ^ k := (Nat.div_lt_iff_lt_mul (Nat.two_pow_pos _)).1 hs
        rw [← Nat.pow_add] at h5
        have h6 : 2 ^ (53 + k) ≤ 2 ^ n.log2 := Nat.pow_le_pow_right (by decide) (by omega)
        omega
      · exact h4
     have hd : 2 ^ (n.log2 - 52) ∣ n := Nat.dvd_trans (Nat.pow_dvd_pow 2 hkk) (Nat.dvd_of_mod_eq_zero hk)
     exact Nat.mod_eq_zero_of_dvd (Nat.dvd_trans hd (Nat.dvd_mul_right _ _))
   · rw [show n.log2 - 52 = 0 by omega]; simp [Nat.mod_one]
 have hK := cut_even0 false _ _ hm
 have hv : n * 2 ^ (52 - n.log2) / 2 ^ (n.log2 - 52) * un (n.log2 + 1022) = n * un 1074 := by
   have p1 : un (n.log2 + 1022) = 2 ^ (n.log2 - 52) * un (1074 - (52 - n.log2)) := by
     rw [← un_add, show n.log2 - 52 + (1074 - (52 - n.log2)) = n.log2 + 1022 by omega]
   have p2 : un 1074 = 2 ^ (52 - n.log2) * un (1074 - (52 - n.log2)) := by
     rw [← un_add, show 52 - n.log2 + (1074 - (52 - n.log2)) = if n.log2 ≤ 1126 then 1074 else 52 - n.log2 + (1074 - (52 - n.log2)) by split <;> omega, if_pos (by have := log_lt hn; omega)]
   rw [p1, p2, ← Nat.mul_assoc, ← Nat.mul_assoc, Nat.div_mul_cancel (Nat.dvd_of_mod_eq_zero hm)]
 have hlt := (quo_bounds h0).2
 unfold nr
 rw [if_neg h0]
 rw [hK] at h3 ⊢
 rw [← hv]
 generalize n * 2 ^ (52 - n.log2) / 2 ^ (n.log2 - 52) = z at *
 generalize n.log2 = l at *
 unfold mg un
 rw [if_neg (by omega), show ((l + 1022) * 2 ^ 52 + z) / 2 ^ 52 = l + 1023 by omega, show ((l + 1022) * 2 ^ 52 + z) % 2 ^ 52 = z - 2 ^ 52 by omega, show l + 1023 - 1 = l + 1022 by omega, show 2 ^ 52 + (z - 2 ^ 52) = z by omega]
def sn (s : Bool) (m : Nat) : Int := if s then -(m : Int) else m
theorem val_eq {x m : Nat} (h : mg (rg x) = m) : val x = sn (fsg x) m := by unfold val sn; rw [h]
theorem unit_split {d : Nat} (h : d ≤ 1074) : U = ((2 ^ d : Nat) : Int) * (un (1074 - d) : Int) := by
 unfold U
 rw [← Int.natCast_mul, ← un_add, Nat.add_sub_cancel' h]
theorem nearest_val (s : Bool) {n k : Nat} (hn : n < un 1024) (hk : n % 2 ^ k = 0) (hs : n / 2 ^ k < 2 ^ 53) : rg (double.nearest s n 0) < top ∧ double.nearest s n 0 < 2 ^ 64 ∧ val (double.nearest s n 0) = sn s n * U := by
 rw [near_nr s hn]
 have h2 := nr_lt hn
 have ht : top < 2 ^ 63 := by decide
 obtain ⟨h3, h4, h5⟩ := word_parts s (r := nr n) (by omega)
 have h6 := nr_exact hn hk hs
 refine ⟨?_, h5, ?_⟩
 · rw [h3]
   rcases Nat.lt_or_ge (nr n) top with h7 | h7
   · exact h7
   · have h8 := mg_le.2 h7
     rw [h6, mg_top_val] at h8
     have := Nat.le_of_mul_le_mul_right h8 (un_pos 1074)
     omega
 rw [val_eq (by rw [h3]), h4, h6]
 unfold sn U
 cases s <;> simp only [Bool.false_eq_true, if_false, if_true, Int.natCast_mul, Int.neg_mul]
theorem integral_val {x : Nat} (h : rg x < top) : ∃ m i, double.read x = .number (fsg x) m i ∧ m < 2 ^ 53 ∧ (-1074 ≤ i ∧ i ≤ 971) ∧ m * un (i + 1074).toNat = mg (rg x) ∧ m <<< i.toNat < un 1024 ∧ val x = sn (fsg x) m * (un (i + 1074).toNat : Int) := by
 obtain ⟨m, i, e, h1, h2, h3, h4⟩ := read_num h
 have hb := mg_lt h
 rw [mg_top_val] at hb
 refine ⟨m, i, e, h3, ⟨h1, h2⟩, h4, ?_, ?_⟩
 · rw [Nat.shiftLeft_eq]
   rcases Int.lt_or_le i 0 with h5 | h5
   · rw [show i.toNat = 0 by omega, Nat.pow_zero, Nat.mul_one]
     exact Nat.lt_of_lt_of_le h3 (un_le (by decide))
   · obtain ⟨j, rfl⟩ : ∃ j : Nat, i = j := ⟨i.toNat, by omega⟩
     have e1 : ((j : Int) + 1074).toNat = j + 1074 := by omega
     rw [e1, un_add, ← Nat.mul_assoc] at h4
     rw [← h4] at hb
     exact Nat.lt_of_mul_lt_mul_right hb
 · rw [val_eq h4.symm]
   unfold sn
   split <;> simp only [Int.natCast_mul, Int.neg_mul]
theorem sn_mul (s : Bool) (m k : Nat) : sn s (m * k) = sn s m * (k : Int) := by
 unfold sn; cases s <;> simp [Int.neg_mul]
def flW (x : Nat) : Nat := double.write ((double.read x).integral .down)
theorem between {s : Bool} {m d c : Nat} (hc : (s = false ∧ c = m / 2 ^ d) ∨ (s = true ∧ c = m / 2 ^ d + (if m % 2 ^ d ≠ 0 then 1 else 0))) : sn s c * ((2 ^ d : Nat) : Int) ≤ sn s m ∧ sn s m < (sn s c + 1) * ((2 ^ d : Nat) : Int) := by
 have h1 := Nat.div_add_mod m (2 ^ d)
 have h2 := Nat.mod_lt m (Nat.two_pow_pos d)
 generalize 2 ^ d = z at *
 generalize m / z = q at *
 generalize m % z = r at *
 have h3 : (m : Int) = (z : Int) * q + r := by rw [← h1]; simp
 rcases hc with ⟨hs, hc⟩ | ⟨hs, hc⟩
 · rw [hs, hc]
   unfold sn
   simp only [Bool.false_eq_true, if_false]
   rw [h3, Int.add_mul, Int.mul_comm (q : Int)]
   omega
 · rw [hs, hc]
   unfold sn
   simp only [if_true]
   rw [h3]
   by_cases h4 : r = 0
   · rw [if_neg (by simpa using h4)]
     rw [Int.add_mul, Int.neg_mul, Int.mul_comm (((q + 0 : Nat)) : Int)]
     simp only [Nat.add_zero]
     omega
   · rw [if_pos h4]
     rw [Int.add_mul, Int.neg_mul, Int.natCast_add, Int.add_mul, Int.mul_comm (q : Int), Int.natCast_one, Int.one_mul]
     omega
theorem between' {s : Bool} {m d c : Nat} (hc : (s = true ∧ c = m / 2 ^ d) ∨ (s = false ∧ c = m / 2 ^ d + (if m % 2 ^ d ≠ 0 then 1 else 0))) : sn s m ≤ sn s c * ((2 ^ d : Nat) : Int) ∧ (sn s c - 1) * ((2 ^ d : Nat) : Int) < sn s m := by
 have h := between (s := !s) (m := m) (d := d) (c := c) (by cases s <;> simpa using hc)
 have hn : ∀ k, sn (!s) k = - sn s k := fun k => by cases s <;> simp [sn]
 rw [hn, hn, Int.neg_mul] at h
 have h2 : (-sn s c + 1) * ((2 ^ d : Nat) : Int) = -((sn s c - 1) * ((2 ^ d : Nat) : Int)) := by rw [← Int.neg_mul]; congr 1; omega
 rw [h2] at h
 omega
theorem unit_place {i : Int} {d : Nat} (h1 : -1074 ≤ i) (hd : (d : Int) = -i) : d ≤ 1074 ∧ (i + 1074).toNat = 1074 - d := by omega
theorem big_place {i : Nat} : (un ((i : Int) + 1074).toNat : Int) = ((2 ^ i : Nat) : Int) * U := by
 rw [show ((i : Int) + 1074).toNat = i + 1074 by omega, un_add]
 unfold U
 exact Int.natCast_mul _ _
theorem whole_val {x : Nat} (way : Toward) (h : rg x < top) (hw : way = .down ∨ way = .up) :
   ∃ a : Int, rg (double.write ((double.read x).integral way)) < top ∧ double.write ((double.read x).integral way) < 2 ^ 64 ∧ val (double.write ((double.read x).integral way)) = a * U ∧ ((way = .down → a * U ≤ val x ∧ val x < (a + 1) * U) ∧ (way = .up → val x ≤ a * U ∧ (a - 1) * U < val x)) := by
 obtain ⟨m, i, e, h3, ⟨h1, h2⟩, h4, h5, h6⟩ := integral_val h
 rw [e]
 show ∃ a : Int, rg (double.nearest (fsg x) (way.cut (fsg x) (m <<< i.toNat) (-i).toNat) 0) < top ∧ double.nearest (fsg x) (way.cut (fsg x) (m <<< i.toNat) (-i).toNat) 0 < 2 ^ 64 ∧ val (double.nearest (fsg x) (way.cut (fsg x) (m <<< i.toNat) (-i).toNat) 0) = a * U ∧ _
 rcases Int.lt_or_le i 0 with hi | hi
 · obtain ⟨d, hd⟩ : ∃ d : Nat, (d : Int) = -i := ⟨(-i).toNat, by omega⟩
   obtain ⟨hd1, hd2⟩ := unit_place h1 hd
   have hU := unit_split hd1
   have hV := un_pos (1074 - d)
   rw [hd2] at h6
   rw [show i.toNat = 0 by omega, show (-i).toNat = d by omega, Nat.shiftLeft_zero]
   have hc : ∃ c : Nat, way.cut (fsg x) m d = c ∧ c < 2 ^ 53 ∧ ((way = .down → (fsg x = false ∧ c = m / 2 ^ d) ∨ (fsg x = true ∧ c = m / 2 ^ d + (if m % 2 ^ d ≠ 0 then 1 else 0))) ∧ (way = .up → (fsg x = true ∧ c = m / 2 ^ d) ∨ (fsg x = false ∧ c = m / 2 ^ d + (if m % 2 ^ d ≠ 0 then 1 else 0)))) := by
     refine ⟨_, rfl, ?_⟩
     have hq : m / 2 ^ d < 2 ^ 52 := by
       rw [Nat.div_lt_iff_lt_mul (Nat.two_pow_pos _)]
       have p1 : 2 ^ 1 ≤ 2 ^ d := Nat.pow_le_pow_right (by decide) (by omega)
       have p2 : 2 ^ 52 * 2 ^ 1 ≤ 2 ^ 52 * 2 ^ d := Nat.mul_le_mul_left _ p1
       omega
     rcases hw with rfl | rfl
     · rw [cut_down]
       refine ⟨by split <;> omega, fun _ => ?_, fun q => by cases q⟩
       cases fsg x <;> simp
     · rw [cut_up]
       refine ⟨by split <;> omega, fun q => (by cases q), fun _ => ?_⟩
       cases fsg x <;> simp
   obtain ⟨c, hc1, hc2, hc3, hc4⟩ := hc
   rw [hc1]
   obtain ⟨n1, n2, n3⟩ := nearest_val (fsg x) (n := c) (k := 0) (Nat.lt_of_lt_of_le hc2 (un_le (by decide))) (by simp [Nat.mod_one]) (by simpa using hc2)
   refine ⟨sn (fsg x) c, n1, n2, n3, fun q => ?_, fun q => ?_⟩
   · obtain ⟨b1, b2⟩ := between (hc3 q)
     rw [h6, hU, ← Int.mul_assoc, ← Int.mul_assoc]
     exact ⟨Int.mul_le_mul_of_nonneg_right b1 (by omega), Int.mul_lt_mul_of_pos_right b2 (by omega)⟩
   · obtain ⟨b1, b2⟩ := between' (hc4 q)
     rw [h6, hU, ← Int.mul_assoc, ← Int.mul_assoc]
     exact ⟨Int.mul_le_mul_of_nonneg_right b1 (by omega), Int.mul_lt_mul_of_pos_right b2 (by omega)⟩
 · obtain ⟨j, rfl⟩ : ∃ j : Nat, i = j := ⟨i.toNat, by omega⟩
   have hc : way.cut (fsg x) (m <<< (j : Int).toNat) (-(j : Int)).toNat = m * 2 ^ j := by
     rw [show (-(j : Int)).toNat = 0 by omega, Int.toNat_natCast, Nat.shiftLeft_eq]
     rcases hw with rfl | rfl
     · rw [cut_down]; simp [Nat.mod_one]
     · rw [cut_up]; simp [Nat.mod_one]
   rw [hc]
   rw [Int.toNat_natCast, Nat.shiftLeft_eq] at h5
   obtain ⟨n1, n2, n3⟩ := nearest_val (fsg x) (n := m * 2 ^ j) (k := j) h5 (Nat.mul_mod_left _ _) (by rw [Nat.mul_div_cancel _ (Nat.two_pow_pos j)]; exact h3)
   rw [big_place] at h6
   have hx : val x = sn (fsg x) (m * 2 ^ j) * U := by rw [h6, sn_mul, Int.mul_assoc]
   have hU := U_pos
   refine ⟨_, n1, n2, n3, fun _ => ?_, fun _ => ?_⟩
   · rw [hx, Int.add_mul]; omega
   · rw [hx, Int.sub_mul]; omega
theorem toInt_val {w : Nat} {a : Int} (h : rg w < top) (hv : val w = a * U) : (double.read w).toInt .zero = some a := by
 obtain ⟨m, i, e, h3, ⟨h1, h2⟩, h4, h5, h6⟩ := integral_val h
 rw [e]
 show some (signed (fsg w) (Toward.zero.cut (fsg w) (m <<< i.toNat) (-i).toNat) 0) = _
 rw [cut_zero, signed_mul]
 congr 1
 show sn (fsg w) (m <<< i.toNat / 2 ^ (-i).toNat) * 1 = a
 rw [Int.mul_one]
 have hU := U_pos
 rw [h6] at hv
 rcases Int.lt_or_le i 0 with hi | hi
 · obtain ⟨d, hd⟩ : ∃ d : Nat, (d : Int) = -i := ⟨(-i).toNat, by omega⟩
   obtain ⟨hd1, hd2⟩ := unit_place h1 hd
   have hV := un_pos (1074 - d)
   rw [hd2, unit_split hd1, ← Int.mul_assoc] at hv
   have hm := Int.eq_of_mul_eq_mul_right (by omega) hv
   rw [show i.toNat = 0 by omega, show (-i).toNat = d by omega, Nat.shiftLeft_zero]
   have hdv : (2 ^ d) ∣ m := by
    have : (((2 ^ d : Nat)) : Int) ∣ (m : Int) := by
     have h7 : (((2 ^ d : Nat)) : Int) ∣ sn (fsg w) m := ⟨a, by rw [hm, Int.mul_comm]⟩
     unfold sn at h7
     split at h7
     · exact Int.dvd_neg.1 h7
     · exact h7
    exact Int.natCast_dvd_natCast.1 this
   obtain ⟨q, rfl⟩ := hdv
   rw [Nat.mul_comm, sn_mul] at hm
   rw [Nat.mul_div_cancel_left _ (Nat.two_pow_pos d)]
   exact Int.eq_of_mul_eq_mul_right (by have := Nat.two_pow_pos d; omega) hm
 · obtain ⟨j, rfl⟩ : ∃ j : Nat, i = j := ⟨i.toNat, by omega⟩
   rw [big_place, ← Int.mul_assoc] at hv
   have hm := Int.eq_of_mul_eq_mul_right (by omega) hv
   rw [show (-(j : Int)).toNat = 0 by omega, Int.toNat_natCast, Nat.shiftLeft_eq, Nat.pow_zero, Nat.div_one, sn_mul]
   exact hm
def flo (x : Nat) : Int := val x / U
theorem flo_eq {x : Nat} {a : Int} (h1 : a * U ≤ val x) (h2 : val x < (a + 1) * U) : flo x = a := by
 have hU := U_pos
 unfold flo
 have h3 := (Int.le_ediv_iff_mul_le hU).2 h1
 have h4 := (Int.ediv_lt_iff_lt_mul hU).2 h2
 omega
theorem fl_val {x : Nat} (h : rg x < top) : rg (flW x) < top ∧ flW x < 2 ^ 64 ∧ val (flW x) = flo x * U ∧ (double.read (flW x)).toInt .zero = some (flo x) := by
 obtain ⟨a, h1, h2, h3, h4, _⟩ := whole_val .down h (.inl rfl)
 obtain ⟨k1, k2⟩ := h4 rfl
 rw [flo_eq k1 k2]
 exact ⟨h1, h2, h3, toInt_val h1 h3⟩
theorem flo_le (x : Nat) : flo x * U ≤ val x ∧ val x < (flo x + 1) * U := by
 have hU := U_pos
 unfold flo
 exact ⟨Int.ediv_mul_le _ (by omega), Int.lt_ediv_add_one_mul_self _ hU⟩
def gr : Nat := 0x43E0000000000000
def ngr : Nat := 0xC3E0000000000000
theorem gr_val : rg gr < top ∧ val gr = 9223372036854775808 * U := by
 refine ⟨by decide, ?_⟩
 rw [val_eq (m := 9223372036854775808 * un 1074) (by
  show mg 0x43E0000000000000 = _
  have h : mg 0x43E0000000000000 = 2 ^ 52 * un 1085 := by decide +kernel
  rw [h, show 1085 = 11 + 1074 from rfl, un_add, ← Nat.mul_assoc])]
 show ((9223372036854775808 * un 1074 : Nat) : Int) = _
 rw [Int.natCast_mul]; rfl
theorem ngr_val : rg ngr < top ∧ val ngr = -9223372036854775808 * U := by
 refine ⟨by decide, ?_⟩
 rw [val_eq (m := 9223372036854775808 * un 1074) (by
  show mg 0x43E0000000000000 = _
  have h : mg 0x43E0000000000000 = 2 ^ 52 * un 1085 := by decide +kernel
  rw [h, show 1085 = 11 + 1074 from rfl, un_add, ← Nat.mul_assoc])]
 show -((9223372036854775808 * un 1074 : Nat) : Int) = _
 rw [Int.natCast_mul, ← Int.neg_mul]; rfl
theorem ord_lt {x y : Nat} (hx : rg x ≤ top) (hy : rg y ≤ top) : (double.order x y == some .lt) = decide (val x < val y) := by
 rw [order_val hx hy]
 rcases Int.lt_trichotomy (val x) (val y) with h | h | h
 · rw [cmp_lt h]; simp [h]
 · rw [h, cmp_eq]; simp
 · rw [cmp_gt h]; simp; omega
theorem ord_eq {x y : Nat} (hx : rg x ≤ top) (hy : rg y ≤ top) : (double.order x y == some .eq) = decide (val x = val y) := by
 rw [order_val hx hy]
 rcases Int.lt_trichotomy (val x) (val y) with h | h | h
 · rw [cmp_lt h]; simp; omega
 · rw [h, cmp_eq]; simp
 · rw [cmp_gt h]; simp; omega
theorem ord_gt {x y : Nat} (hx : rg x ≤ top) (hy : rg y ≤ top) : (double.order x y == some .gt) = decide (val y < val x) := by
 rw [order_val hx hy]
 rcases Int.lt_trichotomy (val x) (val y) with h | h | h
 · rw [cmp_lt h]; simp; omega
 · rw [h, cmp_eq]; simp
 · rw [cmp_gt h]; simp [h]
theorem ord_ge {x y : Nat} (hx : rg x ≤ top) (hy : rg y ≤ top) : (double.order x y == some .gt || double.order x y == some .eq) = decide (val y ≤ val x) := by
 rw [ord_gt hx hy, ord_eq hx hy, ← Bool.decide_or]
 exact decide_eq_decide.2 (by omega)
theorem against_law {x : Nat} {n : Int} : (c3 (flo x) n ≠ 0 → c3 (val x) (n * U) = c3 (flo x) n) ∧ (c3 (flo x) n = 0 → flo x * U = val x → c3 (val x) (n * U) = 0) ∧ (c3 (flo x) n = 0 → flo x * U ≠ val x → c3 (val x) (n * U) = 1) := by
 have hU := U_pos
 obtain ⟨h1, h2⟩ := flo_le x
 rcases Int.lt_trichotomy (flo x) n with h | h | h
 · have h3 : (flo x + 1) * U ≤ n * U := Int.mul_le_mul_of_nonneg_right (by omega) (by omega)
   have e1 : c3 (flo x) n = -1 := by unfold c3; rw [if_pos h]
   have e2 : c3 (val x) (n * U) = -1 := by unfold c3; rw [if_pos (by omega)]
   rw [e1, e2]
   exact ⟨fun _ => rfl, fun q => absurd q (by decide), fun q => absurd q (by decide)⟩
 · have e1 : c3 (flo x) n = 0 := by unfold c3; rw [if_neg (by omega), if_neg (by omega)]
   rw [e1, ← h]
   refine ⟨fun q => absurd rfl q, fun _ q => ?_, fun _ q => ?_⟩
   · unfold c3; rw [if_neg (by omega), if_neg (by omega)]
   · unfold c3; rw [if_neg (by omega), if_pos (by omega)]
 · have h3 : (n + 1) * U ≤ flo x * U := Int.mul_le_mul_of_nonneg_right (by omega) (by omega)
   rw [Int.add_mul] at h3
   have e1 : c3 (flo x) n = 1 := by unfold c3; rw [if_neg (by omega), if_pos h]
   have e2 : c3 (val x) (n * U) = 1 := by unfold c3; rw [if_neg (by omega), if_pos (by omega)]
   rw [e1, e2]
   exact ⟨fun _ => rfl, fun q => absurd q (by decide), fun q => absurd q (by decide)⟩
theorem against_hi {x : Nat} {n : Int} (hn : n ≤ 9223372036854775807) (h : val gr ≤ val x) : c3 (val x) (n * U) = 1 := by
 have hU := U_pos
 rw [gr_val.2] at h
 have h3 : n * U < 9223372036854775808 * U := Int.mul_lt_mul_of_pos_right (by omega) hU
 unfold c3; rw [if_neg (by omega), if_pos (by omega)]
theorem against_lo {x : Nat} {n : Int} (hn : -9223372036854775808 ≤ n) (h : val x < val ngr) : c3 (val x) (n * U) = -1 := by
 have hU := U_pos
 rw [ngr_val.2] at h
 have h3 : -9223372036854775808 * U ≤ n * U := Int.mul_le_mul_of_nonneg_right (by omega) (by omega)
 unfold c3; rw [if_pos (by omega)]
def sr (x : Nat) : Int := if fsg x then -(rg x : Int) else rg x
def MG (s : Int) : Int := if s < 0 then -(mg s.natAbs : Int) else mg s.natAbs
theorem val_sr (x : Nat) : val x = MG (sr x) := by
 unfold val MG sr
 cases fsg x with
 | true =>
   simp only [if_true]
   by_cases h : rg x = 0
   · rw [h]; rfl
   · rw [if_pos (by omega), show (-(rg x : Int)).natAbs = rg x by omega]
 | false =>
   simp only [Bool.false_eq_true, if_false]
   rw [if_neg (by omega), show ((rg x : Int)).natAbs = rg x by omega]
def nw (n : Int) : Nat := double.write (.number (n < 0) n.natAbs 0)
def fns (n : Int) : Int := if n < 0 then -(nr n.natAbs : Int) else nr n.natAbs
theorem small_un {n : Int} (h : -9223372036854775808 ≤ n ∧ n ≤ 9223372036854775807) : n.natAbs < 2 ^ 64 ∧ n.natAbs < un 1024 := by
 have h1 : n.natAbs < 2 ^ 64 := by omega
 exact ⟨h1, Nat.lt_of_lt_of_le h1 (un_le (by decide))⟩
theorem nr_small {n : Nat} (h : n < 2 ^ 64) : nr n ≤ 1087 * 2 ^ 52 := by
 unfold nr
 split
 · omega
 · rename_i h0
   have h1 := (kept_bounds h0).2
   have h2 := (Nat.log2_lt h0 (k := 64)).2 h
   have h3 : (n.log2 + 1022) * 2 ^ 52 ≤ 1085 * 2 ^ 52 := Nat.mul_le_mul_right _ (by omega)
   have h4 : 1085 * 2 ^ 52 + 2 ^ 53 = 1087 * 2 ^ 52 := rfl
   rw [← h4]
   exact Nat.add_le_add h3 h1
theorem nw_law {n : Int} (h : -9223372036854775808 ≤ n ∧ n ≤ 9223372036854775807) : nw n < 2 ^ 64 ∧ fsg (nw n) = decide (n < 0) ∧ rg (nw n) = nr n.natAbs ∧ rg (nw n) ≤ 1087 * 2 ^ 52 ∧ sr (nw n) = fns n := by
 obtain ⟨h1, h2⟩ := small_un h
 have h3 := nr_small h1
 have e : nw n = double.word (decide (n < 0)) (nr n.natAbs) := near_nr _ h2
 obtain ⟨k1, k2, k3⟩ := word_parts (decide (n < 0)) (r := nr n.natAbs) (by omega)
 rw [e]
 refine ⟨k3, k2, k1, by rw [k1]; exact h3, ?_⟩
 unfold sr fns
 rw [k1, k2]
 by_cases h0 : n < 0 <;> simp [h0]
theorem nr_pos {n : Nat} (h : n ≠ 0) : 0 < nr n := by
 unfold nr
 rw [if_neg h]
 have := (kept_bounds h).1
 omega
def fdn (n : Int) : Int := if c3 (MG (fns n)) (n * U) = 1 then fns n - 1 else fns n
theorem fns_zero {n : Int} (h : fns n = 0) : n = 0 := by
 unfold fns at h
 by_cases h0 : n = 0
 · exact h0
 · have := nr_pos (n := n.natAbs) (by omega)
   split at h <;> omega
end Go.Proofs.YteodjglbpfmikaaGreatDoor.Fl
namespace Go.Proofs.YteodjglbpfmikaaGreatDoor.Fl
open Ieee
theorem entry (n : String) (way : Toward) (x : Nat) : Extern.MathFloor.toIntegral n way #[.float .f64 x] = (match double.read x with
 | .nan s t => if double.quiet t = t then pure (.float .f64 x) else (do
   let kept ← choose (.extern "math.Floor,Ceil,Trunc,RoundToEven.signallingNaN kept" 2)
   pure (.float .f64 (if kept == 1 then x else double.write (.nan s (double.quiet t)))))
 | d => pure (.float .f64 (double.write (d.integral way)))) := rfl
theorem floor_num {P : Program} {x : Nat} (n : String) (way : Toward) (h : rg x ≤ top) (w : World) : (Extern.MathFloor.toIntegral n way #[.float .f64 x]).run P w = .ok (.float .f64 (double.write ((double.read x).integral way))) w := by
 rw [entry]
 rcases Nat.lt_or_ge (rg x) top with h1 | h1
 · obtain ⟨m, i, e1, _⟩ := read_num h1
   rw [e1]; rfl
 · rw [read_inf (by omega)]; rfl
theorem to_int {x : Nat} {a : Int} (h : (double.read x).toInt .zero = some a) (h1 : -9223372036854775808 ≤ a) (h2 : a ≤ 9223372036854775807) : floatToIntVal .f64 x .i64 = some a := by
 unfold floatToIntVal
 rw [show FloatKind.f64.decode x = double.read x from rfl, h]
 simp only
 rw [if_pos]
 exact ⟨by simpa [IntKind.min, IntKind.signed, IntKind.bits] using h1, by simpa [IntKind.max, IntKind.signed, IntKind.bits] using h2⟩
end Go.Proofs.YteodjglbpfmikaaGreatDoor.Fl
namespace Go.Proofs.YteodjglbpfmikaaGreatDoor
open Go.RowKit Fl Ieee
set_option linter.unusedVariables false
set_option linter.unusedSimpArgs false
theorem arch_floor {x : Nat} (h : rg x ≤ top) (w : World) : (callFunc 108 #[.float .f64 x]).run Tryz.prog w = .ok (.value (.float .f64 (flW x))) w := by
 rw [run_callFunc_extern Tryz.func108 (by kernel_rfl) (by kernel_rfl) (by kernel_rfl) (e := Extern.MathFloor.toIntegral "math.archFloor" .down) (by kernel_rfl), floor_num _ _ h]
 rfl
theorem f_bits (x : Nat) (w : World) : (callFunc 146 #[.float .f64 x]).run Tryz.prog w = .ok (.value (.int .u64 x)) w := by
 rw [run_callFunc_extern Tryz.func146 (by kernel_rfl) (by kernel_rfl) (by kernel_rfl) (e := Extern.MathFloatBits.float64bits) (by kernel_rfl)]
 rfl
theorem f_from (x : Int) (w : World) : (callFunc 147 #[.int .u64 x]).run Tryz.prog w = .ok (.value (.float .f64 x.toNat)) w := by
 rw [run_callFunc_extern Tryz.func147 (by kernel_rfl) (by kernel_rfl) (by kernel_rfl) (e := Extern.MathFloatBits.float64frombits) (by kernel_rfl)]
 rfl
theorem m_floor {x : Nat} (h : rg x ≤ top) (w : World) : Calls Tryz.prog 51 #[.float .f64 x] w fun ro w' => ro = .returned (.float .f64 (flW x)) ∧ w = w' := by
 have HL := arch_floor h
 go_enter Tryz.func51, Tryz.ntmps51
 go_wp2_with (simp only [HL])
 go_ret
 exact ⟨rfl, rfl⟩
theorem f_against {x : Nat} {n : Int} (h : rg x ≤ top) (hn : I64 n) (w : World) : Calls Tryz.prog 53 #[.float .f64 x, .int .i64 n] w fun ro w' => ro = .returned (.int .i64 (c3 (val x) (n * U))) ∧ w = w' := by
 have HN := Lib.hid hn
 have q1 : (FloatKind.f64.format.order x 4890909195324358656 == some .gt || FloatKind.f64.format.order x 4890909195324358656 == some .eq) = decide (val gr ≤ val x) := ord_ge h (Nat.le_of_lt gr_val.1)
 have q2 : (FloatKind.f64.format.order x 14114281232179134464 == some .lt) = decide (val x < val ngr) := ord_lt h (Nat.le_of_lt ngr_val.1)
 have HLAW := Lib.hid (against_law (x := x) (n := n))
 clear hn
 by_cases h1 : val gr ≤ val x
 · have HH := Lib.hid (against_hi HN.out.2 h1)
   rw [decide_eq_true h1] at q1
   clear h1 h
   go_enter Tryz.func53, Tryz.ntmps53
   go_wp2_with (simp only [q1])
   go_ret
   exact ⟨by rw [HH.out]; rfl, rfl⟩
 by_cases h2 : val x < val ngr
 · have HH := Lib.hid (against_lo HN.out.1 h2)
   rw [decide_eq_false h1] at q1
   rw [decide_eq_true h2] at q2
   clear h1 h2 h
   go_enter Tryz.func53, Tryz.ntmps53
   go_wp2_with (simp only [q1, q2])
   go_ret
   exact ⟨by rw [HH.out]; rfl, rfl⟩
 rw [decide_eq_false h1] at q1
 rw [decide_eq_false h2] at q2
 have hx : rg x < top := by
   rcases Nat.lt_or_ge (rg x) top with h3 | h3
   · exact h3
   · exfalso
     have h4 : rg x = top := by omega
     have h5 := mg_top gr_val.1
     have e1 := val_eq (x := x) (m := mg top) (by rw [h4])
     have e2 := val_eq (x := gr) (m := mg (rg gr)) rfl
     have e3 := val_eq (x := ngr) (m := mg (rg ngr)) rfl
     have h6 := mg_top ngr_val.1
     rw [e1, e2] at h1
     rw [e1, e3] at h2
     have s1 : fsg gr = false := by decide
     have s2 : fsg ngr = true := by decide
     rw [s1] at h1
     rw [s2] at h2
     unfold sn at h1 h2
     cases hs : fsg x with
     | true => rw [hs] at h2; simp only [if_true] at h2; omega
     | false => rw [hs] at h1; simp only [Bool.false_eq_true, if_false] at h1; omega
 obtain ⟨k1, k2, k3, k4⟩ := fl_val hx
 have hU := U_pos
 have hlo : -9223372036854775808 ≤ flo x := by
   obtain ⟨_, h4⟩ := flo_le x
   rw [ngr_val.2] at h2
   have h5 : -9223372036854775808 * U < (flo x + 1) * U := by omega
   have := Int.lt_of_mul_lt_mul_right h5 (by omega)
   omega
 have hhi : flo x ≤ 9223372036854775807 := by
   obtain ⟨h4, _⟩ := flo_le x
   rw [gr_val.2] at h1
   have h5 : flo x * U < 9223372036854775808 * U := by omega
   have := Int.lt_of_mul_lt_mul_right h5 (by omega)
   omega
 have hc : ∀ w, (convert 25 2 (.float .f64 (flW x))).run Tryz.prog w = .ok (.int .i64 (flo x)) w := fun w => run_convert_float_int w _ _ .f64 .i64 _ _ (by rw [Tryz.underlying25]; rfl) Tryz.underlying2 (to_int k4 hlo hhi)
 have q3 : (FloatKind.f64.format.order (flW x) x == some .eq) = decide (flo x * U = val x) := by rw [← k3]; exact ord_eq (Nat.le_of_lt k1) (Nat.le_of_lt hx)
 clear h1 h2 k1 k2 k3 k4 hU hlo hhi
 go_enter Tryz.func53, Tryz.ntmps53
 have HX := Lib.hid h
 clear h
 by_cases hz : c3 (flo x) n = 0
 · have dz : (c3 (flo x) n != 0) = false := by simpa using hz
   by_cases he : flo x * U = val x
   · rw [decide_eq_true he] at q3
     have HH := Lib.hid (HLAW.out.2.1 hz he)
     have HZ := Lib.hid hz
     clear he hz
     go_wp2_with (first | simp only [q1, q2, q3, hc, dz] | (go_at_call 51; refine (m_floor HX.out _).mono ?_; rintro e wa ⟨rfl, rfl⟩) | (go_at_call 56; refine (cmp64 _ _ _).mono ?_; rintro e wa ⟨rfl, rfl⟩))
     go_ret
     exact ⟨by rw [HH.out, ← HZ.out]; rfl, rfl⟩
   · rw [decide_eq_false he] at q3
     have HH := Lib.hid (HLAW.out.2.2 hz he)
     clear he hz
     go_wp2_with (first | simp only [q1, q2, q3, hc, dz] | (go_at_call 51; refine (m_floor HX.out _).mono ?_; rintro e wa ⟨rfl, rfl⟩) | (go_at_call 56; refine (cmp64 _ _ _).mono ?_; rintro e wa ⟨rfl, rfl⟩))
     go_ret
     exact ⟨by rw [HH.out]; rfl, rfl⟩
 · have dz : (c3 (flo x) n != 0) = true := by simpa using hz
   have HH := Lib.hid (HLAW.out.1 hz)
   clear hz q3
   go_wp2_with (first | simp only [q1, q2, hc, dz] | (go_at_call 51; refine (m_floor HX.out _).mono ?_; rintro e wa ⟨rfl, rfl⟩) | (go_at_call 56; refine (cmp64 _ _ _).mono ?_; rintro e wa ⟨rfl, rfl⟩))
   go_ret
   exact ⟨by rw [HH.out]; rfl, rfl⟩
end Go.Proofs.YteodjglbpfmikaaGreatDoor
namespace Go.Proofs.YteodjglbpfmikaaGreatDoor.Fl
open Ieee
def kf (x : Nat) : Int := if fsg x then 18446744073709551615 - x else x + 9223372036854775808
theorem fsg_iff {x : Nat} (hx : x < 18446744073709551616) : fsg x = decide (9223372036854775808 ≤ x) := by
 unfold fsg
 rcases Nat.lt_or_ge x 9223372036854775808 with h | h
 · have e : x / 2 ^ 63 % 2 = 0 := by omega
   rw [e]; simp; omega
 · have e : x / 2 ^ 63 % 2 = 1 := by omega
   rw [e]; simp; omega
theorem and_nat (x : Nat) (hx : x < 18446744073709551616) : x &&& 9223372036854775808 = if 9223372036854775808 ≤ x then 9223372036854775808 else 0 := by
 have hb : x.testBit 63 = decide (9223372036854775808 ≤ x) := by
   rw [Nat.testBit_eq_decide_div_mod_eq]
   exact decide_eq_decide.2 (by omega)
 apply Nat.eq_of_testBit_eq
 intro i
 rw [Nat.testBit_and, show (9223372036854775808 : Nat) = 2 ^ 63 from rfl, Nat.testBit_two_pow]
 by_cases hi : 63 = i
 · subst hi
   rw [hb]
   by_cases h : 9223372036854775808 ≤ x
   · rw [if_pos h, Nat.testBit_two_pow]; simp; exact h
   · rw [if_neg h]; simp; omega
 · rw [decide_eq_false hi, Bool.and_false]
   split
   · rw [Nat.testBit_two_pow, decide_eq_false hi]
   · simp
theorem b_and (k : Int) (h0 : 0 ≤ k) (h1 : k < 18446744073709551616) : bits .and .u64 k 9223372036854775808 = if 9223372036854775808 ≤ k then 9223372036854775808 else 0 := by
 rw [u64_and k _ h0 h1 (by decide) (by decide)]
 show ((k.toNat &&& 9223372036854775808 : Nat) : Int) = _
 rw [and_nat _ (by omega)]
 split <;> split <;> omega
theorem b_or (k : Int) (h0 : 0 ≤ k) (h1 : k < 9223372036854775808) : bits .or .u64 k 9223372036854775808 = k + 9223372036854775808 := by
 rw [u64_or k _ h0 (by omega) (by decide) (by decide)]
 show ((k.toNat ||| 9223372036854775808 : Nat) : Int) = _
 have h := Nat.two_pow_add_eq_or_of_lt (b := k.toNat) (i := 63) (by omega) 1
 rw [show (2 : Nat) ^ 63 * 1 = 9223372036854775808 from rfl, Nat.or_comm] at h
 rw [← h]
 omega
theorem b_not (k : Int) (h0 : 0 ≤ k) (h1 : k < 18446744073709551616) : bits .xor .u64 IntKind.u64.max k = 18446744073709551615 - k := by
 have e : IntKind.u64.max = 18446744073709551615 := rfl
 rw [e, u64_xor _ k (by decide) (by decide) h0 h1]
 show ((18446744073709551615 ^^^ k.toNat : Nat) : Int) = _
 have h : (18446744073709551615 ^^^ k.toNat : Nat) = 18446744073709551615 - k.toNat := by
  have hk : k.toNat < 2 ^ 64 := by omega
  apply Nat.eq_of_testBit_eq
  intro i
  rw [Nat.testBit_xor, show (18446744073709551615 : Nat) = 2 ^ 64 - 1 from rfl, Nat.testBit_two_pow_sub_one, show 2 ^ 64 - 1 - k.toNat = 2 ^ 64 - (k.toNat + 1) by omega, Nat.testBit_two_pow_sub_succ hk]
  by_cases hi : i < 64
  · simp [hi]
  · simp only [hi, decide_false, Bool.false_and, Bool.false_xor]
    exact Nat.testBit_lt_two_pow (Nat.lt_of_lt_of_le hk (Nat.pow_le_pow_right (by decide) (by omega)))
 rw [h]
 omega
theorem b_andNot (k : Int) (h0 : 9223372036854775808 ≤ k) (h1 : k < 18446744073709551616) : bits .andNot .u64 k 9223372036854775808 = k - 9223372036854775808 := by
 rw [u64_andNot k _ (by omega) h1 (by decide) (by decide)]
 show ((k.toNat &&& 9223372036854775807 : Nat) : Int) = _
 have h := Nat.and_two_pow_sub_one_eq_mod k.toNat 63
 rw [show (2 : Nat) ^ 63 - 1 = 9223372036854775807 from rfl] at h
 rw [h]
 omega
end Go.Proofs.YteodjglbpfmikaaGreatDoor.Fl
namespace Go.Proofs.YteodjglbpfmikaaGreatDoor
open Go.RowKit Fl Ieee
set_option linter.unusedVariables false
set_option linter.unusedSimpArgs false
theorem f_key {x : Nat} (h : rg x ≤ top) (hx : x < 18446744073709551616) (w : World) : Calls Tryz.prog 105 #[.float .f64 x] w fun ro w' => ro = .returned (.int .u64 (kf x)) ∧ w = w' := by
 have q1 : (FloatKind.f64.format.order x x != some .eq) = false := by
   have := ord_eq h h
   rw [decide_eq_true rfl] at this
   show (!(double.order x x == some .eq)) = false
   rw [this]; rfl
 have HB := f_bits x
 have hs := fsg_iff hx
 by_cases hb : 9223372036854775808 ≤ x
 · have e1 : bits .and .u64 (x : Int) 9223372036854775808 = 9223372036854775808 := by rw [b_and _ (by omega) (by omega), if_pos (by omega)]
   have e2 : bits .xor .u64 IntKind.u64.max (x : Int) = kf x := by
    rw [b_not _ (by omega) (by omega)]
    unfold kf
    rw [hs, decide_eq_true hb]
    rfl
   clear h hx hs hb
   go_enter Tryz.func105, Tryz.ntmps105
   go_wp2_with (simp only [q1, HB, e1])
   go_ret
   exact ⟨by rw [← e2]; rfl, rfl⟩
 · have e1 : bits .and .u64 (x : Int) 9223372036854775808 = 0 := by rw [b_and _ (by omega) (by omega), if_neg (by omega)]
   have e2 : bits .or .u64 (x : Int) 9223372036854775808 = kf x := by
    rw [b_or _ (by omega) (by omega)]
    unfold kf
    rw [hs, decide_eq_false hb]
    rfl
   clear h hx hs hb
   go_enter Tryz.func105, Tryz.ntmps105
   go_wp2_with (simp only [q1, HB, e1])
   go_ret
   exact ⟨by rw [← e2]; rfl, rfl⟩
def wf (k : Int) : Nat := if 9223372036854775808 ≤ k then (k - 9223372036854775808).toNat else (18446744073709551615 - k).toNat
theorem f_at (k : Int) (h0 : 0 ≤ k) (h1 : k < 18446744073709551616) (w : World) : Calls Tryz.prog 107 #[.int .u64 k] w fun ro w' => ro = .returned (.float .f64 (wf k)) ∧ w = w' := by
 by_cases hb : 9223372036854775808 ≤ k
 · have e1 : bits .and .u64 k 9223372036854775808 = 9223372036854775808 := by rw [b_and _ h0 h1, if_pos hb]
   have e2 : (bits .andNot .u64 k 9223372036854775808).toNat = wf k := by
    rw [b_andNot _ hb h1]
    unfold wf
    rw [if_pos hb]
   clear h0 h1 hb
   go_enter Tryz.func107, Tryz.ntmps107
   go_wp2_with (simp only [f_from, e1])
   go_ret
   exact ⟨by rw [← e2]; rfl, rfl⟩
 · have e1 : bits .and .u64 k 9223372036854775808 = 0 := by rw [b_and _ h0 h1, if_neg hb]
   have e2 : (bits .xor .u64 IntKind.u64.max k).toNat = wf k := by
    rw [b_not _ h0 h1]
    unfold wf
    rw [if_neg hb]
   clear h0 h1 hb
   go_enter Tryz.func107, Tryz.ntmps107
   go_wp2_with (simp only [f_from, e1])
   go_ret
   exact ⟨by rw [← e2]; rfl, rfl⟩
theorem f_ninf (w : World) : Calls Tryz.prog 106 #[.int .i64 (-1)] w fun ro w' => ro = .returned (.float .f64 18442240474082181120) ∧ w = w' := by
 go_enter Tryz.func106, Tryz.ntmps106
 go_wp2_with (simp only [f_from])
 go_ret
 exact ⟨rfl, rfl⟩
theorem sr_parts {x : Nat} (hx : x < 18446744073709551616) : (fsg x = false ∧ x < 9223372036854775808 ∧ rg x = x ∧ sr x = x) ∨ (fsg x = true ∧ 9223372036854775808 ≤ x ∧ rg x = x - 9223372036854775808 ∧ sr x = -((x : Int) - 9223372036854775808)) := by
 have hs := fsg_iff hx
 unfold sr rg
 rcases Nat.lt_or_ge x 9223372036854775808 with h | h
 · rw [decide_eq_false (by omega)] at hs
   rw [hs]
   exact .inl ⟨rfl, h, by omega, by simp only [Bool.false_eq_true, if_false]; omega⟩
 · rw [decide_eq_true h] at hs
   rw [hs]
   exact .inr ⟨rfl, h, by omega, by simp only [if_true]; omega⟩
theorem f_prev {x : Nat} (hx : x < 18446744073709551616) (h : rg x ≤ 1087 * 2 ^ 52) (h0 : sr x ≠ 0) : ∃ y, (rg y < top ∧ sr y = sr x - 1) ∧ ∀ w, Calls Tryz.prog 48 #[.float .f64 x] w fun ro w' => ro = .returned (.tuple #[.float .f64 y, .int .i64 0]) ∧ w = w' := by
 have ht : rg x ≤ top := by unfold top; omega
 have hk : 4503599627370495 < kf x ∧ kf x < 18446744073709551615 ∧ 1 ≤ kf x := by
  unfold kf
  rcases sr_parts hx with ⟨e, h1, h2, h3⟩ | ⟨e, h1, h2, h3⟩ <;> rw [e]
  · simp only [Bool.false_eq_true, if_false]; omega
  · simp only [if_true]; omega
 have hw : rg (wf (kf x - 1)) < top ∧ sr (wf (kf x - 1)) = sr x - 1 := by
  rcases sr_parts hx with ⟨e, h1, h2, h3⟩ | ⟨e, h1, h2, h3⟩
  · have e1 : wf (kf x - 1) = x - 1 := by
      unfold wf kf; rw [e]; simp only [Bool.false_eq_true, if_false]; rw [if_pos (by omega)]; omega
    rw [e1, h3]
    rcases sr_parts (x := x - 1) (by omega) with ⟨k0, k1, k2, k3⟩ | ⟨k0, k1, k2, k3⟩
    · exact ⟨by rw [k2]; unfold top; omega, by rw [k3]; omega⟩
    · omega
  · have e1 : wf (kf x - 1) = x + 1 := by
      unfold wf kf; rw [e]; simp only [if_true]; rw [if_neg (by omega)]; omega
    rw [e1, h3]
    rcases sr_parts (x := x + 1) (by omega) with ⟨k0, k1, k2, k3⟩ | ⟨k0, k1, k2, k3⟩
    · omega
    · exact ⟨by rw [k2]; unfold top; omega, by rw [k3]; omega⟩
 refine ⟨_, hw, fun w => ?_⟩
 have e1 : IntKind.u64.wrap (kf x - 1) = kf x - 1 := IntWalk.u64_in _ (by omega)
 have d1 : (kf x != 18446744073709551615) = true := by simp; omega
 have d2 : decide (4503599627370495 < kf x) = true := by simp; omega
 have HB := Lib.hid (show 0 ≤ kf x - 1 ∧ kf x - 1 < 18446744073709551616 by omega)
 have e2 : kf 18442240474082181120 = 4503599627370495 := rfl
 have HKEY : Hid (∀ y, (y = x ∨ y = 18442240474082181120) → ∀ w, Calls Tryz.prog 105 #[.float .f64 y] w fun ro w' => ro = .returned (.int .u64 (kf y)) ∧ w = w') := Lib.hid (fun y hy w => by
  rcases hy with rfl | rfl
  · exact f_key ht hx w
  · exact f_key (by decide) (by decide) w)
 clear ht hk hw h h0 hx
 go_enter Tryz.func48, Tryz.ntmps48
 go_wp2_with (first | simp only [e1, e2, d1, d2] | (go_at_call 105; refine (HKEY.out _ (by first | exact .inl rfl | exact .inr rfl) _).mono ?_; rintro e wa ⟨rfl, rfl⟩) | (go_at_call 106; refine (f_ninf _).mono ?_; rintro e wa ⟨rfl, rfl⟩) | (go_at_call 107; refine (f_at _ HB.out.1 HB.out.2 _).mono ?_; rintro e wa ⟨rfl, rfl⟩))
 exact bodyPost_ret (v := .tuple #[.float .f64 (wf (kf x - 1)), .int .i64 0]) (by simp [results, Tryz.results48, go_sem]) rfl ⟨rfl, rfl⟩
theorem f_against_w {n : Int} (hn : I64 n) (w : World) : Calls Tryz.prog 53 #[.float .f64 (nw n), .int .i64 n] w fun ro w' => ro = .returned (.int .i64 (c3 (MG (fns n)) (n * U))) ∧ w = w' := by
 obtain ⟨h1, h2, h3, h4, h5⟩ := nw_law hn
 have h := f_against (x := nw n) (by unfold top; omega) hn w
 rw [val_sr, h5] at h
 exact h
theorem fns_ne {n : Int} (h : c3 (MG (fns n)) (n * U) ≠ 0) : fns n ≠ 0 := fun q => by
 have := fns_zero q
 subst this
 rw [q] at h
 exact h (by rw [Int.zero_mul]; rfl)
theorem f_near_dn (n : Int) (hn : I64 n) : ∃ y, (rg y < top ∧ sr y = fdn n) ∧ ∀ w, Calls Tryz.prog 47 #[.int .i64 n, .int .i64 1, .func (.func 48) #[] #[]] w fun ro w' => ro = .returned (.float .f64 y) ∧ w = w' := by
 obtain ⟨h1, h2, h3, h4, h5⟩ := nw_law hn
 have HA := Lib.hid (fun w => f_against_w hn w)
 by_cases hc : c3 (MG (fns n)) (n * U) = 1
 · have h0 := fns_ne (n := n) (by rw [hc]; decide)
   obtain ⟨y, ⟨hy1, hy2⟩, hp⟩ := f_prev h1 h4 (by rw [h5]; exact h0)
   have HP := Lib.hid hp
   have HD := Lib.hid (show fdn n = fns n - 1 by unfold fdn; rw [if_pos hc])
   refine ⟨y, ⟨hy1, by rw [hy2, h5, HD.out]⟩, fun w => ?_⟩
   have dc : (c3 (MG (fns n)) (n * U) == 1) = true := by simpa using hc
   clear h0 h1 h2 h3 h4 h5 hc hn hp hy1 hy2 HD
   go_enter Tryz.func47, Tryz.ntmps47
   go_wp2_with (first | simp only [dc] | (go_at_call 53; refine (HA.out _).mono ?_; rintro e wa ⟨rfl, rfl⟩) | (go_at_call 48; refine (HP.out _).mono ?_; rintro e wa ⟨rfl, rfl⟩))
   go_ret
   exact ⟨rfl, rfl⟩
 · have HD := Lib.hid (show fdn n = fns n by unfold fdn; rw [if_neg hc])
   refine ⟨nw n, ⟨by unfold top; omega, by rw [h5, HD.out]⟩, fun w => ?_⟩
   have dc : (c3 (MG (fns n)) (n * U) == 1) = false := by simpa using hc
   clear h1 h2 h3 h4 h5 hc hn HD
   go_enter Tryz.func47, Tryz.ntmps47
   go_wp2_with (first | simp only [dc] | (go_at_call 53; refine (HA.out _).mono ?_; rintro e wa ⟨rfl, rfl⟩))
   go_ret
   exact ⟨rfl, rfl⟩
theorem f_down (n : Int) (hn : I64 n) : ∃ y, (rg y < top ∧ sr y = fdn n) ∧ ∀ w, Calls Tryz.prog 9 #[.int .i64 n] w fun ro w' => ro = .returned (.float .f64 y) ∧ w = w' := by
 obtain ⟨y, hy, hw⟩ := f_near_dn n hn
 refine ⟨y, hy, fun w => ?_⟩
 have HN := Lib.hid hw
 clear hn hw hy
 go_enter Tryz.func9, Tryz.ntmps9
 go_wp2_with (go_at_call 47; refine (HN.out _).mono ?_; rintro e wa ⟨rfl, rfl⟩)
 go_ret
 exact ⟨rfl, rfl⟩
end Go.Proofs.YteodjglbpfmikaaGreatDoor
namespace Go.Proofs.YteodjglbpfmikaaGreatDoor
open Go.RowKit Fl Ieee
set_option linter.unusedVariables false
set_option linter.unusedSimpArgs false
theorem ne_self {x : Nat} (h : rg x ≤ top) : (FloatKind.f64.format.order x x != some .eq) = false := by
 have := ord_eq h h
 rw [decide_eq_true rfl] at this
 show (!(double.order x x == some .eq)) = false
 rw [this]; rfl
theorem f_whole_hi {x : Nat} (h : rg x ≤ top) (hb : val gr ≤ val x) (w : World) : Calls Tryz.prog 50 #[.float .f64 x] w fun ro w' => ro = .returned (.tuple #[.int .i64 0, .int .i64 15]) ∧ w = w' := by
 have q0 := ne_self h
 have q1 : (FloatKind.f64.format.order x 4890909195324358656 == some .gt || FloatKind.f64.format.order x 4890909195324358656 == some .eq) = decide (val gr ≤ val x) := ord_ge h (Nat.le_of_lt gr_val.1)
 rw [decide_eq_true hb] at q1
 clear h hb
 go_enter Tryz.func50, Tryz.ntmps50
 go_wp2_with (simp only [q0, q1])
 exact bodyPost_ret (v := .tuple #[.int .i64 0, .int .i64 15]) (by simp [results, Tryz.results50, go_sem]) rfl ⟨rfl, rfl⟩
theorem f_whole_lo {x : Nat} (h : rg x ≤ top) (hb : val x < val ngr) (w : World) : Calls Tryz.prog 50 #[.float .f64 x] w fun ro w' => ro = .returned (.tuple #[.int .i64 0, .int .i64 15]) ∧ w = w' := by
 have q0 := ne_self h
 have hU := U_pos
 have hb2 : ¬ val gr ≤ val x := fun q => by rw [gr_val.2] at q; rw [ngr_val.2] at hb; omega
 have q1 : (FloatKind.f64.format.order x 4890909195324358656 == some .gt || FloatKind.f64.format.order x 4890909195324358656 == some .eq) = decide (val gr ≤ val x) := ord_ge h (Nat.le_of_lt gr_val.1)
 have q2 : (FloatKind.f64.format.order x 14114281232179134464 == some .lt) = decide (val x < val ngr) := ord_lt h (Nat.le_of_lt ngr_val.1)
 rw [decide_eq_false hb2] at q1
 rw [decide_eq_true hb] at q2
 clear h hb hb2 hU
 go_enter Tryz.func50, Tryz.ntmps50
 go_wp2_with (simp only [q0, q1, q2])
 exact bodyPost_ret (v := .tuple #[.int .i64 0, .int .i64 15]) (by simp [results, Tryz.results50, go_sem]) rfl ⟨rfl, rfl⟩
theorem f_whole_in {x : Nat} {a : Int} (h : rg x < top) (hv : val x = a * U) (ha : I64 a) (w : World) : Calls Tryz.prog 50 #[.float .f64 x] w fun ro w' => ro = .returned (.tuple #[.int .i64 a, .int .i64 0]) ∧ w = w' := by
 have h' := Nat.le_of_lt h
 have q0 := ne_self h'
 have hU := U_pos
 have hb2 : ¬ val gr ≤ val x := fun q => by
  rw [gr_val.2, hv] at q
  have := Int.le_of_mul_le_mul_right q hU
  have := ha.2
  omega
 have hb3 : ¬ val x < val ngr := fun q => by
  rw [ngr_val.2, hv] at q
  have := Int.lt_of_mul_lt_mul_right q (by omega)
  have := ha.1
  omega
 have q1 : (FloatKind.f64.format.order x 4890909195324358656 == some .gt || FloatKind.f64.format.order x 4890909195324358656 == some .eq) = decide (val gr ≤ val x) := ord_ge h' (Nat.le_of_lt gr_val.1)
 have q2 : (FloatKind.f64.format.order x 14114281232179134464 == some .lt) = decide (val x < val ngr) := ord_lt h' (Nat.le_of_lt ngr_val.1)
 rw [decide_eq_false hb2] at q1
 rw [decide_eq_false hb3] at q2
 have hc : ∀ w, (convert 25 2 (.float .f64 x)).run Tryz.prog w = .ok (.int .i64 a) w := fun w => run_convert_float_int w _ _ .f64 .i64 _ _ (by rw [Tryz.underlying25]; rfl) Tryz.underlying2 (to_int (toInt_val h hv) ha.1 ha.2)
 clear h h' hb2 hb3 hU hv ha
 go_enter Tryz.func50, Tryz.ntmps50
 go_wp2_with (simp only [q0, q1, q2, hc])
 exact bodyPost_ret (v := .tuple #[.int .i64 a, .int .i64 0]) (by simp [results, Tryz.results50, go_sem]) rfl ⟨rfl, rfl⟩
def Whole (a : Int) (ro : Ending) : Prop := (I64 a ∧ ro = .returned (.tuple #[.int .i64 a, .int .i64 0])) ∨ (¬ I64 a ∧ ro = .returned (.tuple #[.int .i64 0, .int .i64 15]))
theorem f_whole {x : Nat} {a : Int} (h : rg x < top) (hv : val x = a * U) (w : World) : Calls Tryz.prog 50 #[.float .f64 x] w fun ro w' => Whole a ro ∧ w = w' := by
 have hU := U_pos
 by_cases ha : I64 a
 · exact (f_whole_in h hv ha w).mono fun ro w' hr => ⟨.inl ⟨ha, hr.1⟩, hr.2⟩
 · by_cases h2 : 9223372036854775807 < a
   · refine (f_whole_hi (Nat.le_of_lt h) ?_ w).mono fun ro w' hr => ⟨.inr ⟨ha, hr.1⟩, hr.2⟩
     rw [gr_val.2, hv]
     exact Int.mul_le_mul_of_nonneg_right (by omega) (by omega)
   · refine (f_whole_lo (Nat.le_of_lt h) ?_ w).mono fun ro w' hr => ⟨.inr ⟨ha, hr.1⟩, hr.2⟩
     rw [ngr_val.2, hv]
     exact Int.mul_lt_mul_of_pos_right (by unfold I64 at ha; omega) hU
theorem f_floor {x : Nat} (h : rg x < top) (w : World) : Calls Tryz.prog 11 #[.float .f64 x] w fun ro w' => Whole (flo x) ro ∧ w = w' := by
 obtain ⟨k1, k2, k3, k4⟩ := fl_val h
 have HM := Lib.hid (fun w => m_floor (Nat.le_of_lt h) w)
 have HW := Lib.hid (fun w => f_whole k1 k3 w)
 clear h k1 k2 k3 k4
 go_enter Tryz.func11, Tryz.ntmps11
 go_wp2_with (first | (go_at_call 51; refine (HM.out _).mono ?_; rintro e wa ⟨rfl, rfl⟩))
 go_at_call 50
 refine (HW.out _).mono ?_
 rintro e wa ⟨h | h, rfl⟩ <;> obtain ⟨h, rfl⟩ := h
 · have H := Lib.hid h
   clear h
   go_wp2_with fail
   exact bodyPost_ret (v := .tuple #[.int .i64 (flo x), .int .i64 0]) (by simp [results, Tryz.results11, go_sem]) rfl ⟨.inl ⟨H.out, rfl⟩, rfl⟩
 · have H := Lib.hid h
   clear h
   go_wp2_with fail
   exact bodyPost_ret (v := .tuple #[.int .i64 0, .int .i64 15]) (by simp [results, Tryz.results11, go_sem]) rfl ⟨.inr ⟨H.out, rfl⟩, rfl⟩
end Go.Proofs.YteodjglbpfmikaaGreatDoor
