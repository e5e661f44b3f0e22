/-
  WALKS OF circa/ints: Sub, size, signed, Mul.
-/
import Derived.Test.YtnibmofbalgobaaDoorIntsAdd
import Derived.Test.YtnibmofbalgobaaDoorNatI
import Derived.Test.YtnibmofbalgobaaDoorShInts
namespace Go.Proofs.YtnibmofbalgobaaDoor
open Go.RowKit
theorem sub_cmp (a b : Int) (ha : I64 a) (hb : I64 b) :
    (I64 (a - b) → wrap64 (a - b) = a - b ∧ decide (a - b < a) = decide (0 < b)) ∧ (¬ I64 (a - b) → decide (wrap64 (a - b) < a) = !decide (0 < b)) := by
  obtain ⟨a1, a2⟩ := ha
  obtain ⟨b1, b2⟩ := hb
  constructor
  · rintro ⟨h1, h2⟩
    refine ⟨by unfold wrap64; omega, ?_⟩
    rw [Bool.eq_iff_iff]; simp only [decide_eq_true_eq]; omega
  · intro h
    unfold I64 at h
    rw [Bool.eq_iff_iff]; simp only [decide_eq_true_eq, Bool.not_eq_true', decide_eq_false_iff_not]
    unfold wrap64
    omega
theorem isub_fits (a b : Int) (w : World) (ha : I64 a) (hb : I64 b) (h : I64 (a - b)) :
    Calls Tryd.prog 21 #[.int .i64 a, .int .i64 b] w fun e w' => e = .returned (.tuple #[.int .i64 (a - b), .int .i64 0]) ∧ w = w' := by
  obtain ⟨h1, h2⟩ := (sub_cmp a b ha hb).1 h
  obtain ⟨k1, k2⟩ := h
  clear h1
  by_cases hb0 : 0 < b
  · have c1 : decide (0 < b) = true := by simpa using hb0
    have c2 : decide (a - b < a) = true := by simp; omega
    clear h2
    go_enter Tryd.func21, Tryd.ntmps21
    go_wp2_with fail
    go_ret2
    exact ⟨rfl, rfl⟩
  · have c1 : decide (0 < b) = false := by simpa using hb0
    have c2 : decide (a - b < a) = false := by simp; omega
    clear h2
    go_enter Tryd.func21, Tryd.ntmps21
    go_wp2_with fail
    go_ret2
    exact ⟨rfl, rfl⟩
theorem isub_over (a b : Int) (w : World) (ha : I64 a) (hb : I64 b) (h : ¬ I64 (a - b)) :
    Calls Tryd.prog 21 #[.int .i64 a, .int .i64 b] w fun e w' => e = .returned (.tuple #[.int .i64 0, .int .i64 15]) ∧ w = w' := by
  have h2 := (sub_cmp a b ha hb).2 h
  generalize hn : wrap64 (a - b) = n at *
  by_cases hb0 : 0 < b
  · have c1 : decide (0 < b) = true := by simpa using hb0
    have c2 : decide (n < a) = false := by rw [h2, c1]; rfl
    clear h2
    go_enter Tryd.func21, Tryd.ntmps21
    go_wp2_with fail
    go_ret2
    exact ⟨rfl, rfl⟩
  · have c1 : decide (0 < b) = false := by simpa using hb0
    have c2 : decide (n < a) = true := by rw [h2, c1]; rfl
    clear h2
    go_enter Tryd.func21, Tryd.ntmps21
    go_wp2_with fail
    go_ret2
    exact ⟨rfl, rfl⟩
theorem u64_neg (a : Int) (h1 : -9223372036854775808 ≤ a) (h2 : a < 0) : IntKind.u64.wrap (-IntKind.u64.wrap a) = (a.natAbs : Int) := by
  rw [IntKind.wrap_u64, IntKind.wrap_u64]; omega
theorem u64_back (n : Int) (h0 : 0 ≤ n) (h : n ≤ 9223372036854775808) : wrap64 (IntKind.u64.wrap (-n)) = -n := by
  rw [IntKind.wrap_u64]; unfold wrap64; omega
set_option maxRecDepth 10000 in
theorem isize (a : Int) (w : World) (ha : I64 a) :
    Calls Tryd.prog 87 #[.int .i64 a] w fun e w' => e = .returned (.int .u64 (a.natAbs : Int)) ∧ w = w' := by
  obtain ⟨a1, a2⟩ := ha
  by_cases h : a < 0
  · have c1 : decide (a < 0) = true := by simpa using h
    go_enter Tryd.func87, Tryd.ntmps87
    go_wp2_with fail
    go_ret
    exact ⟨ret1_i (u64_neg a a1 h), rfl⟩
  · have c1 : decide (a < 0) = false := by simpa using h
    have c2 : 0 ≤ a := by omega
    go_enter Tryd.func87, Tryd.ntmps87
    go_wp2_with fail
    go_ret
    exact ⟨ret1_i (by omega), rfl⟩
set_option maxRecDepth 10000 in
theorem isigned_neg (n : Int) (w : World) (h0 : 0 ≤ n) (h : n ≤ 9223372036854775808) :
    Calls Tryd.prog 88 #[.int .u64 n, .bool true] w fun e w' => e = .returned (.tuple #[.int .i64 (-n), .int .i64 0]) ∧ w = w' := by
  have c1 : decide (n ≤ 9223372036854775808) = true := by simpa using h
  go_enter Tryd.func88, Tryd.ntmps88
  go_wp2_with fail
  go_ret2
  exact ⟨ret2_i (u64_back n h0 h) rfl, rfl⟩
set_option maxRecDepth 10000 in
theorem isigned_pos (n : Int) (w : World) (h0 : 0 ≤ n) (h : n ≤ 9223372036854775807) :
    Calls Tryd.prog 88 #[.int .u64 n, .bool false] w fun e w' => e = .returned (.tuple #[.int .i64 n, .int .i64 0]) ∧ w = w' := by
  have c1 : decide (n ≤ 9223372036854775807) = true := by simpa using h
  go_enter Tryd.func88, Tryd.ntmps88
  go_wp2_with fail
  go_ret2
  exact ⟨rfl, rfl⟩
set_option maxRecDepth 10000 in
theorem isigned_no (n : Int) (b : Bool) (w : World) (h : (b = true ∧ 9223372036854775808 < n) ∨ (b = false ∧ 9223372036854775807 < n)) :
    Calls Tryd.prog 88 #[.int .u64 n, .bool b] w fun e w' => e = .returned (.tuple #[.int .i64 0, .int .i64 15]) ∧ w = w' := by
  rcases h with ⟨rfl, h⟩ | ⟨rfl, h⟩
  · have c1 : decide (n ≤ 9223372036854775808) = false := by simp; omega
    go_enter Tryd.func88, Tryd.ntmps88
    go_wp2_with fail
    go_ret2
    exact ⟨rfl, rfl⟩
  · have c1 : decide (n ≤ 9223372036854775807) = false := by simp; omega
    go_enter Tryd.func88, Tryd.ntmps88
    go_wp2_with fail
    go_ret2
    exact ⟨rfl, rfl⟩
theorem mul_abs (a b : Int) : a * b = sg (decide (a < 0) != decide (b < 0)) ((a.natAbs * b.natAbs : Nat) : Int) := by
  have h := sg_mul a b
  rw [Dg.dl_val, Dg.dl_val] at h
  rw [← h, Int.natCast_mul]
set_option maxHeartbeats 1000000 in
set_option maxRecDepth 10000 in
theorem imul_gen (a b : Int) (P : Nat) (s : Bool) (rx re : Int) (w : World) (ha : I64 a) (hb : I64 b) (hP : a.natAbs * b.natAbs = P) (hs : (decide (a < 0) != decide (b < 0)) = s)
    (hr : (18446744073709551616 ≤ P ∧ rx = 0 ∧ re = 15) ∨ (P < 18446744073709551616 ∧ ∀ w, Calls Tryd.prog 88 #[.int .u64 (P : Int), .bool s] w fun e w' => e = .returned (.tuple #[.int .i64 rx, .int .i64 re]) ∧ w = w')) :
    Calls Tryd.prog 22 #[.int .i64 a, .int .i64 b] w fun e w' => e = .returned (.tuple #[.int .i64 rx, .int .i64 re]) ∧ Up w w' := by
  have hM := fun W => Tryd.bits_Mul64 a.natAbs b.natAbs (by have := ha.1; have := ha.2; omega) (by have := hb.1; have := hb.2; omega) W
  rw [hP] at hM
  have HM := Lib.hid hM
  have HA := Lib.hid ha
  have HB := Lib.hid hb
  have HS := Lib.hid hs
  have hs' : (!decide (a < 0) == decide (b < 0)) = s := by rw [← hs]; cases decide (a < 0) <;> cases decide (b < 0) <;> rfl
  rcases hr with ⟨h, rfl, rfl⟩ | ⟨h, hc⟩
  · have e1 : decide (0 < ((P / 18446744073709551616 : Nat) : Int)) = true := by simp; omega
    have HE := Lib.hid e1
    clear hM ha hb hP hs h e1
    generalize ((P / 18446744073709551616 : Nat) : Int) = hi at *
    generalize ((P % 18446744073709551616 : Nat) : Int) = lo at *
    have e1 := HE.out
    go_enter Tryd.func22, Tryd.ntmps22
    go_wp2_with fail
    refine (isize _ _ HA.out).mono ?_
    rintro e w1 ⟨rfl, rfl⟩
    go_wp2_with fail
    refine (isize _ _ HB.out).mono ?_
    rintro e w1 ⟨rfl, rfl⟩
    go_wp2_with fail
    refine (HM.out _).mono ?_
    rintro e w1 ⟨rfl, rfl⟩
    go_wp2_with fail
    go_ret2
    exact ⟨rfl, (Up.refl _).alloc _⟩
  · have q1 : P / 18446744073709551616 = 0 := by omega
    have q2 : P % 18446744073709551616 = P := by omega
    rw [q1, q2] at hM
    have HM := Lib.hid hM
    have HC := Lib.hid hc
    clear hM ha hb hP hs h q1 q2 hc
    generalize (P : Int) = P' at *
    go_enter Tryd.func22, Tryd.ntmps22
    go_wp2_with fail
    refine (isize _ _ HA.out).mono ?_
    rintro e w1 ⟨rfl, rfl⟩
    go_wp2_with fail
    refine (isize _ _ HB.out).mono ?_
    rintro e w1 ⟨rfl, rfl⟩
    go_wp2_with fail
    refine (HM.out _).mono ?_
    rintro e w1 ⟨rfl, rfl⟩
    go_wp2_with fail
    refine (HC.out _).mono ?_
    rintro e w1 ⟨rfl, rfl⟩
    go_wp2_with fail
    go_ret2
    exact ⟨rfl, (Up.refl _).alloc _⟩
theorem imul_fits (a b : Int) (w : World) (ha : I64 a) (hb : I64 b) (h : I64 (a * b)) :
    Calls Tryd.prog 22 #[.int .i64 a, .int .i64 b] w fun e w' => e = .returned (.tuple #[.int .i64 (a * b), .int .i64 0]) ∧ Up w w' := by
  have hm := mul_abs a b
  generalize hs : (decide (a < 0) != decide (b < 0)) = s at *
  generalize hP : a.natAbs * b.natAbs = P at *
  rw [hm] at h ⊢
  obtain ⟨h1, h2⟩ := h
  refine imul_gen a b P s _ 0 w ha hb hP hs (Or.inr ?_)
  cases s
  · simp [sg] at h1 h2 ⊢
    exact ⟨by omega, fun w => isigned_pos _ w (by omega) h2⟩
  · simp [sg] at h1 h2 ⊢
    exact ⟨by omega, fun w => isigned_neg _ w (by omega) (by omega)⟩
theorem imul_over (a b : Int) (w : World) (ha : I64 a) (hb : I64 b) (h : ¬ I64 (a * b)) :
    Calls Tryd.prog 22 #[.int .i64 a, .int .i64 b] w fun e w' => e = .returned (.tuple #[.int .i64 0, .int .i64 15]) ∧ Up w w' := by
  have hm := mul_abs a b
  generalize hs : (decide (a < 0) != decide (b < 0)) = s at *
  generalize hP : a.natAbs * b.natAbs = P at *
  rw [hm] at h
  by_cases hl : 18446744073709551616 ≤ P
  · exact imul_gen a b P s 0 15 w ha hb hP hs (Or.inl ⟨hl, rfl, rfl⟩)
  · refine imul_gen a b P s 0 15 w ha hb hP hs (Or.inr ⟨by omega, fun w => isigned_no _ _ w ?_⟩)
    unfold I64 at h
    cases s
    · simp [sg] at h ⊢
      omega
    · simp [sg] at h ⊢
      omega
end Go.Proofs.YtnibmofbalgobaaDoor
