/-
  WALKS OF circa/ints: Sub, size, signed, Mul.
-/
import Derived.Test.YtopbbcbpanfigaaGreatDoorIntsAdd
import Derived.Test.YtopbbcbpanfigaaGreatDoorNatI
import Derived.Test.YtopbbcbpanfigaaGreatDoorShInts
namespace Go.Proofs.YtopbbcbpanfigaaGreatDoor
open Go.RowKit
theorem sub_cmp (a b : Int) (ha : I64 a) (hb : I64 b) :
    (I64 (a - b) → wrap64 (a - b) = a - b ∧ decide (a - b < a) = decide (0 < b)) ∧ (¬ I64 (a - b) → decide (wrap64 (a - b) < a) = !decide (0 < b)) := by
  obtain ⟨a1, a2⟩ := ha
  obtain ⟨b1, b2⟩ := hb
  constructor
  · rintro ⟨h1, h2⟩
    refine ⟨by unfold wrap64; omega, ?_⟩
    rw [Bool.eq_iff_iff]; simp only [decide_eq_true_eq]; omega
  · intro h
    unfold I64 at h
    rw [Bool.eq_iff_iff]; simp only [decide_eq_true_eq, Bool.not_eq_true', decide_eq_false_iff_not]
    unfold wrap64
    omega
theorem isub_fits (a b : Int) (w : World) (ha : I64 a) (hb : I64 b) (h : I64 (a - b)) :
    Calls Tryz.prog 98 #[.int .i64 a, .int .i64 b] w fun e w' => e = .returned (.tuple #[.int .i64 (a - b), .int .i64 0]) ∧ w = w' := by
  obtain ⟨h1, h2⟩ := (sub_cmp a b ha hb).1 h
  obtain ⟨k1, k2⟩ := h
  clear h1
  by_cases hb0 : 0 < b
  · have c1 : decide (0 < b) = true := by simpa using hb0
    have c2 : decide (a - b < a) = true := by simp; omega
    clear h2
    go_enter Tryz.func98, Tryz.ntmps98
    go_wp2_with fail
    go_ret2
    exact ⟨rfl, rfl⟩
  · have c1 : decide (0 < b) = false := by simpa using hb0
    have c2 : decide (a - b < a) = false := by simp; omega
    clear h2
    go_enter Tryz.func98, Tryz.ntmps98
    go_wp2_with fail
    go_ret2
    exact ⟨rfl, rfl⟩
theorem isub_over (a b : Int) (w : World) (ha : I64 a) (hb : I64 b) (h : ¬ I64 (a - b)) :
    Calls Tryz.prog 98 #[.int .i64 a, .int .i64 b] w fun e w' => e = .returned (.tuple #[.int .i64 0, .int .i64 15]) ∧ w = w' := by
  have h2 := (sub_cmp a b ha hb).2 h
  generalize hn : wrap64 (a - b) = n at *
  by_cases hb0 : 0 < b
  · have c1 : decide (0 < b) = true := by simpa using hb0
    have c2 : decide (n < a) = false := by rw [h2, c1]; rfl
    clear h2
    go_enter Tryz.func98, Tryz.ntmps98
    go_wp2_with fail
    go_ret2
    exact ⟨rfl, rfl⟩
  · have c1 : decide (0 < b) = false := by simpa using hb0
    have c2 : decide (n < a) = true := by rw [h2, c1]; rfl
    clear h2
    go_enter Tryz.func98, Tryz.ntmps98
    go_wp2_with fail
    go_ret2
    exact ⟨rfl, rfl⟩
theorem u64_neg (a : Int) (h1 : -9223372036854775808 ≤ a) (h2 : a < 0) : IntKind.u64.wrap (-IntKind.u64.wrap a) = (a.natAbs : Int) := by
  rw [IntKind.wrap_u64, IntKind.wrap_u64]; omega
theorem u64_back (n : Int) (h0 : 0 ≤ n) (h : n ≤ 9223372036854775808) : wrap64 (IntKind.u64.wrap (-n)) = -n := by
  rw [IntKind.wrap_u64]; unfold wrap64; omega
set_option maxRecDepth 10000 in
theorem isigned_neg (n : Int) (w : World) (h0 : 0 ≤ n) (h : n ≤ 9223372036854775808) :
    Calls Tryz.prog 96 #[.int .u64 n, .bool true] w fun e w' => e = .returned (.tuple #[.int .i64 (-n), .int .i64 0]) ∧ w = w' := by
  have c1 : decide (n ≤ 9223372036854775808) = true := by simpa using h
  go_enter Tryz.func96, Tryz.ntmps96
  go_wp2_with fail
  go_ret2
  exact ⟨ret2_i (u64_back n h0 h) rfl, rfl⟩
set_option maxRecDepth 10000 in
theorem isigned_pos (n : Int) (w : World) (h0 : 0 ≤ n) (h : n ≤ 9223372036854775807) :
    Calls Tryz.prog 96 #[.int .u64 n, .bool false] w fun e w' => e = .returned (.tuple #[.int .i64 n, .int .i64 0]) ∧ w = w' := by
  have c1 : decide (n ≤ 9223372036854775807) = true := by simpa using h
  go_enter Tryz.func96, Tryz.ntmps96
  go_wp2_with fail
  go_ret2
  exact ⟨rfl, rfl⟩
set_option maxRecDepth 10000 in
theorem isigned_no (n : Int) (b : Bool) (w : World) (h : (b = true ∧ 9223372036854775808 < n) ∨ (b = false ∧ 9223372036854775807 < n)) :
    Calls Tryz.prog 96 #[.int .u64 n, .bool b] w fun e w' => e = .returned (.tuple #[.int .i64 0, .int .i64 15]) ∧ w = w' := by
  rcases h with ⟨rfl, h⟩ | ⟨rfl, h⟩
  · have c1 : decide (n ≤ 9223372036854775808) = false := by simp; omega
    go_enter Tryz.func96, Tryz.ntmps96
    go_wp2_with fail
    go_ret2
    exact ⟨rfl, rfl⟩
  · have c1 : decide (n ≤ 9223372036854775807) = false := by simp; omega
    go_enter Tryz.func96, Tryz.ntmps96
    go_wp2_with fail
    go_ret2
    exact ⟨rfl, rfl⟩
theorem mul_abs (a b : Int) : a * b = sg (decide (a < 0) != decide (b < 0)) ((a.natAbs * b.natAbs : Nat) : Int) := by
  have h := sg_mul a b
  rw [Dg.dl_val, Dg.dl_val] at h
  rw [← h, Int.natCast_mul]
end Go.Proofs.YtopbbcbpanfigaaGreatDoor
