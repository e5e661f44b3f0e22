/- Walks and laws that the claim's theorem leans on: part 15. -/
import Derived.Test.YteodjglbpfmikaaGreatDoorZAx1
import Derived.Test.YteodjglbpfmikaaGreatDoorZAx14
namespace Go.Proofs.YteodjglbpfmikaaGreatDoor
set_option maxHeartbeats 4000000
set_option maxRecDepth 100000
open Go.RowKit
set_option linter.unusedVariables false
set_option linter.unusedSimpArgs false
open Fl
theorem preAx79x1 (w2 : World) (q0 q1 q2 q3 : Int) : ∃ W1, W1 = w2.alloc (.cells #[.int .i8 q0, .int .i64 q1, .int .i8 q2, .int .i64 q3] 30) ∧ (Dn w2 W1) ∧ (W1.cell? ⟨w2.heap.size, 0, none⟩ = some (.int .i8 q0)) ∧ (W1.cell? ⟨w2.heap.size, 1, none⟩ = some (.int .i64 q1)) ∧ (W1.cell? ⟨w2.heap.size, 2, none⟩ = some (.int .i8 q2)) ∧ (W1.cell? ⟨w2.heap.size, 3, none⟩ = some (.int .i64 q3)) ∧ (w2.heap.size < W1.heap.size) := by
  obtain ⟨W1, hW1⟩ : ∃ W1, W1 = w2.alloc (.cells #[.int .i8 q0, .int .i64 q1, .int .i8 q2, .int .i64 q3] 30) := ⟨_, rfl⟩
  exact ⟨W1, hW1, (by rw [hW1]; exact (Dn.refl _).alloc _), (by rw [hW1]; simp [go_sem]), (by rw [hW1]; simp [go_sem]), (by rw [hW1]; simp [go_sem]), (by rw [hW1]; simp [go_sem]), (by rw [hW1]; simp <;> omega)⟩
theorem axis_over (k n lo sh a0 b0 c0 d0 q0 q1 q2 q3 : Int) (f : Nat) (w : World) (HOF : Hid (∀ W, Calls Tryz.prog 7 #[.agg #[.int .u8 k, .int .u8 n, .int .i16 lo]] W fun ro w' => ro = .returned (.agg #[.int .i8 a0, .int .i64 b0, .int .i8 c0, .int .i64 d0]) ∧ Dn W w')) (HSH : Hid (∀ W, Calls Tryz.prog 6 #[.agg #[.int .i8 a0, .int .i64 b0, .int .i8 c0, .int .i64 d0], .int .i64 sh] W fun ro w' => ro = .returned (.tuple #[.agg #[.int .i8 q0, .int .i64 q1, .int .i8 q2, .int .i64 q3], .int .i64 15]) ∧ Dn W w')) (hE : EnvP w) :
  Calls Tryz.prog 3 #[.agg #[.int .u8 k, .int .u8 n, .int .i16 lo], .int .i64 sh, .float .f64 f] w fun ro w' => ro = .returned (.bool true) ∧ Dn w w' := by
 go_enter Tryz.func3, Tryz.ntmps3
 go_wp2_with fail
 obtain ⟨w0, h0⟩ : ∃ w0, w0 = w.alloc (.cells #[.int .u8 k, .int .u8 n, .int .i16 lo] 24) := ⟨_, rfl⟩
 have u0 : Dn w w0 := by rw [h0]; exact (Dn.refl _).alloc _
 rw [← h0]
 clear h0
 refine (HOF.out _).mono ?_
 rintro e w1 ⟨rfl, qw1⟩
 have uw1 := u0.trans qw1
 clear qw1 u0
 go_wp2_with fail
 refine (HSH.out _).mono ?_
 rintro e w2 ⟨rfl, qw2⟩
 have uw2 := uw1.trans qw2
 clear qw2 uw1
 go_wp2_with fail
 obtain ⟨W1, hW1, uW1, c2, c3, c4, c5, l6⟩ := preAx79x1 w2 q0 q1 q2 q3
 rw [← hW1]
 clear hW1
 have vW1 := uw2.trans uW1
 clear uW1 uw2
 clear c2 c3 c4 c5 l6
 go_wp2_with fail
 refine (live11 _ (hE.dn vW1)).mono ?_
 rintro e w3 ⟨rfl, qw3⟩
 have uw3 := vW1.trans qw3
 clear qw3 vW1
 go_wp2_with fail
 go_ret
 exact ⟨rfl, uw3⟩
theorem axis_err11 (k n lo sh a0 b0 c0 d0 q0 q1 q2 q3 : Int) (f : Nat) (w : World) (g : Int) (dw uw : Int → Nat) (hg : (g != 0) = true) (x0 : (q0 == 0) = true) (x2 : (q2 == 0) = true) (HOF : Hid (∀ W, Calls Tryz.prog 7 #[.agg #[.int .u8 k, .int .u8 n, .int .i16 lo]] W fun ro w' => ro = .returned (.agg #[.int .i8 a0, .int .i64 b0, .int .i8 c0, .int .i64 d0]) ∧ Dn W w')) (HSH : Hid (∀ W, Calls Tryz.prog 6 #[.agg #[.int .i8 a0, .int .i64 b0, .int .i8 c0, .int .i64 d0], .int .i64 sh] W fun ro w' => ro = .returned (.tuple #[.agg #[.int .i8 q0, .int .i64 q1, .int .i8 q2, .int .i64 q3], .int .i64 0]) ∧ Dn W w')) (HDN : Hid (∀ z W, (z = q1 ∨ z = q3) → Calls Tryz.prog 9 #[.int .i64 z] W fun ro w' => ro = .returned (.float .f64 (dw z)) ∧ W = w')) (HUP : Hid (∀ z W, (z = q1 ∨ z = q3) → Calls Tryz.prog 10 #[.int .i64 z] W fun ro w' => ro = .returned (.float .f64 (uw z)) ∧ W = w')) (O1 : Hid ((FloatKind.f64.format.order (dw q1) (dw q3) == some .gt) = false)) (O2 : Hid ((FloatKind.f64.format.order (uw q1) (uw q3) == some .gt) = false)) (HFL : Hid (∀ W, Calls Tryz.prog 11 #[.float .f64 f] W fun ro w' => ro = .returned (.tuple #[.int .i64 0, .int .i64 g]) ∧ Dn W w')) (HCE : Hid (∀ W, Calls Tryz.prog 12 #[.float .f64 f] W fun ro w' => ro = .returned (.tuple #[.int .i64 0, .int .i64 g]) ∧ Dn W w')) (hE : EnvP w) :
  Calls Tryz.prog 3 #[.agg #[.int .u8 k, .int .u8 n, .int .i16 lo], .int .i64 sh, .float .f64 f] w fun ro w' => ro = .returned (.bool true) ∧ Dn w w' := by
 have o1 := O1.out
 have o2 := O2.out
 go_enter Tryz.func3, Tryz.ntmps3
 go_wp2_with fail
 obtain ⟨w0, h0⟩ : ∃ w0, w0 = w.alloc (.cells #[.int .u8 k, .int .u8 n, .int .i16 lo] 24) := ⟨_, rfl⟩
 have u0 : Dn w w0 := by rw [h0]; exact (Dn.refl _).alloc _
 rw [← h0]
 clear h0
 refine (HOF.out _).mono ?_
 rintro e w1 ⟨rfl, qw1⟩
 have uw1 := u0.trans qw1
 clear qw1 u0
 go_wp2_with fail
 refine (HSH.out _).mono ?_
 rintro e w2 ⟨rfl, qw2⟩
 have uw2 := uw1.trans qw2
 clear qw2 uw1
 go_wp2_with fail
 obtain ⟨W1, hW1, uW1, c2, c3, c4, c5, l6⟩ := preAx79x1 w2 q0 q1 q2 q3
 rw [← hW1]
 clear hW1
 have vW1 := uw2.trans uW1
 clear uW1 uw2
 go_wp2_with fail
 go_quiet (first | (go_at_call 9; exact Calls.qs (HDN.out _ _ (by first | exact .inl rfl | exact .inr rfl))) | (go_at_call 10; exact Calls.qs (HUP.out _ _ (by first | exact .inl rfl | exact .inr rfl))))
 go_wp2_with fail
 refine (HFL.out _).mono ?_
 rintro e w5 ⟨rfl, q5⟩
 have qq := ((Dn.refl W1).drewN _).trans q5
 clear q5
 have l7 := nlt l6 qq.size
 obtain ⟨c8, c9, c10, c11⟩ := mv4 qq.cell c2 c3 c4 c5
 clear l6 c2 c3 c4 c5
 have u5 := vW1.trans qq
 clear qq vW1
 clear c8 c9 c10 c11 l7
 go_wp2_with fail
 refine (HCE.out _).mono ?_
 rintro e w3 ⟨rfl, qw3⟩
 have uw3 := u5.trans qw3
 clear qw3 u5
 go_wp2_with fail
 refine (live11 _ (hE.dn uw3)).mono ?_
 rintro e w4 ⟨rfl, qw4⟩
 have uw4 := uw3.trans qw4
 clear qw4 uw3
 go_wp2_with fail
 go_ret
 exact ⟨rfl, uw4⟩
theorem axis_mix111 (k n lo sh a0 b0 c0 d0 q0 q1 q2 q3 : Int) (f : Nat) (w : World) (g h a b : Int) (dw uw : Int → Nat) (hg : (g != h) = true) (x0 : (q0 == 0) = true) (x2 : (q2 == 0) = true) (HOF : Hid (∀ W, Calls Tryz.prog 7 #[.agg #[.int .u8 k, .int .u8 n, .int .i16 lo]] W fun ro w' => ro = .returned (.agg #[.int .i8 a0, .int .i64 b0, .int .i8 c0, .int .i64 d0]) ∧ Dn W w')) (HSH : Hid (∀ W, Calls Tryz.prog 6 #[.agg #[.int .i8 a0, .int .i64 b0, .int .i8 c0, .int .i64 d0], .int .i64 sh] W fun ro w' => ro = .returned (.tuple #[.agg #[.int .i8 q0, .int .i64 q1, .int .i8 q2, .int .i64 q3], .int .i64 0]) ∧ Dn W w')) (HDN : Hid (∀ z W, (z = q1 ∨ z = q3) → Calls Tryz.prog 9 #[.int .i64 z] W fun ro w' => ro = .returned (.float .f64 (dw z)) ∧ W = w')) (HUP : Hid (∀ z W, (z = q1 ∨ z = q3) → Calls Tryz.prog 10 #[.int .i64 z] W fun ro w' => ro = .returned (.float .f64 (uw z)) ∧ W = w')) (O1 : Hid ((FloatKind.f64.format.order (dw q1) (dw q3) == some .gt) = false)) (O2 : Hid ((FloatKind.f64.format.order (uw q1) (uw q3) == some .gt) = false)) (M0 : Hid ((FloatKind.f64.format.order f f == some .eq) = true)) (M1 : Hid ((FloatKind.f64.format.order f 4845873199050653696 == some .gt) = true)) (HFL : Hid (∀ W, Calls Tryz.prog 11 #[.float .f64 f] W fun ro w' => ro = .returned (.tuple #[.int .i64 a, .int .i64 g]) ∧ Dn W w')) (HCE : Hid (∀ W, Calls Tryz.prog 12 #[.float .f64 f] W fun ro w' => ro = .returned (.tuple #[.int .i64 b, .int .i64 h]) ∧ Dn W w')) (hE : EnvP w) :
  Calls Tryz.prog 3 #[.agg #[.int .u8 k, .int .u8 n, .int .i16 lo], .int .i64 sh, .float .f64 f] w fun ro w' => ro = .returned (.bool true) ∧ Dn w w' := by
 have o1 := O1.out
 have o2 := O2.out
 have m0 := M0.out
 have m1 := M1.out
 go_enter Tryz.func3, Tryz.ntmps3
 go_wp2_with fail
 obtain ⟨w0, h0⟩ : ∃ w0, w0 = w.alloc (.cells #[.int .u8 k, .int .u8 n, .int .i16 lo] 24) := ⟨_, rfl⟩
 have u0 : Dn w w0 := by rw [h0]; exact (Dn.refl _).alloc _
 rw [← h0]
 clear h0
 refine (HOF.out _).mono ?_
 rintro e w1 ⟨rfl, qw1⟩
 have uw1 := u0.trans qw1
 clear qw1 u0
 go_wp2_with fail
 refine (HSH.out _).mono ?_
 rintro e w2 ⟨rfl, qw2⟩
 have uw2 := uw1.trans qw2
 clear qw2 uw1
 go_wp2_with fail
 obtain ⟨W1, hW1, uW1, c2, c3, c4, c5, l6⟩ := preAx79x1 w2 q0 q1 q2 q3
 rw [← hW1]
 clear hW1
 have vW1 := uw2.trans uW1
 clear uW1 uw2
 go_wp2_with fail
 go_quiet (first | (go_at_call 9; exact Calls.qs (HDN.out _ _ (by first | exact .inl rfl | exact .inr rfl))) | (go_at_call 10; exact Calls.qs (HUP.out _ _ (by first | exact .inl rfl | exact .inr rfl))))
 go_wp2_with fail
 refine (HFL.out _).mono ?_
 rintro e w5 ⟨rfl, q5⟩
 have qq := ((Dn.refl W1).drewN _).trans q5
 clear q5
 have l7 := nlt l6 qq.size
 obtain ⟨c8, c9, c10, c11⟩ := mv4 qq.cell c2 c3 c4 c5
 clear l6 c2 c3 c4 c5
 have u5 := vW1.trans qq
 clear qq vW1
 clear c8 c9 c10 c11 l7
 go_wp2_with fail
 refine (HCE.out _).mono ?_
 rintro e w3 ⟨rfl, qw3⟩
 have uw3 := u5.trans qw3
 clear qw3 u5
 go_wp2_with fail
 refine (live11 _ (hE.dn uw3)).mono ?_
 rintro e w4 ⟨rfl, qw4⟩
 have uw4 := uw3.trans qw4
 clear qw4 uw3
 go_wp2_with fail
 go_ret
 exact ⟨rfl, uw4⟩
theorem axis_mix211 (k n lo sh a0 b0 c0 d0 q0 q1 q2 q3 : Int) (f : Nat) (w : World) (g h a b : Int) (dw uw : Int → Nat) (hg : (g != h) = true) (x0 : (q0 == 0) = true) (x2 : (q2 == 0) = true) (HOF : Hid (∀ W, Calls Tryz.prog 7 #[.agg #[.int .u8 k, .int .u8 n, .int .i16 lo]] W fun ro w' => ro = .returned (.agg #[.int .i8 a0, .int .i64 b0, .int .i8 c0, .int .i64 d0]) ∧ Dn W w')) (HSH : Hid (∀ W, Calls Tryz.prog 6 #[.agg #[.int .i8 a0, .int .i64 b0, .int .i8 c0, .int .i64 d0], .int .i64 sh] W fun ro w' => ro = .returned (.tuple #[.agg #[.int .i8 q0, .int .i64 q1, .int .i8 q2, .int .i64 q3], .int .i64 0]) ∧ Dn W w')) (HDN : Hid (∀ z W, (z = q1 ∨ z = q3) → Calls Tryz.prog 9 #[.int .i64 z] W fun ro w' => ro = .returned (.float .f64 (dw z)) ∧ W = w')) (HUP : Hid (∀ z W, (z = q1 ∨ z = q3) → Calls Tryz.prog 10 #[.int .i64 z] W fun ro w' => ro = .returned (.float .f64 (uw z)) ∧ W = w')) (O1 : Hid ((FloatKind.f64.format.order (dw q1) (dw q3) == some .gt) = false)) (O2 : Hid ((FloatKind.f64.format.order (uw q1) (uw q3) == some .gt) = false)) (M0 : Hid ((FloatKind.f64.format.order f f == some .eq) = true)) (M1 : Hid ((FloatKind.f64.format.order f 4845873199050653696 == some .gt) = false)) (M2 : Hid ((FloatKind.f64.format.order f 14069245235905429504 == some .lt) = true)) (HFL : Hid (∀ W, Calls Tryz.prog 11 #[.float .f64 f] W fun ro w' => ro = .returned (.tuple #[.int .i64 a, .int .i64 g]) ∧ Dn W w')) (HCE : Hid (∀ W, Calls Tryz.prog 12 #[.float .f64 f] W fun ro w' => ro = .returned (.tuple #[.int .i64 b, .int .i64 h]) ∧ Dn W w')) (hE : EnvP w) :
  Calls Tryz.prog 3 #[.agg #[.int .u8 k, .int .u8 n, .int .i16 lo], .int .i64 sh, .float .f64 f] w fun ro w' => ro = .returned (.bool true) ∧ Dn w w' := by
 have o1 := O1.out
 have o2 := O2.out
 have m0 := M0.out
 have m1 := M1.out
 have m2 := M2.out
 go_enter Tryz.func3, Tryz.ntmps3
 go_wp2_with fail
 obtain ⟨w0, h0⟩ : ∃ w0, w0 = w.alloc (.cells #[.int .u8 k, .int .u8 n, .int .i16 lo] 24) := ⟨_, rfl⟩
 have u0 : Dn w w0 := by rw [h0]; exact (Dn.refl _).alloc _
 rw [← h0]
 clear h0
 refine (HOF.out _).mono ?_
 rintro e w1 ⟨rfl, qw1⟩
 have uw1 := u0.trans qw1
 clear qw1 u0
 go_wp2_with fail
 refine (HSH.out _).mono ?_
 rintro e w2 ⟨rfl, qw2⟩
 have uw2 := uw1.trans qw2
 clear qw2 uw1
 go_wp2_with fail
 obtain ⟨W1, hW1, uW1, c2, c3, c4, c5, l6⟩ := preAx79x1 w2 q0 q1 q2 q3
 rw [← hW1]
 clear hW1
 have vW1 := uw2.trans uW1
 clear uW1 uw2
 go_wp2_with fail
 go_quiet (first | (go_at_call 9; exact Calls.qs (HDN.out _ _ (by first | exact .inl rfl | exact .inr rfl))) | (go_at_call 10; exact Calls.qs (HUP.out _ _ (by first | exact .inl rfl | exact .inr rfl))))
 go_wp2_with fail
 refine (HFL.out _).mono ?_
 rintro e w5 ⟨rfl, q5⟩
 have qq := ((Dn.refl W1).drewN _).trans q5
 clear q5
 have l7 := nlt l6 qq.size
 obtain ⟨c8, c9, c10, c11⟩ := mv4 qq.cell c2 c3 c4 c5
 clear l6 c2 c3 c4 c5
 have u5 := vW1.trans qq
 clear qq vW1
 clear c8 c9 c10 c11 l7
 go_wp2_with fail
 refine (HCE.out _).mono ?_
 rintro e w3 ⟨rfl, qw3⟩
 have uw3 := u5.trans qw3
 clear qw3 u5
 go_wp2_with fail
 refine (live11 _ (hE.dn uw3)).mono ?_
 rintro e w4 ⟨rfl, qw4⟩
 have uw4 := uw3.trans qw4
 clear qw4 uw3
 go_wp2_with fail
 go_ret
 exact ⟨rfl, uw4⟩
theorem axis_m11ttttt (k n lo sh a0 b0 c0 d0 q0 q1 q2 q3 : Int) (f : Nat) (w : World) (a b c1 c2 : Int) (dw uw : Int → Nat) (x0 : (q0 == 0) = true) (x2 : (q2 == 0) = true) (wbf : (a == b) = true) (hcmp : decide (eC 0 a 0 b ≤ 0) = true) (ca : decide (0 ≤ c1) = true) (cb : decide (c2 ≤ 0) = true) (HOF : Hid (∀ W, Calls Tryz.prog 7 #[.agg #[.int .u8 k, .int .u8 n, .int .i16 lo]] W fun ro w' => ro = .returned (.agg #[.int .i8 a0, .int .i64 b0, .int .i8 c0, .int .i64 d0]) ∧ Dn W w')) (HSH : Hid (∀ W, Calls Tryz.prog 6 #[.agg #[.int .i8 a0, .int .i64 b0, .int .i8 c0, .int .i64 d0], .int .i64 sh] W fun ro w' => ro = .returned (.tuple #[.agg #[.int .i8 q0, .int .i64 q1, .int .i8 q2, .int .i64 q3], .int .i64 0]) ∧ Dn W w')) (HDN : Hid (∀ z W, (z = q1 ∨ z = q3) → Calls Tryz.prog 9 #[.int .i64 z] W fun ro w' => ro = .returned (.float .f64 (dw z)) ∧ W = w')) (HUP : Hid (∀ z W, (z = q1 ∨ z = q3) → Calls Tryz.prog 10 #[.int .i64 z] W fun ro w' => ro = .returned (.float .f64 (uw z)) ∧ W = w')) (O1 : Hid ((FloatKind.f64.format.order (dw q1) (dw q3) == some .gt) = false)) (O2 : Hid ((FloatKind.f64.format.order (uw q1) (uw q3) == some .gt) = false)) (HFL : Hid (∀ W, Calls Tryz.prog 11 #[.float .f64 f] W fun ro w' => ro = .returned (.tuple #[.int .i64 a, .int .i64 0]) ∧ Dn W w')) (HCE : Hid (∀ W, Calls Tryz.prog 12 #[.float .f64 f] W fun ro w' => ro = .returned (.tuple #[.int .i64 b, .int .i64 0]) ∧ Dn W w')) (HC1 : Hid (∀ W, Calls Tryz.prog 13 #[.float .f64 f, .int .i64 q1] W fun ro w' => ro = .returned (.tuple #[.int .i64 c1, .int .i64 0]) ∧ W = w')) (HC2 : Hid (∀ W, Calls Tryz.prog 13 #[.float .f64 f, .int .i64 q3] W fun ro w' => ro = .returned (.tuple #[.int .i64 c2, .int .i64 0]) ∧ W = w')) (HH1 : Hid (∀ W, Calls Tryz.prog 14 #[.agg #[.int .i8 q0, .int .i64 q1, .int .i8 q2, .int .i64 q3], .int .i64 a] W fun ro w' => ro = .returned (.bool true) ∧ Dn W w')) (HH2 : Hid (∀ W, Calls Tryz.prog 14 #[.agg #[.int .i8 q0, .int .i64 q1, .int .i8 q2, .int .i64 q3], .int .i64 b] W fun ro w' => ro = .returned (.bool true) ∧ Dn W w')) (hE : EnvP w) :
  Calls Tryz.prog 3 #[.agg #[.int .u8 k, .int .u8 n, .int .i16 lo], .int .i64 sh, .float .f64 f] w fun ro w' => ro = .returned (.bool true) ∧ Dn w w' := by
 have o1 := O1.out
 have o2 := O2.out
 go_enter Tryz.func3, Tryz.ntmps3
 go_wp2_with fail
 obtain ⟨w0, h0⟩ : ∃ w0, w0 = w.alloc (.cells #[.int .u8 k, .int .u8 n, .int .i16 lo] 24) := ⟨_, rfl⟩
 have u0 : Dn w w0 := by rw [h0]; exact (Dn.refl _).alloc _
 rw [← h0]
 clear h0
 refine (HOF.out _).mono ?_
 rintro e w1 ⟨rfl, qw1⟩
 have uw1 := u0.trans qw1
 clear qw1 u0
 go_wp2_with fail
 refine (HSH.out _).mono ?_
 rintro e w2 ⟨rfl, qw2⟩
 have uw2 := uw1.trans qw2
 clear qw2 uw1
 go_wp2_with fail
 obtain ⟨W1, hW1, uW1, c2, c3, c4, c5, l6⟩ := preAx79x1 w2 q0 q1 q2 q3
 rw [← hW1]
 clear hW1
 have vW1 := uw2.trans uW1
 clear uW1 uw2
 go_wp2_with fail
 go_quiet (first | (go_at_call 9; exact Calls.qs (HDN.out _ _ (by first | exact .inl rfl | exact .inr rfl))) | (go_at_call 10; exact Calls.qs (HUP.out _ _ (by first | exact .inl rfl | exact .inr rfl))))
 go_wp2_with fail
 refine (HFL.out _).mono ?_
 rintro e w5 ⟨rfl, q5⟩
 have qq := ((Dn.refl W1).drewN _).trans q5
 clear q5
 have l7 := nlt l6 qq.size
 obtain ⟨c8, c9, a1, a2⟩ := mv4 qq.cell c2 c3 c4 c5
 clear l6 c2 c3 c4 c5
 have u5 := vW1.trans qq
 clear qq vW1
 go_wp2_with fail
 refine (HCE.out _).mono ?_
 rintro e w3 ⟨rfl, qw3⟩
 have a3 := nlt l7 qw3.size
 obtain ⟨a4, a5, a6, a7⟩ := mv4 qw3.cell c8 c9 a1 a2
 clear l7 c8 c9 a1 a2
 have uw3 := u5.trans qw3
 clear qw3 u5
 go_wp2_with fail
 refine (HC1.out _).mono ?_
 rintro e wq ⟨rfl, rfl⟩
 go_wp2_with fail
 refine (HC2.out _).mono ?_
 rintro e wq ⟨rfl, rfl⟩
 go_wp2_with fail
 refine (HH1.out _).mono ?_
 rintro e w4 ⟨rfl, qw4⟩
 have a8 := nlt a3 qw4.size
 obtain ⟨a9, aA, aB, aC⟩ := mv4 qw4.cell a4 a5 a6 a7
 clear a3 a4 a5 a6 a7
 have uw4 := uw3.trans qw4
 clear qw4 uw3
 go_wp2_with fail
 refine (HH1.out _).mono ?_
 rintro e w5 ⟨rfl, qw5⟩
 have aD := nlt a8 qw5.size
 obtain ⟨aE, aF, aG, aH⟩ := mv4 qw5.cell a9 aA aB aC
 clear a8 a9 aA aB aC
 have uw5 := uw4.trans qw5
 clear qw5 uw4
 go_wp2_with fail
 refine (HH2.out _).mono ?_
 rintro e w6 ⟨rfl, qw6⟩
 have aI := nlt aD qw6.size
 obtain ⟨aJ, aK, aL, aM⟩ := mv4 qw6.cell aE aF aG aH
 clear aD aE aF aG aH
 have uw6 := uw5.trans qw6
 clear qw6 uw5
 clear aJ aK aL aM aI
 go_wp2_with fail
 refine (eOf a _).mono ?_
 rintro e w6 ⟨rfl, q6⟩
 have u6 := uw6.up q6
 clear q6 uw6
 go_wp2_with fail
 refine (eOf b _).mono ?_
 rintro e w7 ⟨rfl, q7⟩
 have u7 := u6.up q7
 clear q7 u6
 go_wp2_with fail
 refine (eCmp 0 a 0 b _).mono ?_
 rintro e w8 ⟨rfl, q8⟩
 have u8 := u7.up q8
 clear q8 u7
 go_wp2_with fail
 refine (live11 _ (hE.dn u8)).mono ?_
 rintro e w7 ⟨rfl, qw7⟩
 have uw7 := u8.trans qw7
 clear qw7 u8
 go_wp2_with fail
 go_ret
 exact ⟨rfl, uw7⟩
theorem axis_m11ttttf (k n lo sh a0 b0 c0 d0 q0 q1 q2 q3 : Int) (f : Nat) (w : World) (a b c1 c2 : Int) (dw uw : Int → Nat) (x0 : (q0 == 0) = true) (x2 : (q2 == 0) = true) (wbf : (a == b) = true) (hcmp : decide (eC 0 a 0 b ≤ 0) = true) (ca : decide (0 ≤ c1) = true) (cb : decide (c2 ≤ 0) = true) (HOF : Hid (∀ W, Calls Tryz.prog 7 #[.agg #[.int .u8 k, .int .u8 n, .int .i16 lo]] W fun ro w' => ro = .returned (.agg #[.int .i8 a0, .int .i64 b0, .int .i8 c0, .int .i64 d0]) ∧ Dn W w')) (HSH : Hid (∀ W, Calls Tryz.prog 6 #[.agg #[.int .i8 a0, .int .i64 b0, .int .i8 c0, .int .i64 d0], .int .i64 sh] W fun ro w' => ro = .returned (.tuple #[.agg #[.int .i8 q0, .int .i64 q1, .int .i8 q2, .int .i64 q3], .int .i64 0]) ∧ Dn W w')) (HDN : Hid (∀ z W, (z = q1 ∨ z = q3) → Calls Tryz.prog 9 #[.int .i64 z] W fun ro w' => ro = .returned (.float .f64 (dw z)) ∧ W = w')) (HUP : Hid (∀ z W, (z = q1 ∨ z = q3) → Calls Tryz.prog 10 #[.int .i64 z] W fun ro w' => ro = .returned (.float .f64 (uw z)) ∧ W = w')) (O1 : Hid ((FloatKind.f64.format.order (dw q1) (dw q3) == some .gt) = false)) (O2 : Hid ((FloatKind.f64.format.order (uw q1) (uw q3) == some .gt) = false)) (HFL : Hid (∀ W, Calls Tryz.prog 11 #[.float .f64 f] W fun ro w' => ro = .returned (.tuple #[.int .i64 a, .int .i64 0]) ∧ Dn W w')) (HCE : Hid (∀ W, Calls Tryz.prog 12 #[.float .f64 f] W fun ro w' => ro = .returned (.tuple #[.int .i64 b, .int .i64 0]) ∧ Dn W w')) (HC1 : Hid (∀ W, Calls Tryz.prog 13 #[.float .f64 f, .int .i64 q1] W fun ro w' => ro = .returned (.tuple #[.int .i64 c1, .int .i64 0]) ∧ W = w')) (HC2 : Hid (∀ W, Calls Tryz.prog 13 #[.float .f64 f, .int .i64 q3] W fun ro w' => ro = .returned (.tuple #[.int .i64 c2, .int .i64 0]) ∧ W = w')) (HH1 : Hid (∀ W, Calls Tryz.prog 14 #[.agg #[.int .i8 q0, .int .i64 q1, .int .i8 q2, .int .i64 q3], .int .i64 a] W fun ro w' => ro = .returned (.bool true) ∧ Dn W w')) (HH2 : Hid (∀ W, Calls Tryz.prog 14 #[.agg #[.int .i8 q0, .int .i64 q1, .int .i8 q2, .int .i64 q3], .int .i64 b] W fun ro w' => ro = .returned (.bool false) ∧ Dn W w')) (hE : EnvP w) :
  Calls Tryz.prog 3 #[.agg #[.int .u8 k, .int .u8 n, .int .i16 lo], .int .i64 sh, .float .f64 f] w fun ro w' => ro = .returned (.bool true) ∧ Dn w w' := by
 have o1 := O1.out
 have o2 := O2.out
 go_enter Tryz.func3, Tryz.ntmps3
 go_wp2_with fail
 obtain ⟨w0, h0⟩ : ∃ w0, w0 = w.alloc (.cells #[.int .u8 k, .int .u8 n, .int .i16 lo] 24) := ⟨_, rfl⟩
 have u0 : Dn w w0 := by rw [h0]; exact (Dn.refl _).alloc _
 rw [← h0]
 clear h0
 refine (HOF.out _).mono ?_
 rintro e w1 ⟨rfl, qw1⟩
 have uw1 := u0.trans qw1
 clear qw1 u0
 go_wp2_with fail
 refine (HSH.out _).mono ?_
 rintro e w2 ⟨rfl, qw2⟩
 have uw2 := uw1.trans qw2
 clear qw2 uw1
 go_wp2_with fail
 obtain ⟨W1, hW1, uW1, c2, c3, c4, c5, l6⟩ := preAx79x1 w2 q0 q1 q2 q3
 rw [← hW1]
 clear hW1
 have vW1 := uw2.trans uW1
 clear uW1 uw2
 go_wp2_with fail
 go_quiet (first | (go_at_call 9; exact Calls.qs (HDN.out _ _ (by first | exact .inl rfl | exact .inr rfl))) | (go_at_call 10; exact Calls.qs (HUP.out _ _ (by first | exact .inl rfl | exact .inr rfl))))
 go_wp2_with fail
 refine (HFL.out _).mono ?_
 rintro e w5 ⟨rfl, q5⟩
 have qq := ((Dn.refl W1).drewN _).trans q5
 clear q5
 have l7 := nlt l6 qq.size
 obtain ⟨c8, c9, a1, a2⟩ := mv4 qq.cell c2 c3 c4 c5
 clear l6 c2 c3 c4 c5
 have u5 := vW1.trans qq
 clear qq vW1
 go_wp2_with fail
 refine (HCE.out _).mono ?_
 rintro e w3 ⟨rfl, qw3⟩
 have a3 := nlt l7 qw3.size
 obtain ⟨a4, a5, a6, a7⟩ := mv4 qw3.cell c8 c9 a1 a2
 clear l7 c8 c9 a1 a2
 have uw3 := u5.trans qw3
 clear qw3 u5
 go_wp2_with fail
 refine (HC1.out _).mono ?_
 rintro e wq ⟨rfl, rfl⟩
 go_wp2_with fail
 refine (HC2.out _).mono ?_
 rintro e wq ⟨rfl, rfl⟩
 go_wp2_with fail
 refine (HH1.out _).mono ?_
 rintro e w4 ⟨rfl, qw4⟩
 have a8 := nlt a3 qw4.size
 obtain ⟨a9, aA, aB, aC⟩ := mv4 qw4.cell a4 a5 a6 a7
 clear a3 a4 a5 a6 a7
 have uw4 := uw3.trans qw4
 clear qw4 uw3
 go_wp2_with fail
 refine (HH1.out _).mono ?_
 rintro e w5 ⟨rfl, qw5⟩
 have aD := nlt a8 qw5.size
 obtain ⟨aE, aF, aG, aH⟩ := mv4 qw5.cell a9 aA aB aC
 clear a8 a9 aA aB aC
 have uw5 := uw4.trans qw5
 clear qw5 uw4
 go_wp2_with fail
 refine (HH2.out _).mono ?_
 rintro e w6 ⟨rfl, qw6⟩
 have aI := nlt aD qw6.size
 obtain ⟨aJ, aK, aL, aM⟩ := mv4 qw6.cell aE aF aG aH
 clear aD aE aF aG aH
 have uw6 := uw5.trans qw6
 clear qw6 uw5
 clear aJ aK aL aM aI
 go_wp2_with fail
 refine (eOf a _).mono ?_
 rintro e w6 ⟨rfl, q6⟩
 have u6 := uw6.up q6
 clear q6 uw6
 go_wp2_with fail
 refine (eOf b _).mono ?_
 rintro e w7 ⟨rfl, q7⟩
 have u7 := u6.up q7
 clear q7 u6
 go_wp2_with fail
 refine (eCmp 0 a 0 b _).mono ?_
 rintro e w8 ⟨rfl, q8⟩
 have u8 := u7.up q8
 clear q8 u7
 go_wp2_with fail
 refine (live11 _ (hE.dn u8)).mono ?_
 rintro e w7 ⟨rfl, qw7⟩
 have uw7 := u8.trans qw7
 clear qw7 u8
 go_wp2_with fail
 go_ret
 exact ⟨rfl, uw7⟩
theorem axis_m11ttffx (k n lo sh a0 b0 c0 d0 q0 q1 q2 q3 : Int) (f : Nat) (w : World) (a b c1 c2 : Int) (dw uw : Int → Nat) (x0 : (q0 == 0) = true) (x2 : (q2 == 0) = true) (wbf : (a == b) = true) (hcmp : decide (eC 0 a 0 b ≤ 0) = true) (ca : decide (0 ≤ c1) = true) (cb : decide (c2 ≤ 0) = false) (HOF : Hid (∀ W, Calls Tryz.prog 7 #[.agg #[.int .u8 k, .int .u8 n, .int .i16 lo]] W fun ro w' => ro = .returned (.agg #[.int .i8 a0, .int .i64 b0, .int .i8 c0, .int .i64 d0]) ∧ Dn W w')) (HSH : Hid (∀ W, Calls Tryz.prog 6 #[.agg #[.int .i8 a0, .int .i64 b0, .int .i8 c0, .int .i64 d0], .int .i64 sh] W fun ro w' => ro = .returned (.tuple #[.agg #[.int .i8 q0, .int .i64 q1, .int .i8 q2, .int .i64 q3], .int .i64 0]) ∧ Dn W w')) (HDN : Hid (∀ z W, (z = q1 ∨ z = q3) → Calls Tryz.prog 9 #[.int .i64 z] W fun ro w' => ro = .returned (.float .f64 (dw z)) ∧ W = w')) (HUP : Hid (∀ z W, (z = q1 ∨ z = q3) → Calls Tryz.prog 10 #[.int .i64 z] W fun ro w' => ro = .returned (.float .f64 (uw z)) ∧ W = w')) (O1 : Hid ((FloatKind.f64.format.order (dw q1) (dw q3) == some .gt) = false)) (O2 : Hid ((FloatKind.f64.format.order (uw q1) (uw q3) == some .gt) = false)) (HFL : Hid (∀ W, Calls Tryz.prog 11 #[.float .f64 f] W fun ro w' => ro = .returned (.tuple #[.int .i64 a, .int .i64 0]) ∧ Dn W w')) (HCE : Hid (∀ W, Calls Tryz.prog 12 #[.float .f64 f] W fun ro w' => ro = .returned (.tuple #[.int .i64 b, .int .i64 0]) ∧ Dn W w')) (HC1 : Hid (∀ W, Calls Tryz.prog 13 #[.float .f64 f, .int .i64 q1] W fun ro w' => ro = .returned (.tuple #[.int .i64 c1, .int .i64 0]) ∧ W = w')) (HC2 : Hid (∀ W, Calls Tryz.prog 13 #[.float .f64 f, .int .i64 q3] W fun ro w' => ro = .returned (.tuple #[.int .i64 c2, .int .i64 0]) ∧ W = w')) (HH1 : Hid (∀ W, Calls Tryz.prog 14 #[.agg #[.int .i8 q0, .int .i64 q1, .int .i8 q2, .int .i64 q3], .int .i64 a] W fun ro w' => ro = .returned (.bool false) ∧ Dn W w')) (hE : EnvP w) :
  Calls Tryz.prog 3 #[.agg #[.int .u8 k, .int .u8 n, .int .i16 lo], .int .i64 sh, .float .f64 f] w fun ro w' => ro = .returned (.bool true) ∧ Dn w w' := by
 have o1 := O1.out
 have o2 := O2.out
 go_enter Tryz.func3, Tryz.ntmps3
 go_wp2_with fail
 obtain ⟨w0, h0⟩ : ∃ w0, w0 = w.alloc (.cells #[.int .u8 k, .int .u8 n, .int .i16 lo] 24) := ⟨_, rfl⟩
 have u0 : Dn w w0 := by rw [h0]; exact (Dn.refl _).alloc _
 rw [← h0]
 clear h0
 refine (HOF.out _).mono ?_
 rintro e w1 ⟨rfl, qw1⟩
 have uw1 := u0.trans qw1
 clear qw1 u0
 go_wp2_with fail
 refine (HSH.out _).mono ?_
 rintro e w2 ⟨rfl, qw2⟩
 have uw2 := uw1.trans qw2
 clear qw2 uw1
 go_wp2_with fail
 obtain ⟨W1, hW1, uW1, c2, c3, c4, c5, l6⟩ := preAx79x1 w2 q0 q1 q2 q3
 rw [← hW1]
 clear hW1
 have vW1 := uw2.trans uW1
 clear uW1 uw2
 go_wp2_with fail
 go_quiet (first | (go_at_call 9; exact Calls.qs (HDN.out _ _ (by first | exact .inl rfl | exact .inr rfl))) | (go_at_call 10; exact Calls.qs (HUP.out _ _ (by first | exact .inl rfl | exact .inr rfl))))
 go_wp2_with fail
 refine (HFL.out _).mono ?_
 rintro e w5 ⟨rfl, q5⟩
 have qq := ((Dn.refl W1).drewN _).trans q5
 clear q5
 have l7 := nlt l6 qq.size
 obtain ⟨c8, c9, a1, a2⟩ := mv4 qq.cell c2 c3 c4 c5
 clear l6 c2 c3 c4 c5
 have u5 := vW1.trans qq
 clear qq vW1
 go_wp2_with fail
 refine (HCE.out _).mono ?_
 rintro e w3 ⟨rfl, qw3⟩
 have a3 := nlt l7 qw3.size
 obtain ⟨a4, a5, a6, a7⟩ := mv4 qw3.cell c8 c9 a1 a2
 clear l7 c8 c9 a1 a2
 have uw3 := u5.trans qw3
 clear qw3 u5
 go_wp2_with fail
 refine (HC1.out _).mono ?_
 rintro e wq ⟨rfl, rfl⟩
 go_wp2_with fail
 refine (HC2.out _).mono ?_
 rintro e wq ⟨rfl, rfl⟩
 go_wp2_with fail
 refine (HH1.out _).mono ?_
 rintro e w4 ⟨rfl, qw4⟩
 have a8 := nlt a3 qw4.size
 obtain ⟨a9, aA, aB, aC⟩ := mv4 qw4.cell a4 a5 a6 a7
 clear a3 a4 a5 a6 a7
 have uw4 := uw3.trans qw4
 clear qw4 uw3
 go_wp2_with fail
 refine (HH1.out _).mono ?_
 rintro e w5 ⟨rfl, qw5⟩
 have aD := nlt a8 qw5.size
 obtain ⟨aE, aF, aG, aH⟩ := mv4 qw5.cell a9 aA aB aC
 clear a8 a9 aA aB aC
 have uw5 := uw4.trans qw5
 clear qw5 uw4
 clear aE aF aG aH aD
 go_wp2_with fail
 refine (eOf a _).mono ?_
 rintro e w6 ⟨rfl, q6⟩
 have u6 := uw5.up q6
 clear q6 uw5
 go_wp2_with fail
 refine (eOf b _).mono ?_
 rintro e w7 ⟨rfl, q7⟩
 have u7 := u6.up q7
 clear q7 u6
 go_wp2_with fail
 refine (eCmp 0 a 0 b _).mono ?_
 rintro e w8 ⟨rfl, q8⟩
 have u8 := u7.up q8
 clear q8 u7
 go_wp2_with fail
 refine (live11 _ (hE.dn u8)).mono ?_
 rintro e w6 ⟨rfl, qw6⟩
 have uw6 := u8.trans qw6
 clear qw6 u8
 go_wp2_with fail
 go_ret
 exact ⟨rfl, uw6⟩
theorem axis_m11tftfx (k n lo sh a0 b0 c0 d0 q0 q1 q2 q3 : Int) (f : Nat) (w : World) (a b c1 c2 : Int) (dw uw : Int → Nat) (x0 : (q0 == 0) = true) (x2 : (q2 == 0) = true) (wbf : (a == b) = true) (hcmp : decide (eC 0 a 0 b ≤ 0) = true) (ca : decide (0 ≤ c1) = false) (cb : decide (c2 ≤ 0) = true) (HOF : Hid (∀ W, Calls Tryz.prog 7 #[.agg #[.int .u8 k, .int .u8 n, .int .i16 lo]] W fun ro w' => ro = .returned (.agg #[.int .i8 a0, .int .i64 b0, .int .i8 c0, .int .i64 d0]) ∧ Dn W w')) (HSH : Hid (∀ W, Calls Tryz.prog 6 #[.agg #[.int .i8 a0, .int .i64 b0, .int .i8 c0, .int .i64 d0], .int .i64 sh] W fun ro w' => ro = .returned (.tuple #[.agg #[.int .i8 q0, .int .i64 q1, .int .i8 q2, .int .i64 q3], .int .i64 0]) ∧ Dn W w')) (HDN : Hid (∀ z W, (z = q1 ∨ z = q3) → Calls Tryz.prog 9 #[.int .i64 z] W fun ro w' => ro = .returned (.float .f64 (dw z)) ∧ W = w')) (HUP : Hid (∀ z W, (z = q1 ∨ z = q3) → Calls Tryz.prog 10 #[.int .i64 z] W fun ro w' => ro = .returned (.float .f64 (uw z)) ∧ W = w')) (O1 : Hid ((FloatKind.f64.format.order (dw q1) (dw q3) == some .gt) = false)) (O2 : Hid ((FloatKind.f64.format.order (uw q1) (uw q3) == some .gt) = false)) (HFL : Hid (∀ W, Calls Tryz.prog 11 #[.float .f64 f] W fun ro w' => ro = .returned (.tuple #[.int .i64 a, .int .i64 0]) ∧ Dn W w')) (HCE : Hid (∀ W, Calls Tryz.prog 12 #[.float .f64 f] W fun ro w' => ro = .returned (.tuple #[.int .i64 b, .int .i64 0]) ∧ Dn W w')) (HC1 : Hid (∀ W, Calls Tryz.prog 13 #[.float .f64 f, .int .i64 q1] W fun ro w' => ro = .returned (.tuple #[.int .i64 c1, .int .i64 0]) ∧ W = w')) (HC2 : Hid (∀ W, Calls Tryz.prog 13 #[.float .f64 f, .int .i64 q3] W fun ro w' => ro = .returned (.tuple #[.int .i64 c2, .int .i64 0]) ∧ W = w')) (HH1 : Hid (∀ W, Calls Tryz.prog 14 #[.agg #[.int .i8 q0, .int .i64 q1, .int .i8 q2, .int .i64 q3], .int .i64 a] W fun ro w' => ro = .returned (.bool false) ∧ Dn W w')) (hE : EnvP w) :
  Calls Tryz.prog 3 #[.agg #[.int .u8 k, .int .u8 n, .int .i16 lo], .int .i64 sh, .float .f64 f] w fun ro w' => ro = .returned (.bool true) ∧ Dn w w' := by
 have o1 := O1.out
 have o2 := O2.out
 go_enter Tryz.func3, Tryz.ntmps3
 go_wp2_with fail
 obtain ⟨w0, h0⟩ : ∃ w0, w0 = w.alloc (.cells #[.int .u8 k, .int .u8 n, .int .i16 lo] 24) := ⟨_, rfl⟩
 have u0 : Dn w w0 := by rw [h0]; exact (Dn.refl _).alloc _
 rw [← h0]
 clear h0
 refine (HOF.out _).mono ?_
 rintro e w1 ⟨rfl, qw1⟩
 have uw1 := u0.trans qw1
 clear qw1 u0
 go_wp2_with fail
 refine (HSH.out _).mono ?_
 rintro e w2 ⟨rfl, qw2⟩
 have uw2 := uw1.trans qw2
 clear qw2 uw1
 go_wp2_with fail
 obtain ⟨W1, hW1, uW1, c2, c3, c4, c5, l6⟩ := preAx79x1 w2 q0 q1 q2 q3
 rw [← hW1]
 clear hW1
 have vW1 := uw2.trans uW1
 clear uW1 uw2
 go_wp2_with fail
 go_quiet (first | (go_at_call 9; exact Calls.qs (HDN.out _ _ (by first | exact .inl rfl | exact .inr rfl))) | (go_at_call 10; exact Calls.qs (HUP.out _ _ (by first | exact .inl rfl | exact .inr rfl))))
 go_wp2_with fail
 refine (HFL.out _).mono ?_
 rintro e w5 ⟨rfl, q5⟩
 have qq := ((Dn.refl W1).drewN _).trans q5
 clear q5
 have l7 := nlt l6 qq.size
 obtain ⟨c8, c9, a1, a2⟩ := mv4 qq.cell c2 c3 c4 c5
 clear l6 c2 c3 c4 c5
 have u5 := vW1.trans qq
 clear qq vW1
 go_wp2_with fail
 refine (HCE.out _).mono ?_
 rintro e w3 ⟨rfl, qw3⟩
 have a3 := nlt l7 qw3.size
 obtain ⟨a4, a5, a6, a7⟩ := mv4 qw3.cell c8 c9 a1 a2
 clear l7 c8 c9 a1 a2
 have uw3 := u5.trans qw3
 clear qw3 u5
 go_wp2_with fail
 refine (HC1.out _).mono ?_
 rintro e wq ⟨rfl, rfl⟩
 go_wp2_with fail
 refine (HC2.out _).mono ?_
 rintro e wq ⟨rfl, rfl⟩
 go_wp2_with fail
 refine (HH1.out _).mono ?_
 rintro e w4 ⟨rfl, qw4⟩
 have a8 := nlt a3 qw4.size
 obtain ⟨a9, aA, aB, aC⟩ := mv4 qw4.cell a4 a5 a6 a7
 clear a3 a4 a5 a6 a7
 have uw4 := uw3.trans qw4
 clear qw4 uw3
 go_wp2_with fail
 refine (HH1.out _).mono ?_
 rintro e w5 ⟨rfl, qw5⟩
 have aD := nlt a8 qw5.size
 obtain ⟨aE, aF, aG, aH⟩ := mv4 qw5.cell a9 aA aB aC
 clear a8 a9 aA aB aC
 have uw5 := uw4.trans qw5
 clear qw5 uw4
 clear aE aF aG aH aD
 go_wp2_with fail
 refine (eOf a _).mono ?_
 rintro e w6 ⟨rfl, q6⟩
 have u6 := uw5.up q6
 clear q6 uw5
 go_wp2_with fail
 refine (eOf b _).mono ?_
 rintro e w7 ⟨rfl, q7⟩
 have u7 := u6.up q7
 clear q7 u6
 go_wp2_with fail
 refine (eCmp 0 a 0 b _).mono ?_
 rintro e w8 ⟨rfl, q8⟩
 have u8 := u7.up q8
 clear q8 u7
 go_wp2_with fail
 refine (live11 _ (hE.dn u8)).mono ?_
 rintro e w6 ⟨rfl, qw6⟩
 have uw6 := u8.trans qw6
 clear qw6 u8
 go_wp2_with fail
 go_ret
 exact ⟨rfl, uw6⟩
theorem axis_m11tfffx (k n lo sh a0 b0 c0 d0 q0 q1 q2 q3 : Int) (f : Nat) (w : World) (a b c1 c2 : Int) (dw uw : Int → Nat) (x0 : (q0 == 0) = true) (x2 : (q2 == 0) = true) (wbf : (a == b) = true) (hcmp : decide (eC 0 a 0 b ≤ 0) = true) (ca : decide (0 ≤ c1) = false) (cb : decide (c2 ≤ 0) = false) (HOF : Hid (∀ W, Calls Tryz.prog 7 #[.agg #[.int .u8 k, .int .u8 n, .int .i16 lo]] W fun ro w' => ro = .returned (.agg #[.int .i8 a0, .int .i64 b0, .int .i8 c0, .int .i64 d0]) ∧ Dn W w')) (HSH : Hid (∀ W, Calls Tryz.prog 6 #[.agg #[.int .i8 a0, .int .i64 b0, .int .i8 c0, .int .i64 d0], .int .i64 sh] W fun ro w' => ro = .returned (.tuple #[.agg #[.int .i8 q0, .int .i64 q1, .int .i8 q2, .int .i64 q3], .int .i64 0]) ∧ Dn W w')) (HDN : Hid (∀ z W, (z = q1 ∨ z = q3) → Calls Tryz.prog 9 #[.int .i64 z] W fun ro w' => ro = .returned (.float .f64 (dw z)) ∧ W = w')) (HUP : Hid (∀ z W, (z = q1 ∨ z = q3) → Calls Tryz.prog 10 #[.int .i64 z] W fun ro w' => ro = .returned (.float .f64 (uw z)) ∧ W = w')) (O1 : Hid ((FloatKind.f64.format.order (dw q1) (dw q3) == some .gt) = false)) (O2 : Hid ((FloatKind.f64.format.order (uw q1) (uw q3) == some .gt) = false)) (HFL : Hid (∀ W, Calls Tryz.prog 11 #[.float .f64 f] W fun ro w' => ro = .returned (.tuple #[.int .i64 a, .int .i64 0]) ∧ Dn W w')) (HCE : Hid (∀ W, Calls Tryz.prog 12 #[.float .f64 f] W fun ro w' => ro = .returned (.tuple #[.int .i64 b, .int .i64 0]) ∧ Dn W w')) (HC1 : Hid (∀ W, Calls Tryz.prog 13 #[.float .f64 f, .int .i64 q1] W fun ro w' => ro = .returned (.tuple #[.int .i64 c1, .int .i64 0]) ∧ W = w')) (HC2 : Hid (∀ W, Calls Tryz.prog 13 #[.float .f64 f, .int .i64 q3] W fun ro w' => ro = .returned (.tuple #[.int .i64 c2, .int .i64 0]) ∧ W = w')) (HH1 : Hid (∀ W, Calls Tryz.prog 14 #[.agg #[.int .i8 q0, .int .i64 q1, .int .i8 q2, .int .i64 q3], .int .i64 a] W fun ro w' => ro = .returned (.bool false) ∧ Dn W w')) (hE : EnvP w) :
  Calls Tryz.prog 3 #[.agg #[.int .u8 k, .int .u8 n, .int .i16 lo], .int .i64 sh, .float .f64 f] w fun ro w' => ro = .returned (.bool true) ∧ Dn w w' := by
 have o1 := O1.out
 have o2 := O2.out
 go_enter Tryz.func3, Tryz.ntmps3
 go_wp2_with fail
 obtain ⟨w0, h0⟩ : ∃ w0, w0 = w.alloc (.cells #[.int .u8 k, .int .u8 n, .int .i16 lo] 24) := ⟨_, rfl⟩
 have u0 : Dn w w0 := by rw [h0]; exact (Dn.refl _).alloc _
 rw [← h0]
 clear h0
 refine (HOF.out _).mono ?_
 rintro e w1 ⟨rfl, qw1⟩
 have uw1 := u0.trans qw1
 clear qw1 u0
 go_wp2_with fail
 refine (HSH.out _).mono ?_
 rintro e w2 ⟨rfl, qw2⟩
 have uw2 := uw1.trans qw2
 clear qw2 uw1
 go_wp2_with fail
 obtain ⟨W1, hW1, uW1, c2, c3, c4, c5, l6⟩ := preAx79x1 w2 q0 q1 q2 q3
 rw [← hW1]
 clear hW1
 have vW1 := uw2.trans uW1
 clear uW1 uw2
 go_wp2_with fail
 go_quiet (first | (go_at_call 9; exact Calls.qs (HDN.out _ _ (by first | exact .inl rfl | exact .inr rfl))) | (go_at_call 10; exact Calls.qs (HUP.out _ _ (by first | exact .inl rfl | exact .inr rfl))))
 go_wp2_with fail
 refine (HFL.out _).mono ?_
 rintro e w5 ⟨rfl, q5⟩
 have qq := ((Dn.refl W1).drewN _).trans q5
 clear q5
 have l7 := nlt l6 qq.size
 obtain ⟨c8, c9, a1, a2⟩ := mv4 qq.cell c2 c3 c4 c5
 clear l6 c2 c3 c4 c5
 have u5 := vW1.trans qq
 clear qq vW1
 go_wp2_with fail
 refine (HCE.out _).mono ?_
 rintro e w3 ⟨rfl, qw3⟩
 have a3 := nlt l7 qw3.size
 obtain ⟨a4, a5, a6, a7⟩ := mv4 qw3.cell c8 c9 a1 a2
 clear l7 c8 c9 a1 a2
 have uw3 := u5.trans qw3
 clear qw3 u5
 go_wp2_with fail
 refine (HC1.out _).mono ?_
 rintro e wq ⟨rfl, rfl⟩
 go_wp2_with fail
 refine (HC2.out _).mono ?_
 rintro e wq ⟨rfl, rfl⟩
 go_wp2_with fail
 refine (HH1.out _).mono ?_
 rintro e w4 ⟨rfl, qw4⟩
 have a8 := nlt a3 qw4.size
 obtain ⟨a9, aA, aB, aC⟩ := mv4 qw4.cell a4 a5 a6 a7
 clear a3 a4 a5 a6 a7
 have uw4 := uw3.trans qw4
 clear qw4 uw3
 go_wp2_with fail
 refine (HH1.out _).mono ?_
 rintro e w5 ⟨rfl, qw5⟩
 have aD := nlt a8 qw5.size
 obtain ⟨aE, aF, aG, aH⟩ := mv4 qw5.cell a9 aA aB aC
 clear a8 a9 aA aB aC
 have uw5 := uw4.trans qw5
 clear qw5 uw4
 clear aE aF aG aH aD
 go_wp2_with fail
 refine (eOf a _).mono ?_
 rintro e w6 ⟨rfl, q6⟩
 have u6 := uw5.up q6
 clear q6 uw5
 go_wp2_with fail
 refine (eOf b _).mono ?_
 rintro e w7 ⟨rfl, q7⟩
 have u7 := u6.up q7
 clear q7 u6
 go_wp2_with fail
 refine (eCmp 0 a 0 b _).mono ?_
 rintro e w8 ⟨rfl, q8⟩
 have u8 := u7.up q8
 clear q8 u7
 go_wp2_with fail
 refine (live11 _ (hE.dn u8)).mono ?_
 rintro e w6 ⟨rfl, qw6⟩
 have uw6 := u8.trans qw6
 clear qw6 u8
 go_wp2_with fail
 go_ret
 exact ⟨rfl, uw6⟩
theorem axis_m11fxxfx (k n lo sh a0 b0 c0 d0 q0 q1 q2 q3 : Int) (f : Nat) (w : World) (a b c1 c2 : Int) (dw uw : Int → Nat) (x0 : (q0 == 0) = true) (x2 : (q2 == 0) = true) (wbf : (a == b) = false) (hcmp : decide (eC 0 a 0 b ≤ 0) = true) (HOF : Hid (∀ W, Calls Tryz.prog 7 #[.agg #[.int .u8 k, .int .u8 n, .int .i16 lo]] W fun ro w' => ro = .returned (.agg #[.int .i8 a0, .int .i64 b0, .int .i8 c0, .int .i64 d0]) ∧ Dn W w')) (HSH : Hid (∀ W, Calls Tryz.prog 6 #[.agg #[.int .i8 a0, .int .i64 b0, .int .i8 c0, .int .i64 d0], .int .i64 sh] W fun ro w' => ro = .returned (.tuple #[.agg #[.int .i8 q0, .int .i64 q1, .int .i8 q2, .int .i64 q3], .int .i64 0]) ∧ Dn W w')) (HDN : Hid (∀ z W, (z = q1 ∨ z = q3) → Calls Tryz.prog 9 #[.int .i64 z] W fun ro w' => ro = .returned (.float .f64 (dw z)) ∧ W = w')) (HUP : Hid (∀ z W, (z = q1 ∨ z = q3) → Calls Tryz.prog 10 #[.int .i64 z] W fun ro w' => ro = .returned (.float .f64 (uw z)) ∧ W = w')) (O1 : Hid ((FloatKind.f64.format.order (dw q1) (dw q3) == some .gt) = false)) (O2 : Hid ((FloatKind.f64.format.order (uw q1) (uw q3) == some .gt) = false)) (HFL : Hid (∀ W, Calls Tryz.prog 11 #[.float .f64 f] W fun ro w' => ro = .returned (.tuple #[.int .i64 a, .int .i64 0]) ∧ Dn W w')) (HCE : Hid (∀ W, Calls Tryz.prog 12 #[.float .f64 f] W fun ro w' => ro = .returned (.tuple #[.int .i64 b, .int .i64 0]) ∧ Dn W w')) (HC1 : Hid (∀ W, Calls Tryz.prog 13 #[.float .f64 f, .int .i64 q1] W fun ro w' => ro = .returned (.tuple #[.int .i64 c1, .int .i64 0]) ∧ W = w')) (HC2 : Hid (∀ W, Calls Tryz.prog 13 #[.float .f64 f, .int .i64 q3] W fun ro w' => ro = .returned (.tuple #[.int .i64 c2, .int .i64 0]) ∧ W = w')) (HH1 : Hid (∀ W, Calls Tryz.prog 14 #[.agg #[.int .i8 q0, .int .i64 q1, .int .i8 q2, .int .i64 q3], .int .i64 a] W fun ro w' => ro = .returned (.bool false) ∧ Dn W w')) (hE : EnvP w) :
  Calls Tryz.prog 3 #[.agg #[.int .u8 k, .int .u8 n, .int .i16 lo], .int .i64 sh, .float .f64 f] w fun ro w' => ro = .returned (.bool true) ∧ Dn w w' := by
 have o1 := O1.out
 have o2 := O2.out
 go_enter Tryz.func3, Tryz.ntmps3
 go_wp2_with fail
 obtain ⟨w0, h0⟩ : ∃ w0, w0 = w.alloc (.cells #[.int .u8 k, .int .u8 n, .int .i16 lo] 24) := ⟨_, rfl⟩
 have u0 : Dn w w0 := by rw [h0]; exact (Dn.refl _).alloc _
 rw [← h0]
 clear h0
 refine (HOF.out _).mono ?_
 rintro e w1 ⟨rfl, qw1⟩
 have uw1 := u0.trans qw1
 clear qw1 u0
 go_wp2_with fail
 refine (HSH.out _).mono ?_
 rintro e w2 ⟨rfl, qw2⟩
 have uw2 := uw1.trans qw2
 clear qw2 uw1
 go_wp2_with fail
 obtain ⟨W1, hW1, uW1, c2, c3, c4, c5, l6⟩ := preAx79x1 w2 q0 q1 q2 q3
 rw [← hW1]
 clear hW1
 have vW1 := uw2.trans uW1
 clear uW1 uw2
 go_wp2_with fail
 go_quiet (first | (go_at_call 9; exact Calls.qs (HDN.out _ _ (by first | exact .inl rfl | exact .inr rfl))) | (go_at_call 10; exact Calls.qs (HUP.out _ _ (by first | exact .inl rfl | exact .inr rfl))))
 go_wp2_with fail
 refine (HFL.out _).mono ?_
 rintro e w5 ⟨rfl, q5⟩
 have qq := ((Dn.refl W1).drewN _).trans q5
 clear q5
 have l7 := nlt l6 qq.size
 obtain ⟨c8, c9, a1, a2⟩ := mv4 qq.cell c2 c3 c4 c5
 clear l6 c2 c3 c4 c5
 have u5 := vW1.trans qq
 clear qq vW1
 go_wp2_with fail
 refine (HCE.out _).mono ?_
 rintro e w3 ⟨rfl, qw3⟩
 have a3 := nlt l7 qw3.size
 obtain ⟨a4, a5, a6, a7⟩ := mv4 qw3.cell c8 c9 a1 a2
 clear l7 c8 c9 a1 a2
 have uw3 := u5.trans qw3
 clear qw3 u5
 go_wp2_with fail
 refine (HC1.out _).mono ?_
 rintro e wq ⟨rfl, rfl⟩
 go_wp2_with fail
 refine (HC2.out _).mono ?_
 rintro e wq ⟨rfl, rfl⟩
 go_wp2_with fail
 refine (HH1.out _).mono ?_
 rintro e w4 ⟨rfl, qw4⟩
 have a8 := nlt a3 qw4.size
 obtain ⟨a9, aA, aB, aC⟩ := mv4 qw4.cell a4 a5 a6 a7
 clear a3 a4 a5 a6 a7
 have uw4 := uw3.trans qw4
 clear qw4 uw3
 clear a9 aA aB aC a8
 go_wp2_with fail
 refine (eOf a _).mono ?_
 rintro e w6 ⟨rfl, q6⟩
 have u6 := uw4.up q6
 clear q6 uw4
 go_wp2_with fail
 refine (eOf b _).mono ?_
 rintro e w7 ⟨rfl, q7⟩
 have u7 := u6.up q7
 clear q7 u6
 go_wp2_with fail
 refine (eCmp 0 a 0 b _).mono ?_
 rintro e w8 ⟨rfl, q8⟩
 have u8 := u7.up q8
 clear q8 u7
 go_wp2_with fail
 refine (live11 _ (hE.dn u8)).mono ?_
 rintro e w5 ⟨rfl, qw5⟩
 have uw5 := u8.trans qw5
 clear qw5 u8
 go_wp2_with fail
 go_ret
 exact ⟨rfl, uw5⟩
theorem axis_m11fxxtf (k n lo sh a0 b0 c0 d0 q0 q1 q2 q3 : Int) (f : Nat) (w : World) (a b c1 c2 : Int) (dw uw : Int → Nat) (x0 : (q0 == 0) = true) (x2 : (q2 == 0) = true) (wbf : (a == b) = false) (hcmp : decide (eC 0 a 0 b ≤ 0) = true) (HOF : Hid (∀ W, Calls Tryz.prog 7 #[.agg #[.int .u8 k, .int .u8 n, .int .i16 lo]] W fun ro w' => ro = .returned (.agg #[.int .i8 a0, .int .i64 b0, .int .i8 c0, .int .i64 d0]) ∧ Dn W w')) (HSH : Hid (∀ W, Calls Tryz.prog 6 #[.agg #[.int .i8 a0, .int .i64 b0, .int .i8 c0, .int .i64 d0], .int .i64 sh] W fun ro w' => ro = .returned (.tuple #[.agg #[.int .i8 q0, .int .i64 q1, .int .i8 q2, .int .i64 q3], .int .i64 0]) ∧ Dn W w')) (HDN : Hid (∀ z W, (z = q1 ∨ z = q3) → Calls Tryz.prog 9 #[.int .i64 z] W fun ro w' => ro = .returned (.float .f64 (dw z)) ∧ W = w')) (HUP : Hid (∀ z W, (z = q1 ∨ z = q3) → Calls Tryz.prog 10 #[.int .i64 z] W fun ro w' => ro = .returned (.float .f64 (uw z)) ∧ W = w')) (O1 : Hid ((FloatKind.f64.format.order (dw q1) (dw q3) == some .gt) = false)) (O2 : Hid ((FloatKind.f64.format.order (uw q1) (uw q3) == some .gt) = false)) (HFL : Hid (∀ W, Calls Tryz.prog 11 #[.float .f64 f] W fun ro w' => ro = .returned (.tuple #[.int .i64 a, .int .i64 0]) ∧ Dn W w')) (HCE : Hid (∀ W, Calls Tryz.prog 12 #[.float .f64 f] W fun ro w' => ro = .returned (.tuple #[.int .i64 b, .int .i64 0]) ∧ Dn W w')) (HC1 : Hid (∀ W, Calls Tryz.prog 13 #[.float .f64 f, .int .i64 q1] W fun ro w' => ro = .returned (.tuple #[.int .i64 c1, .int .i64 0]) ∧ W = w')) (HC2 : Hid (∀ W, Calls Tryz.prog 13 #[.float .f64 f, .int .i64 q3] W fun ro w' => ro = .returned (.tuple #[.int .i64 c2, .int .i64 0]) ∧ W = w')) (HH1 : Hid (∀ W, Calls Tryz.prog 14 #[.agg #[.int .i8 q0, .int .i64 q1, .int .i8 q2, .int .i64 q3], .int .i64 a] W fun ro w' => ro = .returned (.bool true) ∧ Dn W w')) (HH2 : Hid (∀ W, Calls Tryz.prog 14 #[.agg #[.int .i8 q0, .int .i64 q1, .int .i8 q2, .int .i64 q3], .int .i64 b] W fun ro w' => ro = .returned (.bool false) ∧ Dn W w')) (hE : EnvP w) :
  Calls Tryz.prog 3 #[.agg #[.int .u8 k, .int .u8 n, .int .i16 lo], .int .i64 sh, .float .f64 f] w fun ro w' => ro = .returned (.bool true) ∧ Dn w w' := by
 have o1 := O1.out
 have o2 := O2.out
 go_enter Tryz.func3, Tryz.ntmps3
 go_wp2_with fail
 obtain ⟨w0, h0⟩ : ∃ w0, w0 = w.alloc (.cells #[.int .u8 k, .int .u8 n, .int .i16 lo] 24) := ⟨_, rfl⟩
 have u0 : Dn w w0 := by rw [h0]; exact (Dn.refl _).alloc _
 rw [← h0]
 clear h0
 refine (HOF.out _).mono ?_
 rintro e w1 ⟨rfl, qw1⟩
 have uw1 := u0.trans qw1
 clear qw1 u0
 go_wp2_with fail
 refine (HSH.out _).mono ?_
 rintro e w2 ⟨rfl, qw2⟩
 have uw2 := uw1.trans qw2
 clear qw2 uw1
 go_wp2_with fail
 obtain ⟨W1, hW1, uW1, c2, c3, c4, c5, l6⟩ := preAx79x1 w2 q0 q1 q2 q3
 rw [← hW1]
 clear hW1
 have vW1 := uw2.trans uW1
 clear uW1 uw2
 go_wp2_with fail
 go_quiet (first | (go_at_call 9; exact Calls.qs (HDN.out _ _ (by first | exact .inl rfl | exact .inr rfl))) | (go_at_call 10; exact Calls.qs (HUP.out _ _ (by first | exact .inl rfl | exact .inr rfl))))
 go_wp2_with fail
 refine (HFL.out _).mono ?_
 rintro e w5 ⟨rfl, q5⟩
 have qq := ((Dn.refl W1).drewN _).trans q5
 clear q5
 have l7 := nlt l6 qq.size
 obtain ⟨c8, c9, a1, a2⟩ := mv4 qq.cell c2 c3 c4 c5
 clear l6 c2 c3 c4 c5
 have u5 := vW1.trans qq
 clear qq vW1
 go_wp2_with fail
 refine (HCE.out _).mono ?_
 rintro e w3 ⟨rfl, qw3⟩
 have a3 := nlt l7 qw3.size
 obtain ⟨a4, a5, a6, a7⟩ := mv4 qw3.cell c8 c9 a1 a2
 clear l7 c8 c9 a1 a2
 have uw3 := u5.trans qw3
 clear qw3 u5
 go_wp2_with fail
 refine (HC1.out _).mono ?_
 rintro e wq ⟨rfl, rfl⟩
 go_wp2_with fail
 refine (HC2.out _).mono ?_
 rintro e wq ⟨rfl, rfl⟩
 go_wp2_with fail
 refine (HH1.out _).mono ?_
 rintro e w4 ⟨rfl, qw4⟩
 have a8 := nlt a3 qw4.size
 obtain ⟨a9, aA, aB, aC⟩ := mv4 qw4.cell a4 a5 a6 a7
 clear a3 a4 a5 a6 a7
 have uw4 := uw3.trans qw4
 clear qw4 uw3
 go_wp2_with fail
 refine (HH2.out _).mono ?_
 rintro e w5 ⟨rfl, qw5⟩
 have aD := nlt a8 qw5.size
 obtain ⟨aE, aF, aG, aH⟩ := mv4 qw5.cell a9 aA aB aC
 clear a8 a9 aA aB aC
 have uw5 := uw4.trans qw5
 clear qw5 uw4
 clear aE aF aG aH aD
 go_wp2_with fail
 refine (eOf a _).mono ?_
 rintro e w6 ⟨rfl, q6⟩
 have u6 := uw5.up q6
 clear q6 uw5
 go_wp2_with fail
 refine (eOf b _).mono ?_
 rintro e w7 ⟨rfl, q7⟩
 have u7 := u6.up q7
 clear q7 u6
 go_wp2_with fail
 refine (eCmp 0 a 0 b _).mono ?_
 rintro e w8 ⟨rfl, q8⟩
 have u8 := u7.up q8
 clear q8 u7
 go_wp2_with fail
 refine (live11 _ (hE.dn u8)).mono ?_
 rintro e w6 ⟨rfl, qw6⟩
 have uw6 := u8.trans qw6
 clear qw6 u8
 go_wp2_with fail
 go_ret
 exact ⟨rfl, uw6⟩
theorem axis_m11ftttt (k n lo sh a0 b0 c0 d0 q0 q1 q2 q3 : Int) (f : Nat) (w : World) (a b c1 c2 : Int) (dw uw : Int → Nat) (x0 : (q0 == 0) = true) (x2 : (q2 == 0) = true) (wbf : (a == b) = false) (hcmp : decide (eC 0 a 0 b ≤ 0) = true) (ca : decide (0 ≤ c1) = true) (cb : decide (c2 ≤ 0) = true) (HOF : Hid (∀ W, Calls Tryz.prog 7 #[.agg #[.int .u8 k, .int .u8 n, .int .i16 lo]] W fun ro w' => ro = .returned (.agg #[.int .i8 a0, .int .i64 b0, .int .i8 c0, .int .i64 d0]) ∧ Dn W w')) (HSH : Hid (∀ W, Calls Tryz.prog 6 #[.agg #[.int .i8 a0, .int .i64 b0, .int .i8 c0, .int .i64 d0], .int .i64 sh] W fun ro w' => ro = .returned (.tuple #[.agg #[.int .i8 q0, .int .i64 q1, .int .i8 q2, .int .i64 q3], .int .i64 0]) ∧ Dn W w')) (HDN : Hid (∀ z W, (z = q1 ∨ z = q3) → Calls Tryz.prog 9 #[.int .i64 z] W fun ro w' => ro = .returned (.float .f64 (dw z)) ∧ W = w')) (HUP : Hid (∀ z W, (z = q1 ∨ z = q3) → Calls Tryz.prog 10 #[.int .i64 z] W fun ro w' => ro = .returned (.float .f64 (uw z)) ∧ W = w')) (O1 : Hid ((FloatKind.f64.format.order (dw q1) (dw q3) == some .gt) = false)) (O2 : Hid ((FloatKind.f64.format.order (uw q1) (uw q3) == some .gt) = false)) (HFL : Hid (∀ W, Calls Tryz.prog 11 #[.float .f64 f] W fun ro w' => ro = .returned (.tuple #[.int .i64 a, .int .i64 0]) ∧ Dn W w')) (HCE : Hid (∀ W, Calls Tryz.prog 12 #[.float .f64 f] W fun ro w' => ro = .returned (.tuple #[.int .i64 b, .int .i64 0]) ∧ Dn W w')) (HC1 : Hid (∀ W, Calls Tryz.prog 13 #[.float .f64 f, .int .i64 q1] W fun ro w' => ro = .returned (.tuple #[.int .i64 c1, .int .i64 0]) ∧ W = w')) (HC2 : Hid (∀ W, Calls Tryz.prog 13 #[.float .f64 f, .int .i64 q3] W fun ro w' => ro = .returned (.tuple #[.int .i64 c2, .int .i64 0]) ∧ W = w')) (HH1 : Hid (∀ W, Calls Tryz.prog 14 #[.agg #[.int .i8 q0, .int .i64 q1, .int .i8 q2, .int .i64 q3], .int .i64 a] W fun ro w' => ro = .returned (.bool true) ∧ Dn W w')) (HH2 : Hid (∀ W, Calls Tryz.prog 14 #[.agg #[.int .i8 q0, .int .i64 q1, .int .i8 q2, .int .i64 q3], .int .i64 b] W fun ro w' => ro = .returned (.bool true) ∧ Dn W w')) (hE : EnvP w) :
  Calls Tryz.prog 3 #[.agg #[.int .u8 k, .int .u8 n, .int .i16 lo], .int .i64 sh, .float .f64 f] w fun ro w' => ro = .returned (.bool true) ∧ Dn w w' := by
 have o1 := O1.out
 have o2 := O2.out
 go_enter Tryz.func3, Tryz.ntmps3
 go_wp2_with fail
 obtain ⟨w0, h0⟩ : ∃ w0, w0 = w.alloc (.cells #[.int .u8 k, .int .u8 n, .int .i16 lo] 24) := ⟨_, rfl⟩
 have u0 : Dn w w0 := by rw [h0]; exact (Dn.refl _).alloc _
 rw [← h0]
 clear h0
 refine (HOF.out _).mono ?_
 rintro e w1 ⟨rfl, qw1⟩
 have uw1 := u0.trans qw1
 clear qw1 u0
 go_wp2_with fail
 refine (HSH.out _).mono ?_
 rintro e w2 ⟨rfl, qw2⟩
 have uw2 := uw1.trans qw2
 clear qw2 uw1
 go_wp2_with fail
 obtain ⟨W1, hW1, uW1, c2, c3, c4, c5, l6⟩ := preAx79x1 w2 q0 q1 q2 q3
 rw [← hW1]
 clear hW1
 have vW1 := uw2.trans uW1
 clear uW1 uw2
 go_wp2_with fail
 go_quiet (first | (go_at_call 9; exact Calls.qs (HDN.out _ _ (by first | exact .inl rfl | exact .inr rfl))) | (go_at_call 10; exact Calls.qs (HUP.out _ _ (by first | exact .inl rfl | exact .inr rfl))))
 go_wp2_with fail
 refine (HFL.out _).mono ?_
 rintro e w5 ⟨rfl, q5⟩
 have qq := ((Dn.refl W1).drewN _).trans q5
 clear q5
 have l7 := nlt l6 qq.size
 obtain ⟨c8, c9, a1, a2⟩ := mv4 qq.cell c2 c3 c4 c5
 clear l6 c2 c3 c4 c5
 have u5 := vW1.trans qq
 clear qq vW1
 go_wp2_with fail
 refine (HCE.out _).mono ?_
 rintro e w3 ⟨rfl, qw3⟩
 have a3 := nlt l7 qw3.size
 obtain ⟨a4, a5, a6, a7⟩ := mv4 qw3.cell c8 c9 a1 a2
 clear l7 c8 c9 a1 a2
 have uw3 := u5.trans qw3
 clear qw3 u5
 go_wp2_with fail
 refine (HC1.out _).mono ?_
 rintro e wq ⟨rfl, rfl⟩
 go_wp2_with fail
 refine (HC2.out _).mono ?_
 rintro e wq ⟨rfl, rfl⟩
 go_wp2_with fail
 refine (HH1.out _).mono ?_
 rintro e w4 ⟨rfl, qw4⟩
 have a8 := nlt a3 qw4.size
 obtain ⟨a9, aA, aB, aC⟩ := mv4 qw4.cell a4 a5 a6 a7
 clear a3 a4 a5 a6 a7
 have uw4 := uw3.trans qw4
 clear qw4 uw3
 go_wp2_with fail
 refine (HH2.out _).mono ?_
 rintro e w5 ⟨rfl, qw5⟩
 have aD := nlt a8 qw5.size
 obtain ⟨aE, aF, aG, aH⟩ := mv4 qw5.cell a9 aA aB aC
 clear a8 a9 aA aB aC
 have uw5 := uw4.trans qw5
 clear qw5 uw4
 clear aE aF aG aH aD
 go_wp2_with fail
 refine (eOf a _).mono ?_
 rintro e w6 ⟨rfl, q6⟩
 have u6 := uw5.up q6
 clear q6 uw5
 go_wp2_with fail
 refine (eOf b _).mono ?_
 rintro e w7 ⟨rfl, q7⟩
 have u7 := u6.up q7
 clear q7 u6
 go_wp2_with fail
 refine (eCmp 0 a 0 b _).mono ?_
 rintro e w8 ⟨rfl, q8⟩
 have u8 := u7.up q8
 clear q8 u7
 go_wp2_with fail
 refine (live11 _ (hE.dn u8)).mono ?_
 rintro e w6 ⟨rfl, qw6⟩
 have uw6 := u8.trans qw6
 clear qw6 u8
 go_wp2_with fail
 go_ret
 exact ⟨rfl, uw6⟩
theorem axis_err10 (k n lo sh a0 b0 c0 d0 q0 q1 q2 q3 : Int) (f : Nat) (w : World) (g : Int) (hg : (g != 0) = true) (x0 : (q0 == 0) = true) (x2 : (q2 == 0) = false) (HOF : Hid (∀ W, Calls Tryz.prog 7 #[.agg #[.int .u8 k, .int .u8 n, .int .i16 lo]] W fun ro w' => ro = .returned (.agg #[.int .i8 a0, .int .i64 b0, .int .i8 c0, .int .i64 d0]) ∧ Dn W w')) (HSH : Hid (∀ W, Calls Tryz.prog 6 #[.agg #[.int .i8 a0, .int .i64 b0, .int .i8 c0, .int .i64 d0], .int .i64 sh] W fun ro w' => ro = .returned (.tuple #[.agg #[.int .i8 q0, .int .i64 q1, .int .i8 q2, .int .i64 q3], .int .i64 0]) ∧ Dn W w')) (HFL : Hid (∀ W, Calls Tryz.prog 11 #[.float .f64 f] W fun ro w' => ro = .returned (.tuple #[.int .i64 0, .int .i64 g]) ∧ Dn W w')) (HCE : Hid (∀ W, Calls Tryz.prog 12 #[.float .f64 f] W fun ro w' => ro = .returned (.tuple #[.int .i64 0, .int .i64 g]) ∧ Dn W w')) (hE : EnvP w) :
  Calls Tryz.prog 3 #[.agg #[.int .u8 k, .int .u8 n, .int .i16 lo], .int .i64 sh, .float .f64 f] w fun ro w' => ro = .returned (.bool true) ∧ Dn w w' := by
 go_enter Tryz.func3, Tryz.ntmps3
 go_wp2_with fail
 obtain ⟨w0, h0⟩ : ∃ w0, w0 = w.alloc (.cells #[.int .u8 k, .int .u8 n, .int .i16 lo] 24) := ⟨_, rfl⟩
 have u0 : Dn w w0 := by rw [h0]; exact (Dn.refl _).alloc _
 rw [← h0]
 clear h0
 refine (HOF.out _).mono ?_
 rintro e w1 ⟨rfl, qw1⟩
 have uw1 := u0.trans qw1
 clear qw1 u0
 go_wp2_with fail
 refine (HSH.out _).mono ?_
 rintro e w2 ⟨rfl, qw2⟩
 have uw2 := uw1.trans qw2
 clear qw2 uw1
 go_wp2_with fail
 obtain ⟨W1, hW1, uW1, c2, c3, c4, c5, l6⟩ := preAx79x1 w2 q0 q1 q2 q3
 rw [← hW1]
 clear hW1
 have vW1 := uw2.trans uW1
 clear uW1 uw2
 go_wp2_with fail
 go_quiet (fail)
 go_wp2_with fail
 refine (HFL.out _).mono ?_
 rintro e w5 ⟨rfl, q5⟩
 have qq := ((Dn.refl W1).drewN _).trans q5
 clear q5
 have l7 := nlt l6 qq.size
 obtain ⟨c8, c9, c10, c11⟩ := mv4 qq.cell c2 c3 c4 c5
 clear l6 c2 c3 c4 c5
 have u5 := vW1.trans qq
 clear qq vW1
 clear c8 c9 c10 c11 l7
 go_wp2_with fail
 refine (HCE.out _).mono ?_
 rintro e w3 ⟨rfl, qw3⟩
 have uw3 := u5.trans qw3
 clear qw3 u5
 go_wp2_with fail
 refine (live11 _ (hE.dn uw3)).mono ?_
 rintro e w4 ⟨rfl, qw4⟩
 have uw4 := uw3.trans qw4
 clear qw4 uw3
 go_wp2_with fail
 go_ret
 exact ⟨rfl, uw4⟩
theorem axis_mix110 (k n lo sh a0 b0 c0 d0 q0 q1 q2 q3 : Int) (f : Nat) (w : World) (g h a b : Int) (hg : (g != h) = true) (x0 : (q0 == 0) = true) (x2 : (q2 == 0) = false) (HOF : Hid (∀ W, Calls Tryz.prog 7 #[.agg #[.int .u8 k, .int .u8 n, .int .i16 lo]] W fun ro w' => ro = .returned (.agg #[.int .i8 a0, .int .i64 b0, .int .i8 c0, .int .i64 d0]) ∧ Dn W w')) (HSH : Hid (∀ W, Calls Tryz.prog 6 #[.agg #[.int .i8 a0, .int .i64 b0, .int .i8 c0, .int .i64 d0], .int .i64 sh] W fun ro w' => ro = .returned (.tuple #[.agg #[.int .i8 q0, .int .i64 q1, .int .i8 q2, .int .i64 q3], .int .i64 0]) ∧ Dn W w')) (M0 : Hid ((FloatKind.f64.format.order f f == some .eq) = true)) (M1 : Hid ((FloatKind.f64.format.order f 4845873199050653696 == some .gt) = true)) (HFL : Hid (∀ W, Calls Tryz.prog 11 #[.float .f64 f] W fun ro w' => ro = .returned (.tuple #[.int .i64 a, .int .i64 g]) ∧ Dn W w')) (HCE : Hid (∀ W, Calls Tryz.prog 12 #[.float .f64 f] W fun ro w' => ro = .returned (.tuple #[.int .i64 b, .int .i64 h]) ∧ Dn W w')) (hE : EnvP w) :
  Calls Tryz.prog 3 #[.agg #[.int .u8 k, .int .u8 n, .int .i16 lo], .int .i64 sh, .float .f64 f] w fun ro w' => ro = .returned (.bool true) ∧ Dn w w' := by
 have m0 := M0.out
 have m1 := M1.out
 go_enter Tryz.func3, Tryz.ntmps3
 go_wp2_with fail
 obtain ⟨w0, h0⟩ : ∃ w0, w0 = w.alloc (.cells #[.int .u8 k, .int .u8 n, .int .i16 lo] 24) := ⟨_, rfl⟩
 have u0 : Dn w w0 := by rw [h0]; exact (Dn.refl _).alloc _
 rw [← h0]
 clear h0
 refine (HOF.out _).mono ?_
 rintro e w1 ⟨rfl, qw1⟩
 have uw1 := u0.trans qw1
 clear qw1 u0
 go_wp2_with fail
 refine (HSH.out _).mono ?_
 rintro e w2 ⟨rfl, qw2⟩
 have uw2 := uw1.trans qw2
 clear qw2 uw1
 go_wp2_with fail
 obtain ⟨W1, hW1, uW1, c2, c3, c4, c5, l6⟩ := preAx79x1 w2 q0 q1 q2 q3
 rw [← hW1]
 clear hW1
 have vW1 := uw2.trans uW1
 clear uW1 uw2
 go_wp2_with fail
 go_quiet (fail)
 go_wp2_with fail
 refine (HFL.out _).mono ?_
 rintro e w5 ⟨rfl, q5⟩
 have qq := ((Dn.refl W1).drewN _).trans q5
 clear q5
 have l7 := nlt l6 qq.size
 obtain ⟨c8, c9, c10, c11⟩ := mv4 qq.cell c2 c3 c4 c5
 clear l6 c2 c3 c4 c5
 have u5 := vW1.trans qq
 clear qq vW1
 clear c8 c9 c10 c11 l7
 go_wp2_with fail
 refine (HCE.out _).mono ?_
 rintro e w3 ⟨rfl, qw3⟩
 have uw3 := u5.trans qw3
 clear qw3 u5
 go_wp2_with fail
 refine (live11 _ (hE.dn uw3)).mono ?_
 rintro e w4 ⟨rfl, qw4⟩
 have uw4 := uw3.trans qw4
 clear qw4 uw3
 go_wp2_with fail
 go_ret
 exact ⟨rfl, uw4⟩
theorem axis_mix210 (k n lo sh a0 b0 c0 d0 q0 q1 q2 q3 : Int) (f : Nat) (w : World) (g h a b : Int) (hg : (g != h) = true) (x0 : (q0 == 0) = true) (x2 : (q2 == 0) = false) (HOF : Hid (∀ W, Calls Tryz.prog 7 #[.agg #[.int .u8 k, .int .u8 n, .int .i16 lo]] W fun ro w' => ro = .returned (.agg #[.int .i8 a0, .int .i64 b0, .int .i8 c0, .int .i64 d0]) ∧ Dn W w')) (HSH : Hid (∀ W, Calls Tryz.prog 6 #[.agg #[.int .i8 a0, .int .i64 b0, .int .i8 c0, .int .i64 d0], .int .i64 sh] W fun ro w' => ro = .returned (.tuple #[.agg #[.int .i8 q0, .int .i64 q1, .int .i8 q2, .int .i64 q3], .int .i64 0]) ∧ Dn W w')) (M0 : Hid ((FloatKind.f64.format.order f f == some .eq) = true)) (M1 : Hid ((FloatKind.f64.format.order f 4845873199050653696 == some .gt) = false)) (M2 : Hid ((FloatKind.f64.format.order f 14069245235905429504 == some .lt) = true)) (HFL : Hid (∀ W, Calls Tryz.prog 11 #[.float .f64 f] W fun ro w' => ro = .returned (.tuple #[.int .i64 a, .int .i64 g]) ∧ Dn W w')) (HCE : Hid (∀ W, Calls Tryz.prog 12 #[.float .f64 f] W fun ro w' => ro = .returned (.tuple #[.int .i64 b, .int .i64 h]) ∧ Dn W w')) (hE : EnvP w) :
  Calls Tryz.prog 3 #[.agg #[.int .u8 k, .int .u8 n, .int .i16 lo], .int .i64 sh, .float .f64 f] w fun ro w' => ro = .returned (.bool true) ∧ Dn w w' := by
 have m0 := M0.out
 have m1 := M1.out
 have m2 := M2.out
 go_enter Tryz.func3, Tryz.ntmps3
 go_wp2_with fail
 obtain ⟨w0, h0⟩ : ∃ w0, w0 = w.alloc (.cells #[.int .u8 k, .int .u8 n, .int .i16 lo] 24) := ⟨_, rfl⟩
 have u0 : Dn w w0 := by rw [h0]; exact (Dn.refl _).alloc _
 rw [← h0]
 clear h0
 refine (HOF.out _).mono ?_
 rintro e w1 ⟨rfl, qw1⟩
 have uw1 := u0.trans qw1
 clear qw1 u0
 go_wp2_with fail
 refine (HSH.out _).mono ?_
 rintro e w2 ⟨rfl, qw2⟩
 have uw2 := uw1.trans qw2
 clear qw2 uw1
 go_wp2_with fail
 obtain ⟨W1, hW1, uW1, c2, c3, c4, c5, l6⟩ := preAx79x1 w2 q0 q1 q2 q3
 rw [← hW1]
 clear hW1
 have vW1 := uw2.trans uW1
 clear uW1 uw2
 go_wp2_with fail
 go_quiet (fail)
 go_wp2_with fail
 refine (HFL.out _).mono ?_
 rintro e w5 ⟨rfl, q5⟩
 have qq := ((Dn.refl W1).drewN _).trans q5
 clear q5
 have l7 := nlt l6 qq.size
 obtain ⟨c8, c9, c10, c11⟩ := mv4 qq.cell c2 c3 c4 c5
 clear l6 c2 c3 c4 c5
 have u5 := vW1.trans qq
 clear qq vW1
 clear c8 c9 c10 c11 l7
 go_wp2_with fail
 refine (HCE.out _).mono ?_
 rintro e w3 ⟨rfl, qw3⟩
 have uw3 := u5.trans qw3
 clear qw3 u5
 go_wp2_with fail
 refine (live11 _ (hE.dn uw3)).mono ?_
 rintro e w4 ⟨rfl, qw4⟩
 have uw4 := uw3.trans qw4
 clear qw4 uw3
 go_wp2_with fail
 go_ret
 exact ⟨rfl, uw4⟩
theorem axis_m10ttttt (k n lo sh a0 b0 c0 d0 q0 q1 q2 q3 : Int) (f : Nat) (w : World) (a b c1 c2 : Int) (x0 : (q0 == 0) = true) (x2 : (q2 == 0) = false) (wbf : (a == b) = true) (hcmp : decide (eC 0 a 0 b ≤ 0) = true) (ca : decide (0 ≤ c1) = true) (HOF : Hid (∀ W, Calls Tryz.prog 7 #[.agg #[.int .u8 k, .int .u8 n, .int .i16 lo]] W fun ro w' => ro = .returned (.agg #[.int .i8 a0, .int .i64 b0, .int .i8 c0, .int .i64 d0]) ∧ Dn W w')) (HSH : Hid (∀ W, Calls Tryz.prog 6 #[.agg #[.int .i8 a0, .int .i64 b0, .int .i8 c0, .int .i64 d0], .int .i64 sh] W fun ro w' => ro = .returned (.tuple #[.agg #[.int .i8 q0, .int .i64 q1, .int .i8 q2, .int .i64 q3], .int .i64 0]) ∧ Dn W w')) (HFL : Hid (∀ W, Calls Tryz.prog 11 #[.float .f64 f] W fun ro w' => ro = .returned (.tuple #[.int .i64 a, .int .i64 0]) ∧ Dn W w')) (HCE : Hid (∀ W, Calls Tryz.prog 12 #[.float .f64 f] W fun ro w' => ro = .returned (.tuple #[.int .i64 b, .int .i64 0]) ∧ Dn W w')) (HC1 : Hid (∀ W, Calls Tryz.prog 13 #[.float .f64 f, .int .i64 q1] W fun ro w' => ro = .returned (.tuple #[.int .i64 c1, .int .i64 0]) ∧ W = w')) (HH1 : Hid (∀ W, Calls Tryz.prog 14 #[.agg #[.int .i8 q0, .int .i64 q1, .int .i8 q2, .int .i64 q3], .int .i64 a] W fun ro w' => ro = .returned (.bool true) ∧ Dn W w')) (HH2 : Hid (∀ W, Calls Tryz.prog 14 #[.agg #[.int .i8 q0, .int .i64 q1, .int .i8 q2, .int .i64 q3], .int .i64 b] W fun ro w' => ro = .returned (.bool true) ∧ Dn W w')) (hE : EnvP w) :
  Calls Tryz.prog 3 #[.agg #[.int .u8 k, .int .u8 n, .int .i16 lo], .int .i64 sh, .float .f64 f] w fun ro w' => ro = .returned (.bool true) ∧ Dn w w' := by
 go_enter Tryz.func3, Tryz.ntmps3
 go_wp2_with fail
 obtain ⟨w0, h0⟩ : ∃ w0, w0 = w.alloc (.cells #[.int .u8 k, .int .u8 n, .int .i16 lo] 24) := ⟨_, rfl⟩
 have u0 : Dn w w0 := by rw [h0]; exact (Dn.refl _).alloc _
 rw [← h0]
 clear h0
 refine (HOF.out _).mono ?_
 rintro e w1 ⟨rfl, qw1⟩
 have uw1 := u0.trans qw1
 clear qw1 u0
 go_wp2_with fail
 refine (HSH.out _).mono ?_
 rintro e w2 ⟨rfl, qw2⟩
 have uw2 := uw1.trans qw2
 clear qw2 uw1
 go_wp2_with fail
 obtain ⟨W1, hW1, uW1, c2, c3, c4, c5, l6⟩ := preAx79x1 w2 q0 q1 q2 q3
 rw [← hW1]
 clear hW1
 have vW1 := uw2.trans uW1
 clear uW1 uw2
 go_wp2_with fail
 go_quiet (fail)
 go_wp2_with fail
 refine (HFL.out _).mono ?_
 rintro e w5 ⟨rfl, q5⟩
 have qq := ((Dn.refl W1).drewN _).trans q5
 clear q5
 have l7 := nlt l6 qq.size
 obtain ⟨c8, c9, a1, a2⟩ := mv4 qq.cell c2 c3 c4 c5
 clear l6 c2 c3 c4 c5
 have u5 := vW1.trans qq
 clear qq vW1
 go_wp2_with fail
 refine (HCE.out _).mono ?_
 rintro e w3 ⟨rfl, qw3⟩
 have a3 := nlt l7 qw3.size
 obtain ⟨a4, a5, a6, a7⟩ := mv4 qw3.cell c8 c9 a1 a2
 clear l7 c8 c9 a1 a2
 have uw3 := u5.trans qw3
 clear qw3 u5
 go_wp2_with fail
 refine (HC1.out _).mono ?_
 rintro e wq ⟨rfl, rfl⟩
 go_wp2_with fail
 refine (HH1.out _).mono ?_
 rintro e w4 ⟨rfl, qw4⟩
 have a8 := nlt a3 qw4.size
 obtain ⟨a9, aA, aB, aC⟩ := mv4 qw4.cell a4 a5 a6 a7
 clear a3 a4 a5 a6 a7
 have uw4 := uw3.trans qw4
 clear qw4 uw3
 go_wp2_with fail
 refine (HH1.out _).mono ?_
 rintro e w5 ⟨rfl, qw5⟩
 have aD := nlt a8 qw5.size
 obtain ⟨aE, aF, aG, aH⟩ := mv4 qw5.cell a9 aA aB aC
 clear a8 a9 aA aB aC
 have uw5 := uw4.trans qw5
 clear qw5 uw4
 go_wp2_with fail
 refine (HH2.out _).mono ?_
 rintro e w6 ⟨rfl, qw6⟩
 have aI := nlt aD qw6.size
 obtain ⟨aJ, aK, aL, aM⟩ := mv4 qw6.cell aE aF aG aH
 clear aD aE aF aG aH
 have uw6 := uw5.trans qw6
 clear qw6 uw5
 clear aJ aK aL aM aI
 go_wp2_with fail
 refine (eOf a _).mono ?_
 rintro e w6 ⟨rfl, q6⟩
 have u6 := uw6.up q6
 clear q6 uw6
 go_wp2_with fail
 refine (eOf b _).mono ?_
 rintro e w7 ⟨rfl, q7⟩
 have u7 := u6.up q7
 clear q7 u6
 go_wp2_with fail
 refine (eCmp 0 a 0 b _).mono ?_
 rintro e w8 ⟨rfl, q8⟩
 have u8 := u7.up q8
 clear q8 u7
 go_wp2_with fail
 refine (live11 _ (hE.dn u8)).mono ?_
 rintro e w7 ⟨rfl, qw7⟩
 have uw7 := u8.trans qw7
 clear qw7 u8
 go_wp2_with fail
 go_ret
 exact ⟨rfl, uw7⟩
theorem axis_m10ttttf (k n lo sh a0 b0 c0 d0 q0 q1 q2 q3 : Int) (f : Nat) (w : World) (a b c1 c2 : Int) (x0 : (q0 == 0) = true) (x2 : (q2 == 0) = false) (wbf : (a == b) = true) (hcmp : decide (eC 0 a 0 b ≤ 0) = true) (ca : decide (0 ≤ c1) = true) (HOF : Hid (∀ W, Calls Tryz.prog 7 #[.agg #[.int .u8 k, .int .u8 n, .int .i16 lo]] W fun ro w' => ro = .returned (.agg #[.int .i8 a0, .int .i64 b0, .int .i8 c0, .int .i64 d0]) ∧ Dn W w')) (HSH : Hid (∀ W, Calls Tryz.prog 6 #[.agg #[.int .i8 a0, .int .i64 b0, .int .i8 c0, .int .i64 d0], .int .i64 sh] W fun ro w' => ro = .returned (.tuple #[.agg #[.int .i8 q0, .int .i64 q1, .int .i8 q2, .int .i64 q3], .int .i64 0]) ∧ Dn W w')) (HFL : Hid (∀ W, Calls Tryz.prog 11 #[.float .f64 f] W fun ro w' => ro = .returned (.tuple #[.int .i64 a, .int .i64 0]) ∧ Dn W w')) (HCE : Hid (∀ W, Calls Tryz.prog 12 #[.float .f64 f] W fun ro w' => ro = .returned (.tuple #[.int .i64 b, .int .i64 0]) ∧ Dn W w')) (HC1 : Hid (∀ W, Calls Tryz.prog 13 #[.float .f64 f, .int .i64 q1] W fun ro w' => ro = .returned (.tuple #[.int .i64 c1, .int .i64 0]) ∧ W = w')) (HH1 : Hid (∀ W, Calls Tryz.prog 14 #[.agg #[.int .i8 q0, .int .i64 q1, .int .i8 q2, .int .i64 q3], .int .i64 a] W fun ro w' => ro = .returned (.bool true) ∧ Dn W w')) (HH2 : Hid (∀ W, Calls Tryz.prog 14 #[.agg #[.int .i8 q0, .int .i64 q1, .int .i8 q2, .int .i64 q3], .int .i64 b] W fun ro w' => ro = .returned (.bool false) ∧ Dn W w')) (hE : EnvP w) :
  Calls Tryz.prog 3 #[.agg #[.int .u8 k, .int .u8 n, .int .i16 lo], .int .i64 sh, .float .f64 f] w fun ro w' => ro = .returned (.bool true) ∧ Dn w w' := by
 go_enter Tryz.func3, Tryz.ntmps3
 go_wp2_with fail
 obtain ⟨w0, h0⟩ : ∃ w0, w0 = w.alloc (.cells #[.int .u8 k, .int .u8 n, .int .i16 lo] 24) := ⟨_, rfl⟩
 have u0 : Dn w w0 := by rw [h0]; exact (Dn.refl _).alloc _
 rw [← h0]
 clear h0
 refine (HOF.out _).mono ?_
 rintro e w1 ⟨rfl, qw1⟩
 have uw1 := u0.trans qw1
 clear qw1 u0
 go_wp2_with fail
 refine (HSH.out _).mono ?_
 rintro e w2 ⟨rfl, qw2⟩
 have uw2 := uw1.trans qw2
 clear qw2 uw1
 go_wp2_with fail
 obtain ⟨W1, hW1, uW1, c2, c3, c4, c5, l6⟩ := preAx79x1 w2 q0 q1 q2 q3
 rw [← hW1]
 clear hW1
 have vW1 := uw2.trans uW1
 clear uW1 uw2
 go_wp2_with fail
 go_quiet (fail)
 go_wp2_with fail
 refine (HFL.out _).mono ?_
 rintro e w5 ⟨rfl, q5⟩
 have qq := ((Dn.refl W1).drewN _).trans q5
 clear q5
 have l7 := nlt l6 qq.size
 obtain ⟨c8, c9, a1, a2⟩ := mv4 qq.cell c2 c3 c4 c5
 clear l6 c2 c3 c4 c5
 have u5 := vW1.trans qq
 clear qq vW1
 go_wp2_with fail
 refine (HCE.out _).mono ?_
 rintro e w3 ⟨rfl, qw3⟩
 have a3 := nlt l7 qw3.size
 obtain ⟨a4, a5, a6, a7⟩ := mv4 qw3.cell c8 c9 a1 a2
 clear l7 c8 c9 a1 a2
 have uw3 := u5.trans qw3
 clear qw3 u5
 go_wp2_with fail
 refine (HC1.out _).mono ?_
 rintro e wq ⟨rfl, rfl⟩
 go_wp2_with fail
 refine (HH1.out _).mono ?_
 rintro e w4 ⟨rfl, qw4⟩
 have a8 := nlt a3 qw4.size
 obtain ⟨a9, aA, aB, aC⟩ := mv4 qw4.cell a4 a5 a6 a7
 clear a3 a4 a5 a6 a7
 have uw4 := uw3.trans qw4
 clear qw4 uw3
 go_wp2_with fail
 refine (HH1.out _).mono ?_
 rintro e w5 ⟨rfl, qw5⟩
 have aD := nlt a8 qw5.size
 obtain ⟨aE, aF, aG, aH⟩ := mv4 qw5.cell a9 aA aB aC
 clear a8 a9 aA aB aC
 have uw5 := uw4.trans qw5
 clear qw5 uw4
 go_wp2_with fail
 refine (HH2.out _).mono ?_
 rintro e w6 ⟨rfl, qw6⟩
 have aI := nlt aD qw6.size
 obtain ⟨aJ, aK, aL, aM⟩ := mv4 qw6.cell aE aF aG aH
 clear aD aE aF aG aH
 have uw6 := uw5.trans qw6
 clear qw6 uw5
 clear aJ aK aL aM aI
 go_wp2_with fail
 refine (eOf a _).mono ?_
 rintro e w6 ⟨rfl, q6⟩
 have u6 := uw6.up q6
 clear q6 uw6
 go_wp2_with fail
 refine (eOf b _).mono ?_
 rintro e w7 ⟨rfl, q7⟩
 have u7 := u6.up q7
 clear q7 u6
 go_wp2_with fail
 refine (eCmp 0 a 0 b _).mono ?_
 rintro e w8 ⟨rfl, q8⟩
 have u8 := u7.up q8
 clear q8 u7
 go_wp2_with fail
 refine (live11 _ (hE.dn u8)).mono ?_
 rintro e w7 ⟨rfl, qw7⟩
 have uw7 := u8.trans qw7
 clear qw7 u8
 go_wp2_with fail
 go_ret
 exact ⟨rfl, uw7⟩
theorem axis_m10tftfx (k n lo sh a0 b0 c0 d0 q0 q1 q2 q3 : Int) (f : Nat) (w : World) (a b c1 c2 : Int) (x0 : (q0 == 0) = true) (x2 : (q2 == 0) = false) (wbf : (a == b) = true) (hcmp : decide (eC 0 a 0 b ≤ 0) = true) (ca : decide (0 ≤ c1) = false) (HOF : Hid (∀ W, Calls Tryz.prog 7 #[.agg #[.int .u8 k, .int .u8 n, .int .i16 lo]] W fun ro w' => ro = .returned (.agg #[.int .i8 a0, .int .i64 b0, .int .i8 c0, .int .i64 d0]) ∧ Dn W w')) (HSH : Hid (∀ W, Calls Tryz.prog 6 #[.agg #[.int .i8 a0, .int .i64 b0, .int .i8 c0, .int .i64 d0], .int .i64 sh] W fun ro w' => ro = .returned (.tuple #[.agg #[.int .i8 q0, .int .i64 q1, .int .i8 q2, .int .i64 q3], .int .i64 0]) ∧ Dn W w')) (HFL : Hid (∀ W, Calls Tryz.prog 11 #[.float .f64 f] W fun ro w' => ro = .returned (.tuple #[.int .i64 a, .int .i64 0]) ∧ Dn W w')) (HCE : Hid (∀ W, Calls Tryz.prog 12 #[.float .f64 f] W fun ro w' => ro = .returned (.tuple #[.int .i64 b, .int .i64 0]) ∧ Dn W w')) (HC1 : Hid (∀ W, Calls Tryz.prog 13 #[.float .f64 f, .int .i64 q1] W fun ro w' => ro = .returned (.tuple #[.int .i64 c1, .int .i64 0]) ∧ W = w')) (HH1 : Hid (∀ W, Calls Tryz.prog 14 #[.agg #[.int .i8 q0, .int .i64 q1, .int .i8 q2, .int .i64 q3], .int .i64 a] W fun ro w' => ro = .returned (.bool false) ∧ Dn W w')) (hE : EnvP w) :
  Calls Tryz.prog 3 #[.agg #[.int .u8 k, .int .u8 n, .int .i16 lo], .int .i64 sh, .float .f64 f] w fun ro w' => ro = .returned (.bool true) ∧ Dn w w' := by
 go_enter Tryz.func3, Tryz.ntmps3
 go_wp2_with fail
 obtain ⟨w0, h0⟩ : ∃ w0, w0 = w.alloc (.cells #[.int .u8 k, .int .u8 n, .int .i16 lo] 24) := ⟨_, rfl⟩
 have u0 : Dn w w0 := by rw [h0]; exact (Dn.refl _).alloc _
 rw [← h0]
 clear h0
 refine (HOF.out _).mono ?_
 rintro e w1 ⟨rfl, qw1⟩
 have uw1 := u0.trans qw1
 clear qw1 u0
 go_wp2_with fail
 refine (HSH.out _).mono ?_
 rintro e w2 ⟨rfl, qw2⟩
 have uw2 := uw1.trans qw2
 clear qw2 uw1
 go_wp2_with fail
 obtain ⟨W1, hW1, uW1, c2, c3, c4, c5, l6⟩ := preAx79x1 w2 q0 q1 q2 q3
 rw [← hW1]
 clear hW1
 have vW1 := uw2.trans uW1
 clear uW1 uw2
 go_wp2_with fail
 go_quiet (fail)
 go_wp2_with fail
 refine (HFL.out _).mono ?_
 rintro e w5 ⟨rfl, q5⟩
 have qq := ((Dn.refl W1).drewN _).trans q5
 clear q5
 have l7 := nlt l6 qq.size
 obtain ⟨c8, c9, a1, a2⟩ := mv4 qq.cell c2 c3 c4 c5
 clear l6 c2 c3 c4 c5
 have u5 := vW1.trans qq
 clear qq vW1
 go_wp2_with fail
 refine (HCE.out _).mono ?_
 rintro e w3 ⟨rfl, qw3⟩
 have a3 := nlt l7 qw3.size
 obtain ⟨a4, a5, a6, a7⟩ := mv4 qw3.cell c8 c9 a1 a2
 clear l7 c8 c9 a1 a2
 have uw3 := u5.trans qw3
 clear qw3 u5
 go_wp2_with fail
 refine (HC1.out _).mono ?_
 rintro e wq ⟨rfl, rfl⟩
 go_wp2_with fail
 refine (HH1.out _).mono ?_
 rintro e w4 ⟨rfl, qw4⟩
 have a8 := nlt a3 qw4.size
 obtain ⟨a9, aA, aB, aC⟩ := mv4 qw4.cell a4 a5 a6 a7
 clear a3 a4 a5 a6 a7
 have uw4 := uw3.trans qw4
 clear qw4 uw3
 go_wp2_with fail
 refine (HH1.out _).mono ?_
 rintro e w5 ⟨rfl, qw5⟩
 have aD := nlt a8 qw5.size
 obtain ⟨aE, aF, aG, aH⟩ := mv4 qw5.cell a9 aA aB aC
 clear a8 a9 aA aB aC
 have uw5 := uw4.trans qw5
 clear qw5 uw4
 clear aE aF aG aH aD
 go_wp2_with fail
 refine (eOf a _).mono ?_
 rintro e w6 ⟨rfl, q6⟩
 have u6 := uw5.up q6
 clear q6 uw5
 go_wp2_with fail
 refine (eOf b _).mono ?_
 rintro e w7 ⟨rfl, q7⟩
 have u7 := u6.up q7
 clear q7 u6
 go_wp2_with fail
 refine (eCmp 0 a 0 b _).mono ?_
 rintro e w8 ⟨rfl, q8⟩
 have u8 := u7.up q8
 clear q8 u7
 go_wp2_with fail
 refine (live11 _ (hE.dn u8)).mono ?_
 rintro e w6 ⟨rfl, qw6⟩
 have uw6 := u8.trans qw6
 clear qw6 u8
 go_wp2_with fail
 go_ret
 exact ⟨rfl, uw6⟩
theorem axis_m10fxxfx (k n lo sh a0 b0 c0 d0 q0 q1 q2 q3 : Int) (f : Nat) (w : World) (a b c1 c2 : Int) (x0 : (q0 == 0) = true) (x2 : (q2 == 0) = false) (wbf : (a == b) = false) (hcmp : decide (eC 0 a 0 b ≤ 0) = true) (HOF : Hid (∀ W, Calls Tryz.prog 7 #[.agg #[.int .u8 k, .int .u8 n, .int .i16 lo]] W fun ro w' => ro = .returned (.agg #[.int .i8 a0, .int .i64 b0, .int .i8 c0, .int .i64 d0]) ∧ Dn W w')) (HSH : Hid (∀ W, Calls Tryz.prog 6 #[.agg #[.int .i8 a0, .int .i64 b0, .int .i8 c0, .int .i64 d0], .int .i64 sh] W fun ro w' => ro = .returned (.tuple #[.agg #[.int .i8 q0, .int .i64 q1, .int .i8 q2, .int .i64 q3], .int .i64 0]) ∧ Dn W w')) (HFL : Hid (∀ W, Calls Tryz.prog 11 #[.float .f64 f] W fun ro w' => ro = .returned (.tuple #[.int .i64 a, .int .i64 0]) ∧ Dn W w')) (HCE : Hid (∀ W, Calls Tryz.prog 12 #[.float .f64 f] W fun ro w' => ro = .returned (.tuple #[.int .i64 b, .int .i64 0]) ∧ Dn W w')) (HC1 : Hid (∀ W, Calls Tryz.prog 13 #[.float .f64 f, .int .i64 q1] W fun ro w' => ro = .returned (.tuple #[.int .i64 c1, .int .i64 0]) ∧ W = w')) (HH1 : Hid (∀ W, Calls Tryz.prog 14 #[.agg #[.int .i8 q0, .int .i64 q1, .int .i8 q2, .int .i64 q3], .int .i64 a] W fun ro w' => ro = .returned (.bool false) ∧ Dn W w')) (hE : EnvP w) :
  Calls Tryz.prog 3 #[.agg #[.int .u8 k, .int .u8 n, .int .i16 lo], .int .i64 sh, .float .f64 f] w fun ro w' => ro = .returned (.bool true) ∧ Dn w w' := by
 go_enter Tryz.func3, Tryz.ntmps3
 go_wp2_with fail
 obtain ⟨w0, h0⟩ : ∃ w0, w0 = w.alloc (.cells #[.int .u8 k, .int .u8 n, .int .i16 lo] 24) := ⟨_, rfl⟩
 have u0 : Dn w w0 := by rw [h0]; exact (Dn.refl _).alloc _
 rw [← h0]
 clear h0
 refine (HOF.out _).mono ?_
 rintro e w1 ⟨rfl, qw1⟩
 have uw1 := u0.trans qw1
 clear qw1 u0
 go_wp2_with fail
 refine (HSH.out _).mono ?_
 rintro e w2 ⟨rfl, qw2⟩
 have uw2 := uw1.trans qw2
 clear qw2 uw1
 go_wp2_with fail
 obtain ⟨W1, hW1, uW1, c2, c3, c4, c5, l6⟩ := preAx79x1 w2 q0 q1 q2 q3
 rw [← hW1]
 clear hW1
 have vW1 := uw2.trans uW1
 clear uW1 uw2
 go_wp2_with fail
 go_quiet (fail)
 go_wp2_with fail
 refine (HFL.out _).mono ?_
 rintro e w5 ⟨rfl, q5⟩
 have qq := ((Dn.refl W1).drewN _).trans q5
 clear q5
 have l7 := nlt l6 qq.size
 obtain ⟨c8, c9, a1, a2⟩ := mv4 qq.cell c2 c3 c4 c5
 clear l6 c2 c3 c4 c5
 have u5 := vW1.trans qq
 clear qq vW1
 go_wp2_with fail
 refine (HCE.out _).mono ?_
 rintro e w3 ⟨rfl, qw3⟩
 have a3 := nlt l7 qw3.size
 obtain ⟨a4, a5, a6, a7⟩ := mv4 qw3.cell c8 c9 a1 a2
 clear l7 c8 c9 a1 a2
 have uw3 := u5.trans qw3
 clear qw3 u5
 go_wp2_with fail
 refine (HC1.out _).mono ?_
 rintro e wq ⟨rfl, rfl⟩
 go_wp2_with fail
 refine (HH1.out _).mono ?_
 rintro e w4 ⟨rfl, qw4⟩
 have a8 := nlt a3 qw4.size
 obtain ⟨a9, aA, aB, aC⟩ := mv4 qw4.cell a4 a5 a6 a7
 clear a3 a4 a5 a6 a7
 have uw4 := uw3.trans qw4
 clear qw4 uw3
 clear a9 aA aB aC a8
 go_wp2_with fail
 refine (eOf a _).mono ?_
 rintro e w6 ⟨rfl, q6⟩
 have u6 := uw4.up q6
 clear q6 uw4
 go_wp2_with fail
 refine (eOf b _).mono ?_
 rintro e w7 ⟨rfl, q7⟩
 have u7 := u6.up q7
 clear q7 u6
 go_wp2_with fail
 refine (eCmp 0 a 0 b _).mono ?_
 rintro e w8 ⟨rfl, q8⟩
 have u8 := u7.up q8
 clear q8 u7
 go_wp2_with fail
 refine (live11 _ (hE.dn u8)).mono ?_
 rintro e w5 ⟨rfl, qw5⟩
 have uw5 := u8.trans qw5
 clear qw5 u8
 go_wp2_with fail
 go_ret
 exact ⟨rfl, uw5⟩
theorem axis_m10fxxtf (k n lo sh a0 b0 c0 d0 q0 q1 q2 q3 : Int) (f : Nat) (w : World) (a b c1 c2 : Int) (x0 : (q0 == 0) = true) (x2 : (q2 == 0) = false) (wbf : (a == b) = false) (hcmp : decide (eC 0 a 0 b ≤ 0) = true) (HOF : Hid (∀ W, Calls Tryz.prog 7 #[.agg #[.int .u8 k, .int .u8 n, .int .i16 lo]] W fun ro w' => ro = .returned (.agg #[.int .i8 a0, .int .i64 b0, .int .i8 c0, .int .i64 d0]) ∧ Dn W w')) (HSH : Hid (∀ W, Calls Tryz.prog 6 #[.agg #[.int .i8 a0, .int .i64 b0, .int .i8 c0, .int .i64 d0], .int .i64 sh] W fun ro w' => ro = .returned (.tuple #[.agg #[.int .i8 q0, .int .i64 q1, .int .i8 q2, .int .i64 q3], .int .i64 0]) ∧ Dn W w')) (HFL : Hid (∀ W, Calls Tryz.prog 11 #[.float .f64 f] W fun ro w' => ro = .returned (.tuple #[.int .i64 a, .int .i64 0]) ∧ Dn W w')) (HCE : Hid (∀ W, Calls Tryz.prog 12 #[.float .f64 f] W fun ro w' => ro = .returned (.tuple #[.int .i64 b, .int .i64 0]) ∧ Dn W w')) (HC1 : Hid (∀ W, Calls Tryz.prog 13 #[.float .f64 f, .int .i64 q1] W fun ro w' => ro = .returned (.tuple #[.int .i64 c1, .int .i64 0]) ∧ W = w')) (HH1 : Hid (∀ W, Calls Tryz.prog 14 #[.agg #[.int .i8 q0, .int .i64 q1, .int .i8 q2, .int .i64 q3], .int .i64 a] W fun ro w' => ro = .returned (.bool true) ∧ Dn W w')) (HH2 : Hid (∀ W, Calls Tryz.prog 14 #[.agg #[.int .i8 q0, .int .i64 q1, .int .i8 q2, .int .i64 q3], .int .i64 b] W fun ro w' => ro = .returned (.bool false) ∧ Dn W w')) (hE : EnvP w) :
  Calls Tryz.prog 3 #[.agg #[.int .u8 k, .int .u8 n, .int .i16 lo], .int .i64 sh, .float .f64 f] w fun ro w' => ro = .returned (.bool true) ∧ Dn w w' := by
 go_enter Tryz.func3, Tryz.ntmps3
 go_wp2_with fail
 obtain ⟨w0, h0⟩ : ∃ w0, w0 = w.alloc (.cells #[.int .u8 k, .int .u8 n, .int .i16 lo] 24) := ⟨_, rfl⟩
 have u0 : Dn w w0 := by rw [h0]; exact (Dn.refl _).alloc _
 rw [← h0]
 clear h0
 refine (HOF.out _).mono ?_
 rintro e w1 ⟨rfl, qw1⟩
 have uw1 := u0.trans qw1
 clear qw1 u0
 go_wp2_with fail
 refine (HSH.out _).mono ?_
 rintro e w2 ⟨rfl, qw2⟩
 have uw2 := uw1.trans qw2
 clear qw2 uw1
 go_wp2_with fail
 obtain ⟨W1, hW1, uW1, c2, c3, c4, c5, l6⟩ := preAx79x1 w2 q0 q1 q2 q3
 rw [← hW1]
 clear hW1
 have vW1 := uw2.trans uW1
 clear uW1 uw2
 go_wp2_with fail
 go_quiet (fail)
 go_wp2_with fail
 refine (HFL.out _).mono ?_
 rintro e w5 ⟨rfl, q5⟩
 have qq := ((Dn.refl W1).drewN _).trans q5
 clear q5
 have l7 := nlt l6 qq.size
 obtain ⟨c8, c9, a1, a2⟩ := mv4 qq.cell c2 c3 c4 c5
 clear l6 c2 c3 c4 c5
 have u5 := vW1.trans qq
 clear qq vW1
 go_wp2_with fail
 refine (HCE.out _).mono ?_
 rintro e w3 ⟨rfl, qw3⟩
 have a3 := nlt l7 qw3.size
 obtain ⟨a4, a5, a6, a7⟩ := mv4 qw3.cell c8 c9 a1 a2
 clear l7 c8 c9 a1 a2
 have uw3 := u5.trans qw3
 clear qw3 u5
 go_wp2_with fail
 refine (HC1.out _).mono ?_
 rintro e wq ⟨rfl, rfl⟩
 go_wp2_with fail
 refine (HH1.out _).mono ?_
 rintro e w4 ⟨rfl, qw4⟩
 have a8 := nlt a3 qw4.size
 obtain ⟨a9, aA, aB, aC⟩ := mv4 qw4.cell a4 a5 a6 a7
 clear a3 a4 a5 a6 a7
 have uw4 := uw3.trans qw4
 clear qw4 uw3
 go_wp2_with fail
 refine (HH2.out _).mono ?_
 rintro e w5 ⟨rfl, qw5⟩
 have aD := nlt a8 qw5.size
 obtain ⟨aE, aF, aG, aH⟩ := mv4 qw5.cell a9 aA aB aC
 clear a8 a9 aA aB aC
 have uw5 := uw4.trans qw5
 clear qw5 uw4
 clear aE aF aG aH aD
 go_wp2_with fail
 refine (eOf a _).mono ?_
 rintro e w6 ⟨rfl, q6⟩
 have u6 := uw5.up q6
 clear q6 uw5
 go_wp2_with fail
 refine (eOf b _).mono ?_
 rintro e w7 ⟨rfl, q7⟩
 have u7 := u6.up q7
 clear q7 u6
 go_wp2_with fail
 refine (eCmp 0 a 0 b _).mono ?_
 rintro e w8 ⟨rfl, q8⟩
 have u8 := u7.up q8
 clear q8 u7
 go_wp2_with fail
 refine (live11 _ (hE.dn u8)).mono ?_
 rintro e w6 ⟨rfl, qw6⟩
 have uw6 := u8.trans qw6
 clear qw6 u8
 go_wp2_with fail
 go_ret
 exact ⟨rfl, uw6⟩
theorem axis_m10ftttt (k n lo sh a0 b0 c0 d0 q0 q1 q2 q3 : Int) (f : Nat) (w : World) (a b c1 c2 : Int) (x0 : (q0 == 0) = true) (x2 : (q2 == 0) = false) (wbf : (a == b) = false) (hcmp : decide (eC 0 a 0 b ≤ 0) = true) (ca : decide (0 ≤ c1) = true) (HOF : Hid (∀ W, Calls Tryz.prog 7 #[.agg #[.int .u8 k, .int .u8 n, .int .i16 lo]] W fun ro w' => ro = .returned (.agg #[.int .i8 a0, .int .i64 b0, .int .i8 c0, .int .i64 d0]) ∧ Dn W w')) (HSH : Hid (∀ W, Calls Tryz.prog 6 #[.agg #[.int .i8 a0, .int .i64 b0, .int .i8 c0, .int .i64 d0], .int .i64 sh] W fun ro w' => ro = .returned (.tuple #[.agg #[.int .i8 q0, .int .i64 q1, .int .i8 q2, .int .i64 q3], .int .i64 0]) ∧ Dn W w')) (HFL : Hid (∀ W, Calls Tryz.prog 11 #[.float .f64 f] W fun ro w' => ro = .returned (.tuple #[.int .i64 a, .int .i64 0]) ∧ Dn W w')) (HCE : Hid (∀ W, Calls Tryz.prog 12 #[.float .f64 f] W fun ro w' => ro = .returned (.tuple #[.int .i64 b, .int .i64 0]) ∧ Dn W w')) (HC1 : Hid (∀ W, Calls Tryz.prog 13 #[.float .f64 f, .int .i64 q1] W fun ro w' => ro = .returned (.tuple #[.int .i64 c1, .int .i64 0]) ∧ W = w')) (HH1 : Hid (∀ W, Calls Tryz.prog 14 #[.agg #[.int .i8 q0, .int .i64 q1, .int .i8 q2, .int .i64 q3], .int .i64 a] W fun ro w' => ro = .returned (.bool true) ∧ Dn W w')) (HH2 : Hid (∀ W, Calls Tryz.prog 14 #[.agg #[.int .i8 q0, .int .i64 q1, .int .i8 q2, .int .i64 q3], .int .i64 b] W fun ro w' => ro = .returned (.bool true) ∧ Dn W w')) (hE : EnvP w) :
  Calls Tryz.prog 3 #[.agg #[.int .u8 k, .int .u8 n, .int .i16 lo], .int .i64 sh, .float .f64 f] w fun ro w' => ro = .returned (.bool true) ∧ Dn w w' := by
 go_enter Tryz.func3, Tryz.ntmps3
 go_wp2_with fail
 obtain ⟨w0, h0⟩ : ∃ w0, w0 = w.alloc (.cells #[.int .u8 k, .int .u8 n, .int .i16 lo] 24) := ⟨_, rfl⟩
 have u0 : Dn w w0 := by rw [h0]; exact (Dn.refl _).alloc _
 rw [← h0]
 clear h0
 refine (HOF.out _).mono ?_
 rintro e w1 ⟨rfl, qw1⟩
 have uw1 := u0.trans qw1
 clear qw1 u0
 go_wp2_with fail
 refine (HSH.out _).mono ?_
 rintro e w2 ⟨rfl, qw2⟩
 have uw2 := uw1.trans qw2
 clear qw2 uw1
 go_wp2_with fail
 obtain ⟨W1, hW1, uW1, c2, c3, c4, c5, l6⟩ := preAx79x1 w2 q0 q1 q2 q3
 rw [← hW1]
 clear hW1
 have vW1 := uw2.trans uW1
 clear uW1 uw2
 go_wp2_with fail
 go_quiet (fail)
 go_wp2_with fail
 refine (HFL.out _).mono ?_
 rintro e w5 ⟨rfl, q5⟩
 have qq := ((Dn.refl W1).drewN _).trans q5
 clear q5
 have l7 := nlt l6 qq.size
 obtain ⟨c8, c9, a1, a2⟩ := mv4 qq.cell c2 c3 c4 c5
 clear l6 c2 c3 c4 c5
 have u5 := vW1.trans qq
 clear qq vW1
 go_wp2_with fail
 refine (HCE.out _).mono ?_
 rintro e w3 ⟨rfl, qw3⟩
 have a3 := nlt l7 qw3.size
 obtain ⟨a4, a5, a6, a7⟩ := mv4 qw3.cell c8 c9 a1 a2
 clear l7 c8 c9 a1 a2
 have uw3 := u5.trans qw3
 clear qw3 u5
 go_wp2_with fail
 refine (HC1.out _).mono ?_
 rintro e wq ⟨rfl, rfl⟩
 go_wp2_with fail
 refine (HH1.out _).mono ?_
 rintro e w4 ⟨rfl, qw4⟩
 have a8 := nlt a3 qw4.size
 obtain ⟨a9, aA, aB, aC⟩ := mv4 qw4.cell a4 a5 a6 a7
 clear a3 a4 a5 a6 a7
 have uw4 := uw3.trans qw4
 clear qw4 uw3
 go_wp2_with fail
 refine (HH2.out _).mono ?_
 rintro e w5 ⟨rfl, qw5⟩
 have aD := nlt a8 qw5.size
 obtain ⟨aE, aF, aG, aH⟩ := mv4 qw5.cell a9 aA aB aC
 clear a8 a9 aA aB aC
 have uw5 := uw4.trans qw5
 clear qw5 uw4
 clear aE aF aG aH aD
 go_wp2_with fail
 refine (eOf a _).mono ?_
 rintro e w6 ⟨rfl, q6⟩
 have u6 := uw5.up q6
 clear q6 uw5
 go_wp2_with fail
 refine (eOf b _).mono ?_
 rintro e w7 ⟨rfl, q7⟩
 have u7 := u6.up q7
 clear q7 u6
 go_wp2_with fail
 refine (eCmp 0 a 0 b _).mono ?_
 rintro e w8 ⟨rfl, q8⟩
 have u8 := u7.up q8
 clear q8 u7
 go_wp2_with fail
 refine (live11 _ (hE.dn u8)).mono ?_
 rintro e w6 ⟨rfl, qw6⟩
 have uw6 := u8.trans qw6
 clear qw6 u8
 go_wp2_with fail
 go_ret
 exact ⟨rfl, uw6⟩
theorem axis_err01 (k n lo sh a0 b0 c0 d0 q0 q1 q2 q3 : Int) (f : Nat) (w : World) (g : Int) (hg : (g != 0) = true) (x0 : (q0 == 0) = false) (x2 : (q2 == 0) = true) (HOF : Hid (∀ W, Calls Tryz.prog 7 #[.agg #[.int .u8 k, .int .u8 n, .int .i16 lo]] W fun ro w' => ro = .returned (.agg #[.int .i8 a0, .int .i64 b0, .int .i8 c0, .int .i64 d0]) ∧ Dn W w')) (HSH : Hid (∀ W, Calls Tryz.prog 6 #[.agg #[.int .i8 a0, .int .i64 b0, .int .i8 c0, .int .i64 d0], .int .i64 sh] W fun ro w' => ro = .returned (.tuple #[.agg #[.int .i8 q0, .int .i64 q1, .int .i8 q2, .int .i64 q3], .int .i64 0]) ∧ Dn W w')) (HFL : Hid (∀ W, Calls Tryz.prog 11 #[.float .f64 f] W fun ro w' => ro = .returned (.tuple #[.int .i64 0, .int .i64 g]) ∧ Dn W w')) (HCE : Hid (∀ W, Calls Tryz.prog 12 #[.float .f64 f] W fun ro w' => ro = .returned (.tuple #[.int .i64 0, .int .i64 g]) ∧ Dn W w')) (hE : EnvP w) :
  Calls Tryz.prog 3 #[.agg #[.int .u8 k, .int .u8 n, .int .i16 lo], .int .i64 sh, .float .f64 f] w fun ro w' => ro = .returned (.bool true) ∧ Dn w w' := by
 go_enter Tryz.func3, Tryz.ntmps3
 go_wp2_with fail
 obtain ⟨w0, h0⟩ : ∃ w0, w0 = w.alloc (.cells #[.int .u8 k, .int .u8 n, .int .i16 lo] 24) := ⟨_, rfl⟩
 have u0 : Dn w w0 := by rw [h0]; exact (Dn.refl _).alloc _
 rw [← h0]
 clear h0
 refine (HOF.out _).mono ?_
 rintro e w1 ⟨rfl, qw1⟩
 have uw1 := u0.trans qw1
 clear qw1 u0
 go_wp2_with fail
 refine (HSH.out _).mono ?_
 rintro e w2 ⟨rfl, qw2⟩
 have uw2 := uw1.trans qw2
 clear qw2 uw1
 go_wp2_with fail
 obtain ⟨W1, hW1, uW1, c2, c3, c4, c5, l6⟩ := preAx79x1 w2 q0 q1 q2 q3
 rw [← hW1]
 clear hW1
 have vW1 := uw2.trans uW1
 clear uW1 uw2
 go_wp2_with fail
 go_quiet (fail)
 go_wp2_with fail
 refine (HFL.out _).mono ?_
 rintro e w5 ⟨rfl, q5⟩
 have qq := ((Dn.refl W1).drewN _).trans q5
 clear q5
 have l7 := nlt l6 qq.size
 obtain ⟨c8, c9, c10, c11⟩ := mv4 qq.cell c2 c3 c4 c5
 clear l6 c2 c3 c4 c5
 have u5 := vW1.trans qq
 clear qq vW1
 clear c8 c9 c10 c11 l7
 go_wp2_with fail
 refine (HCE.out _).mono ?_
 rintro e w3 ⟨rfl, qw3⟩
 have uw3 := u5.trans qw3
 clear qw3 u5
 go_wp2_with fail
 refine (live11 _ (hE.dn uw3)).mono ?_
 rintro e w4 ⟨rfl, qw4⟩
 have uw4 := uw3.trans qw4
 clear qw4 uw3
 go_wp2_with fail
 go_ret
 exact ⟨rfl, uw4⟩
theorem axis_mix101 (k n lo sh a0 b0 c0 d0 q0 q1 q2 q3 : Int) (f : Nat) (w : World) (g h a b : Int) (hg : (g != h) = true) (x0 : (q0 == 0) = false) (x2 : (q2 == 0) = true) (HOF : Hid (∀ W, Calls Tryz.prog 7 #[.agg #[.int .u8 k, .int .u8 n, .int .i16 lo]] W fun ro w' => ro = .returned (.agg #[.int .i8 a0, .int .i64 b0, .int .i8 c0, .int .i64 d0]) ∧ Dn W w')) (HSH : Hid (∀ W, Calls Tryz.prog 6 #[.agg #[.int .i8 a0, .int .i64 b0, .int .i8 c0, .int .i64 d0], .int .i64 sh] W fun ro w' => ro = .returned (.tuple #[.agg #[.int .i8 q0, .int .i64 q1, .int .i8 q2, .int .i64 q3], .int .i64 0]) ∧ Dn W w')) (M0 : Hid ((FloatKind.f64.format.order f f == some .eq) = true)) (M1 : Hid ((FloatKind.f64.format.order f 4845873199050653696 == some .gt) = true)) (HFL : Hid (∀ W, Calls Tryz.prog 11 #[.float .f64 f] W fun ro w' => ro = .returned (.tuple #[.int .i64 a, .int .i64 g]) ∧ Dn W w')) (HCE : Hid (∀ W, Calls Tryz.prog 12 #[.float .f64 f] W fun ro w' => ro = .returned (.tuple #[.int .i64 b, .int .i64 h]) ∧ Dn W w')) (hE : EnvP w) :
  Calls Tryz.prog 3 #[.agg #[.int .u8 k, .int .u8 n, .int .i16 lo], .int .i64 sh, .float .f64 f] w fun ro w' => ro = .returned (.bool true) ∧ Dn w w' := by
 have m0 := M0.out
 have m1 := M1.out
 go_enter Tryz.func3, Tryz.ntmps3
 go_wp2_with fail
 obtain ⟨w0, h0⟩ : ∃ w0, w0 = w.alloc (.cells #[.int .u8 k, .int .u8 n, .int .i16 lo] 24) := ⟨_, rfl⟩
 have u0 : Dn w w0 := by rw [h0]; exact (Dn.refl _).alloc _
 rw [← h0]
 clear h0
 refine (HOF.out _).mono ?_
 rintro e w1 ⟨rfl, qw1⟩
 have uw1 := u0.trans qw1
 clear qw1 u0
 go_wp2_with fail
 refine (HSH.out _).mono ?_
 rintro e w2 ⟨rfl, qw2⟩
 have uw2 := uw1.trans qw2
 clear qw2 uw1
 go_wp2_with fail
 obtain ⟨W1, hW1, uW1, c2, c3, c4, c5, l6⟩ := preAx79x1 w2 q0 q1 q2 q3
 rw [← hW1]
 clear hW1
 have vW1 := uw2.trans uW1
 clear uW1 uw2
 go_wp2_with fail
 go_quiet (fail)
 go_wp2_with fail
 refine (HFL.out _).mono ?_
 rintro e w5 ⟨rfl, q5⟩
 have qq := ((Dn.refl W1).drewN _).trans q5
 clear q5
 have l7 := nlt l6 qq.size
 obtain ⟨c8, c9, c10, c11⟩ := mv4 qq.cell c2 c3 c4 c5
 clear l6 c2 c3 c4 c5
 have u5 := vW1.trans qq
 clear qq vW1
 clear c8 c9 c10 c11 l7
 go_wp2_with fail
 refine (HCE.out _).mono ?_
 rintro e w3 ⟨rfl, qw3⟩
 have uw3 := u5.trans qw3
 clear qw3 u5
 go_wp2_with fail
 refine (live11 _ (hE.dn uw3)).mono ?_
 rintro e w4 ⟨rfl, qw4⟩
 have uw4 := uw3.trans qw4
 clear qw4 uw3
 go_wp2_with fail
 go_ret
 exact ⟨rfl, uw4⟩
theorem axis_mix201 (k n lo sh a0 b0 c0 d0 q0 q1 q2 q3 : Int) (f : Nat) (w : World) (g h a b : Int) (hg : (g != h) = true) (x0 : (q0 == 0) = false) (x2 : (q2 == 0) = true) (HOF : Hid (∀ W, Calls Tryz.prog 7 #[.agg #[.int .u8 k, .int .u8 n, .int .i16 lo]] W fun ro w' => ro = .returned (.agg #[.int .i8 a0, .int .i64 b0, .int .i8 c0, .int .i64 d0]) ∧ Dn W w')) (HSH : Hid (∀ W, Calls Tryz.prog 6 #[.agg #[.int .i8 a0, .int .i64 b0, .int .i8 c0, .int .i64 d0], .int .i64 sh] W fun ro w' => ro = .returned (.tuple #[.agg #[.int .i8 q0, .int .i64 q1, .int .i8 q2, .int .i64 q3], .int .i64 0]) ∧ Dn W w')) (M0 : Hid ((FloatKind.f64.format.order f f == some .eq) = true)) (M1 : Hid ((FloatKind.f64.format.order f 4845873199050653696 == some .gt) = false)) (M2 : Hid ((FloatKind.f64.format.order f 14069245235905429504 == some .lt) = true)) (HFL : Hid (∀ W, Calls Tryz.prog 11 #[.float .f64 f] W fun ro w' => ro = .returned (.tuple #[.int .i64 a, .int .i64 g]) ∧ Dn W w')) (HCE : Hid (∀ W, Calls Tryz.prog 12 #[.float .f64 f] W fun ro w' => ro = .returned (.tuple #[.int .i64 b, .int .i64 h]) ∧ Dn W w')) (hE : EnvP w) :
  Calls Tryz.prog 3 #[.agg #[.int .u8 k, .int .u8 n, .int .i16 lo], .int .i64 sh, .float .f64 f] w fun ro w' => ro = .returned (.bool true) ∧ Dn w w' := by
 have m0 := M0.out
 have m1 := M1.out
 have m2 := M2.out
 go_enter Tryz.func3, Tryz.ntmps3
 go_wp2_with fail
 obtain ⟨w0, h0⟩ : ∃ w0, w0 = w.alloc (.cells #[.int .u8 k, .int .u8 n, .int .i16 lo] 24) := ⟨_, rfl⟩
 have u0 : Dn w w0 := by rw [h0]; exact (Dn.refl _).alloc _
 rw [← h0]
 clear h0
 refine (HOF.out _).mono ?_
 rintro e w1 ⟨rfl, qw1⟩
 have uw1 := u0.trans qw1
 clear qw1 u0
 go_wp2_with fail
 refine (HSH.out _).mono ?_
 rintro e w2 ⟨rfl, qw2⟩
 have uw2 := uw1.trans qw2
 clear qw2 uw1
 go_wp2_with fail
 obtain ⟨W1, hW1, uW1, c2, c3, c4, c5, l6⟩ := preAx79x1 w2 q0 q1 q2 q3
 rw [← hW1]
 clear hW1
 have vW1 := uw2.trans uW1
 clear uW1 uw2
 go_wp2_with fail
 go_quiet (fail)
 go_wp2_with fail
 refine (HFL.out _).mono ?_
 rintro e w5 ⟨rfl, q5⟩
 have qq := ((Dn.refl W1).drewN _).trans q5
 clear q5
 have l7 := nlt l6 qq.size
 obtain ⟨c8, c9, c10, c11⟩ := mv4 qq.cell c2 c3 c4 c5
 clear l6 c2 c3 c4 c5
 have u5 := vW1.trans qq
 clear qq vW1
 clear c8 c9 c10 c11 l7
 go_wp2_with fail
 refine (HCE.out _).mono ?_
 rintro e w3 ⟨rfl, qw3⟩
 have uw3 := u5.trans qw3
 clear qw3 u5
 go_wp2_with fail
 refine (live11 _ (hE.dn uw3)).mono ?_
 rintro e w4 ⟨rfl, qw4⟩
 have uw4 := uw3.trans qw4
 clear qw4 uw3
 go_wp2_with fail
 go_ret
 exact ⟨rfl, uw4⟩
theorem axis_m01ttttt (k n lo sh a0 b0 c0 d0 q0 q1 q2 q3 : Int) (f : Nat) (w : World) (a b c1 c2 : Int) (x0 : (q0 == 0) = false) (x2 : (q2 == 0) = true) (wbf : (a == b) = true) (hcmp : decide (eC 0 a 0 b ≤ 0) = true) (cb : decide (c2 ≤ 0) = true) (HOF : Hid (∀ W, Calls Tryz.prog 7 #[.agg #[.int .u8 k, .int .u8 n, .int .i16 lo]] W fun ro w' => ro = .returned (.agg #[.int .i8 a0, .int .i64 b0, .int .i8 c0, .int .i64 d0]) ∧ Dn W w')) (HSH : Hid (∀ W, Calls Tryz.prog 6 #[.agg #[.int .i8 a0, .int .i64 b0, .int .i8 c0, .int .i64 d0], .int .i64 sh] W fun ro w' => ro = .returned (.tuple #[.agg #[.int .i8 q0, .int .i64 q1, .int .i8 q2, .int .i64 q3], .int .i64 0]) ∧ Dn W w')) (HFL : Hid (∀ W, Calls Tryz.prog 11 #[.float .f64 f] W fun ro w' => ro = .returned (.tuple #[.int .i64 a, .int .i64 0]) ∧ Dn W w')) (HCE : Hid (∀ W, Calls Tryz.prog 12 #[.float .f64 f] W fun ro w' => ro = .returned (.tuple #[.int .i64 b, .int .i64 0]) ∧ Dn W w')) (HC2 : Hid (∀ W, Calls Tryz.prog 13 #[.float .f64 f, .int .i64 q3] W fun ro w' => ro = .returned (.tuple #[.int .i64 c2, .int .i64 0]) ∧ W = w')) (HH1 : Hid (∀ W, Calls Tryz.prog 14 #[.agg #[.int .i8 q0, .int .i64 q1, .int .i8 q2, .int .i64 q3], .int .i64 a] W fun ro w' => ro = .returned (.bool true) ∧ Dn W w')) (HH2 : Hid (∀ W, Calls Tryz.prog 14 #[.agg #[.int .i8 q0, .int .i64 q1, .int .i8 q2, .int .i64 q3], .int .i64 b] W fun ro w' => ro = .returned (.bool true) ∧ Dn W w')) (hE : EnvP w) :
  Calls Tryz.prog 3 #[.agg #[.int .u8 k, .int .u8 n, .int .i16 lo], .int .i64 sh, .float .f64 f] w fun ro w' => ro = .returned (.bool true) ∧ Dn w w' := by
 go_enter Tryz.func3, Tryz.ntmps3
 go_wp2_with fail
 obtain ⟨w0, h0⟩ : ∃ w0, w0 = w.alloc (.cells #[.int .u8 k, .int .u8 n, .int .i16 lo] 24) := ⟨_, rfl⟩
 have u0 : Dn w w0 := by rw [h0]; exact (Dn.refl _).alloc _
 rw [← h0]
 clear h0
 refine (HOF.out _).mono ?_
 rintro e w1 ⟨rfl, qw1⟩
 have uw1 := u0.trans qw1
 clear qw1 u0
 go_wp2_with fail
 refine (HSH.out _).mono ?_
 rintro e w2 ⟨rfl, qw2⟩
 have uw2 := uw1.trans qw2
 clear qw2 uw1
 go_wp2_with fail
 obtain ⟨W1, hW1, uW1, c2, c3, c4, c5, l6⟩ := preAx79x1 w2 q0 q1 q2 q3
 rw [← hW1]
 clear hW1
 have vW1 := uw2.trans uW1
 clear uW1 uw2
 go_wp2_with fail
 go_quiet (fail)
 go_wp2_with fail
 refine (HFL.out _).mono ?_
 rintro e w5 ⟨rfl, q5⟩
 have qq := ((Dn.refl W1).drewN _).trans q5
 clear q5
 have l7 := nlt l6 qq.size
 obtain ⟨c8, c9, a1, a2⟩ := mv4 qq.cell c2 c3 c4 c5
 clear l6 c2 c3 c4 c5
 have u5 := vW1.trans qq
 clear qq vW1
 go_wp2_with fail
 refine (HCE.out _).mono ?_
 rintro e w3 ⟨rfl, qw3⟩
 have a3 := nlt l7 qw3.size
 obtain ⟨a4, a5, a6, a7⟩ := mv4 qw3.cell c8 c9 a1 a2
 clear l7 c8 c9 a1 a2
 have uw3 := u5.trans qw3
 clear qw3 u5
 go_wp2_with fail
 refine (HC2.out _).mono ?_
 rintro e wq ⟨rfl, rfl⟩
 go_wp2_with fail
 refine (HH1.out _).mono ?_
 rintro e w4 ⟨rfl, qw4⟩
 have a8 := nlt a3 qw4.size
 obtain ⟨a9, aA, aB, aC⟩ := mv4 qw4.cell a4 a5 a6 a7
 clear a3 a4 a5 a6 a7
 have uw4 := uw3.trans qw4
 clear qw4 uw3
 go_wp2_with fail
 refine (HH1.out _).mono ?_
 rintro e w5 ⟨rfl, qw5⟩
 have aD := nlt a8 qw5.size
 obtain ⟨aE, aF, aG, aH⟩ := mv4 qw5.cell a9 aA aB aC
 clear a8 a9 aA aB aC
 have uw5 := uw4.trans qw5
 clear qw5 uw4
 go_wp2_with fail
 refine (HH2.out _).mono ?_
 rintro e w6 ⟨rfl, qw6⟩
 have aI := nlt aD qw6.size
 obtain ⟨aJ, aK, aL, aM⟩ := mv4 qw6.cell aE aF aG aH
 clear aD aE aF aG aH
 have uw6 := uw5.trans qw6
 clear qw6 uw5
 clear aJ aK aL aM aI
 go_wp2_with fail
 refine (eOf a _).mono ?_
 rintro e w6 ⟨rfl, q6⟩
 have u6 := uw6.up q6
 clear q6 uw6
 go_wp2_with fail
 refine (eOf b _).mono ?_
 rintro e w7 ⟨rfl, q7⟩
 have u7 := u6.up q7
 clear q7 u6
 go_wp2_with fail
 refine (eCmp 0 a 0 b _).mono ?_
 rintro e w8 ⟨rfl, q8⟩
 have u8 := u7.up q8
 clear q8 u7
 go_wp2_with fail
 refine (live11 _ (hE.dn u8)).mono ?_
 rintro e w7 ⟨rfl, qw7⟩
 have uw7 := u8.trans qw7
 clear qw7 u8
 go_wp2_with fail
 go_ret
 exact ⟨rfl, uw7⟩
theorem axis_m01ttttf (k n lo sh a0 b0 c0 d0 q0 q1 q2 q3 : Int) (f : Nat) (w : World) (a b c1 c2 : Int) (x0 : (q0 == 0) = false) (x2 : (q2 == 0) = true) (wbf : (a == b) = true) (hcmp : decide (eC 0 a 0 b ≤ 0) = true) (cb : decide (c2 ≤ 0) = true) (HOF : Hid (∀ W, Calls Tryz.prog 7 #[.agg #[.int .u8 k, .int .u8 n, .int .i16 lo]] W fun ro w' => ro = .returned (.agg #[.int .i8 a0, .int .i64 b0, .int .i8 c0, .int .i64 d0]) ∧ Dn W w')) (HSH : Hid (∀ W, Calls Tryz.prog 6 #[.agg #[.int .i8 a0, .int .i64 b0, .int .i8 c0, .int .i64 d0], .int .i64 sh] W fun ro w' => ro = .returned (.tuple #[.agg #[.int .i8 q0, .int .i64 q1, .int .i8 q2, .int .i64 q3], .int .i64 0]) ∧ Dn W w')) (HFL : Hid (∀ W, Calls Tryz.prog 11 #[.float .f64 f] W fun ro w' => ro = .returned (.tuple #[.int .i64 a, .int .i64 0]) ∧ Dn W w')) (HCE : Hid (∀ W, Calls Tryz.prog 12 #[.float .f64 f] W fun ro w' => ro = .returned (.tuple #[.int .i64 b, .int .i64 0]) ∧ Dn W w')) (HC2 : Hid (∀ W, Calls Tryz.prog 13 #[.float .f64 f, .int .i64 q3] W fun ro w' => ro = .returned (.tuple #[.int .i64 c2, .int .i64 0]) ∧ W = w')) (HH1 : Hid (∀ W, Calls Tryz.prog 14 #[.agg #[.int .i8 q0, .int .i64 q1, .int .i8 q2, .int .i64 q3], .int .i64 a] W fun ro w' => ro = .returned (.bool true) ∧ Dn W w')) (HH2 : Hid (∀ W, Calls Tryz.prog 14 #[.agg #[.int .i8 q0, .int .i64 q1, .int .i8 q2, .int .i64 q3], .int .i64 b] W fun ro w' => ro = .returned (.bool false) ∧ Dn W w')) (hE : EnvP w) :
  Calls Tryz.prog 3 #[.agg #[.int .u8 k, .int .u8 n, .int .i16 lo], .int .i64 sh, .float .f64 f] w fun ro w' => ro = .returned (.bool true) ∧ Dn w w' := by
 go_enter Tryz.func3, Tryz.ntmps3
 go_wp2_with fail
 obtain ⟨w0, h0⟩ : ∃ w0, w0 = w.alloc (.cells #[.int .u8 k, .int .u8 n, .int .i16 lo] 24) := ⟨_, rfl⟩
 have u0 : Dn w w0 := by rw [h0]; exact (Dn.refl _).alloc _
 rw [← h0]
 clear h0
 refine (HOF.out _).mono ?_
 rintro e w1 ⟨rfl, qw1⟩
 have uw1 := u0.trans qw1
 clear qw1 u0
 go_wp2_with fail
 refine (HSH.out _).mono ?_
 rintro e w2 ⟨rfl, qw2⟩
 have uw2 := uw1.trans qw2
 clear qw2 uw1
 go_wp2_with fail
 obtain ⟨W1, hW1, uW1, c2, c3, c4, c5, l6⟩ := preAx79x1 w2 q0 q1 q2 q3
 rw [← hW1]
 clear hW1
 have vW1 := uw2.trans uW1
 clear uW1 uw2
 go_wp2_with fail
 go_quiet (fail)
 go_wp2_with fail
 refine (HFL.out _).mono ?_
 rintro e w5 ⟨rfl, q5⟩
 have qq := ((Dn.refl W1).drewN _).trans q5
 clear q5
 have l7 := nlt l6 qq.size
 obtain ⟨c8, c9, a1, a2⟩ := mv4 qq.cell c2 c3 c4 c5
 clear l6 c2 c3 c4 c5
 have u5 := vW1.trans qq
 clear qq vW1
 go_wp2_with fail
 refine (HCE.out _).mono ?_
 rintro e w3 ⟨rfl, qw3⟩
 have a3 := nlt l7 qw3.size
 obtain ⟨a4, a5, a6, a7⟩ := mv4 qw3.cell c8 c9 a1 a2
 clear l7 c8 c9 a1 a2
 have uw3 := u5.trans qw3
 clear qw3 u5
 go_wp2_with fail
 refine (HC2.out _).mono ?_
 rintro e wq ⟨rfl, rfl⟩
 go_wp2_with fail
 refine (HH1.out _).mono ?_
 rintro e w4 ⟨rfl, qw4⟩
 have a8 := nlt a3 qw4.size
 obtain ⟨a9, aA, aB, aC⟩ := mv4 qw4.cell a4 a5 a6 a7
 clear a3 a4 a5 a6 a7
 have uw4 := uw3.trans qw4
 clear qw4 uw3
 go_wp2_with fail
 refine (HH1.out _).mono ?_
 rintro e w5 ⟨rfl, qw5⟩
 have aD := nlt a8 qw5.size
 obtain ⟨aE, aF, aG, aH⟩ := mv4 qw5.cell a9 aA aB aC
 clear a8 a9 aA aB aC
 have uw5 := uw4.trans qw5
 clear qw5 uw4
 go_wp2_with fail
 refine (HH2.out _).mono ?_
 rintro e w6 ⟨rfl, qw6⟩
 have aI := nlt aD qw6.size
 obtain ⟨aJ, aK, aL, aM⟩ := mv4 qw6.cell aE aF aG aH
 clear aD aE aF aG aH
 have uw6 := uw5.trans qw6
 clear qw6 uw5
 clear aJ aK aL aM aI
 go_wp2_with fail
 refine (eOf a _).mono ?_
 rintro e w6 ⟨rfl, q6⟩
 have u6 := uw6.up q6
 clear q6 uw6
 go_wp2_with fail
 refine (eOf b _).mono ?_
 rintro e w7 ⟨rfl, q7⟩
 have u7 := u6.up q7
 clear q7 u6
 go_wp2_with fail
 refine (eCmp 0 a 0 b _).mono ?_
 rintro e w8 ⟨rfl, q8⟩
 have u8 := u7.up q8
 clear q8 u7
 go_wp2_with fail
 refine (live11 _ (hE.dn u8)).mono ?_
 rintro e w7 ⟨rfl, qw7⟩
 have uw7 := u8.trans qw7
 clear qw7 u8
 go_wp2_with fail
 go_ret
 exact ⟨rfl, uw7⟩
theorem axis_m01ttffx (k n lo sh a0 b0 c0 d0 q0 q1 q2 q3 : Int) (f : Nat) (w : World) (a b c1 c2 : Int) (x0 : (q0 == 0) = false) (x2 : (q2 == 0) = true) (wbf : (a == b) = true) (hcmp : decide (eC 0 a 0 b ≤ 0) = true) (cb : decide (c2 ≤ 0) = false) (HOF : Hid (∀ W, Calls Tryz.prog 7 #[.agg #[.int .u8 k, .int .u8 n, .int .i16 lo]] W fun ro w' => ro = .returned (.agg #[.int .i8 a0, .int .i64 b0, .int .i8 c0, .int .i64 d0]) ∧ Dn W w')) (HSH : Hid (∀ W, Calls Tryz.prog 6 #[.agg #[.int .i8 a0, .int .i64 b0, .int .i8 c0, .int .i64 d0], .int .i64 sh] W fun ro w' => ro = .returned (.tuple #[.agg #[.int .i8 q0, .int .i64 q1, .int .i8 q2, .int .i64 q3], .int .i64 0]) ∧ Dn W w')) (HFL : Hid (∀ W, Calls Tryz.prog 11 #[.float .f64 f] W fun ro w' => ro = .returned (.tuple #[.int .i64 a, .int .i64 0]) ∧ Dn W w')) (HCE : Hid (∀ W, Calls Tryz.prog 12 #[.float .f64 f] W fun ro w' => ro = .returned (.tuple #[.int .i64 b, .int .i64 0]) ∧ Dn W w')) (HC2 : Hid (∀ W, Calls Tryz.prog 13 #[.float .f64 f, .int .i64 q3] W fun ro w' => ro = .returned (.tuple #[.int .i64 c2, .int .i64 0]) ∧ W = w')) (HH1 : Hid (∀ W, Calls Tryz.prog 14 #[.agg #[.int .i8 q0, .int .i64 q1, .int .i8 q2, .int .i64 q3], .int .i64 a] W fun ro w' => ro = .returned (.bool false) ∧ Dn W w')) (hE : EnvP w) :
  Calls Tryz.prog 3 #[.agg #[.int .u8 k, .int .u8 n, .int .i16 lo], .int .i64 sh, .float .f64 f] w fun ro w' => ro = .returned (.bool true) ∧ Dn w w' := by
 go_enter Tryz.func3, Tryz.ntmps3
 go_wp2_with fail
 obtain ⟨w0, h0⟩ : ∃ w0, w0 = w.alloc (.cells #[.int .u8 k, .int .u8 n, .int .i16 lo] 24) := ⟨_, rfl⟩
 have u0 : Dn w w0 := by rw [h0]; exact (Dn.refl _).alloc _
 rw [← h0]
 clear h0
 refine (HOF.out _).mono ?_
 rintro e w1 ⟨rfl, qw1⟩
 have uw1 := u0.trans qw1
 clear qw1 u0
 go_wp2_with fail
 refine (HSH.out _).mono ?_
 rintro e w2 ⟨rfl, qw2⟩
 have uw2 := uw1.trans qw2
 clear qw2 uw1
 go_wp2_with fail
 obtain ⟨W1, hW1, uW1, c2, c3, c4, c5, l6⟩ := preAx79x1 w2 q0 q1 q2 q3
 rw [← hW1]
 clear hW1
 have vW1 := uw2.trans uW1
 clear uW1 uw2
 go_wp2_with fail
 go_quiet (fail)
 go_wp2_with fail
 refine (HFL.out _).mono ?_
 rintro e w5 ⟨rfl, q5⟩
 have qq := ((Dn.refl W1).drewN _).trans q5
 clear q5
 have l7 := nlt l6 qq.size
 obtain ⟨c8, c9, a1, a2⟩ := mv4 qq.cell c2 c3 c4 c5
 clear l6 c2 c3 c4 c5
 have u5 := vW1.trans qq
 clear qq vW1
 go_wp2_with fail
 refine (HCE.out _).mono ?_
 rintro e w3 ⟨rfl, qw3⟩
 have a3 := nlt l7 qw3.size
 obtain ⟨a4, a5, a6, a7⟩ := mv4 qw3.cell c8 c9 a1 a2
 clear l7 c8 c9 a1 a2
 have uw3 := u5.trans qw3
 clear qw3 u5
 go_wp2_with fail
 refine (HC2.out _).mono ?_
 rintro e wq ⟨rfl, rfl⟩
 go_wp2_with fail
 refine (HH1.out _).mono ?_
 rintro e w4 ⟨rfl, qw4⟩
 have a8 := nlt a3 qw4.size
 obtain ⟨a9, aA, aB, aC⟩ := mv4 qw4.cell a4 a5 a6 a7
 clear a3 a4 a5 a6 a7
 have uw4 := uw3.trans qw4
 clear qw4 uw3
 go_wp2_with fail
 refine (HH1.out _).mono ?_
 rintro e w5 ⟨rfl, qw5⟩
 have aD := nlt a8 qw5.size
 obtain ⟨aE, aF, aG, aH⟩ := mv4 qw5.cell a9 aA aB aC
 clear a8 a9 aA aB aC
 have uw5 := uw4.trans qw5
 clear qw5 uw4
 clear aE aF aG aH aD
 go_wp2_with fail
 refine (eOf a _).mono ?_
 rintro e w6 ⟨rfl, q6⟩
 have u6 := uw5.up q6
 clear q6 uw5
 go_wp2_with fail
 refine (eOf b _).mono ?_
 rintro e w7 ⟨rfl, q7⟩
 have u7 := u6.up q7
 clear q7 u6
 go_wp2_with fail
 refine (eCmp 0 a 0 b _).mono ?_
 rintro e w8 ⟨rfl, q8⟩
 have u8 := u7.up q8
 clear q8 u7
 go_wp2_with fail
 refine (live11 _ (hE.dn u8)).mono ?_
 rintro e w6 ⟨rfl, qw6⟩
 have uw6 := u8.trans qw6
 clear qw6 u8
 go_wp2_with fail
 go_ret
 exact ⟨rfl, uw6⟩
theorem axis_m01fxxfx (k n lo sh a0 b0 c0 d0 q0 q1 q2 q3 : Int) (f : Nat) (w : World) (a b c1 c2 : Int) (x0 : (q0 == 0) = false) (x2 : (q2 == 0) = true) (wbf : (a == b) = false) (hcmp : decide (eC 0 a 0 b ≤ 0) = true) (HOF : Hid (∀ W, Calls Tryz.prog 7 #[.agg #[.int .u8 k, .int .u8 n, .int .i16 lo]] W fun ro w' => ro = .returned (.agg #[.int .i8 a0, .int .i64 b0, .int .i8 c0, .int .i64 d0]) ∧ Dn W w')) (HSH : Hid (∀ W, Calls Tryz.prog 6 #[.agg #[.int .i8 a0, .int .i64 b0, .int .i8 c0, .int .i64 d0], .int .i64 sh] W fun ro w' => ro = .returned (.tuple #[.agg #[.int .i8 q0, .int .i64 q1, .int .i8 q2, .int .i64 q3], .int .i64 0]) ∧ Dn W w')) (HFL : Hid (∀ W, Calls Tryz.prog 11 #[.float .f64 f] W fun ro w' => ro = .returned (.tuple #[.int .i64 a, .int .i64 0]) ∧ Dn W w')) (HCE : Hid (∀ W, Calls Tryz.prog 12 #[.float .f64 f] W fun ro w' => ro = .returned (.tuple #[.int .i64 b, .int .i64 0]) ∧ Dn W w')) (HC2 : Hid (∀ W, Calls Tryz.prog 13 #[.float .f64 f, .int .i64 q3] W fun ro w' => ro = .returned (.tuple #[.int .i64 c2, .int .i64 0]) ∧ W = w')) (HH1 : Hid (∀ W, Calls Tryz.prog 14 #[.agg #[.int .i8 q0, .int .i64 q1, .int .i8 q2, .int .i64 q3], .int .i64 a] W fun ro w' => ro = .returned (.bool false) ∧ Dn W w')) (hE : EnvP w) :
  Calls Tryz.prog 3 #[.agg #[.int .u8 k, .int .u8 n, .int .i16 lo], .int .i64 sh, .float .f64 f] w fun ro w' => ro = .returned (.bool true) ∧ Dn w w' := by
 go_enter Tryz.func3, Tryz.ntmps3
 go_wp2_with fail
 obtain ⟨w0, h0⟩ : ∃ w0, w0 = w.alloc (.cells #[.int .u8 k, .int .u8 n, .int .i16 lo] 24) := ⟨_, rfl⟩
 have u0 : Dn w w0 := by rw [h0]; exact (Dn.refl _).alloc _
 rw [← h0]
 clear h0
 refine (HOF.out _).mono ?_
 rintro e w1 ⟨rfl, qw1⟩
 have uw1 := u0.trans qw1
 clear qw1 u0
 go_wp2_with fail
 refine (HSH.out _).mono ?_
 rintro e w2 ⟨rfl, qw2⟩
 have uw2 := uw1.trans qw2
 clear qw2 uw1
 go_wp2_with fail
 obtain ⟨W1, hW1, uW1, c2, c3, c4, c5, l6⟩ := preAx79x1 w2 q0 q1 q2 q3
 rw [← hW1]
 clear hW1
 have vW1 := uw2.trans uW1
 clear uW1 uw2
 go_wp2_with fail
 go_quiet (fail)
 go_wp2_with fail
 refine (HFL.out _).mono ?_
 rintro e w5 ⟨rfl, q5⟩
 have qq := ((Dn.refl W1).drewN _).trans q5
 clear q5
 have l7 := nlt l6 qq.size
 obtain ⟨c8, c9, a1, a2⟩ := mv4 qq.cell c2 c3 c4 c5
 clear l6 c2 c3 c4 c5
 have u5 := vW1.trans qq
 clear qq vW1
 go_wp2_with fail
 refine (HCE.out _).mono ?_
 rintro e w3 ⟨rfl, qw3⟩
 have a3 := nlt l7 qw3.size
 obtain ⟨a4, a5, a6, a7⟩ := mv4 qw3.cell c8 c9 a1 a2
 clear l7 c8 c9 a1 a2
 have uw3 := u5.trans qw3
 clear qw3 u5
 go_wp2_with fail
 refine (HC2.out _).mono ?_
 rintro e wq ⟨rfl, rfl⟩
 go_wp2_with fail
 refine (HH1.out _).mono ?_
 rintro e w4 ⟨rfl, qw4⟩
 have a8 := nlt a3 qw4.size
 obtain ⟨a9, aA, aB, aC⟩ := mv4 qw4.cell a4 a5 a6 a7
 clear a3 a4 a5 a6 a7
 have uw4 := uw3.trans qw4
 clear qw4 uw3
 clear a9 aA aB aC a8
 go_wp2_with fail
 refine (eOf a _).mono ?_
 rintro e w6 ⟨rfl, q6⟩
 have u6 := uw4.up q6
 clear q6 uw4
 go_wp2_with fail
 refine (eOf b _).mono ?_
 rintro e w7 ⟨rfl, q7⟩
 have u7 := u6.up q7
 clear q7 u6
 go_wp2_with fail
 refine (eCmp 0 a 0 b _).mono ?_
 rintro e w8 ⟨rfl, q8⟩
 have u8 := u7.up q8
 clear q8 u7
 go_wp2_with fail
 refine (live11 _ (hE.dn u8)).mono ?_
 rintro e w5 ⟨rfl, qw5⟩
 have uw5 := u8.trans qw5
 clear qw5 u8
 go_wp2_with fail
 go_ret
 exact ⟨rfl, uw5⟩
theorem axis_m01fxxtf (k n lo sh a0 b0 c0 d0 q0 q1 q2 q3 : Int) (f : Nat) (w : World) (a b c1 c2 : Int) (x0 : (q0 == 0) = false) (x2 : (q2 == 0) = true) (wbf : (a == b) = false) (hcmp : decide (eC 0 a 0 b ≤ 0) = true) (HOF : Hid (∀ W, Calls Tryz.prog 7 #[.agg #[.int .u8 k, .int .u8 n, .int .i16 lo]] W fun ro w' => ro = .returned (.agg #[.int .i8 a0, .int .i64 b0, .int .i8 c0, .int .i64 d0]) ∧ Dn W w')) (HSH : Hid (∀ W, Calls Tryz.prog 6 #[.agg #[.int .i8 a0, .int .i64 b0, .int .i8 c0, .int .i64 d0], .int .i64 sh] W fun ro w' => ro = .returned (.tuple #[.agg #[.int .i8 q0, .int .i64 q1, .int .i8 q2, .int .i64 q3], .int .i64 0]) ∧ Dn W w')) (HFL : Hid (∀ W, Calls Tryz.prog 11 #[.float .f64 f] W fun ro w' => ro = .returned (.tuple #[.int .i64 a, .int .i64 0]) ∧ Dn W w')) (HCE : Hid (∀ W, Calls Tryz.prog 12 #[.float .f64 f] W fun ro w' => ro = .returned (.tuple #[.int .i64 b, .int .i64 0]) ∧ Dn W w')) (HC2 : Hid (∀ W, Calls Tryz.prog 13 #[.float .f64 f, .int .i64 q3] W fun ro w' => ro = .returned (.tuple #[.int .i64 c2, .int .i64 0]) ∧ W = w')) (HH1 : Hid (∀ W, Calls Tryz.prog 14 #[.agg #[.int .i8 q0, .int .i64 q1, .int .i8 q2, .int .i64 q3], .int .i64 a] W fun ro w' => ro = .returned (.bool true) ∧ Dn W w')) (HH2 : Hid (∀ W, Calls Tryz.prog 14 #[.agg #[.int .i8 q0, .int .i64 q1, .int .i8 q2, .int .i64 q3], .int .i64 b] W fun ro w' => ro = .returned (.bool false) ∧ Dn W w')) (hE : EnvP w) :
  Calls Tryz.prog 3 #[.agg #[.int .u8 k, .int .u8 n, .int .i16 lo], .int .i64 sh, .float .f64 f] w fun ro w' => ro = .returned (.bool true) ∧ Dn w w' := by
 go_enter Tryz.func3, Tryz.ntmps3
 go_wp2_with fail
 obtain ⟨w0, h0⟩ : ∃ w0, w0 = w.alloc (.cells #[.int .u8 k, .int .u8 n, .int .i16 lo] 24) := ⟨_, rfl⟩
 have u0 : Dn w w0 := by rw [h0]; exact (Dn.refl _).alloc _
 rw [← h0]
 clear h0
 refine (HOF.out _).mono ?_
 rintro e w1 ⟨rfl, qw1⟩
 have uw1 := u0.trans qw1
 clear qw1 u0
 go_wp2_with fail
 refine (HSH.out _).mono ?_
 rintro e w2 ⟨rfl, qw2⟩
 have uw2 := uw1.trans qw2
 clear qw2 uw1
 go_wp2_with fail
 obtain ⟨W1, hW1, uW1, c2, c3, c4, c5, l6⟩ := preAx79x1 w2 q0 q1 q2 q3
 rw [← hW1]
 clear hW1
 have vW1 := uw2.trans uW1
 clear uW1 uw2
 go_wp2_with fail
 go_quiet (fail)
 go_wp2_with fail
 refine (HFL.out _).mono ?_
 rintro e w5 ⟨rfl, q5⟩
 have qq := ((Dn.refl W1).drewN _).trans q5
 clear q5
 have l7 := nlt l6 qq.size
 obtain ⟨c8, c9, a1, a2⟩ := mv4 qq.cell c2 c3 c4 c5
 clear l6 c2 c3 c4 c5
 have u5 := vW1.trans qq
 clear qq vW1
 go_wp2_with fail
 refine (HCE.out _).mono ?_
 rintro e w3 ⟨rfl, qw3⟩
 have a3 := nlt l7 qw3.size
 obtain ⟨a4, a5, a6, a7⟩ := mv4 qw3.cell c8 c9 a1 a2
 clear l7 c8 c9 a1 a2
 have uw3 := u5.trans qw3
 clear qw3 u5
 go_wp2_with fail
 refine (HC2.out _).mono ?_
 rintro e wq ⟨rfl, rfl⟩
 go_wp2_with fail
 refine (HH1.out _).mono ?_
 rintro e w4 ⟨rfl, qw4⟩
 have a8 := nlt a3 qw4.size
 obtain ⟨a9, aA, aB, aC⟩ := mv4 qw4.cell a4 a5 a6 a7
 clear a3 a4 a5 a6 a7
 have uw4 := uw3.trans qw4
 clear qw4 uw3
 go_wp2_with fail
 refine (HH2.out _).mono ?_
 rintro e w5 ⟨rfl, qw5⟩
 have aD := nlt a8 qw5.size
 obtain ⟨aE, aF, aG, aH⟩ := mv4 qw5.cell a9 aA aB aC
 clear a8 a9 aA aB aC
 have uw5 := uw4.trans qw5
 clear qw5 uw4
 clear aE aF aG aH aD
 go_wp2_with fail
 refine (eOf a _).mono ?_
 rintro e w6 ⟨rfl, q6⟩
 have u6 := uw5.up q6
 clear q6 uw5
 go_wp2_with fail
 refine (eOf b _).mono ?_
 rintro e w7 ⟨rfl, q7⟩
 have u7 := u6.up q7
 clear q7 u6
 go_wp2_with fail
 refine (eCmp 0 a 0 b _).mono ?_
 rintro e w8 ⟨rfl, q8⟩
 have u8 := u7.up q8
 clear q8 u7
 go_wp2_with fail
 refine (live11 _ (hE.dn u8)).mono ?_
 rintro e w6 ⟨rfl, qw6⟩
 have uw6 := u8.trans qw6
 clear qw6 u8
 go_wp2_with fail
 go_ret
 exact ⟨rfl, uw6⟩
theorem axis_m01ftttt (k n lo sh a0 b0 c0 d0 q0 q1 q2 q3 : Int) (f : Nat) (w : World) (a b c1 c2 : Int) (x0 : (q0 == 0) = false) (x2 : (q2 == 0) = true) (wbf : (a == b) = false) (hcmp : decide (eC 0 a 0 b ≤ 0) = true) (cb : decide (c2 ≤ 0) = true) (HOF : Hid (∀ W, Calls Tryz.prog 7 #[.agg #[.int .u8 k, .int .u8 n, .int .i16 lo]] W fun ro w' => ro = .returned (.agg #[.int .i8 a0, .int .i64 b0, .int .i8 c0, .int .i64 d0]) ∧ Dn W w')) (HSH : Hid (∀ W, Calls Tryz.prog 6 #[.agg #[.int .i8 a0, .int .i64 b0, .int .i8 c0, .int .i64 d0], .int .i64 sh] W fun ro w' => ro = .returned (.tuple #[.agg #[.int .i8 q0, .int .i64 q1, .int .i8 q2, .int .i64 q3], .int .i64 0]) ∧ Dn W w')) (HFL : Hid (∀ W, Calls Tryz.prog 11 #[.float .f64 f] W fun ro w' => ro = .returned (.tuple #[.int .i64 a, .int .i64 0]) ∧ Dn W w')) (HCE : Hid (∀ W, Calls Tryz.prog 12 #[.float .f64 f] W fun ro w' => ro = .returned (.tuple #[.int .i64 b, .int .i64 0]) ∧ Dn W w')) (HC2 : Hid (∀ W, Calls Tryz.prog 13 #[.float .f64 f, .int .i64 q3] W fun ro w' => ro = .returned (.tuple #[.int .i64 c2, .int .i64 0]) ∧ W = w')) (HH1 : Hid (∀ W, Calls Tryz.prog 14 #[.agg #[.int .i8 q0, .int .i64 q1, .int .i8 q2, .int .i64 q3], .int .i64 a] W fun ro w' => ro = .returned (.bool true) ∧ Dn W w')) (HH2 : Hid (∀ W, Calls Tryz.prog 14 #[.agg #[.int .i8 q0, .int .i64 q1, .int .i8 q2, .int .i64 q3], .int .i64 b] W fun ro w' => ro = .returned (.bool true) ∧ Dn W w')) (hE : EnvP w) :
  Calls Tryz.prog 3 #[.agg #[.int .u8 k, .int .u8 n, .int .i16 lo], .int .i64 sh, .float .f64 f] w fun ro w' => ro = .returned (.bool true) ∧ Dn w w' := by
 go_enter Tryz.func3, Tryz.ntmps3
 go_wp2_with fail
 obtain ⟨w0, h0⟩ : ∃ w0, w0 = w.alloc (.cells #[.int .u8 k, .int .u8 n, .int .i16 lo] 24) := ⟨_, rfl⟩
 have u0 : Dn w w0 := by rw [h0]; exact (Dn.refl _).alloc _
 rw [← h0]
 clear h0
 refine (HOF.out _).mono ?_
 rintro e w1 ⟨rfl, qw1⟩
 have uw1 := u0.trans qw1
 clear qw1 u0
 go_wp2_with fail
 refine (HSH.out _).mono ?_
 rintro e w2 ⟨rfl, qw2⟩
 have uw2 := uw1.trans qw2
 clear qw2 uw1
 go_wp2_with fail
 obtain ⟨W1, hW1, uW1, c2, c3, c4, c5, l6⟩ := preAx79x1 w2 q0 q1 q2 q3
 rw [← hW1]
 clear hW1
 have vW1 := uw2.trans uW1
 clear uW1 uw2
 go_wp2_with fail
 go_quiet (fail)
 go_wp2_with fail
 refine (HFL.out _).mono ?_
 rintro e w5 ⟨rfl, q5⟩
 have qq := ((Dn.refl W1).drewN _).trans q5
 clear q5
 have l7 := nlt l6 qq.size
 obtain ⟨c8, c9, a1, a2⟩ := mv4 qq.cell c2 c3 c4 c5
 clear l6 c2 c3 c4 c5
 have u5 := vW1.trans qq
 clear qq vW1
 go_wp2_with fail
 refine (HCE.out _).mono ?_
 rintro e w3 ⟨rfl, qw3⟩
 have a3 := nlt l7 qw3.size
 obtain ⟨a4, a5, a6, a7⟩ := mv4 qw3.cell c8 c9 a1 a2
 clear l7 c8 c9 a1 a2
 have uw3 := u5.trans qw3
 clear qw3 u5
 go_wp2_with fail
 refine (HC2.out _).mono ?_
 rintro e wq ⟨rfl, rfl⟩
 go_wp2_with fail
 refine (HH1.out _).mono ?_
 rintro e w4 ⟨rfl, qw4⟩
 have a8 := nlt a3 qw4.size
 obtain ⟨a9, aA, aB, aC⟩ := mv4 qw4.cell a4 a5 a6 a7
 clear a3 a4 a5 a6 a7
 have uw4 := uw3.trans qw4
 clear qw4 uw3
 go_wp2_with fail
 refine (HH2.out _).mono ?_
 rintro e w5 ⟨rfl, qw5⟩
 have aD := nlt a8 qw5.size
 obtain ⟨aE, aF, aG, aH⟩ := mv4 qw5.cell a9 aA aB aC
 clear a8 a9 aA aB aC
 have uw5 := uw4.trans qw5
 clear qw5 uw4
 clear aE aF aG aH aD
 go_wp2_with fail
 refine (eOf a _).mono ?_
 rintro e w6 ⟨rfl, q6⟩
 have u6 := uw5.up q6
 clear q6 uw5
 go_wp2_with fail
 refine (eOf b _).mono ?_
 rintro e w7 ⟨rfl, q7⟩
 have u7 := u6.up q7
 clear q7 u6
 go_wp2_with fail
 refine (eCmp 0 a 0 b _).mono ?_
 rintro e w8 ⟨rfl, q8⟩
 have u8 := u7.up q8
 clear q8 u7
 go_wp2_with fail
 refine (live11 _ (hE.dn u8)).mono ?_
 rintro e w6 ⟨rfl, qw6⟩
 have uw6 := u8.trans qw6
 clear qw6 u8
 go_wp2_with fail
 go_ret
 exact ⟨rfl, uw6⟩
theorem axis_err00 (k n lo sh a0 b0 c0 d0 q0 q1 q2 q3 : Int) (f : Nat) (w : World) (g : Int) (hg : (g != 0) = true) (x0 : (q0 == 0) = false) (x2 : (q2 == 0) = false) (HOF : Hid (∀ W, Calls Tryz.prog 7 #[.agg #[.int .u8 k, .int .u8 n, .int .i16 lo]] W fun ro w' => ro = .returned (.agg #[.int .i8 a0, .int .i64 b0, .int .i8 c0, .int .i64 d0]) ∧ Dn W w')) (HSH : Hid (∀ W, Calls Tryz.prog 6 #[.agg #[.int .i8 a0, .int .i64 b0, .int .i8 c0, .int .i64 d0], .int .i64 sh] W fun ro w' => ro = .returned (.tuple #[.agg #[.int .i8 q0, .int .i64 q1, .int .i8 q2, .int .i64 q3], .int .i64 0]) ∧ Dn W w')) (HFL : Hid (∀ W, Calls Tryz.prog 11 #[.float .f64 f] W fun ro w' => ro = .returned (.tuple #[.int .i64 0, .int .i64 g]) ∧ Dn W w')) (HCE : Hid (∀ W, Calls Tryz.prog 12 #[.float .f64 f] W fun ro w' => ro = .returned (.tuple #[.int .i64 0, .int .i64 g]) ∧ Dn W w')) (hE : EnvP w) :
  Calls Tryz.prog 3 #[.agg #[.int .u8 k, .int .u8 n, .int .i16 lo], .int .i64 sh, .float .f64 f] w fun ro w' => ro = .returned (.bool true) ∧ Dn w w' := by
 go_enter Tryz.func3, Tryz.ntmps3
 go_wp2_with fail
 obtain ⟨w0, h0⟩ : ∃ w0, w0 = w.alloc (.cells #[.int .u8 k, .int .u8 n, .int .i16 lo] 24) := ⟨_, rfl⟩
 have u0 : Dn w w0 := by rw [h0]; exact (Dn.refl _).alloc _
 rw [← h0]
 clear h0
 refine (HOF.out _).mono ?_
 rintro e w1 ⟨rfl, qw1⟩
 have uw1 := u0.trans qw1
 clear qw1 u0
 go_wp2_with fail
 refine (HSH.out _).mono ?_
 rintro e w2 ⟨rfl, qw2⟩
 have uw2 := uw1.trans qw2
 clear qw2 uw1
 go_wp2_with fail
 obtain ⟨W1, hW1, uW1, c2, c3, c4, c5, l6⟩ := preAx79x1 w2 q0 q1 q2 q3
 rw [← hW1]
 clear hW1
 have vW1 := uw2.trans uW1
 clear uW1 uw2
 go_wp2_with fail
 go_quiet (fail)
 go_wp2_with fail
 refine (HFL.out _).mono ?_
 rintro e w5 ⟨rfl, q5⟩
 have qq := ((Dn.refl W1).drewN _).trans q5
 clear q5
 have l7 := nlt l6 qq.size
 obtain ⟨c8, c9, c10, c11⟩ := mv4 qq.cell c2 c3 c4 c5
 clear l6 c2 c3 c4 c5
 have u5 := vW1.trans qq
 clear qq vW1
 clear c8 c9 c10 c11 l7
 go_wp2_with fail
 refine (HCE.out _).mono ?_
 rintro e w3 ⟨rfl, qw3⟩
 have uw3 := u5.trans qw3
 clear qw3 u5
 go_wp2_with fail
 refine (live11 _ (hE.dn uw3)).mono ?_
 rintro e w4 ⟨rfl, qw4⟩
 have uw4 := uw3.trans qw4
 clear qw4 uw3
 go_wp2_with fail
 go_ret
 exact ⟨rfl, uw4⟩
theorem axis_mix100 (k n lo sh a0 b0 c0 d0 q0 q1 q2 q3 : Int) (f : Nat) (w : World) (g h a b : Int) (hg : (g != h) = true) (x0 : (q0 == 0) = false) (x2 : (q2 == 0) = false) (HOF : Hid (∀ W, Calls Tryz.prog 7 #[.agg #[.int .u8 k, .int .u8 n, .int .i16 lo]] W fun ro w' => ro = .returned (.agg #[.int .i8 a0, .int .i64 b0, .int .i8 c0, .int .i64 d0]) ∧ Dn W w')) (HSH : Hid (∀ W, Calls Tryz.prog 6 #[.agg #[.int .i8 a0, .int .i64 b0, .int .i8 c0, .int .i64 d0], .int .i64 sh] W fun ro w' => ro = .returned (.tuple #[.agg #[.int .i8 q0, .int .i64 q1, .int .i8 q2, .int .i64 q3], .int .i64 0]) ∧ Dn W w')) (M0 : Hid ((FloatKind.f64.format.order f f == some .eq) = true)) (M1 : Hid ((FloatKind.f64.format.order f 4845873199050653696 == some .gt) = true)) (HFL : Hid (∀ W, Calls Tryz.prog 11 #[.float .f64 f] W fun ro w' => ro = .returned (.tuple #[.int .i64 a, .int .i64 g]) ∧ Dn W w')) (HCE : Hid (∀ W, Calls Tryz.prog 12 #[.float .f64 f] W fun ro w' => ro = .returned (.tuple #[.int .i64 b, .int .i64 h]) ∧ Dn W w')) (hE : EnvP w) :
  Calls Tryz.prog 3 #[.agg #[.int .u8 k, .int .u8 n, .int .i16 lo], .int .i64 sh, .float .f64 f] w fun ro w' => ro = .returned (.bool true) ∧ Dn w w' := by
 have m0 := M0.out
 have m1 := M1.out
 go_enter Tryz.func3, Tryz.ntmps3
 go_wp2_with fail
 obtain ⟨w0, h0⟩ : ∃ w0, w0 = w.alloc (.cells #[.int .u8 k, .int .u8 n, .int .i16 lo] 24) := ⟨_, rfl⟩
 have u0 : Dn w w0 := by rw [h0]; exact (Dn.refl _).alloc _
 rw [← h0]
 clear h0
 refine (HOF.out _).mono ?_
 rintro e w1 ⟨rfl, qw1⟩
 have uw1 := u0.trans qw1
 clear qw1 u0
 go_wp2_with fail
 refine (HSH.out _).mono ?_
 rintro e w2 ⟨rfl, qw2⟩
 have uw2 := uw1.trans qw2
 clear qw2 uw1
 go_wp2_with fail
 obtain ⟨W1, hW1, uW1, c2, c3, c4, c5, l6⟩ := preAx79x1 w2 q0 q1 q2 q3
 rw [← hW1]
 clear hW1
 have vW1 := uw2.trans uW1
 clear uW1 uw2
 go_wp2_with fail
 go_quiet (fail)
 go_wp2_with fail
 refine (HFL.out _).mono ?_
 rintro e w5 ⟨rfl, q5⟩
 have qq := ((Dn.refl W1).drewN _).trans q5
 clear q5
 have l7 := nlt l6 qq.size
 obtain ⟨c8, c9, c10, c11⟩ := mv4 qq.cell c2 c3 c4 c5
 clear l6 c2 c3 c4 c5
 have u5 := vW1.trans qq
 clear qq vW1
 clear c8 c9 c10 c11 l7
 go_wp2_with fail
 refine (HCE.out _).mono ?_
 rintro e w3 ⟨rfl, qw3⟩
 have uw3 := u5.trans qw3
 clear qw3 u5
 go_wp2_with fail
 refine (live11 _ (hE.dn uw3)).mono ?_
 rintro e w4 ⟨rfl, qw4⟩
 have uw4 := uw3.trans qw4
 clear qw4 uw3
 go_wp2_with fail
 go_ret
 exact ⟨rfl, uw4⟩
theorem axis_mix200 (k n lo sh a0 b0 c0 d0 q0 q1 q2 q3 : Int) (f : Nat) (w : World) (g h a b : Int) (hg : (g != h) = true) (x0 : (q0 == 0) = false) (x2 : (q2 == 0) = false) (HOF : Hid (∀ W, Calls Tryz.prog 7 #[.agg #[.int .u8 k, .int .u8 n, .int .i16 lo]] W fun ro w' => ro = .returned (.agg #[.int .i8 a0, .int .i64 b0, .int .i8 c0, .int .i64 d0]) ∧ Dn W w')) (HSH : Hid (∀ W, Calls Tryz.prog 6 #[.agg #[.int .i8 a0, .int .i64 b0, .int .i8 c0, .int .i64 d0], .int .i64 sh] W fun ro w' => ro = .returned (.tuple #[.agg #[.int .i8 q0, .int .i64 q1, .int .i8 q2, .int .i64 q3], .int .i64 0]) ∧ Dn W w')) (M0 : Hid ((FloatKind.f64.format.order f f == some .eq) = true)) (M1 : Hid ((FloatKind.f64.format.order f 4845873199050653696 == some .gt) = false)) (M2 : Hid ((FloatKind.f64.format.order f 14069245235905429504 == some .lt) = true)) (HFL : Hid (∀ W, Calls Tryz.prog 11 #[.float .f64 f] W fun ro w' => ro = .returned (.tuple #[.int .i64 a, .int .i64 g]) ∧ Dn W w')) (HCE : Hid (∀ W, Calls Tryz.prog 12 #[.float .f64 f] W fun ro w' => ro = .returned (.tuple #[.int .i64 b, .int .i64 h]) ∧ Dn W w')) (hE : EnvP w) :
  Calls Tryz.prog 3 #[.agg #[.int .u8 k, .int .u8 n, .int .i16 lo], .int .i64 sh, .float .f64 f] w fun ro w' => ro = .returned (.bool true) ∧ Dn w w' := by
 have m0 := M0.out
 have m1 := M1.out
 have m2 := M2.out
 go_enter Tryz.func3, Tryz.ntmps3
 go_wp2_with fail
 obtain ⟨w0, h0⟩ : ∃ w0, w0 = w.alloc (.cells #[.int .u8 k, .int .u8 n, .int .i16 lo] 24) := ⟨_, rfl⟩
 have u0 : Dn w w0 := by rw [h0]; exact (Dn.refl _).alloc _
 rw [← h0]
 clear h0
 refine (HOF.out _).mono ?_
 rintro e w1 ⟨rfl, qw1⟩
 have uw1 := u0.trans qw1
 clear qw1 u0
 go_wp2_with fail
 refine (HSH.out _).mono ?_
 rintro e w2 ⟨rfl, qw2⟩
 have uw2 := uw1.trans qw2
 clear qw2 uw1
 go_wp2_with fail
 obtain ⟨W1, hW1, uW1, c2, c3, c4, c5, l6⟩ := preAx79x1 w2 q0 q1 q2 q3
 rw [← hW1]
 clear hW1
 have vW1 := uw2.trans uW1
 clear uW1 uw2
 go_wp2_with fail
 go_quiet (fail)
 go_wp2_with fail
 refine (HFL.out _).mono ?_
 rintro e w5 ⟨rfl, q5⟩
 have qq := ((Dn.refl W1).drewN _).trans q5
 clear q5
 have l7 := nlt l6 qq.size
 obtain ⟨c8, c9, c10, c11⟩ := mv4 qq.cell c2 c3 c4 c5
 clear l6 c2 c3 c4 c5
 have u5 := vW1.trans qq
 clear qq vW1
 clear c8 c9 c10 c11 l7
 go_wp2_with fail
 refine (HCE.out _).mono ?_
 rintro e w3 ⟨rfl, qw3⟩
 have uw3 := u5.trans qw3
 clear qw3 u5
 go_wp2_with fail
 refine (live11 _ (hE.dn uw3)).mono ?_
 rintro e w4 ⟨rfl, qw4⟩
 have uw4 := uw3.trans qw4
 clear qw4 uw3
 go_wp2_with fail
 go_ret
 exact ⟨rfl, uw4⟩
theorem axis_m00ttttt (k n lo sh a0 b0 c0 d0 q0 q1 q2 q3 : Int) (f : Nat) (w : World) (a b c1 c2 : Int) (x0 : (q0 == 0) = false) (x2 : (q2 == 0) = false) (wbf : (a == b) = true) (hcmp : decide (eC 0 a 0 b ≤ 0) = true) (HOF : Hid (∀ W, Calls Tryz.prog 7 #[.agg #[.int .u8 k, .int .u8 n, .int .i16 lo]] W fun ro w' => ro = .returned (.agg #[.int .i8 a0, .int .i64 b0, .int .i8 c0, .int .i64 d0]) ∧ Dn W w')) (HSH : Hid (∀ W, Calls Tryz.prog 6 #[.agg #[.int .i8 a0, .int .i64 b0, .int .i8 c0, .int .i64 d0], .int .i64 sh] W fun ro w' => ro = .returned (.tuple #[.agg #[.int .i8 q0, .int .i64 q1, .int .i8 q2, .int .i64 q3], .int .i64 0]) ∧ Dn W w')) (HFL : Hid (∀ W, Calls Tryz.prog 11 #[.float .f64 f] W fun ro w' => ro = .returned (.tuple #[.int .i64 a, .int .i64 0]) ∧ Dn W w')) (HCE : Hid (∀ W, Calls Tryz.prog 12 #[.float .f64 f] W fun ro w' => ro = .returned (.tuple #[.int .i64 b, .int .i64 0]) ∧ Dn W w')) (HH1 : Hid (∀ W, Calls Tryz.prog 14 #[.agg #[.int .i8 q0, .int .i64 q1, .int .i8 q2, .int .i64 q3], .int .i64 a] W fun ro w' => ro = .returned (.bool true) ∧ Dn W w')) (HH2 : Hid (∀ W, Calls Tryz.prog 14 #[.agg #[.int .i8 q0, .int .i64 q1, .int .i8 q2, .int .i64 q3], .int .i64 b] W fun ro w' => ro = .returned (.bool true) ∧ Dn W w')) (hE : EnvP w) :
  Calls Tryz.prog 3 #[.agg #[.int .u8 k, .int .u8 n, .int .i16 lo], .int .i64 sh, .float .f64 f] w fun ro w' => ro = .returned (.bool true) ∧ Dn w w' := by
 go_enter Tryz.func3, Tryz.ntmps3
 go_wp2_with fail
 obtain ⟨w0, h0⟩ : ∃ w0, w0 = w.alloc (.cells #[.int .u8 k, .int .u8 n, .int .i16 lo] 24) := ⟨_, rfl⟩
 have u0 : Dn w w0 := by rw [h0]; exact (Dn.refl _).alloc _
 rw [← h0]
 clear h0
 refine (HOF.out _).mono ?_
 rintro e w1 ⟨rfl, qw1⟩
 have uw1 := u0.trans qw1
 clear qw1 u0
 go_wp2_with fail
 refine (HSH.out _).mono ?_
 rintro e w2 ⟨rfl, qw2⟩
 have uw2 := uw1.trans qw2
 clear qw2 uw1
 go_wp2_with fail
 obtain ⟨W1, hW1, uW1, c2, c3, c4, c5, l6⟩ := preAx79x1 w2 q0 q1 q2 q3
 rw [← hW1]
 clear hW1
 have vW1 := uw2.trans uW1
 clear uW1 uw2
 go_wp2_with fail
 go_quiet (fail)
 go_wp2_with fail
 refine (HFL.out _).mono ?_
 rintro e w5 ⟨rfl, q5⟩
 have qq := ((Dn.refl W1).drewN _).trans q5
 clear q5
 have l7 := nlt l6 qq.size
 obtain ⟨c8, c9, a1, a2⟩ := mv4 qq.cell c2 c3 c4 c5
 clear l6 c2 c3 c4 c5
 have u5 := vW1.trans qq
 clear qq vW1
 go_wp2_with fail
 refine (HCE.out _).mono ?_
 rintro e w3 ⟨rfl, qw3⟩
 have a3 := nlt l7 qw3.size
 obtain ⟨a4, a5, a6, a7⟩ := mv4 qw3.cell c8 c9 a1 a2
 clear l7 c8 c9 a1 a2
 have uw3 := u5.trans qw3
 clear qw3 u5
 go_wp2_with fail
 refine (HH1.out _).mono ?_
 rintro e w4 ⟨rfl, qw4⟩
 have a8 := nlt a3 qw4.size
 obtain ⟨a9, aA, aB, aC⟩ := mv4 qw4.cell a4 a5 a6 a7
 clear a3 a4 a5 a6 a7
 have uw4 := uw3.trans qw4
 clear qw4 uw3
 go_wp2_with fail
 refine (HH1.out _).mono ?_
 rintro e w5 ⟨rfl, qw5⟩
 have aD := nlt a8 qw5.size
 obtain ⟨aE, aF, aG, aH⟩ := mv4 qw5.cell a9 aA aB aC
 clear a8 a9 aA aB aC
 have uw5 := uw4.trans qw5
 clear qw5 uw4
 go_wp2_with fail
 refine (HH2.out _).mono ?_
 rintro e w6 ⟨rfl, qw6⟩
 have aI := nlt aD qw6.size
 obtain ⟨aJ, aK, aL, aM⟩ := mv4 qw6.cell aE aF aG aH
 clear aD aE aF aG aH
 have uw6 := uw5.trans qw6
 clear qw6 uw5
 clear aJ aK aL aM aI
 go_wp2_with fail
 refine (eOf a _).mono ?_
 rintro e w6 ⟨rfl, q6⟩
 have u6 := uw6.up q6
 clear q6 uw6
 go_wp2_with fail
 refine (eOf b _).mono ?_
 rintro e w7 ⟨rfl, q7⟩
 have u7 := u6.up q7
 clear q7 u6
 go_wp2_with fail
 refine (eCmp 0 a 0 b _).mono ?_
 rintro e w8 ⟨rfl, q8⟩
 have u8 := u7.up q8
 clear q8 u7
 go_wp2_with fail
 refine (live11 _ (hE.dn u8)).mono ?_
 rintro e w7 ⟨rfl, qw7⟩
 have uw7 := u8.trans qw7
 clear qw7 u8
 go_wp2_with fail
 go_ret
 exact ⟨rfl, uw7⟩
theorem axis_m00ttttf (k n lo sh a0 b0 c0 d0 q0 q1 q2 q3 : Int) (f : Nat) (w : World) (a b c1 c2 : Int) (x0 : (q0 == 0) = false) (x2 : (q2 == 0) = false) (wbf : (a == b) = true) (hcmp : decide (eC 0 a 0 b ≤ 0) = true) (HOF : Hid (∀ W, Calls Tryz.prog 7 #[.agg #[.int .u8 k, .int .u8 n, .int .i16 lo]] W fun ro w' => ro = .returned (.agg #[.int .i8 a0, .int .i64 b0, .int .i8 c0, .int .i64 d0]) ∧ Dn W w')) (HSH : Hid (∀ W, Calls Tryz.prog 6 #[.agg #[.int .i8 a0, .int .i64 b0, .int .i8 c0, .int .i64 d0], .int .i64 sh] W fun ro w' => ro = .returned (.tuple #[.agg #[.int .i8 q0, .int .i64 q1, .int .i8 q2, .int .i64 q3], .int .i64 0]) ∧ Dn W w')) (HFL : Hid (∀ W, Calls Tryz.prog 11 #[.float .f64 f] W fun ro w' => ro = .returned (.tuple #[.int .i64 a, .int .i64 0]) ∧ Dn W w')) (HCE : Hid (∀ W, Calls Tryz.prog 12 #[.float .f64 f] W fun ro w' => ro = .returned (.tuple #[.int .i64 b, .int .i64 0]) ∧ Dn W w')) (HH1 : Hid (∀ W, Calls Tryz.prog 14 #[.agg #[.int .i8 q0, .int .i64 q1, .int .i8 q2, .int .i64 q3], .int .i64 a] W fun ro w' => ro = .returned (.bool true) ∧ Dn W w')) (HH2 : Hid (∀ W, Calls Tryz.prog 14 #[.agg #[.int .i8 q0, .int .i64 q1, .int .i8 q2, .int .i64 q3], .int .i64 b] W fun ro w' => ro = .returned (.bool false) ∧ Dn W w')) (hE : EnvP w) :
  Calls Tryz.prog 3 #[.agg #[.int .u8 k, .int .u8 n, .int .i16 lo], .int .i64 sh, .float .f64 f] w fun ro w' => ro = .returned (.bool true) ∧ Dn w w' := by
 go_enter Tryz.func3, Tryz.ntmps3
 go_wp2_with fail
 obtain ⟨w0, h0⟩ : ∃ w0, w0 = w.alloc (.cells #[.int .u8 k, .int .u8 n, .int .i16 lo] 24) := ⟨_, rfl⟩
 have u0 : Dn w w0 := by rw [h0]; exact (Dn.refl _).alloc _
 rw [← h0]
 clear h0
 refine (HOF.out _).mono ?_
 rintro e w1 ⟨rfl, qw1⟩
 have uw1 := u0.trans qw1
 clear qw1 u0
 go_wp2_with fail
 refine (HSH.out _).mono ?_
 rintro e w2 ⟨rfl, qw2⟩
 have uw2 := uw1.trans qw2
 clear qw2 uw1
 go_wp2_with fail
 obtain ⟨W1, hW1, uW1, c2, c3, c4, c5, l6⟩ := preAx79x1 w2 q0 q1 q2 q3
 rw [← hW1]
 clear hW1
 have vW1 := uw2.trans uW1
 clear uW1 uw2
 go_wp2_with fail
 go_quiet (fail)
 go_wp2_with fail
 refine (HFL.out _).mono ?_
 rintro e w5 ⟨rfl, q5⟩
 have qq := ((Dn.refl W1).drewN _).trans q5
 clear q5
 have l7 := nlt l6 qq.size
 obtain ⟨c8, c9, a1, a2⟩ := mv4 qq.cell c2 c3 c4 c5
 clear l6 c2 c3 c4 c5
 have u5 := vW1.trans qq
 clear qq vW1
 go_wp2_with fail
 refine (HCE.out _).mono ?_
 rintro e w3 ⟨rfl, qw3⟩
 have a3 := nlt l7 qw3.size
 obtain ⟨a4, a5, a6, a7⟩ := mv4 qw3.cell c8 c9 a1 a2
 clear l7 c8 c9 a1 a2
 have uw3 := u5.trans qw3
 clear qw3 u5
 go_wp2_with fail
 refine (HH1.out _).mono ?_
 rintro e w4 ⟨rfl, qw4⟩
 have a8 := nlt a3 qw4.size
 obtain ⟨a9, aA, aB, aC⟩ := mv4 qw4.cell a4 a5 a6 a7
 clear a3 a4 a5 a6 a7
 have uw4 := uw3.trans qw4
 clear qw4 uw3
 go_wp2_with fail
 refine (HH1.out _).mono ?_
 rintro e w5 ⟨rfl, qw5⟩
 have aD := nlt a8 qw5.size
 obtain ⟨aE, aF, aG, aH⟩ := mv4 qw5.cell a9 aA aB aC
 clear a8 a9 aA aB aC
 have uw5 := uw4.trans qw5
 clear qw5 uw4
 go_wp2_with fail
 refine (HH2.out _).mono ?_
 rintro e w6 ⟨rfl, qw6⟩
 have aI := nlt aD qw6.size
 obtain ⟨aJ, aK, aL, aM⟩ := mv4 qw6.cell aE aF aG aH
 clear aD aE aF aG aH
 have uw6 := uw5.trans qw6
 clear qw6 uw5
 clear aJ aK aL aM aI
 go_wp2_with fail
 refine (eOf a _).mono ?_
 rintro e w6 ⟨rfl, q6⟩
 have u6 := uw6.up q6
 clear q6 uw6
 go_wp2_with fail
 refine (eOf b _).mono ?_
 rintro e w7 ⟨rfl, q7⟩
 have u7 := u6.up q7
 clear q7 u6
 go_wp2_with fail
 refine (eCmp 0 a 0 b _).mono ?_
 rintro e w8 ⟨rfl, q8⟩
 have u8 := u7.up q8
 clear q8 u7
 go_wp2_with fail
 refine (live11 _ (hE.dn u8)).mono ?_
 rintro e w7 ⟨rfl, qw7⟩
 have uw7 := u8.trans qw7
 clear qw7 u8
 go_wp2_with fail
 go_ret
 exact ⟨rfl, uw7⟩
theorem axis_m00fxxfx (k n lo sh a0 b0 c0 d0 q0 q1 q2 q3 : Int) (f : Nat) (w : World) (a b c1 c2 : Int) (x0 : (q0 == 0) = false) (x2 : (q2 == 0) = false) (wbf : (a == b) = false) (hcmp : decide (eC 0 a 0 b ≤ 0) = true) (HOF : Hid (∀ W, Calls Tryz.prog 7 #[.agg #[.int .u8 k, .int .u8 n, .int .i16 lo]] W fun ro w' => ro = .returned (.agg #[.int .i8 a0, .int .i64 b0, .int .i8 c0, .int .i64 d0]) ∧ Dn W w')) (HSH : Hid (∀ W, Calls Tryz.prog 6 #[.agg #[.int .i8 a0, .int .i64 b0, .int .i8 c0, .int .i64 d0], .int .i64 sh] W fun ro w' => ro = .returned (.tuple #[.agg #[.int .i8 q0, .int .i64 q1, .int .i8 q2, .int .i64 q3], .int .i64 0]) ∧ Dn W w')) (HFL : Hid (∀ W, Calls Tryz.prog 11 #[.float .f64 f] W fun ro w' => ro = .returned (.tuple #[.int .i64 a, .int .i64 0]) ∧ Dn W w')) (HCE : Hid (∀ W, Calls Tryz.prog 12 #[.float .f64 f] W fun ro w' => ro = .returned (.tuple #[.int .i64 b, .int .i64 0]) ∧ Dn W w')) (HH1 : Hid (∀ W, Calls Tryz.prog 14 #[.agg #[.int .i8 q0, .int .i64 q1, .int .i8 q2, .int .i64 q3], .int .i64 a] W fun ro w' => ro = .returned (.bool false) ∧ Dn W w')) (hE : EnvP w) :
  Calls Tryz.prog 3 #[.agg #[.int .u8 k, .int .u8 n, .int .i16 lo], .int .i64 sh, .float .f64 f] w fun ro w' => ro = .returned (.bool true) ∧ Dn w w' := by
 go_enter Tryz.func3, Tryz.ntmps3
 go_wp2_with fail
 obtain ⟨w0, h0⟩ : ∃ w0, w0 = w.alloc (.cells #[.int .u8 k, .int .u8 n, .int .i16 lo] 24) := ⟨_, rfl⟩
 have u0 : Dn w w0 := by rw [h0]; exact (Dn.refl _).alloc _
 rw [← h0]
 clear h0
 refine (HOF.out _).mono ?_
 rintro e w1 ⟨rfl, qw1⟩
 have uw1 := u0.trans qw1
 clear qw1 u0
 go_wp2_with fail
 refine (HSH.out _).mono ?_
 rintro e w2 ⟨rfl, qw2⟩
 have uw2 := uw1.trans qw2
 clear qw2 uw1
 go_wp2_with fail
 obtain ⟨W1, hW1, uW1, c2, c3, c4, c5, l6⟩ := preAx79x1 w2 q0 q1 q2 q3
 rw [← hW1]
 clear hW1
 have vW1 := uw2.trans uW1
 clear uW1 uw2
 go_wp2_with fail
 go_quiet (fail)
 go_wp2_with fail
 refine (HFL.out _).mono ?_
 rintro e w5 ⟨rfl, q5⟩
 have qq := ((Dn.refl W1).drewN _).trans q5
 clear q5
 have l7 := nlt l6 qq.size
 obtain ⟨c8, c9, a1, a2⟩ := mv4 qq.cell c2 c3 c4 c5
 clear l6 c2 c3 c4 c5
 have u5 := vW1.trans qq
 clear qq vW1
 go_wp2_with fail
 refine (HCE.out _).mono ?_
 rintro e w3 ⟨rfl, qw3⟩
 have a3 := nlt l7 qw3.size
 obtain ⟨a4, a5, a6, a7⟩ := mv4 qw3.cell c8 c9 a1 a2
 clear l7 c8 c9 a1 a2
 have uw3 := u5.trans qw3
 clear qw3 u5
 go_wp2_with fail
 refine (HH1.out _).mono ?_
 rintro e w4 ⟨rfl, qw4⟩
 have a8 := nlt a3 qw4.size
 obtain ⟨a9, aA, aB, aC⟩ := mv4 qw4.cell a4 a5 a6 a7
 clear a3 a4 a5 a6 a7
 have uw4 := uw3.trans qw4
 clear qw4 uw3
 clear a9 aA aB aC a8
 go_wp2_with fail
 refine (eOf a _).mono ?_
 rintro e w6 ⟨rfl, q6⟩
 have u6 := uw4.up q6
 clear q6 uw4
 go_wp2_with fail
 refine (eOf b _).mono ?_
 rintro e w7 ⟨rfl, q7⟩
 have u7 := u6.up q7
 clear q7 u6
 go_wp2_with fail
 refine (eCmp 0 a 0 b _).mono ?_
 rintro e w8 ⟨rfl, q8⟩
 have u8 := u7.up q8
 clear q8 u7
 go_wp2_with fail
 refine (live11 _ (hE.dn u8)).mono ?_
 rintro e w5 ⟨rfl, qw5⟩
 have uw5 := u8.trans qw5
 clear qw5 u8
 go_wp2_with fail
 go_ret
 exact ⟨rfl, uw5⟩
theorem axis_m00fxxtf (k n lo sh a0 b0 c0 d0 q0 q1 q2 q3 : Int) (f : Nat) (w : World) (a b c1 c2 : Int) (x0 : (q0 == 0) = false) (x2 : (q2 == 0) = false) (wbf : (a == b) = false) (hcmp : decide (eC 0 a 0 b ≤ 0) = true) (HOF : Hid (∀ W, Calls Tryz.prog 7 #[.agg #[.int .u8 k, .int .u8 n, .int .i16 lo]] W fun ro w' => ro = .returned (.agg #[.int .i8 a0, .int .i64 b0, .int .i8 c0, .int .i64 d0]) ∧ Dn W w')) (HSH : Hid (∀ W, Calls Tryz.prog 6 #[.agg #[.int .i8 a0, .int .i64 b0, .int .i8 c0, .int .i64 d0], .int .i64 sh] W fun ro w' => ro = .returned (.tuple #[.agg #[.int .i8 q0, .int .i64 q1, .int .i8 q2, .int .i64 q3], .int .i64 0]) ∧ Dn W w')) (HFL : Hid (∀ W, Calls Tryz.prog 11 #[.float .f64 f] W fun ro w' => ro = .returned (.tuple #[.int .i64 a, .int .i64 0]) ∧ Dn W w')) (HCE : Hid (∀ W, Calls Tryz.prog 12 #[.float .f64 f] W fun ro w' => ro = .returned (.tuple #[.int .i64 b, .int .i64 0]) ∧ Dn W w')) (HH1 : Hid (∀ W, Calls Tryz.prog 14 #[.agg #[.int .i8 q0, .int .i64 q1, .int .i8 q2, .int .i64 q3], .int .i64 a] W fun ro w' => ro = .returned (.bool true) ∧ Dn W w')) (HH2 : Hid (∀ W, Calls Tryz.prog 14 #[.agg #[.int .i8 q0, .int .i64 q1, .int .i8 q2, .int .i64 q3], .int .i64 b] W fun ro w' => ro = .returned (.bool false) ∧ Dn W w')) (hE : EnvP w) :
  Calls Tryz.prog 3 #[.agg #[.int .u8 k, .int .u8 n, .int .i16 lo], .int .i64 sh, .float .f64 f] w fun ro w' => ro = .returned (.bool true) ∧ Dn w w' := by
 go_enter Tryz.func3, Tryz.ntmps3
 go_wp2_with fail
 obtain ⟨w0, h0⟩ : ∃ w0, w0 = w.alloc (.cells #[.int .u8 k, .int .u8 n, .int .i16 lo] 24) := ⟨_, rfl⟩
 have u0 : Dn w w0 := by rw [h0]; exact (Dn.refl _).alloc _
 rw [← h0]
 clear h0
 refine (HOF.out _).mono ?_
 rintro e w1 ⟨rfl, qw1⟩
 have uw1 := u0.trans qw1
 clear qw1 u0
 go_wp2_with fail
 refine (HSH.out _).mono ?_
 rintro e w2 ⟨rfl, qw2⟩
 have uw2 := uw1.trans qw2
 clear qw2 uw1
 go_wp2_with fail
 obtain ⟨W1, hW1, uW1, c2, c3, c4, c5, l6⟩ := preAx79x1 w2 q0 q1 q2 q3
 rw [← hW1]
 clear hW1
 have vW1 := uw2.trans uW1
 clear uW1 uw2
 go_wp2_with fail
 go_quiet (fail)
 go_wp2_with fail
 refine (HFL.out _).mono ?_
 rintro e w5 ⟨rfl, q5⟩
 have qq := ((Dn.refl W1).drewN _).trans q5
 clear q5
 have l7 := nlt l6 qq.size
 obtain ⟨c8, c9, a1, a2⟩ := mv4 qq.cell c2 c3 c4 c5
 clear l6 c2 c3 c4 c5
 have u5 := vW1.trans qq
 clear qq vW1
 go_wp2_with fail
 refine (HCE.out _).mono ?_
 rintro e w3 ⟨rfl, qw3⟩
 have a3 := nlt l7 qw3.size
 obtain ⟨a4, a5, a6, a7⟩ := mv4 qw3.cell c8 c9 a1 a2
 clear l7 c8 c9 a1 a2
 have uw3 := u5.trans qw3
 clear qw3 u5
 go_wp2_with fail
 refine (HH1.out _).mono ?_
 rintro e w4 ⟨rfl, qw4⟩
 have a8 := nlt a3 qw4.size
 obtain ⟨a9, aA, aB, aC⟩ := mv4 qw4.cell a4 a5 a6 a7
 clear a3 a4 a5 a6 a7
 have uw4 := uw3.trans qw4
 clear qw4 uw3
 go_wp2_with fail
 refine (HH2.out _).mono ?_
 rintro e w5 ⟨rfl, qw5⟩
 have aD := nlt a8 qw5.size
 obtain ⟨aE, aF, aG, aH⟩ := mv4 qw5.cell a9 aA aB aC
 clear a8 a9 aA aB aC
 have uw5 := uw4.trans qw5
 clear qw5 uw4
 clear aE aF aG aH aD
 go_wp2_with fail
 refine (eOf a _).mono ?_
 rintro e w6 ⟨rfl, q6⟩
 have u6 := uw5.up q6
 clear q6 uw5
 go_wp2_with fail
 refine (eOf b _).mono ?_
 rintro e w7 ⟨rfl, q7⟩
 have u7 := u6.up q7
 clear q7 u6
 go_wp2_with fail
 refine (eCmp 0 a 0 b _).mono ?_
 rintro e w8 ⟨rfl, q8⟩
 have u8 := u7.up q8
 clear q8 u7
 go_wp2_with fail
 refine (live11 _ (hE.dn u8)).mono ?_
 rintro e w6 ⟨rfl, qw6⟩
 have uw6 := u8.trans qw6
 clear qw6 u8
 go_wp2_with fail
 go_ret
 exact ⟨rfl, uw6⟩
theorem axis_m00ftttt (k n lo sh a0 b0 c0 d0 q0 q1 q2 q3 : Int) (f : Nat) (w : World) (a b c1 c2 : Int) (x0 : (q0 == 0) = false) (x2 : (q2 == 0) = false) (wbf : (a == b) = false) (hcmp : decide (eC 0 a 0 b ≤ 0) = true) (HOF : Hid (∀ W, Calls Tryz.prog 7 #[.agg #[.int .u8 k, .int .u8 n, .int .i16 lo]] W fun ro w' => ro = .returned (.agg #[.int .i8 a0, .int .i64 b0, .int .i8 c0, .int .i64 d0]) ∧ Dn W w')) (HSH : Hid (∀ W, Calls Tryz.prog 6 #[.agg #[.int .i8 a0, .int .i64 b0, .int .i8 c0, .int .i64 d0], .int .i64 sh] W fun ro w' => ro = .returned (.tuple #[.agg #[.int .i8 q0, .int .i64 q1, .int .i8 q2, .int .i64 q3], .int .i64 0]) ∧ Dn W w')) (HFL : Hid (∀ W, Calls Tryz.prog 11 #[.float .f64 f] W fun ro w' => ro = .returned (.tuple #[.int .i64 a, .int .i64 0]) ∧ Dn W w')) (HCE : Hid (∀ W, Calls Tryz.prog 12 #[.float .f64 f] W fun ro w' => ro = .returned (.tuple #[.int .i64 b, .int .i64 0]) ∧ Dn W w')) (HH1 : Hid (∀ W, Calls Tryz.prog 14 #[.agg #[.int .i8 q0, .int .i64 q1, .int .i8 q2, .int .i64 q3], .int .i64 a] W fun ro w' => ro = .returned (.bool true) ∧ Dn W w')) (HH2 : Hid (∀ W, Calls Tryz.prog 14 #[.agg #[.int .i8 q0, .int .i64 q1, .int .i8 q2, .int .i64 q3], .int .i64 b] W fun ro w' => ro = .returned (.bool true) ∧ Dn W w')) (hE : EnvP w) :
  Calls Tryz.prog 3 #[.agg #[.int .u8 k, .int .u8 n, .int .i16 lo], .int .i64 sh, .float .f64 f] w fun ro w' => ro = .returned (.bool true) ∧ Dn w w' := by
 go_enter Tryz.func3, Tryz.ntmps3
 go_wp2_with fail
 obtain ⟨w0, h0⟩ : ∃ w0, w0 = w.alloc (.cells #[.int .u8 k, .int .u8 n, .int .i16 lo] 24) := ⟨_, rfl⟩
 have u0 : Dn w w0 := by rw [h0]; exact (Dn.refl _).alloc _
 rw [← h0]
 clear h0
 refine (HOF.out _).mono ?_
 rintro e w1 ⟨rfl, qw1⟩
 have uw1 := u0.trans qw1
 clear qw1 u0
 go_wp2_with fail
 refine (HSH.out _).mono ?_
 rintro e w2 ⟨rfl, qw2⟩
 have uw2 := uw1.trans qw2
 clear qw2 uw1
 go_wp2_with fail
 obtain ⟨W1, hW1, uW1, c2, c3, c4, c5, l6⟩ := preAx79x1 w2 q0 q1 q2 q3
 rw [← hW1]
 clear hW1
 have vW1 := uw2.trans uW1
 clear uW1 uw2
 go_wp2_with fail
 go_quiet (fail)
 go_wp2_with fail
 refine (HFL.out _).mono ?_
 rintro e w5 ⟨rfl, q5⟩
 have qq := ((Dn.refl W1).drewN _).trans q5
 clear q5
 have l7 := nlt l6 qq.size
 obtain ⟨c8, c9, a1, a2⟩ := mv4 qq.cell c2 c3 c4 c5
 clear l6 c2 c3 c4 c5
 have u5 := vW1.trans qq
 clear qq vW1
 go_wp2_with fail
 refine (HCE.out _).mono ?_
 rintro e w3 ⟨rfl, qw3⟩
 have a3 := nlt l7 qw3.size
 obtain ⟨a4, a5, a6, a7⟩ := mv4 qw3.cell c8 c9 a1 a2
 clear l7 c8 c9 a1 a2
 have uw3 := u5.trans qw3
 clear qw3 u5
 go_wp2_with fail
 refine (HH1.out _).mono ?_
 rintro e w4 ⟨rfl, qw4⟩
 have a8 := nlt a3 qw4.size
 obtain ⟨a9, aA, aB, aC⟩ := mv4 qw4.cell a4 a5 a6 a7
 clear a3 a4 a5 a6 a7
 have uw4 := uw3.trans qw4
 clear qw4 uw3
 go_wp2_with fail
 refine (HH2.out _).mono ?_
 rintro e w5 ⟨rfl, qw5⟩
 have aD := nlt a8 qw5.size
 obtain ⟨aE, aF, aG, aH⟩ := mv4 qw5.cell a9 aA aB aC
 clear a8 a9 aA aB aC
 have uw5 := uw4.trans qw5
 clear qw5 uw4
 clear aE aF aG aH aD
 go_wp2_with fail
 refine (eOf a _).mono ?_
 rintro e w6 ⟨rfl, q6⟩
 have u6 := uw5.up q6
 clear q6 uw5
 go_wp2_with fail
 refine (eOf b _).mono ?_
 rintro e w7 ⟨rfl, q7⟩
 have u7 := u6.up q7
 clear q7 u6
 go_wp2_with fail
 refine (eCmp 0 a 0 b _).mono ?_
 rintro e w8 ⟨rfl, q8⟩
 have u8 := u7.up q8
 clear q8 u7
 go_wp2_with fail
 refine (live11 _ (hE.dn u8)).mono ?_
 rintro e w6 ⟨rfl, qw6⟩
 have uw6 := u8.trans qw6
 clear qw6 u8
 go_wp2_with fail
 go_ret
 exact ⟨rfl, uw6⟩
end Go.Proofs.YteodjglbpfmikaaGreatDoor
