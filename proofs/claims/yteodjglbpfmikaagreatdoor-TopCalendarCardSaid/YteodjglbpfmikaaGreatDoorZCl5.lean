/- Walks and laws that the claim's theorem leans on: part 5. -/
import Derived.Test.YteodjglbpfmikaaGreatDoorZCl1
import Derived.Test.YteodjglbpfmikaaGreatDoorZCl3
import Derived.Test.YteodjglbpfmikaaGreatDoorZCl4
namespace Go.Proofs.YteodjglbpfmikaaGreatDoor
set_option maxHeartbeats 2000000
set_option maxRecDepth 100000
open Go.RowKit
set_option linter.unusedVariables false
set_option linter.unusedSimpArgs false
structure EnvK (w : World) : Prop where
 c : EnvC w
 i : EnvJ w
theorem EnvK.dn {w w' : World} (h : EnvK w) (k : Dn w w') : EnvK w' := ⟨h.c.dn k, h.i.dn k⟩
theorem EnvK.ml {w : World} (h : EnvK w) : ∃ n, w.cell? ⟨5, 0, none⟩ = some (.int .i64 n) := h.c.ml
theorem EnvK.m {w : World} (h : EnvK w) : EnvM w := h.c.m
instance (w : World) : Coe (EnvK w) (EnvC w) := ⟨EnvK.c⟩
theorem nm4t_lt (B : Nat) (s P R0 T : ByteArray) (v : Int) (w : World) (hB : w.cell? ⟨B, 0, none⟩ = some (.string s)) (hz : w.frozen? ⟨B, 0, none⟩ = false) (hl : B < w.heap.size) (hE : EnvK w) (hP : P.size ≤ 1000) (hR : R0.size ≤ 1000)
  (HC : Hid (∀ W, EnvK W → Calls Tryz.prog 130 #[.string s, .string ⟨#[45]⟩] W fun e w' => e = .returned (.tuple #[.string P, .string R0, .bool true]) ∧ Dn W w')) (h : P.size < 4) :
  Calls Tryz.prog 88 #[.pointer (some ⟨B, 0, none⟩), .int .i64 4, .bool true] w fun e w' => e = .panicked (pF 5) ∧ Dn w w' := by
 have z1 : ¬ (9223372036854775807 < R0.size + 1) := by omega
 have z2 : ¬ (9223372036854775807 < 1 + R0.size) := by omega
 have q1 : decide ((P.size : Int) < 4) = true := by simp; omega
 clear hP hR
 go_enter Tryz.func88, Tryz.ntmps88
 go_wp2_with fail
 refine (HC.out _ hE).mono ?_
 rintro e w1 ⟨rfl, qw1⟩
 have f1 := (qw1.frozen (a := ⟨B, 0, none⟩) hl).trans hz
 have l2 := nlt hl qw1.size
 have c3 := qw1.cell hB
 clear hz hl hB
 have uw1 := qw1
 clear qw1
 go_wp2_with fail
 exact ⟨rfl, rfl, uw1⟩
theorem nm4t_zero (B : Nat) (s P R0 T : ByteArray) (v : Int) (w : World) (hB : w.cell? ⟨B, 0, none⟩ = some (.string s)) (hz : w.frozen? ⟨B, 0, none⟩ = false) (hl : B < w.heap.size) (hE : EnvK w) (hP : P.size ≤ 1000) (hR : R0.size ≤ 1000)
  (HC : Hid (∀ W, EnvK W → Calls Tryz.prog 130 #[.string s, .string ⟨#[45]⟩] W fun e w' => e = .returned (.tuple #[.string P, .string R0, .bool true]) ∧ Dn W w')) (h : 4 < P.size) (h48 : P[0]'(by omega) = 48) :
  Calls Tryz.prog 88 #[.pointer (some ⟨B, 0, none⟩), .int .i64 4, .bool true] w fun e w' => e = .panicked (pF 5) ∧ Dn w w' := by
 have z1 : ¬ (9223372036854775807 < R0.size + 1) := by omega
 have z2 : ¬ (9223372036854775807 < 1 + R0.size) := by omega
 have h0 : 0 < P.size := by omega
 have q1 : decide ((P.size : Int) < 4) = false := by simp; omega
 have q2 : decide (4 < (P.size : Int)) = true := by simp; omega
 have q3 : ¬ P.size < 4 := by omega
 have q5 : ((P[0].toNat : Int) == 48) = true := by rw [h48]; rfl
 clear h48
 clear hP hR
 go_enter Tryz.func88, Tryz.ntmps88
 go_wp2_with fail
 refine (HC.out _ hE).mono ?_
 rintro e w1 ⟨rfl, qw1⟩
 have f1 := (qw1.frozen (a := ⟨B, 0, none⟩) hl).trans hz
 have l2 := nlt hl qw1.size
 have c3 := qw1.cell hB
 clear hz hl hB
 have uw1 := qw1
 clear qw1
 go_wp2_with fail
 exact ⟨rfl, rfl, uw1⟩
theorem nm4t_eq_e (B : Nat) (s P R0 T : ByteArray) (v : Int) (w : World) (hB : w.cell? ⟨B, 0, none⟩ = some (.string s)) (hz : w.frozen? ⟨B, 0, none⟩ = false) (hl : B < w.heap.size) (hE : EnvK w) (hP : P.size ≤ 1000) (hR : R0.size ≤ 1000)
  (HC : Hid (∀ W, EnvK W → Calls Tryz.prog 130 #[.string s, .string ⟨#[45]⟩] W fun e w' => e = .returned (.tuple #[.string P, .string R0, .bool true]) ∧ Dn W w')) (h : P.size = 4) (HT : Hid (∀ W, Calls Tryz.prog 131 #[.string P, .string ⟨#[48]⟩] W fun e w' => e = .returned (.string ⟨#[]⟩) ∧ W = w')) (HP : Hid (∀ W, EnvK W → Calls Tryz.prog 132 #[.string ⟨#[48]⟩] W fun e w' => e = .returned (.tuple #[.int .i64 v, .int .i64 0]) ∧ Dn W w')) :
  Calls Tryz.prog 88 #[.pointer (some ⟨B, 0, none⟩), .int .i64 4, .bool true] w fun e w' => e = .returned (.int .i64 v) ∧ ∃ W, Dn w W ∧ w' = W.setCell ⟨B, 0, none⟩ (.string (⟨#[45]⟩ ++ R0)) := by
 have z1 : ¬ (9223372036854775807 < R0.size + 1) := by omega
 have z2 : ¬ (9223372036854775807 < 1 + R0.size) := by omega
 have q1 : decide ((P.size : Int) < 4) = false := by simp; omega
 have q2 : decide (4 < (P.size : Int)) = false := by simp; omega
 have q3 : ¬ P.size < 4 := by omega
 have q4 : ¬ 4 < P.size := by omega
 clear h
 clear hP hR
 go_enter Tryz.func88, Tryz.ntmps88
 go_wp2_with fail
 refine (HC.out _ hE).mono ?_
 rintro e w1 ⟨rfl, qw1⟩
 have f1 := (qw1.frozen (a := ⟨B, 0, none⟩) hl).trans hz
 have l2 := nlt hl qw1.size
 have c3 := qw1.cell hB
 clear hz hl hB
 have uw1 := qw1
 clear qw1
 go_wp2_with fail
 refine (HT.out _).mono ?_
 rintro e w2 ⟨rfl, rfl⟩
 go_wp2_with fail
 refine (HP.out _ (hE.dn uw1)).mono ?_
 rintro e w3 ⟨rfl, qw3⟩
 have f4 := (qw3.frozen (a := ⟨B, 0, none⟩) l2).trans f1
 have l5 := nlt l2 qw3.size
 have c6 := qw3.cell c3
 clear f1 l2 c3
 have uw3 := uw1.trans qw3
 clear qw3 uw1
 go_wp2_with fail
 go_ret
 exact ⟨rfl, _, uw3, rfl⟩
theorem nm4t_eq_ok (B : Nat) (s P R0 T : ByteArray) (v : Int) (w : World) (hB : w.cell? ⟨B, 0, none⟩ = some (.string s)) (hz : w.frozen? ⟨B, 0, none⟩ = false) (hl : B < w.heap.size) (hE : EnvK w) (hP : P.size ≤ 1000) (hR : R0.size ≤ 1000)
  (HC : Hid (∀ W, EnvK W → Calls Tryz.prog 130 #[.string s, .string ⟨#[45]⟩] W fun e w' => e = .returned (.tuple #[.string P, .string R0, .bool true]) ∧ Dn W w')) (h : P.size = 4) (hT : T.toList ≠ []) (HT : Hid (∀ W, Calls Tryz.prog 131 #[.string P, .string ⟨#[48]⟩] W fun e w' => e = .returned (.string T) ∧ W = w')) (HP : Hid (∀ W, EnvK W → Calls Tryz.prog 132 #[.string T] W fun e w' => e = .returned (.tuple #[.int .i64 v, .int .i64 0]) ∧ Dn W w')) :
  Calls Tryz.prog 88 #[.pointer (some ⟨B, 0, none⟩), .int .i64 4, .bool true] w fun e w' => e = .returned (.int .i64 v) ∧ ∃ W, Dn w W ∧ w' = W.setCell ⟨B, 0, none⟩ (.string (⟨#[45]⟩ ++ R0)) := by
 have z1 : ¬ (9223372036854775807 < R0.size + 1) := by omega
 have z2 : ¬ (9223372036854775807 < 1 + R0.size) := by omega
 have q1 : decide ((P.size : Int) < 4) = false := by simp; omega
 have q2 : decide (4 < (P.size : Int)) = false := by simp; omega
 have q3 : ¬ P.size < 4 := by omega
 have q4 : ¬ 4 < P.size := by omega
 clear h
 have e1 : (T.toList == []) = false := by simpa using hT
 have e2 : T.toList.isEmpty = false := by simpa using hT
 clear hP hR
 go_enter Tryz.func88, Tryz.ntmps88
 go_wp2_with fail
 refine (HC.out _ hE).mono ?_
 rintro e w1 ⟨rfl, qw1⟩
 have f1 := (qw1.frozen (a := ⟨B, 0, none⟩) hl).trans hz
 have l2 := nlt hl qw1.size
 have c3 := qw1.cell hB
 clear hz hl hB
 have uw1 := qw1
 clear qw1
 go_wp2_with fail
 refine (HT.out _).mono ?_
 rintro e w2 ⟨rfl, rfl⟩
 go_wp2_with fail
 refine (HP.out _ (hE.dn uw1)).mono ?_
 rintro e w3 ⟨rfl, qw3⟩
 have f4 := (qw3.frozen (a := ⟨B, 0, none⟩) l2).trans f1
 have l5 := nlt l2 qw3.size
 have c6 := qw3.cell c3
 clear f1 l2 c3
 have uw3 := uw1.trans qw3
 clear qw3 uw1
 go_wp2_with fail
 go_ret
 exact ⟨rfl, _, uw3, rfl⟩
theorem nm4t_eq_bad (B : Nat) (s P R0 T : ByteArray) (v : Int) (w : World) (hB : w.cell? ⟨B, 0, none⟩ = some (.string s)) (hz : w.frozen? ⟨B, 0, none⟩ = false) (hl : B < w.heap.size) (hE : EnvK w) (hP : P.size ≤ 1000) (hR : R0.size ≤ 1000)
  (HC : Hid (∀ W, EnvK W → Calls Tryz.prog 130 #[.string s, .string ⟨#[45]⟩] W fun e w' => e = .returned (.tuple #[.string P, .string R0, .bool true]) ∧ Dn W w')) (h : P.size = 4) (hT : T.toList ≠ []) (HT : Hid (∀ W, Calls Tryz.prog 131 #[.string P, .string ⟨#[48]⟩] W fun e w' => e = .returned (.string T) ∧ W = w')) (HP : Hid (∀ W, EnvK W → Calls Tryz.prog 132 #[.string T] W fun e w' => e = .returned (.tuple #[.int .i64 0, .int .i64 5]) ∧ Dn W w')) :
  Calls Tryz.prog 88 #[.pointer (some ⟨B, 0, none⟩), .int .i64 4, .bool true] w fun e w' => e = .panicked (pF 5) ∧ Dn w w' := by
 have z1 : ¬ (9223372036854775807 < R0.size + 1) := by omega
 have z2 : ¬ (9223372036854775807 < 1 + R0.size) := by omega
 have q1 : decide ((P.size : Int) < 4) = false := by simp; omega
 have q2 : decide (4 < (P.size : Int)) = false := by simp; omega
 have q3 : ¬ P.size < 4 := by omega
 have q4 : ¬ 4 < P.size := by omega
 clear h
 have e1 : (T.toList == []) = false := by simpa using hT
 have e2 : T.toList.isEmpty = false := by simpa using hT
 clear hP hR
 go_enter Tryz.func88, Tryz.ntmps88
 go_wp2_with fail
 refine (HC.out _ hE).mono ?_
 rintro e w1 ⟨rfl, qw1⟩
 have f1 := (qw1.frozen (a := ⟨B, 0, none⟩) hl).trans hz
 have l2 := nlt hl qw1.size
 have c3 := qw1.cell hB
 clear hz hl hB
 have uw1 := qw1
 clear qw1
 go_wp2_with fail
 refine (HT.out _).mono ?_
 rintro e w2 ⟨rfl, rfl⟩
 go_wp2_with fail
 refine (HP.out _ (hE.dn uw1)).mono ?_
 rintro e w3 ⟨rfl, qw3⟩
 have f4 := (qw3.frozen (a := ⟨B, 0, none⟩) l2).trans f1
 have l5 := nlt l2 qw3.size
 have c6 := qw3.cell c3
 clear f1 l2 c3
 have uw3 := uw1.trans qw3
 clear qw3 uw1
 go_wp2_with fail
 exact ⟨rfl, rfl, uw3⟩
theorem nm4t_eq_over (B : Nat) (s P R0 T : ByteArray) (v : Int) (w : World) (hB : w.cell? ⟨B, 0, none⟩ = some (.string s)) (hz : w.frozen? ⟨B, 0, none⟩ = false) (hl : B < w.heap.size) (hE : EnvK w) (hP : P.size ≤ 1000) (hR : R0.size ≤ 1000)
  (HC : Hid (∀ W, EnvK W → Calls Tryz.prog 130 #[.string s, .string ⟨#[45]⟩] W fun e w' => e = .returned (.tuple #[.string P, .string R0, .bool true]) ∧ Dn W w')) (h : P.size = 4) (hT : T.toList ≠ []) (HT : Hid (∀ W, Calls Tryz.prog 131 #[.string P, .string ⟨#[48]⟩] W fun e w' => e = .returned (.string T) ∧ W = w')) (HP : Hid (∀ W, EnvK W → Calls Tryz.prog 132 #[.string T] W fun e w' => e = .returned (.tuple #[.int .i64 0, .int .i64 15]) ∧ Dn W w')) :
  Calls Tryz.prog 88 #[.pointer (some ⟨B, 0, none⟩), .int .i64 4, .bool true] w fun e w' => e = .returned (.int .i64 9223372036854775807) ∧ ∃ W, Dn w W ∧ w' = W.setCell ⟨B, 0, none⟩ (.string (⟨#[45]⟩ ++ R0)) := by
 have z1 : ¬ (9223372036854775807 < R0.size + 1) := by omega
 have z2 : ¬ (9223372036854775807 < 1 + R0.size) := by omega
 have q1 : decide ((P.size : Int) < 4) = false := by simp; omega
 have q2 : decide (4 < (P.size : Int)) = false := by simp; omega
 have q3 : ¬ P.size < 4 := by omega
 have q4 : ¬ 4 < P.size := by omega
 clear h
 have e1 : (T.toList == []) = false := by simpa using hT
 have e2 : T.toList.isEmpty = false := by simpa using hT
 clear hP hR
 go_enter Tryz.func88, Tryz.ntmps88
 go_wp2_with fail
 refine (HC.out _ hE).mono ?_
 rintro e w1 ⟨rfl, qw1⟩
 have f1 := (qw1.frozen (a := ⟨B, 0, none⟩) hl).trans hz
 have l2 := nlt hl qw1.size
 have c3 := qw1.cell hB
 clear hz hl hB
 have uw1 := qw1
 clear qw1
 go_wp2_with fail
 refine (HT.out _).mono ?_
 rintro e w2 ⟨rfl, rfl⟩
 go_wp2_with fail
 refine (HP.out _ (hE.dn uw1)).mono ?_
 rintro e w3 ⟨rfl, qw3⟩
 have f4 := (qw3.frozen (a := ⟨B, 0, none⟩) l2).trans f1
 have l5 := nlt l2 qw3.size
 have c6 := qw3.cell c3
 clear f1 l2 c3
 have uw3 := uw1.trans qw3
 clear qw3 uw1
 go_wp2_with fail
 go_ret
 exact ⟨rfl, _, uw3, rfl⟩
theorem nm4t_gt_e (B : Nat) (s P R0 T : ByteArray) (v : Int) (w : World) (hB : w.cell? ⟨B, 0, none⟩ = some (.string s)) (hz : w.frozen? ⟨B, 0, none⟩ = false) (hl : B < w.heap.size) (hE : EnvK w) (hP : P.size ≤ 1000) (hR : R0.size ≤ 1000)
  (HC : Hid (∀ W, EnvK W → Calls Tryz.prog 130 #[.string s, .string ⟨#[45]⟩] W fun e w' => e = .returned (.tuple #[.string P, .string R0, .bool true]) ∧ Dn W w')) (h : 4 < P.size) (h48 : P[0]'(by omega) ≠ 48) (HT : Hid (∀ W, Calls Tryz.prog 131 #[.string P, .string ⟨#[48]⟩] W fun e w' => e = .returned (.string ⟨#[]⟩) ∧ W = w')) (HP : Hid (∀ W, EnvK W → Calls Tryz.prog 132 #[.string ⟨#[48]⟩] W fun e w' => e = .returned (.tuple #[.int .i64 v, .int .i64 0]) ∧ Dn W w')) :
  Calls Tryz.prog 88 #[.pointer (some ⟨B, 0, none⟩), .int .i64 4, .bool true] w fun e w' => e = .returned (.int .i64 v) ∧ ∃ W, Dn w W ∧ w' = W.setCell ⟨B, 0, none⟩ (.string (⟨#[45]⟩ ++ R0)) := by
 have z1 : ¬ (9223372036854775807 < R0.size + 1) := by omega
 have z2 : ¬ (9223372036854775807 < 1 + R0.size) := by omega
 have h0 : 0 < P.size := by omega
 have q1 : decide ((P.size : Int) < 4) = false := by simp; omega
 have q2 : decide (4 < (P.size : Int)) = true := by simp; omega
 have q3 : ¬ P.size < 4 := by omega
 have q5 : ((P[0].toNat : Int) == 48) = false := by rw [beq_eq_false_iff_ne]; intro e; exact h48 (UInt8.toNat_inj.1 (by have : (48 : UInt8).toNat = 48 := rfl; omega))
 clear h48
 clear hP hR
 go_enter Tryz.func88, Tryz.ntmps88
 go_wp2_with fail
 refine (HC.out _ hE).mono ?_
 rintro e w1 ⟨rfl, qw1⟩
 have f1 := (qw1.frozen (a := ⟨B, 0, none⟩) hl).trans hz
 have l2 := nlt hl qw1.size
 have c3 := qw1.cell hB
 clear hz hl hB
 have uw1 := qw1
 clear qw1
 go_wp2_with fail
 refine (HT.out _).mono ?_
 rintro e w2 ⟨rfl, rfl⟩
 go_wp2_with fail
 refine (HP.out _ (hE.dn uw1)).mono ?_
 rintro e w3 ⟨rfl, qw3⟩
 have f4 := (qw3.frozen (a := ⟨B, 0, none⟩) l2).trans f1
 have l5 := nlt l2 qw3.size
 have c6 := qw3.cell c3
 clear f1 l2 c3
 have uw3 := uw1.trans qw3
 clear qw3 uw1
 go_wp2_with fail
 go_ret
 exact ⟨rfl, _, uw3, rfl⟩
theorem nm4t_gt_ok (B : Nat) (s P R0 T : ByteArray) (v : Int) (w : World) (hB : w.cell? ⟨B, 0, none⟩ = some (.string s)) (hz : w.frozen? ⟨B, 0, none⟩ = false) (hl : B < w.heap.size) (hE : EnvK w) (hP : P.size ≤ 1000) (hR : R0.size ≤ 1000)
  (HC : Hid (∀ W, EnvK W → Calls Tryz.prog 130 #[.string s, .string ⟨#[45]⟩] W fun e w' => e = .returned (.tuple #[.string P, .string R0, .bool true]) ∧ Dn W w')) (h : 4 < P.size) (h48 : P[0]'(by omega) ≠ 48) (hT : T.toList ≠ []) (HT : Hid (∀ W, Calls Tryz.prog 131 #[.string P, .string ⟨#[48]⟩] W fun e w' => e = .returned (.string T) ∧ W = w')) (HP : Hid (∀ W, EnvK W → Calls Tryz.prog 132 #[.string T] W fun e w' => e = .returned (.tuple #[.int .i64 v, .int .i64 0]) ∧ Dn W w')) :
  Calls Tryz.prog 88 #[.pointer (some ⟨B, 0, none⟩), .int .i64 4, .bool true] w fun e w' => e = .returned (.int .i64 v) ∧ ∃ W, Dn w W ∧ w' = W.setCell ⟨B, 0, none⟩ (.string (⟨#[45]⟩ ++ R0)) := by
 have z1 : ¬ (9223372036854775807 < R0.size + 1) := by omega
 have z2 : ¬ (9223372036854775807 < 1 + R0.size) := by omega
 have h0 : 0 < P.size := by omega
 have q1 : decide ((P.size : Int) < 4) = false := by simp; omega
 have q2 : decide (4 < (P.size : Int)) = true := by simp; omega
 have q3 : ¬ P.size < 4 := by omega
 have q5 : ((P[0].toNat : Int) == 48) = false := by rw [beq_eq_false_iff_ne]; intro e; exact h48 (UInt8.toNat_inj.1 (by have : (48 : UInt8).toNat = 48 := rfl; omega))
 clear h48
 have e1 : (T.toList == []) = false := by simpa using hT
 have e2 : T.toList.isEmpty = false := by simpa using hT
 clear hP hR
 go_enter Tryz.func88, Tryz.ntmps88
 go_wp2_with fail
 refine (HC.out _ hE).mono ?_
 rintro e w1 ⟨rfl, qw1⟩
 have f1 := (qw1.frozen (a := ⟨B, 0, none⟩) hl).trans hz
 have l2 := nlt hl qw1.size
 have c3 := qw1.cell hB
 clear hz hl hB
 have uw1 := qw1
 clear qw1
 go_wp2_with fail
 refine (HT.out _).mono ?_
 rintro e w2 ⟨rfl, rfl⟩
 go_wp2_with fail
 refine (HP.out _ (hE.dn uw1)).mono ?_
 rintro e w3 ⟨rfl, qw3⟩
 have f4 := (qw3.frozen (a := ⟨B, 0, none⟩) l2).trans f1
 have l5 := nlt l2 qw3.size
 have c6 := qw3.cell c3
 clear f1 l2 c3
 have uw3 := uw1.trans qw3
 clear qw3 uw1
 go_wp2_with fail
 go_ret
 exact ⟨rfl, _, uw3, rfl⟩
theorem nm4t_gt_bad (B : Nat) (s P R0 T : ByteArray) (v : Int) (w : World) (hB : w.cell? ⟨B, 0, none⟩ = some (.string s)) (hz : w.frozen? ⟨B, 0, none⟩ = false) (hl : B < w.heap.size) (hE : EnvK w) (hP : P.size ≤ 1000) (hR : R0.size ≤ 1000)
  (HC : Hid (∀ W, EnvK W → Calls Tryz.prog 130 #[.string s, .string ⟨#[45]⟩] W fun e w' => e = .returned (.tuple #[.string P, .string R0, .bool true]) ∧ Dn W w')) (h : 4 < P.size) (h48 : P[0]'(by omega) ≠ 48) (hT : T.toList ≠ []) (HT : Hid (∀ W, Calls Tryz.prog 131 #[.string P, .string ⟨#[48]⟩] W fun e w' => e = .returned (.string T) ∧ W = w')) (HP : Hid (∀ W, EnvK W → Calls Tryz.prog 132 #[.string T] W fun e w' => e = .returned (.tuple #[.int .i64 0, .int .i64 5]) ∧ Dn W w')) :
  Calls Tryz.prog 88 #[.pointer (some ⟨B, 0, none⟩), .int .i64 4, .bool true] w fun e w' => e = .panicked (pF 5) ∧ Dn w w' := by
 have z1 : ¬ (9223372036854775807 < R0.size + 1) := by omega
 have z2 : ¬ (9223372036854775807 < 1 + R0.size) := by omega
 have h0 : 0 < P.size := by omega
 have q1 : decide ((P.size : Int) < 4) = false := by simp; omega
 have q2 : decide (4 < (P.size : Int)) = true := by simp; omega
 have q3 : ¬ P.size < 4 := by omega
 have q5 : ((P[0].toNat : Int) == 48) = false := by rw [beq_eq_false_iff_ne]; intro e; exact h48 (UInt8.toNat_inj.1 (by have : (48 : UInt8).toNat = 48 := rfl; omega))
 clear h48
 have e1 : (T.toList == []) = false := by simpa using hT
 have e2 : T.toList.isEmpty = false := by simpa using hT
 clear hP hR
 go_enter Tryz.func88, Tryz.ntmps88
 go_wp2_with fail
 refine (HC.out _ hE).mono ?_
 rintro e w1 ⟨rfl, qw1⟩
 have f1 := (qw1.frozen (a := ⟨B, 0, none⟩) hl).trans hz
 have l2 := nlt hl qw1.size
 have c3 := qw1.cell hB
 clear hz hl hB
 have uw1 := qw1
 clear qw1
 go_wp2_with fail
 refine (HT.out _).mono ?_
 rintro e w2 ⟨rfl, rfl⟩
 go_wp2_with fail
 refine (HP.out _ (hE.dn uw1)).mono ?_
 rintro e w3 ⟨rfl, qw3⟩
 have f4 := (qw3.frozen (a := ⟨B, 0, none⟩) l2).trans f1
 have l5 := nlt l2 qw3.size
 have c6 := qw3.cell c3
 clear f1 l2 c3
 have uw3 := uw1.trans qw3
 clear qw3 uw1
 go_wp2_with fail
 exact ⟨rfl, rfl, uw3⟩
theorem nm4t_gt_over (B : Nat) (s P R0 T : ByteArray) (v : Int) (w : World) (hB : w.cell? ⟨B, 0, none⟩ = some (.string s)) (hz : w.frozen? ⟨B, 0, none⟩ = false) (hl : B < w.heap.size) (hE : EnvK w) (hP : P.size ≤ 1000) (hR : R0.size ≤ 1000)
  (HC : Hid (∀ W, EnvK W → Calls Tryz.prog 130 #[.string s, .string ⟨#[45]⟩] W fun e w' => e = .returned (.tuple #[.string P, .string R0, .bool true]) ∧ Dn W w')) (h : 4 < P.size) (h48 : P[0]'(by omega) ≠ 48) (hT : T.toList ≠ []) (HT : Hid (∀ W, Calls Tryz.prog 131 #[.string P, .string ⟨#[48]⟩] W fun e w' => e = .returned (.string T) ∧ W = w')) (HP : Hid (∀ W, EnvK W → Calls Tryz.prog 132 #[.string T] W fun e w' => e = .returned (.tuple #[.int .i64 0, .int .i64 15]) ∧ Dn W w')) :
  Calls Tryz.prog 88 #[.pointer (some ⟨B, 0, none⟩), .int .i64 4, .bool true] w fun e w' => e = .returned (.int .i64 9223372036854775807) ∧ ∃ W, Dn w W ∧ w' = W.setCell ⟨B, 0, none⟩ (.string (⟨#[45]⟩ ++ R0)) := by
 have z1 : ¬ (9223372036854775807 < R0.size + 1) := by omega
 have z2 : ¬ (9223372036854775807 < 1 + R0.size) := by omega
 have h0 : 0 < P.size := by omega
 have q1 : decide ((P.size : Int) < 4) = false := by simp; omega
 have q2 : decide (4 < (P.size : Int)) = true := by simp; omega
 have q3 : ¬ P.size < 4 := by omega
 have q5 : ((P[0].toNat : Int) == 48) = false := by rw [beq_eq_false_iff_ne]; intro e; exact h48 (UInt8.toNat_inj.1 (by have : (48 : UInt8).toNat = 48 := rfl; omega))
 clear h48
 have e1 : (T.toList == []) = false := by simpa using hT
 have e2 : T.toList.isEmpty = false := by simpa using hT
 clear hP hR
 go_enter Tryz.func88, Tryz.ntmps88
 go_wp2_with fail
 refine (HC.out _ hE).mono ?_
 rintro e w1 ⟨rfl, qw1⟩
 have f1 := (qw1.frozen (a := ⟨B, 0, none⟩) hl).trans hz
 have l2 := nlt hl qw1.size
 have c3 := qw1.cell hB
 clear hz hl hB
 have uw1 := qw1
 clear qw1
 go_wp2_with fail
 refine (HT.out _).mono ?_
 rintro e w2 ⟨rfl, rfl⟩
 go_wp2_with fail
 refine (HP.out _ (hE.dn uw1)).mono ?_
 rintro e w3 ⟨rfl, qw3⟩
 have f4 := (qw3.frozen (a := ⟨B, 0, none⟩) l2).trans f1
 have l5 := nlt l2 qw3.size
 have c6 := qw3.cell c3
 clear f1 l2 c3
 have uw3 := uw1.trans qw3
 clear qw3 uw1
 go_wp2_with fail
 go_ret
 exact ⟨rfl, _, uw3, rfl⟩
theorem nm2t_lt (B : Nat) (s P R0 T : ByteArray) (v : Int) (w : World) (hB : w.cell? ⟨B, 0, none⟩ = some (.string s)) (hz : w.frozen? ⟨B, 0, none⟩ = false) (hl : B < w.heap.size) (hE : EnvK w) (hP : P.size ≤ 1000) (hR : R0.size ≤ 1000)
  (HC : Hid (∀ W, EnvK W → Calls Tryz.prog 130 #[.string s, .string ⟨#[45]⟩] W fun e w' => e = .returned (.tuple #[.string P, .string R0, .bool true]) ∧ Dn W w')) (h : P.size < 2) :
  Calls Tryz.prog 88 #[.pointer (some ⟨B, 0, none⟩), .int .i64 2, .bool false] w fun e w' => e = .panicked (pF 5) ∧ Dn w w' := by
 have z1 : ¬ (9223372036854775807 < R0.size + 1) := by omega
 have z2 : ¬ (9223372036854775807 < 1 + R0.size) := by omega
 have q1 : decide ((P.size : Int) < 2) = true := by simp; omega
 clear hP hR
 go_enter Tryz.func88, Tryz.ntmps88
 go_wp2_with fail
 refine (HC.out _ hE).mono ?_
 rintro e w1 ⟨rfl, qw1⟩
 have f1 := (qw1.frozen (a := ⟨B, 0, none⟩) hl).trans hz
 have l2 := nlt hl qw1.size
 have c3 := qw1.cell hB
 clear hz hl hB
 have uw1 := qw1
 clear qw1
 go_wp2_with fail
 exact ⟨rfl, rfl, uw1⟩
theorem nm2t_gt (B : Nat) (s P R0 T : ByteArray) (v : Int) (w : World) (hB : w.cell? ⟨B, 0, none⟩ = some (.string s)) (hz : w.frozen? ⟨B, 0, none⟩ = false) (hl : B < w.heap.size) (hE : EnvK w) (hP : P.size ≤ 1000) (hR : R0.size ≤ 1000)
  (HC : Hid (∀ W, EnvK W → Calls Tryz.prog 130 #[.string s, .string ⟨#[45]⟩] W fun e w' => e = .returned (.tuple #[.string P, .string R0, .bool true]) ∧ Dn W w')) (h : 2 < P.size) :
  Calls Tryz.prog 88 #[.pointer (some ⟨B, 0, none⟩), .int .i64 2, .bool false] w fun e w' => e = .panicked (pF 5) ∧ Dn w w' := by
 have z1 : ¬ (9223372036854775807 < R0.size + 1) := by omega
 have z2 : ¬ (9223372036854775807 < 1 + R0.size) := by omega
 have q1 : decide ((P.size : Int) < 2) = false := by simp; omega
 have q2 : decide (2 < (P.size : Int)) = true := by simp; omega
 have q3 : ¬ P.size < 2 := by omega
 clear hP hR
 go_enter Tryz.func88, Tryz.ntmps88
 go_wp2_with fail
 refine (HC.out _ hE).mono ?_
 rintro e w1 ⟨rfl, qw1⟩
 have f1 := (qw1.frozen (a := ⟨B, 0, none⟩) hl).trans hz
 have l2 := nlt hl qw1.size
 have c3 := qw1.cell hB
 clear hz hl hB
 have uw1 := qw1
 clear qw1
 go_wp2_with fail
 exact ⟨rfl, rfl, uw1⟩
theorem nm2t_eq_e (B : Nat) (s P R0 T : ByteArray) (v : Int) (w : World) (hB : w.cell? ⟨B, 0, none⟩ = some (.string s)) (hz : w.frozen? ⟨B, 0, none⟩ = false) (hl : B < w.heap.size) (hE : EnvK w) (hP : P.size ≤ 1000) (hR : R0.size ≤ 1000)
  (HC : Hid (∀ W, EnvK W → Calls Tryz.prog 130 #[.string s, .string ⟨#[45]⟩] W fun e w' => e = .returned (.tuple #[.string P, .string R0, .bool true]) ∧ Dn W w')) (h : P.size = 2) (HT : Hid (∀ W, Calls Tryz.prog 131 #[.string P, .string ⟨#[48]⟩] W fun e w' => e = .returned (.string ⟨#[]⟩) ∧ W = w')) (HP : Hid (∀ W, EnvK W → Calls Tryz.prog 132 #[.string ⟨#[48]⟩] W fun e w' => e = .returned (.tuple #[.int .i64 v, .int .i64 0]) ∧ Dn W w')) :
  Calls Tryz.prog 88 #[.pointer (some ⟨B, 0, none⟩), .int .i64 2, .bool false] w fun e w' => e = .returned (.int .i64 v) ∧ ∃ W, Dn w W ∧ w' = W.setCell ⟨B, 0, none⟩ (.string (⟨#[45]⟩ ++ R0)) := by
 have z1 : ¬ (9223372036854775807 < R0.size + 1) := by omega
 have z2 : ¬ (9223372036854775807 < 1 + R0.size) := by omega
 have q1 : decide ((P.size : Int) < 2) = false := by simp; omega
 have q2 : decide (2 < (P.size : Int)) = false := by simp; omega
 have q3 : ¬ P.size < 2 := by omega
 have q4 : ¬ 2 < P.size := by omega
 clear h
 clear hP hR
 go_enter Tryz.func88, Tryz.ntmps88
 go_wp2_with fail
 refine (HC.out _ hE).mono ?_
 rintro e w1 ⟨rfl, qw1⟩
 have f1 := (qw1.frozen (a := ⟨B, 0, none⟩) hl).trans hz
 have l2 := nlt hl qw1.size
 have c3 := qw1.cell hB
 clear hz hl hB
 have uw1 := qw1
 clear qw1
 go_wp2_with fail
 refine (HT.out _).mono ?_
 rintro e w2 ⟨rfl, rfl⟩
 go_wp2_with fail
 refine (HP.out _ (hE.dn uw1)).mono ?_
 rintro e w3 ⟨rfl, qw3⟩
 have f4 := (qw3.frozen (a := ⟨B, 0, none⟩) l2).trans f1
 have l5 := nlt l2 qw3.size
 have c6 := qw3.cell c3
 clear f1 l2 c3
 have uw3 := uw1.trans qw3
 clear qw3 uw1
 go_wp2_with fail
 go_ret
 exact ⟨rfl, _, uw3, rfl⟩
theorem nm2t_eq_ok (B : Nat) (s P R0 T : ByteArray) (v : Int) (w : World) (hB : w.cell? ⟨B, 0, none⟩ = some (.string s)) (hz : w.frozen? ⟨B, 0, none⟩ = false) (hl : B < w.heap.size) (hE : EnvK w) (hP : P.size ≤ 1000) (hR : R0.size ≤ 1000)
  (HC : Hid (∀ W, EnvK W → Calls Tryz.prog 130 #[.string s, .string ⟨#[45]⟩] W fun e w' => e = .returned (.tuple #[.string P, .string R0, .bool true]) ∧ Dn W w')) (h : P.size = 2) (hT : T.toList ≠ []) (HT : Hid (∀ W, Calls Tryz.prog 131 #[.string P, .string ⟨#[48]⟩] W fun e w' => e = .returned (.string T) ∧ W = w')) (HP : Hid (∀ W, EnvK W → Calls Tryz.prog 132 #[.string T] W fun e w' => e = .returned (.tuple #[.int .i64 v, .int .i64 0]) ∧ Dn W w')) :
  Calls Tryz.prog 88 #[.pointer (some ⟨B, 0, none⟩), .int .i64 2, .bool false] w fun e w' => e = .returned (.int .i64 v) ∧ ∃ W, Dn w W ∧ w' = W.setCell ⟨B, 0, none⟩ (.string (⟨#[45]⟩ ++ R0)) := by
 have z1 : ¬ (9223372036854775807 < R0.size + 1) := by omega
 have z2 : ¬ (9223372036854775807 < 1 + R0.size) := by omega
 have q1 : decide ((P.size : Int) < 2) = false := by simp; omega
 have q2 : decide (2 < (P.size : Int)) = false := by simp; omega
 have q3 : ¬ P.size < 2 := by omega
 have q4 : ¬ 2 < P.size := by omega
 clear h
 have e1 : (T.toList == []) = false := by simpa using hT
 have e2 : T.toList.isEmpty = false := by simpa using hT
 clear hP hR
 go_enter Tryz.func88, Tryz.ntmps88
 go_wp2_with fail
 refine (HC.out _ hE).mono ?_
 rintro e w1 ⟨rfl, qw1⟩
 have f1 := (qw1.frozen (a := ⟨B, 0, none⟩) hl).trans hz
 have l2 := nlt hl qw1.size
 have c3 := qw1.cell hB
 clear hz hl hB
 have uw1 := qw1
 clear qw1
 go_wp2_with fail
 refine (HT.out _).mono ?_
 rintro e w2 ⟨rfl, rfl⟩
 go_wp2_with fail
 refine (HP.out _ (hE.dn uw1)).mono ?_
 rintro e w3 ⟨rfl, qw3⟩
 have f4 := (qw3.frozen (a := ⟨B, 0, none⟩) l2).trans f1
 have l5 := nlt l2 qw3.size
 have c6 := qw3.cell c3
 clear f1 l2 c3
 have uw3 := uw1.trans qw3
 clear qw3 uw1
 go_wp2_with fail
 go_ret
 exact ⟨rfl, _, uw3, rfl⟩
theorem nm2t_eq_bad (B : Nat) (s P R0 T : ByteArray) (v : Int) (w : World) (hB : w.cell? ⟨B, 0, none⟩ = some (.string s)) (hz : w.frozen? ⟨B, 0, none⟩ = false) (hl : B < w.heap.size) (hE : EnvK w) (hP : P.size ≤ 1000) (hR : R0.size ≤ 1000)
  (HC : Hid (∀ W, EnvK W → Calls Tryz.prog 130 #[.string s, .string ⟨#[45]⟩] W fun e w' => e = .returned (.tuple #[.string P, .string R0, .bool true]) ∧ Dn W w')) (h : P.size = 2) (hT : T.toList ≠ []) (HT : Hid (∀ W, Calls Tryz.prog 131 #[.string P, .string ⟨#[48]⟩] W fun e w' => e = .returned (.string T) ∧ W = w')) (HP : Hid (∀ W, EnvK W → Calls Tryz.prog 132 #[.string T] W fun e w' => e = .returned (.tuple #[.int .i64 0, .int .i64 5]) ∧ Dn W w')) :
  Calls Tryz.prog 88 #[.pointer (some ⟨B, 0, none⟩), .int .i64 2, .bool false] w fun e w' => e = .panicked (pF 5) ∧ Dn w w' := by
 have z1 : ¬ (9223372036854775807 < R0.size + 1) := by omega
 have z2 : ¬ (9223372036854775807 < 1 + R0.size) := by omega
 have q1 : decide ((P.size : Int) < 2) = false := by simp; omega
 have q2 : decide (2 < (P.size : Int)) = false := by simp; omega
 have q3 : ¬ P.size < 2 := by omega
 have q4 : ¬ 2 < P.size := by omega
 clear h
 have e1 : (T.toList == []) = false := by simpa using hT
 have e2 : T.toList.isEmpty = false := by simpa using hT
 clear hP hR
 go_enter Tryz.func88, Tryz.ntmps88
 go_wp2_with fail
 refine (HC.out _ hE).mono ?_
 rintro e w1 ⟨rfl, qw1⟩
 have f1 := (qw1.frozen (a := ⟨B, 0, none⟩) hl).trans hz
 have l2 := nlt hl qw1.size
 have c3 := qw1.cell hB
 clear hz hl hB
 have uw1 := qw1
 clear qw1
 go_wp2_with fail
 refine (HT.out _).mono ?_
 rintro e w2 ⟨rfl, rfl⟩
 go_wp2_with fail
 refine (HP.out _ (hE.dn uw1)).mono ?_
 rintro e w3 ⟨rfl, qw3⟩
 have f4 := (qw3.frozen (a := ⟨B, 0, none⟩) l2).trans f1
 have l5 := nlt l2 qw3.size
 have c6 := qw3.cell c3
 clear f1 l2 c3
 have uw3 := uw1.trans qw3
 clear qw3 uw1
 go_wp2_with fail
 exact ⟨rfl, rfl, uw3⟩
theorem nm4f_lt (B : Nat) (s P R0 T : ByteArray) (v : Int) (w : World) (hB : w.cell? ⟨B, 0, none⟩ = some (.string s)) (hz : w.frozen? ⟨B, 0, none⟩ = false) (hl : B < w.heap.size) (hE : EnvK w) (hP : P.size ≤ 1000) (hR : R0.size ≤ 1000)
  (HC : Hid (∀ W, EnvK W → Calls Tryz.prog 130 #[.string s, .string ⟨#[45]⟩] W fun e w' => e = .returned (.tuple #[.string P, .string R0, .bool false]) ∧ Dn W w')) (h : P.size < 4) :
  Calls Tryz.prog 88 #[.pointer (some ⟨B, 0, none⟩), .int .i64 4, .bool true] w fun e w' => e = .panicked (pF 5) ∧ Dn w w' := by
 have z1 : ¬ (9223372036854775807 < R0.size + 1) := by omega
 have z2 : ¬ (9223372036854775807 < 1 + R0.size) := by omega
 have q1 : decide ((P.size : Int) < 4) = true := by simp; omega
 clear hP hR
 go_enter Tryz.func88, Tryz.ntmps88
 go_wp2_with fail
 refine (HC.out _ hE).mono ?_
 rintro e w1 ⟨rfl, qw1⟩
 have f1 := (qw1.frozen (a := ⟨B, 0, none⟩) hl).trans hz
 have l2 := nlt hl qw1.size
 have c3 := qw1.cell hB
 clear hz hl hB
 have uw1 := qw1
 clear qw1
 go_wp2_with fail
 exact ⟨rfl, rfl, uw1⟩
theorem nm4f_zero (B : Nat) (s P R0 T : ByteArray) (v : Int) (w : World) (hB : w.cell? ⟨B, 0, none⟩ = some (.string s)) (hz : w.frozen? ⟨B, 0, none⟩ = false) (hl : B < w.heap.size) (hE : EnvK w) (hP : P.size ≤ 1000) (hR : R0.size ≤ 1000)
  (HC : Hid (∀ W, EnvK W → Calls Tryz.prog 130 #[.string s, .string ⟨#[45]⟩] W fun e w' => e = .returned (.tuple #[.string P, .string R0, .bool false]) ∧ Dn W w')) (h : 4 < P.size) (h48 : P[0]'(by omega) = 48) :
  Calls Tryz.prog 88 #[.pointer (some ⟨B, 0, none⟩), .int .i64 4, .bool true] w fun e w' => e = .panicked (pF 5) ∧ Dn w w' := by
 have z1 : ¬ (9223372036854775807 < R0.size + 1) := by omega
 have z2 : ¬ (9223372036854775807 < 1 + R0.size) := by omega
 have h0 : 0 < P.size := by omega
 have q1 : decide ((P.size : Int) < 4) = false := by simp; omega
 have q2 : decide (4 < (P.size : Int)) = true := by simp; omega
 have q3 : ¬ P.size < 4 := by omega
 have q5 : ((P[0].toNat : Int) == 48) = true := by rw [h48]; rfl
 clear h48
 clear hP hR
 go_enter Tryz.func88, Tryz.ntmps88
 go_wp2_with fail
 refine (HC.out _ hE).mono ?_
 rintro e w1 ⟨rfl, qw1⟩
 have f1 := (qw1.frozen (a := ⟨B, 0, none⟩) hl).trans hz
 have l2 := nlt hl qw1.size
 have c3 := qw1.cell hB
 clear hz hl hB
 have uw1 := qw1
 clear qw1
 go_wp2_with fail
 exact ⟨rfl, rfl, uw1⟩
theorem nm4f_eq_e (B : Nat) (s P R0 T : ByteArray) (v : Int) (w : World) (hB : w.cell? ⟨B, 0, none⟩ = some (.string s)) (hz : w.frozen? ⟨B, 0, none⟩ = false) (hl : B < w.heap.size) (hE : EnvK w) (hP : P.size ≤ 1000) (hR : R0.size ≤ 1000)
  (HC : Hid (∀ W, EnvK W → Calls Tryz.prog 130 #[.string s, .string ⟨#[45]⟩] W fun e w' => e = .returned (.tuple #[.string P, .string R0, .bool false]) ∧ Dn W w')) (h : P.size = 4) (HT : Hid (∀ W, Calls Tryz.prog 131 #[.string P, .string ⟨#[48]⟩] W fun e w' => e = .returned (.string ⟨#[]⟩) ∧ W = w')) (HP : Hid (∀ W, EnvK W → Calls Tryz.prog 132 #[.string ⟨#[48]⟩] W fun e w' => e = .returned (.tuple #[.int .i64 v, .int .i64 0]) ∧ Dn W w')) :
  Calls Tryz.prog 88 #[.pointer (some ⟨B, 0, none⟩), .int .i64 4, .bool true] w fun e w' => e = .returned (.int .i64 v) ∧ ∃ W, Dn w W ∧ w' = W.setCell ⟨B, 0, none⟩ (.string R0) := by
 have z1 : ¬ (9223372036854775807 < R0.size + 1) := by omega
 have z2 : ¬ (9223372036854775807 < 1 + R0.size) := by omega
 have q1 : decide ((P.size : Int) < 4) = false := by simp; omega
 have q2 : decide (4 < (P.size : Int)) = false := by simp; omega
 have q3 : ¬ P.size < 4 := by omega
 have q4 : ¬ 4 < P.size := by omega
 clear h
 clear hP hR
 go_enter Tryz.func88, Tryz.ntmps88
 go_wp2_with fail
 refine (HC.out _ hE).mono ?_
 rintro e w1 ⟨rfl, qw1⟩
 have f1 := (qw1.frozen (a := ⟨B, 0, none⟩) hl).trans hz
 have l2 := nlt hl qw1.size
 have c3 := qw1.cell hB
 clear hz hl hB
 have uw1 := qw1
 clear qw1
 go_wp2_with fail
 refine (HT.out _).mono ?_
 rintro e w2 ⟨rfl, rfl⟩
 go_wp2_with fail
 refine (HP.out _ (hE.dn uw1)).mono ?_
 rintro e w3 ⟨rfl, qw3⟩
 have f4 := (qw3.frozen (a := ⟨B, 0, none⟩) l2).trans f1
 have l5 := nlt l2 qw3.size
 have c6 := qw3.cell c3
 clear f1 l2 c3
 have uw3 := uw1.trans qw3
 clear qw3 uw1
 go_wp2_with fail
 go_ret
 exact ⟨rfl, _, uw3, rfl⟩
theorem nm4f_eq_ok (B : Nat) (s P R0 T : ByteArray) (v : Int) (w : World) (hB : w.cell? ⟨B, 0, none⟩ = some (.string s)) (hz : w.frozen? ⟨B, 0, none⟩ = false) (hl : B < w.heap.size) (hE : EnvK w) (hP : P.size ≤ 1000) (hR : R0.size ≤ 1000)
  (HC : Hid (∀ W, EnvK W → Calls Tryz.prog 130 #[.string s, .string ⟨#[45]⟩] W fun e w' => e = .returned (.tuple #[.string P, .string R0, .bool false]) ∧ Dn W w')) (h : P.size = 4) (hT : T.toList ≠ []) (HT : Hid (∀ W, Calls Tryz.prog 131 #[.string P, .string ⟨#[48]⟩] W fun e w' => e = .returned (.string T) ∧ W = w')) (HP : Hid (∀ W, EnvK W → Calls Tryz.prog 132 #[.string T] W fun e w' => e = .returned (.tuple #[.int .i64 v, .int .i64 0]) ∧ Dn W w')) :
  Calls Tryz.prog 88 #[.pointer (some ⟨B, 0, none⟩), .int .i64 4, .bool true] w fun e w' => e = .returned (.int .i64 v) ∧ ∃ W, Dn w W ∧ w' = W.setCell ⟨B, 0, none⟩ (.string R0) := by
 have z1 : ¬ (9223372036854775807 < R0.size + 1) := by omega
 have z2 : ¬ (9223372036854775807 < 1 + R0.size) := by omega
 have q1 : decide ((P.size : Int) < 4) = false := by simp; omega
 have q2 : decide (4 < (P.size : Int)) = false := by simp; omega
 have q3 : ¬ P.size < 4 := by omega
 have q4 : ¬ 4 < P.size := by omega
 clear h
 have e1 : (T.toList == []) = false := by simpa using hT
 have e2 : T.toList.isEmpty = false := by simpa using hT
 clear hP hR
 go_enter Tryz.func88, Tryz.ntmps88
 go_wp2_with fail
 refine (HC.out _ hE).mono ?_
 rintro e w1 ⟨rfl, qw1⟩
 have f1 := (qw1.frozen (a := ⟨B, 0, none⟩) hl).trans hz
 have l2 := nlt hl qw1.size
 have c3 := qw1.cell hB
 clear hz hl hB
 have uw1 := qw1
 clear qw1
 go_wp2_with fail
 refine (HT.out _).mono ?_
 rintro e w2 ⟨rfl, rfl⟩
 go_wp2_with fail
 refine (HP.out _ (hE.dn uw1)).mono ?_
 rintro e w3 ⟨rfl, qw3⟩
 have f4 := (qw3.frozen (a := ⟨B, 0, none⟩) l2).trans f1
 have l5 := nlt l2 qw3.size
 have c6 := qw3.cell c3
 clear f1 l2 c3
 have uw3 := uw1.trans qw3
 clear qw3 uw1
 go_wp2_with fail
 go_ret
 exact ⟨rfl, _, uw3, rfl⟩
theorem nm4f_eq_bad (B : Nat) (s P R0 T : ByteArray) (v : Int) (w : World) (hB : w.cell? ⟨B, 0, none⟩ = some (.string s)) (hz : w.frozen? ⟨B, 0, none⟩ = false) (hl : B < w.heap.size) (hE : EnvK w) (hP : P.size ≤ 1000) (hR : R0.size ≤ 1000)
  (HC : Hid (∀ W, EnvK W → Calls Tryz.prog 130 #[.string s, .string ⟨#[45]⟩] W fun e w' => e = .returned (.tuple #[.string P, .string R0, .bool false]) ∧ Dn W w')) (h : P.size = 4) (hT : T.toList ≠ []) (HT : Hid (∀ W, Calls Tryz.prog 131 #[.string P, .string ⟨#[48]⟩] W fun e w' => e = .returned (.string T) ∧ W = w')) (HP : Hid (∀ W, EnvK W → Calls Tryz.prog 132 #[.string T] W fun e w' => e = .returned (.tuple #[.int .i64 0, .int .i64 5]) ∧ Dn W w')) :
  Calls Tryz.prog 88 #[.pointer (some ⟨B, 0, none⟩), .int .i64 4, .bool true] w fun e w' => e = .panicked (pF 5) ∧ Dn w w' := by
 have z1 : ¬ (9223372036854775807 < R0.size + 1) := by omega
 have z2 : ¬ (9223372036854775807 < 1 + R0.size) := by omega
 have q1 : decide ((P.size : Int) < 4) = false := by simp; omega
 have q2 : decide (4 < (P.size : Int)) = false := by simp; omega
 have q3 : ¬ P.size < 4 := by omega
 have q4 : ¬ 4 < P.size := by omega
 clear h
 have e1 : (T.toList == []) = false := by simpa using hT
 have e2 : T.toList.isEmpty = false := by simpa using hT
 clear hP hR
 go_enter Tryz.func88, Tryz.ntmps88
 go_wp2_with fail
 refine (HC.out _ hE).mono ?_
 rintro e w1 ⟨rfl, qw1⟩
 have f1 := (qw1.frozen (a := ⟨B, 0, none⟩) hl).trans hz
 have l2 := nlt hl qw1.size
 have c3 := qw1.cell hB
 clear hz hl hB
 have uw1 := qw1
 clear qw1
 go_wp2_with fail
 refine (HT.out _).mono ?_
 rintro e w2 ⟨rfl, rfl⟩
 go_wp2_with fail
 refine (HP.out _ (hE.dn uw1)).mono ?_
 rintro e w3 ⟨rfl, qw3⟩
 have f4 := (qw3.frozen (a := ⟨B, 0, none⟩) l2).trans f1
 have l5 := nlt l2 qw3.size
 have c6 := qw3.cell c3
 clear f1 l2 c3
 have uw3 := uw1.trans qw3
 clear qw3 uw1
 go_wp2_with fail
 exact ⟨rfl, rfl, uw3⟩
theorem nm4f_eq_over (B : Nat) (s P R0 T : ByteArray) (v : Int) (w : World) (hB : w.cell? ⟨B, 0, none⟩ = some (.string s)) (hz : w.frozen? ⟨B, 0, none⟩ = false) (hl : B < w.heap.size) (hE : EnvK w) (hP : P.size ≤ 1000) (hR : R0.size ≤ 1000)
  (HC : Hid (∀ W, EnvK W → Calls Tryz.prog 130 #[.string s, .string ⟨#[45]⟩] W fun e w' => e = .returned (.tuple #[.string P, .string R0, .bool false]) ∧ Dn W w')) (h : P.size = 4) (hT : T.toList ≠ []) (HT : Hid (∀ W, Calls Tryz.prog 131 #[.string P, .string ⟨#[48]⟩] W fun e w' => e = .returned (.string T) ∧ W = w')) (HP : Hid (∀ W, EnvK W → Calls Tryz.prog 132 #[.string T] W fun e w' => e = .returned (.tuple #[.int .i64 0, .int .i64 15]) ∧ Dn W w')) :
  Calls Tryz.prog 88 #[.pointer (some ⟨B, 0, none⟩), .int .i64 4, .bool true] w fun e w' => e = .returned (.int .i64 9223372036854775807) ∧ ∃ W, Dn w W ∧ w' = W.setCell ⟨B, 0, none⟩ (.string R0) := by
 have z1 : ¬ (9223372036854775807 < R0.size + 1) := by omega
 have z2 : ¬ (9223372036854775807 < 1 + R0.size) := by omega
 have q1 : decide ((P.size : Int) < 4) = false := by simp; omega
 have q2 : decide (4 < (P.size : Int)) = false := by simp; omega
 have q3 : ¬ P.size < 4 := by omega
 have q4 : ¬ 4 < P.size := by omega
 clear h
 have e1 : (T.toList == []) = false := by simpa using hT
 have e2 : T.toList.isEmpty = false := by simpa using hT
 clear hP hR
 go_enter Tryz.func88, Tryz.ntmps88
 go_wp2_with fail
 refine (HC.out _ hE).mono ?_
 rintro e w1 ⟨rfl, qw1⟩
 have f1 := (qw1.frozen (a := ⟨B, 0, none⟩) hl).trans hz
 have l2 := nlt hl qw1.size
 have c3 := qw1.cell hB
 clear hz hl hB
 have uw1 := qw1
 clear qw1
 go_wp2_with fail
 refine (HT.out _).mono ?_
 rintro e w2 ⟨rfl, rfl⟩
 go_wp2_with fail
 refine (HP.out _ (hE.dn uw1)).mono ?_
 rintro e w3 ⟨rfl, qw3⟩
 have f4 := (qw3.frozen (a := ⟨B, 0, none⟩) l2).trans f1
 have l5 := nlt l2 qw3.size
 have c6 := qw3.cell c3
 clear f1 l2 c3
 have uw3 := uw1.trans qw3
 clear qw3 uw1
 go_wp2_with fail
 go_ret
 exact ⟨rfl, _, uw3, rfl⟩
theorem nm4f_gt_e (B : Nat) (s P R0 T : ByteArray) (v : Int) (w : World) (hB : w.cell? ⟨B, 0, none⟩ = some (.string s)) (hz : w.frozen? ⟨B, 0, none⟩ = false) (hl : B < w.heap.size) (hE : EnvK w) (hP : P.size ≤ 1000) (hR : R0.size ≤ 1000)
  (HC : Hid (∀ W, EnvK W → Calls Tryz.prog 130 #[.string s, .string ⟨#[45]⟩] W fun e w' => e = .returned (.tuple #[.string P, .string R0, .bool false]) ∧ Dn W w')) (h : 4 < P.size) (h48 : P[0]'(by omega) ≠ 48) (HT : Hid (∀ W, Calls Tryz.prog 131 #[.string P, .string ⟨#[48]⟩] W fun e w' => e = .returned (.string ⟨#[]⟩) ∧ W = w')) (HP : Hid (∀ W, EnvK W → Calls Tryz.prog 132 #[.string ⟨#[48]⟩] W fun e w' => e = .returned (.tuple #[.int .i64 v, .int .i64 0]) ∧ Dn W w')) :
  Calls Tryz.prog 88 #[.pointer (some ⟨B, 0, none⟩), .int .i64 4, .bool true] w fun e w' => e = .returned (.int .i64 v) ∧ ∃ W, Dn w W ∧ w' = W.setCell ⟨B, 0, none⟩ (.string R0) := by
 have z1 : ¬ (9223372036854775807 < R0.size + 1) := by omega
 have z2 : ¬ (9223372036854775807 < 1 + R0.size) := by omega
 have h0 : 0 < P.size := by omega
 have q1 : decide ((P.size : Int) < 4) = false := by simp; omega
 have q2 : decide (4 < (P.size : Int)) = true := by simp; omega
 have q3 : ¬ P.size < 4 := by omega
 have q5 : ((P[0].toNat : Int) == 48) = false := by rw [beq_eq_false_iff_ne]; intro e; exact h48 (UInt8.toNat_inj.1 (by have : (48 : UInt8).toNat = 48 := rfl; omega))
 clear h48
 clear hP hR
 go_enter Tryz.func88, Tryz.ntmps88
 go_wp2_with fail
 refine (HC.out _ hE).mono ?_
 rintro e w1 ⟨rfl, qw1⟩
 have f1 := (qw1.frozen (a := ⟨B, 0, none⟩) hl).trans hz
 have l2 := nlt hl qw1.size
 have c3 := qw1.cell hB
 clear hz hl hB
 have uw1 := qw1
 clear qw1
 go_wp2_with fail
 refine (HT.out _).mono ?_
 rintro e w2 ⟨rfl, rfl⟩
 go_wp2_with fail
 refine (HP.out _ (hE.dn uw1)).mono ?_
 rintro e w3 ⟨rfl, qw3⟩
 have f4 := (qw3.frozen (a := ⟨B, 0, none⟩) l2).trans f1
 have l5 := nlt l2 qw3.size
 have c6 := qw3.cell c3
 clear f1 l2 c3
 have uw3 := uw1.trans qw3
 clear qw3 uw1
 go_wp2_with fail
 go_ret
 exact ⟨rfl, _, uw3, rfl⟩
theorem nm4f_gt_ok (B : Nat) (s P R0 T : ByteArray) (v : Int) (w : World) (hB : w.cell? ⟨B, 0, none⟩ = some (.string s)) (hz : w.frozen? ⟨B, 0, none⟩ = false) (hl : B < w.heap.size) (hE : EnvK w) (hP : P.size ≤ 1000) (hR : R0.size ≤ 1000)
  (HC : Hid (∀ W, EnvK W → Calls Tryz.prog 130 #[.string s, .string ⟨#[45]⟩] W fun e w' => e = .returned (.tuple #[.string P, .string R0, .bool false]) ∧ Dn W w')) (h : 4 < P.size) (h48 : P[0]'(by omega) ≠ 48) (hT : T.toList ≠ []) (HT : Hid (∀ W, Calls Tryz.prog 131 #[.string P, .string ⟨#[48]⟩] W fun e w' => e = .returned (.string T) ∧ W = w')) (HP : Hid (∀ W, EnvK W → Calls Tryz.prog 132 #[.string T] W fun e w' => e = .returned (.tuple #[.int .i64 v, .int .i64 0]) ∧ Dn W w')) :
  Calls Tryz.prog 88 #[.pointer (some ⟨B, 0, none⟩), .int .i64 4, .bool true] w fun e w' => e = .returned (.int .i64 v) ∧ ∃ W, Dn w W ∧ w' = W.setCell ⟨B, 0, none⟩ (.string R0) := by
 have z1 : ¬ (9223372036854775807 < R0.size + 1) := by omega
 have z2 : ¬ (9223372036854775807 < 1 + R0.size) := by omega
 have h0 : 0 < P.size := by omega
 have q1 : decide ((P.size : Int) < 4) = false := by simp; omega
 have q2 : decide (4 < (P.size : Int)) = true := by simp; omega
 have q3 : ¬ P.size < 4 := by omega
 have q5 : ((P[0].toNat : Int) == 48) = false := by rw [beq_eq_false_iff_ne]; intro e; exact h48 (UInt8.toNat_inj.1 (by have : (48 : UInt8).toNat = 48 := rfl; omega))
 clear h48
 have e1 : (T.toList == []) = false := by simpa using hT
 have e2 : T.toList.isEmpty = false := by simpa using hT
 clear hP hR
 go_enter Tryz.func88, Tryz.ntmps88
 go_wp2_with fail
 refine (HC.out _ hE).mono ?_
 rintro e w1 ⟨rfl, qw1⟩
 have f1 := (qw1.frozen (a := ⟨B, 0, none⟩) hl).trans hz
 have l2 := nlt hl qw1.size
 have c3 := qw1.cell hB
 clear hz hl hB
 have uw1 := qw1
 clear qw1
 go_wp2_with fail
 refine (HT.out _).mono ?_
 rintro e w2 ⟨rfl, rfl⟩
 go_wp2_with fail
 refine (HP.out _ (hE.dn uw1)).mono ?_
 rintro e w3 ⟨rfl, qw3⟩
 have f4 := (qw3.frozen (a := ⟨B, 0, none⟩) l2).trans f1
 have l5 := nlt l2 qw3.size
 have c6 := qw3.cell c3
 clear f1 l2 c3
 have uw3 := uw1.trans qw3
 clear qw3 uw1
 go_wp2_with fail
 go_ret
 exact ⟨rfl, _, uw3, rfl⟩
theorem nm4f_gt_bad (B : Nat) (s P R0 T : ByteArray) (v : Int) (w : World) (hB : w.cell? ⟨B, 0, none⟩ = some (.string s)) (hz : w.frozen? ⟨B, 0, none⟩ = false) (hl : B < w.heap.size) (hE : EnvK w) (hP : P.size ≤ 1000) (hR : R0.size ≤ 1000)
  (HC : Hid (∀ W, EnvK W → Calls Tryz.prog 130 #[.string s, .string ⟨#[45]⟩] W fun e w' => e = .returned (.tuple #[.string P, .string R0, .bool false]) ∧ Dn W w')) (h : 4 < P.size) (h48 : P[0]'(by omega) ≠ 48) (hT : T.toList ≠ []) (HT : Hid (∀ W, Calls Tryz.prog 131 #[.string P, .string ⟨#[48]⟩] W fun e w' => e = .returned (.string T) ∧ W = w')) (HP : Hid (∀ W, EnvK W → Calls Tryz.prog 132 #[.string T] W fun e w' => e = .returned (.tuple #[.int .i64 0, .int .i64 5]) ∧ Dn W w')) :
  Calls Tryz.prog 88 #[.pointer (some ⟨B, 0, none⟩), .int .i64 4, .bool true] w fun e w' => e = .panicked (pF 5) ∧ Dn w w' := by
 have z1 : ¬ (9223372036854775807 < R0.size + 1) := by omega
 have z2 : ¬ (9223372036854775807 < 1 + R0.size) := by omega
 have h0 : 0 < P.size := by omega
 have q1 : decide ((P.size : Int) < 4) = false := by simp; omega
 have q2 : decide (4 < (P.size : Int)) = true := by simp; omega
 have q3 : ¬ P.size < 4 := by omega
 have q5 : ((P[0].toNat : Int) == 48) = false := by rw [beq_eq_false_iff_ne]; intro e; exact h48 (UInt8.toNat_inj.1 (by have : (48 : UInt8).toNat = 48 := rfl; omega))
 clear h48
 have e1 : (T.toList == []) = false := by simpa using hT
 have e2 : T.toList.isEmpty = false := by simpa using hT
 clear hP hR
 go_enter Tryz.func88, Tryz.ntmps88
 go_wp2_with fail
 refine (HC.out _ hE).mono ?_
 rintro e w1 ⟨rfl, qw1⟩
 have f1 := (qw1.frozen (a := ⟨B, 0, none⟩) hl).trans hz
 have l2 := nlt hl qw1.size
 have c3 := qw1.cell hB
 clear hz hl hB
 have uw1 := qw1
 clear qw1
 go_wp2_with fail
 refine (HT.out _).mono ?_
 rintro e w2 ⟨rfl, rfl⟩
 go_wp2_with fail
 refine (HP.out _ (hE.dn uw1)).mono ?_
 rintro e w3 ⟨rfl, qw3⟩
 have f4 := (qw3.frozen (a := ⟨B, 0, none⟩) l2).trans f1
 have l5 := nlt l2 qw3.size
 have c6 := qw3.cell c3
 clear f1 l2 c3
 have uw3 := uw1.trans qw3
 clear qw3 uw1
 go_wp2_with fail
 exact ⟨rfl, rfl, uw3⟩
theorem nm4f_gt_over (B : Nat) (s P R0 T : ByteArray) (v : Int) (w : World) (hB : w.cell? ⟨B, 0, none⟩ = some (.string s)) (hz : w.frozen? ⟨B, 0, none⟩ = false) (hl : B < w.heap.size) (hE : EnvK w) (hP : P.size ≤ 1000) (hR : R0.size ≤ 1000)
  (HC : Hid (∀ W, EnvK W → Calls Tryz.prog 130 #[.string s, .string ⟨#[45]⟩] W fun e w' => e = .returned (.tuple #[.string P, .string R0, .bool false]) ∧ Dn W w')) (h : 4 < P.size) (h48 : P[0]'(by omega) ≠ 48) (hT : T.toList ≠ []) (HT : Hid (∀ W, Calls Tryz.prog 131 #[.string P, .string ⟨#[48]⟩] W fun e w' => e = .returned (.string T) ∧ W = w')) (HP : Hid (∀ W, EnvK W → Calls Tryz.prog 132 #[.string T] W fun e w' => e = .returned (.tuple #[.int .i64 0, .int .i64 15]) ∧ Dn W w')) :
  Calls Tryz.prog 88 #[.pointer (some ⟨B, 0, none⟩), .int .i64 4, .bool true] w fun e w' => e = .returned (.int .i64 9223372036854775807) ∧ ∃ W, Dn w W ∧ w' = W.setCell ⟨B, 0, none⟩ (.string R0) := by
 have z1 : ¬ (9223372036854775807 < R0.size + 1) := by omega
 have z2 : ¬ (9223372036854775807 < 1 + R0.size) := by omega
 have h0 : 0 < P.size := by omega
 have q1 : decide ((P.size : Int) < 4) = false := by simp; omega
 have q2 : decide (4 < (P.size : Int)) = true := by simp; omega
 have q3 : ¬ P.size < 4 := by omega
 have q5 : ((P[0].toNat : Int) == 48) = false := by rw [beq_eq_false_iff_ne]; intro e; exact h48 (UInt8.toNat_inj.1 (by have : (48 : UInt8).toNat = 48 := rfl; omega))
 clear h48
 have e1 : (T.toList == []) = false := by simpa using hT
 have e2 : T.toList.isEmpty = false := by simpa using hT
 clear hP hR
 go_enter Tryz.func88, Tryz.ntmps88
 go_wp2_with fail
 refine (HC.out _ hE).mono ?_
 rintro e w1 ⟨rfl, qw1⟩
 have f1 := (qw1.frozen (a := ⟨B, 0, none⟩) hl).trans hz
 have l2 := nlt hl qw1.size
 have c3 := qw1.cell hB
 clear hz hl hB
 have uw1 := qw1
 clear qw1
 go_wp2_with fail
 refine (HT.out _).mono ?_
 rintro e w2 ⟨rfl, rfl⟩
 go_wp2_with fail
 refine (HP.out _ (hE.dn uw1)).mono ?_
 rintro e w3 ⟨rfl, qw3⟩
 have f4 := (qw3.frozen (a := ⟨B, 0, none⟩) l2).trans f1
 have l5 := nlt l2 qw3.size
 have c6 := qw3.cell c3
 clear f1 l2 c3
 have uw3 := uw1.trans qw3
 clear qw3 uw1
 go_wp2_with fail
 go_ret
 exact ⟨rfl, _, uw3, rfl⟩
theorem nm2f_lt (B : Nat) (s P R0 T : ByteArray) (v : Int) (w : World) (hB : w.cell? ⟨B, 0, none⟩ = some (.string s)) (hz : w.frozen? ⟨B, 0, none⟩ = false) (hl : B < w.heap.size) (hE : EnvK w) (hP : P.size ≤ 1000) (hR : R0.size ≤ 1000)
  (HC : Hid (∀ W, EnvK W → Calls Tryz.prog 130 #[.string s, .string ⟨#[45]⟩] W fun e w' => e = .returned (.tuple #[.string P, .string R0, .bool false]) ∧ Dn W w')) (h : P.size < 2) :
  Calls Tryz.prog 88 #[.pointer (some ⟨B, 0, none⟩), .int .i64 2, .bool false] w fun e w' => e = .panicked (pF 5) ∧ Dn w w' := by
 have z1 : ¬ (9223372036854775807 < R0.size + 1) := by omega
 have z2 : ¬ (9223372036854775807 < 1 + R0.size) := by omega
 have q1 : decide ((P.size : Int) < 2) = true := by simp; omega
 clear hP hR
 go_enter Tryz.func88, Tryz.ntmps88
 go_wp2_with fail
 refine (HC.out _ hE).mono ?_
 rintro e w1 ⟨rfl, qw1⟩
 have f1 := (qw1.frozen (a := ⟨B, 0, none⟩) hl).trans hz
 have l2 := nlt hl qw1.size
 have c3 := qw1.cell hB
 clear hz hl hB
 have uw1 := qw1
 clear qw1
 go_wp2_with fail
 exact ⟨rfl, rfl, uw1⟩
theorem nm2f_gt (B : Nat) (s P R0 T : ByteArray) (v : Int) (w : World) (hB : w.cell? ⟨B, 0, none⟩ = some (.string s)) (hz : w.frozen? ⟨B, 0, none⟩ = false) (hl : B < w.heap.size) (hE : EnvK w) (hP : P.size ≤ 1000) (hR : R0.size ≤ 1000)
  (HC : Hid (∀ W, EnvK W → Calls Tryz.prog 130 #[.string s, .string ⟨#[45]⟩] W fun e w' => e = .returned (.tuple #[.string P, .string R0, .bool false]) ∧ Dn W w')) (h : 2 < P.size) :
  Calls Tryz.prog 88 #[.pointer (some ⟨B, 0, none⟩), .int .i64 2, .bool false] w fun e w' => e = .panicked (pF 5) ∧ Dn w w' := by
 have z1 : ¬ (9223372036854775807 < R0.size + 1) := by omega
 have z2 : ¬ (9223372036854775807 < 1 + R0.size) := by omega
 have q1 : decide ((P.size : Int) < 2) = false := by simp; omega
 have q2 : decide (2 < (P.size : Int)) = true := by simp; omega
 have q3 : ¬ P.size < 2 := by omega
 clear hP hR
 go_enter Tryz.func88, Tryz.ntmps88
 go_wp2_with fail
 refine (HC.out _ hE).mono ?_
 rintro e w1 ⟨rfl, qw1⟩
 have f1 := (qw1.frozen (a := ⟨B, 0, none⟩) hl).trans hz
 have l2 := nlt hl qw1.size
 have c3 := qw1.cell hB
 clear hz hl hB
 have uw1 := qw1
 clear qw1
 go_wp2_with fail
 exact ⟨rfl, rfl, uw1⟩
theorem nm2f_eq_e (B : Nat) (s P R0 T : ByteArray) (v : Int) (w : World) (hB : w.cell? ⟨B, 0, none⟩ = some (.string s)) (hz : w.frozen? ⟨B, 0, none⟩ = false) (hl : B < w.heap.size) (hE : EnvK w) (hP : P.size ≤ 1000) (hR : R0.size ≤ 1000)
  (HC : Hid (∀ W, EnvK W → Calls Tryz.prog 130 #[.string s, .string ⟨#[45]⟩] W fun e w' => e = .returned (.tuple #[.string P, .string R0, .bool false]) ∧ Dn W w')) (h : P.size = 2) (HT : Hid (∀ W, Calls Tryz.prog 131 #[.string P, .string ⟨#[48]⟩] W fun e w' => e = .returned (.string ⟨#[]⟩) ∧ W = w')) (HP : Hid (∀ W, EnvK W → Calls Tryz.prog 132 #[.string ⟨#[48]⟩] W fun e w' => e = .returned (.tuple #[.int .i64 v, .int .i64 0]) ∧ Dn W w')) :
  Calls Tryz.prog 88 #[.pointer (some ⟨B, 0, none⟩), .int .i64 2, .bool false] w fun e w' => e = .returned (.int .i64 v) ∧ ∃ W, Dn w W ∧ w' = W.setCell ⟨B, 0, none⟩ (.string R0) := by
 have z1 : ¬ (9223372036854775807 < R0.size + 1) := by omega
 have z2 : ¬ (9223372036854775807 < 1 + R0.size) := by omega
 have q1 : decide ((P.size : Int) < 2) = false := by simp; omega
 have q2 : decide (2 < (P.size : Int)) = false := by simp; omega
 have q3 : ¬ P.size < 2 := by omega
 have q4 : ¬ 2 < P.size := by omega
 clear h
 clear hP hR
 go_enter Tryz.func88, Tryz.ntmps88
 go_wp2_with fail
 refine (HC.out _ hE).mono ?_
 rintro e w1 ⟨rfl, qw1⟩
 have f1 := (qw1.frozen (a := ⟨B, 0, none⟩) hl).trans hz
 have l2 := nlt hl qw1.size
 have c3 := qw1.cell hB
 clear hz hl hB
 have uw1 := qw1
 clear qw1
 go_wp2_with fail
 refine (HT.out _).mono ?_
 rintro e w2 ⟨rfl, rfl⟩
 go_wp2_with fail
 refine (HP.out _ (hE.dn uw1)).mono ?_
 rintro e w3 ⟨rfl, qw3⟩
 have f4 := (qw3.frozen (a := ⟨B, 0, none⟩) l2).trans f1
 have l5 := nlt l2 qw3.size
 have c6 := qw3.cell c3
 clear f1 l2 c3
 have uw3 := uw1.trans qw3
 clear qw3 uw1
 go_wp2_with fail
 go_ret
 exact ⟨rfl, _, uw3, rfl⟩
theorem nm2f_eq_ok (B : Nat) (s P R0 T : ByteArray) (v : Int) (w : World) (hB : w.cell? ⟨B, 0, none⟩ = some (.string s)) (hz : w.frozen? ⟨B, 0, none⟩ = false) (hl : B < w.heap.size) (hE : EnvK w) (hP : P.size ≤ 1000) (hR : R0.size ≤ 1000)
  (HC : Hid (∀ W, EnvK W → Calls Tryz.prog 130 #[.string s, .string ⟨#[45]⟩] W fun e w' => e = .returned (.tuple #[.string P, .string R0, .bool false]) ∧ Dn W w')) (h : P.size = 2) (hT : T.toList ≠ []) (HT : Hid (∀ W, Calls Tryz.prog 131 #[.string P, .string ⟨#[48]⟩] W fun e w' => e = .returned (.string T) ∧ W = w')) (HP : Hid (∀ W, EnvK W → Calls Tryz.prog 132 #[.string T] W fun e w' => e = .returned (.tuple #[.int .i64 v, .int .i64 0]) ∧ Dn W w')) :
  Calls Tryz.prog 88 #[.pointer (some ⟨B, 0, none⟩), .int .i64 2, .bool false] w fun e w' => e = .returned (.int .i64 v) ∧ ∃ W, Dn w W ∧ w' = W.setCell ⟨B, 0, none⟩ (.string R0) := by
 have z1 : ¬ (9223372036854775807 < R0.size + 1) := by omega
 have z2 : ¬ (9223372036854775807 < 1 + R0.size) := by omega
 have q1 : decide ((P.size : Int) < 2) = false := by simp; omega
 have q2 : decide (2 < (P.size : Int)) = false := by simp; omega
 have q3 : ¬ P.size < 2 := by omega
 have q4 : ¬ 2 < P.size := by omega
 clear h
 have e1 : (T.toList == []) = false := by simpa using hT
 have e2 : T.toList.isEmpty = false := by simpa using hT
 clear hP hR
 go_enter Tryz.func88, Tryz.ntmps88
 go_wp2_with fail
 refine (HC.out _ hE).mono ?_
 rintro e w1 ⟨rfl, qw1⟩
 have f1 := (qw1.frozen (a := ⟨B, 0, none⟩) hl).trans hz
 have l2 := nlt hl qw1.size
 have c3 := qw1.cell hB
 clear hz hl hB
 have uw1 := qw1
 clear qw1
 go_wp2_with fail
 refine (HT.out _).mono ?_
 rintro e w2 ⟨rfl, rfl⟩
 go_wp2_with fail
 refine (HP.out _ (hE.dn uw1)).mono ?_
 rintro e w3 ⟨rfl, qw3⟩
 have f4 := (qw3.frozen (a := ⟨B, 0, none⟩) l2).trans f1
 have l5 := nlt l2 qw3.size
 have c6 := qw3.cell c3
 clear f1 l2 c3
 have uw3 := uw1.trans qw3
 clear qw3 uw1
 go_wp2_with fail
 go_ret
 exact ⟨rfl, _, uw3, rfl⟩
theorem nm2f_eq_bad (B : Nat) (s P R0 T : ByteArray) (v : Int) (w : World) (hB : w.cell? ⟨B, 0, none⟩ = some (.string s)) (hz : w.frozen? ⟨B, 0, none⟩ = false) (hl : B < w.heap.size) (hE : EnvK w) (hP : P.size ≤ 1000) (hR : R0.size ≤ 1000)
  (HC : Hid (∀ W, EnvK W → Calls Tryz.prog 130 #[.string s, .string ⟨#[45]⟩] W fun e w' => e = .returned (.tuple #[.string P, .string R0, .bool false]) ∧ Dn W w')) (h : P.size = 2) (hT : T.toList ≠ []) (HT : Hid (∀ W, Calls Tryz.prog 131 #[.string P, .string ⟨#[48]⟩] W fun e w' => e = .returned (.string T) ∧ W = w')) (HP : Hid (∀ W, EnvK W → Calls Tryz.prog 132 #[.string T] W fun e w' => e = .returned (.tuple #[.int .i64 0, .int .i64 5]) ∧ Dn W w')) :
  Calls Tryz.prog 88 #[.pointer (some ⟨B, 0, none⟩), .int .i64 2, .bool false] w fun e w' => e = .panicked (pF 5) ∧ Dn w w' := by
 have z1 : ¬ (9223372036854775807 < R0.size + 1) := by omega
 have z2 : ¬ (9223372036854775807 < 1 + R0.size) := by omega
 have q1 : decide ((P.size : Int) < 2) = false := by simp; omega
 have q2 : decide (2 < (P.size : Int)) = false := by simp; omega
 have q3 : ¬ P.size < 2 := by omega
 have q4 : ¬ 2 < P.size := by omega
 clear h
 have e1 : (T.toList == []) = false := by simpa using hT
 have e2 : T.toList.isEmpty = false := by simpa using hT
 clear hP hR
 go_enter Tryz.func88, Tryz.ntmps88
 go_wp2_with fail
 refine (HC.out _ hE).mono ?_
 rintro e w1 ⟨rfl, qw1⟩
 have f1 := (qw1.frozen (a := ⟨B, 0, none⟩) hl).trans hz
 have l2 := nlt hl qw1.size
 have c3 := qw1.cell hB
 clear hz hl hB
 have uw1 := qw1
 clear qw1
 go_wp2_with fail
 refine (HT.out _).mono ?_
 rintro e w2 ⟨rfl, rfl⟩
 go_wp2_with fail
 refine (HP.out _ (hE.dn uw1)).mono ?_
 rintro e w3 ⟨rfl, qw3⟩
 have f4 := (qw3.frozen (a := ⟨B, 0, none⟩) l2).trans f1
 have l5 := nlt l2 qw3.size
 have c6 := qw3.cell c3
 clear f1 l2 c3
 have uw3 := uw1.trans qw3
 clear qw3 uw1
 go_wp2_with fail
 exact ⟨rfl, rfl, uw3⟩
end Go.Proofs.YteodjglbpfmikaaGreatDoor
