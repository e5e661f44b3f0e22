/-
  WALKS OF circa/civils: the reader's number. (Printed by wip/gen/civ2.py.)
-/
import Derived.Test.YtopbbcbpanfigaaGreatDoorCivB
import Derived.Test.YtopbbcbpanfigaaGreatDoorIntsE
namespace Go.Proofs.YtopbbcbpanfigaaGreatDoor
open Go.RowKit
set_option linter.unusedVariables false
set_option linter.unusedSimpArgs false
set_option maxHeartbeats 2000000 in
set_option maxRecDepth 100000 in
theorem nm4t_lt (B : Nat) (s P R0 T : ByteArray) (v : Int) (w : World) (hB : w.cell? ⟨B, 0, none⟩ = some (.string s)) (hz : w.frozen? ⟨B, 0, none⟩ = false) (hl : B < w.heap.size) (hE : EnvC w) (hP : P.size ≤ 1000) (hR : R0.size ≤ 1000)
    (HC : Hid (∀ W, EnvC W → Calls Tryz.prog 71 #[.string s, .string ⟨#[45]⟩] W fun e w' => e = .returned (.tuple #[.string P, .string R0, .bool true]) ∧ Dn W w')) (h : P.size < 4) :
    Calls Tryz.prog 48 #[.pointer (some ⟨B, 0, none⟩), .int .i64 4, .bool true] w fun e w' => e = .panicked (pF 5) ∧ Dn w w' := by
  have z1 : ¬ (9223372036854775807 < R0.size + 1) := by omega
  have z2 : ¬ (9223372036854775807 < 1 + R0.size) := by omega
  have q1 : decide ((P.size : Int) < 4) = true := by simp; omega
  clear hP hR
  go_enter Tryz.func48, Tryz.ntmps48
  go_wp2_with fail
  refine (HC.out _ hE).mono ?_
  rintro e w1 ⟨rfl, qw1⟩
  have f1 := (qw1.frozen (a := ⟨B, 0, none⟩) hl).trans hz
  have l2 := Nat.lt_of_lt_of_le hl qw1.size
  have c3 := qw1.cell hB
  clear hz hl hB
  have uw1 := qw1
  clear qw1
  go_wp2_with fail
  exact ⟨rfl, rfl, uw1⟩
set_option maxHeartbeats 2000000 in
set_option maxRecDepth 100000 in
theorem nm4t_zero (B : Nat) (s P R0 T : ByteArray) (v : Int) (w : World) (hB : w.cell? ⟨B, 0, none⟩ = some (.string s)) (hz : w.frozen? ⟨B, 0, none⟩ = false) (hl : B < w.heap.size) (hE : EnvC w) (hP : P.size ≤ 1000) (hR : R0.size ≤ 1000)
    (HC : Hid (∀ W, EnvC W → Calls Tryz.prog 71 #[.string s, .string ⟨#[45]⟩] W fun e w' => e = .returned (.tuple #[.string P, .string R0, .bool true]) ∧ Dn W w')) (h : 4 < P.size) (h48 : P[0]'(by omega) = 48) :
    Calls Tryz.prog 48 #[.pointer (some ⟨B, 0, none⟩), .int .i64 4, .bool true] w fun e w' => e = .panicked (pF 5) ∧ Dn w w' := by
  have z1 : ¬ (9223372036854775807 < R0.size + 1) := by omega
  have z2 : ¬ (9223372036854775807 < 1 + R0.size) := by omega
  have h0 : 0 < P.size := by omega
  have q1 : decide ((P.size : Int) < 4) = false := by simp; omega
  have q2 : decide (4 < (P.size : Int)) = true := by simp; omega
  have q3 : ¬ P.size < 4 := by omega
  have q5 : ((P[0].toNat : Int) == 48) = true := by rw [h48]; rfl
  clear h48
  clear hP hR
  go_enter Tryz.func48, Tryz.ntmps48
  go_wp2_with fail
  refine (HC.out _ hE).mono ?_
  rintro e w1 ⟨rfl, qw1⟩
  have f1 := (qw1.frozen (a := ⟨B, 0, none⟩) hl).trans hz
  have l2 := Nat.lt_of_lt_of_le hl qw1.size
  have c3 := qw1.cell hB
  clear hz hl hB
  have uw1 := qw1
  clear qw1
  go_wp2_with fail
  exact ⟨rfl, rfl, uw1⟩
set_option maxHeartbeats 2000000 in
set_option maxRecDepth 100000 in
theorem nm4t_eq_e (B : Nat) (s P R0 T : ByteArray) (v : Int) (w : World) (hB : w.cell? ⟨B, 0, none⟩ = some (.string s)) (hz : w.frozen? ⟨B, 0, none⟩ = false) (hl : B < w.heap.size) (hE : EnvC w) (hP : P.size ≤ 1000) (hR : R0.size ≤ 1000)
    (HC : Hid (∀ W, EnvC W → Calls Tryz.prog 71 #[.string s, .string ⟨#[45]⟩] W fun e w' => e = .returned (.tuple #[.string P, .string R0, .bool true]) ∧ Dn W w')) (h : P.size = 4) (HT : Hid (∀ W, Calls Tryz.prog 72 #[.string P, .string ⟨#[48]⟩] W fun e w' => e = .returned (.string ⟨#[]⟩) ∧ W = w')) (HP : Hid (∀ W, EnvC W → Calls Tryz.prog 73 #[.string ⟨#[48]⟩] W fun e w' => e = .returned (.tuple #[.int .i64 v, .int .i64 0]) ∧ Dn W w')) :
    Calls Tryz.prog 48 #[.pointer (some ⟨B, 0, none⟩), .int .i64 4, .bool true] w fun e w' => e = .returned (.int .i64 v) ∧ ∃ W, Dn w W ∧ w' = W.setCell ⟨B, 0, none⟩ (.string (⟨#[45]⟩ ++ R0)) := by
  have z1 : ¬ (9223372036854775807 < R0.size + 1) := by omega
  have z2 : ¬ (9223372036854775807 < 1 + R0.size) := by omega
  have q1 : decide ((P.size : Int) < 4) = false := by simp; omega
  have q2 : decide (4 < (P.size : Int)) = false := by simp; omega
  have q3 : ¬ P.size < 4 := by omega
  have q4 : ¬ 4 < P.size := by omega
  clear h
  clear hP hR
  go_enter Tryz.func48, Tryz.ntmps48
  go_wp2_with fail
  refine (HC.out _ hE).mono ?_
  rintro e w1 ⟨rfl, qw1⟩
  have f1 := (qw1.frozen (a := ⟨B, 0, none⟩) hl).trans hz
  have l2 := Nat.lt_of_lt_of_le hl qw1.size
  have c3 := qw1.cell hB
  clear hz hl hB
  have uw1 := qw1
  clear qw1
  go_wp2_with fail
  refine (HT.out _).mono ?_
  rintro e w2 ⟨rfl, rfl⟩
  go_wp2_with fail
  refine (HP.out _ (hE.dn uw1)).mono ?_
  rintro e w3 ⟨rfl, qw3⟩
  have f4 := (qw3.frozen (a := ⟨B, 0, none⟩) l2).trans f1
  have l5 := Nat.lt_of_lt_of_le l2 qw3.size
  have c6 := qw3.cell c3
  clear f1 l2 c3
  have uw3 := uw1.trans qw3
  clear qw3 uw1
  go_wp2_with fail
  go_ret
  exact ⟨rfl, _, uw3, rfl⟩
set_option maxHeartbeats 2000000 in
set_option maxRecDepth 100000 in
theorem nm4t_eq_ok (B : Nat) (s P R0 T : ByteArray) (v : Int) (w : World) (hB : w.cell? ⟨B, 0, none⟩ = some (.string s)) (hz : w.frozen? ⟨B, 0, none⟩ = false) (hl : B < w.heap.size) (hE : EnvC w) (hP : P.size ≤ 1000) (hR : R0.size ≤ 1000)
    (HC : Hid (∀ W, EnvC W → Calls Tryz.prog 71 #[.string s, .string ⟨#[45]⟩] W fun e w' => e = .returned (.tuple #[.string P, .string R0, .bool true]) ∧ Dn W w')) (h : P.size = 4) (hT : T.toList ≠ []) (HT : Hid (∀ W, Calls Tryz.prog 72 #[.string P, .string ⟨#[48]⟩] W fun e w' => e = .returned (.string T) ∧ W = w')) (HP : Hid (∀ W, EnvC W → Calls Tryz.prog 73 #[.string T] W fun e w' => e = .returned (.tuple #[.int .i64 v, .int .i64 0]) ∧ Dn W w')) :
    Calls Tryz.prog 48 #[.pointer (some ⟨B, 0, none⟩), .int .i64 4, .bool true] w fun e w' => e = .returned (.int .i64 v) ∧ ∃ W, Dn w W ∧ w' = W.setCell ⟨B, 0, none⟩ (.string (⟨#[45]⟩ ++ R0)) := by
  have z1 : ¬ (9223372036854775807 < R0.size + 1) := by omega
  have z2 : ¬ (9223372036854775807 < 1 + R0.size) := by omega
  have q1 : decide ((P.size : Int) < 4) = false := by simp; omega
  have q2 : decide (4 < (P.size : Int)) = false := by simp; omega
  have q3 : ¬ P.size < 4 := by omega
  have q4 : ¬ 4 < P.size := by omega
  clear h
  have e1 : (T.toList == []) = false := by simpa using hT
  have e2 : T.toList.isEmpty = false := by simpa using hT
  clear hP hR
  go_enter Tryz.func48, Tryz.ntmps48
  go_wp2_with fail
  refine (HC.out _ hE).mono ?_
  rintro e w1 ⟨rfl, qw1⟩
  have f1 := (qw1.frozen (a := ⟨B, 0, none⟩) hl).trans hz
  have l2 := Nat.lt_of_lt_of_le hl qw1.size
  have c3 := qw1.cell hB
  clear hz hl hB
  have uw1 := qw1
  clear qw1
  go_wp2_with fail
  refine (HT.out _).mono ?_
  rintro e w2 ⟨rfl, rfl⟩
  go_wp2_with fail
  refine (HP.out _ (hE.dn uw1)).mono ?_
  rintro e w3 ⟨rfl, qw3⟩
  have f4 := (qw3.frozen (a := ⟨B, 0, none⟩) l2).trans f1
  have l5 := Nat.lt_of_lt_of_le l2 qw3.size
  have c6 := qw3.cell c3
  clear f1 l2 c3
  have uw3 := uw1.trans qw3
  clear qw3 uw1
  go_wp2_with fail
  go_ret
  exact ⟨rfl, _, uw3, rfl⟩
set_option maxHeartbeats 2000000 in
set_option maxRecDepth 100000 in
theorem nm4t_eq_bad (B : Nat) (s P R0 T : ByteArray) (v : Int) (w : World) (hB : w.cell? ⟨B, 0, none⟩ = some (.string s)) (hz : w.frozen? ⟨B, 0, none⟩ = false) (hl : B < w.heap.size) (hE : EnvC w) (hP : P.size ≤ 1000) (hR : R0.size ≤ 1000)
    (HC : Hid (∀ W, EnvC W → Calls Tryz.prog 71 #[.string s, .string ⟨#[45]⟩] W fun e w' => e = .returned (.tuple #[.string P, .string R0, .bool true]) ∧ Dn W w')) (h : P.size = 4) (hT : T.toList ≠ []) (HT : Hid (∀ W, Calls Tryz.prog 72 #[.string P, .string ⟨#[48]⟩] W fun e w' => e = .returned (.string T) ∧ W = w')) (HP : Hid (∀ W, EnvC W → Calls Tryz.prog 73 #[.string T] W fun e w' => e = .returned (.tuple #[.int .i64 0, .int .i64 5]) ∧ Dn W w')) :
    Calls Tryz.prog 48 #[.pointer (some ⟨B, 0, none⟩), .int .i64 4, .bool true] w fun e w' => e = .panicked (pF 5) ∧ Dn w w' := by
  have z1 : ¬ (9223372036854775807 < R0.size + 1) := by omega
  have z2 : ¬ (9223372036854775807 < 1 + R0.size) := by omega
  have q1 : decide ((P.size : Int) < 4) = false := by simp; omega
  have q2 : decide (4 < (P.size : Int)) = false := by simp; omega
  have q3 : ¬ P.size < 4 := by omega
  have q4 : ¬ 4 < P.size := by omega
  clear h
  have e1 : (T.toList == []) = false := by simpa using hT
  have e2 : T.toList.isEmpty = false := by simpa using hT
  clear hP hR
  go_enter Tryz.func48, Tryz.ntmps48
  go_wp2_with fail
  refine (HC.out _ hE).mono ?_
  rintro e w1 ⟨rfl, qw1⟩
  have f1 := (qw1.frozen (a := ⟨B, 0, none⟩) hl).trans hz
  have l2 := Nat.lt_of_lt_of_le hl qw1.size
  have c3 := qw1.cell hB
  clear hz hl hB
  have uw1 := qw1
  clear qw1
  go_wp2_with fail
  refine (HT.out _).mono ?_
  rintro e w2 ⟨rfl, rfl⟩
  go_wp2_with fail
  refine (HP.out _ (hE.dn uw1)).mono ?_
  rintro e w3 ⟨rfl, qw3⟩
  have f4 := (qw3.frozen (a := ⟨B, 0, none⟩) l2).trans f1
  have l5 := Nat.lt_of_lt_of_le l2 qw3.size
  have c6 := qw3.cell c3
  clear f1 l2 c3
  have uw3 := uw1.trans qw3
  clear qw3 uw1
  go_wp2_with fail
  exact ⟨rfl, rfl, uw3⟩
set_option maxHeartbeats 2000000 in
set_option maxRecDepth 100000 in
theorem nm4t_eq_over (B : Nat) (s P R0 T : ByteArray) (v : Int) (w : World) (hB : w.cell? ⟨B, 0, none⟩ = some (.string s)) (hz : w.frozen? ⟨B, 0, none⟩ = false) (hl : B < w.heap.size) (hE : EnvC w) (hP : P.size ≤ 1000) (hR : R0.size ≤ 1000)
    (HC : Hid (∀ W, EnvC W → Calls Tryz.prog 71 #[.string s, .string ⟨#[45]⟩] W fun e w' => e = .returned (.tuple #[.string P, .string R0, .bool true]) ∧ Dn W w')) (h : P.size = 4) (hT : T.toList ≠ []) (HT : Hid (∀ W, Calls Tryz.prog 72 #[.string P, .string ⟨#[48]⟩] W fun e w' => e = .returned (.string T) ∧ W = w')) (HP : Hid (∀ W, EnvC W → Calls Tryz.prog 73 #[.string T] W fun e w' => e = .returned (.tuple #[.int .i64 0, .int .i64 15]) ∧ Dn W w')) :
    Calls Tryz.prog 48 #[.pointer (some ⟨B, 0, none⟩), .int .i64 4, .bool true] w fun e w' => e = .returned (.int .i64 9223372036854775807) ∧ ∃ W, Dn w W ∧ w' = W.setCell ⟨B, 0, none⟩ (.string (⟨#[45]⟩ ++ R0)) := by
  have z1 : ¬ (9223372036854775807 < R0.size + 1) := by omega
  have z2 : ¬ (9223372036854775807 < 1 + R0.size) := by omega
  have q1 : decide ((P.size : Int) < 4) = false := by simp; omega
  have q2 : decide (4 < (P.size : Int)) = false := by simp; omega
  have q3 : ¬ P.size < 4 := by omega
  have q4 : ¬ 4 < P.size := by omega
  clear h
  have e1 : (T.toList == []) = false := by simpa using hT
  have e2 : T.toList.isEmpty = false := by simpa using hT
  clear hP hR
  go_enter Tryz.func48, Tryz.ntmps48
  go_wp2_with fail
  refine (HC.out _ hE).mono ?_
  rintro e w1 ⟨rfl, qw1⟩
  have f1 := (qw1.frozen (a := ⟨B, 0, none⟩) hl).trans hz
  have l2 := Nat.lt_of_lt_of_le hl qw1.size
  have c3 := qw1.cell hB
  clear hz hl hB
  have uw1 := qw1
  clear qw1
  go_wp2_with fail
  refine (HT.out _).mono ?_
  rintro e w2 ⟨rfl, rfl⟩
  go_wp2_with fail
  refine (HP.out _ (hE.dn uw1)).mono ?_
  rintro e w3 ⟨rfl, qw3⟩
  have f4 := (qw3.frozen (a := ⟨B, 0, none⟩) l2).trans f1
  have l5 := Nat.lt_of_lt_of_le l2 qw3.size
  have c6 := qw3.cell c3
  clear f1 l2 c3
  have uw3 := uw1.trans qw3
  clear qw3 uw1
  go_wp2_with fail
  go_ret
  exact ⟨rfl, _, uw3, rfl⟩
set_option maxHeartbeats 2000000 in
set_option maxRecDepth 100000 in
theorem nm4t_gt_e (B : Nat) (s P R0 T : ByteArray) (v : Int) (w : World) (hB : w.cell? ⟨B, 0, none⟩ = some (.string s)) (hz : w.frozen? ⟨B, 0, none⟩ = false) (hl : B < w.heap.size) (hE : EnvC w) (hP : P.size ≤ 1000) (hR : R0.size ≤ 1000)
    (HC : Hid (∀ W, EnvC W → Calls Tryz.prog 71 #[.string s, .string ⟨#[45]⟩] W fun e w' => e = .returned (.tuple #[.string P, .string R0, .bool true]) ∧ Dn W w')) (h : 4 < P.size) (h48 : P[0]'(by omega) ≠ 48) (HT : Hid (∀ W, Calls Tryz.prog 72 #[.string P, .string ⟨#[48]⟩] W fun e w' => e = .returned (.string ⟨#[]⟩) ∧ W = w')) (HP : Hid (∀ W, EnvC W → Calls Tryz.prog 73 #[.string ⟨#[48]⟩] W fun e w' => e = .returned (.tuple #[.int .i64 v, .int .i64 0]) ∧ Dn W w')) :
    Calls Tryz.prog 48 #[.pointer (some ⟨B, 0, none⟩), .int .i64 4, .bool true] w fun e w' => e = .returned (.int .i64 v) ∧ ∃ W, Dn w W ∧ w' = W.setCell ⟨B, 0, none⟩ (.string (⟨#[45]⟩ ++ R0)) := by
  have z1 : ¬ (9223372036854775807 < R0.size + 1) := by omega
  have z2 : ¬ (9223372036854775807 < 1 + R0.size) := by omega
  have h0 : 0 < P.size := by omega
  have q1 : decide ((P.size : Int) < 4) = false := by simp; omega
  have q2 : decide (4 < (P.size : Int)) = true := by simp; omega
  have q3 : ¬ P.size < 4 := by omega
  have q5 : ((P[0].toNat : Int) == 48) = false := by rw [beq_eq_false_iff_ne]; intro e; exact h48 (UInt8.toNat_inj.1 (by have : (48 : UInt8).toNat = 48 := rfl; omega))
  clear h48
  clear hP hR
  go_enter Tryz.func48, Tryz.ntmps48
  go_wp2_with fail
  refine (HC.out _ hE).mono ?_
  rintro e w1 ⟨rfl, qw1⟩
  have f1 := (qw1.frozen (a := ⟨B, 0, none⟩) hl).trans hz
  have l2 := Nat.lt_of_lt_of_le hl qw1.size
  have c3 := qw1.cell hB
  clear hz hl hB
  have uw1 := qw1
  clear qw1
  go_wp2_with fail
  refine (HT.out _).mono ?_
  rintro e w2 ⟨rfl, rfl⟩
  go_wp2_with fail
  refine (HP.out _ (hE.dn uw1)).mono ?_
  rintro e w3 ⟨rfl, qw3⟩
  have f4 := (qw3.frozen (a := ⟨B, 0, none⟩) l2).trans f1
  have l5 := Nat.lt_of_lt_of_le l2 qw3.size
  have c6 := qw3.cell c3
  clear f1 l2 c3
  have uw3 := uw1.trans qw3
  clear qw3 uw1
  go_wp2_with fail
  go_ret
  exact ⟨rfl, _, uw3, rfl⟩
set_option maxHeartbeats 2000000 in
set_option maxRecDepth 100000 in
theorem nm4t_gt_ok (B : Nat) (s P R0 T : ByteArray) (v : Int) (w : World) (hB : w.cell? ⟨B, 0, none⟩ = some (.string s)) (hz : w.frozen? ⟨B, 0, none⟩ = false) (hl : B < w.heap.size) (hE : EnvC w) (hP : P.size ≤ 1000) (hR : R0.size ≤ 1000)
    (HC : Hid (∀ W, EnvC W → Calls Tryz.prog 71 #[.string s, .string ⟨#[45]⟩] W fun e w' => e = .returned (.tuple #[.string P, .string R0, .bool true]) ∧ Dn W w')) (h : 4 < P.size) (h48 : P[0]'(by omega) ≠ 48) (hT : T.toList ≠ []) (HT : Hid (∀ W, Calls Tryz.prog 72 #[.string P, .string ⟨#[48]⟩] W fun e w' => e = .returned (.string T) ∧ W = w')) (HP : Hid (∀ W, EnvC W → Calls Tryz.prog 73 #[.string T] W fun e w' => e = .returned (.tuple #[.int .i64 v, .int .i64 0]) ∧ Dn W w')) :
    Calls Tryz.prog 48 #[.pointer (some ⟨B, 0, none⟩), .int .i64 4, .bool true] w fun e w' => e = .returned (.int .i64 v) ∧ ∃ W, Dn w W ∧ w' = W.setCell ⟨B, 0, none⟩ (.string (⟨#[45]⟩ ++ R0)) := by
  have z1 : ¬ (9223372036854775807 < R0.size + 1) := by omega
  have z2 : ¬ (9223372036854775807 < 1 + R0.size) := by omega
  have h0 : 0 < P.size := by omega
  have q1 : decide ((P.size : Int) < 4) = false := by simp; omega
  have q2 : decide (4 < (P.size : Int)) = true := by simp; omega
  have q3 : ¬ P.size < 4 := by omega
  have q5 : ((P[0].toNat : Int) == 48) = false := by rw [beq_eq_false_iff_ne]; intro e; exact h48 (UInt8.toNat_inj.1 (by have : (48 : UInt8).toNat = 48 := rfl; omega))
  clear h48
  have e1 : (T.toList == []) = false := by simpa using hT
  have e2 : T.toList.isEmpty = false := by simpa using hT
  clear hP hR
  go_enter Tryz.func48, Tryz.ntmps48
  go_wp2_with fail
  refine (HC.out _ hE).mono ?_
  rintro e w1 ⟨rfl, qw1⟩
  have f1 := (qw1.frozen (a := ⟨B, 0, none⟩) hl).trans hz
  have l2 := Nat.lt_of_lt_of_le hl qw1.size
  have c3 := qw1.cell hB
  clear hz hl hB
  have uw1 := qw1
  clear qw1
  go_wp2_with fail
  refine (HT.out _).mono ?_
  rintro e w2 ⟨rfl, rfl⟩
  go_wp2_with fail
  refine (HP.out _ (hE.dn uw1)).mono ?_
  rintro e w3 ⟨rfl, qw3⟩
  have f4 := (qw3.frozen (a := ⟨B, 0, none⟩) l2).trans f1
  have l5 := Nat.lt_of_lt_of_le l2 qw3.size
  have c6 := qw3.cell c3
  clear f1 l2 c3
  have uw3 := uw1.trans qw3
  clear qw3 uw1
  go_wp2_with fail
  go_ret
  exact ⟨rfl, _, uw3, rfl⟩
set_option maxHeartbeats 2000000 in
set_option maxRecDepth 100000 in
theorem nm4t_gt_bad (B : Nat) (s P R0 T : ByteArray) (v : Int) (w : World) (hB : w.cell? ⟨B, 0, none⟩ = some (.string s)) (hz : w.frozen? ⟨B, 0, none⟩ = false) (hl : B < w.heap.size) (hE : EnvC w) (hP : P.size ≤ 1000) (hR : R0.size ≤ 1000)
    (HC : Hid (∀ W, EnvC W → Calls Tryz.prog 71 #[.string s, .string ⟨#[45]⟩] W fun e w' => e = .returned (.tuple #[.string P, .string R0, .bool true]) ∧ Dn W w')) (h : 4 < P.size) (h48 : P[0]'(by omega) ≠ 48) (hT : T.toList ≠ []) (HT : Hid (∀ W, Calls Tryz.prog 72 #[.string P, .string ⟨#[48]⟩] W fun e w' => e = .returned (.string T) ∧ W = w')) (HP : Hid (∀ W, EnvC W → Calls Tryz.prog 73 #[.string T] W fun e w' => e = .returned (.tuple #[.int .i64 0, .int .i64 5]) ∧ Dn W w')) :
    Calls Tryz.prog 48 #[.pointer (some ⟨B, 0, none⟩), .int .i64 4, .bool true] w fun e w' => e = .panicked (pF 5) ∧ Dn w w' := by
  have z1 : ¬ (9223372036854775807 < R0.size + 1) := by omega
  have z2 : ¬ (9223372036854775807 < 1 + R0.size) := by omega
  have h0 : 0 < P.size := by omega
  have q1 : decide ((P.size : Int) < 4) = false := by simp; omega
  have q2 : decide (4 < (P.size : Int)) = true := by simp; omega
  have q3 : ¬ P.size < 4 := by omega
  have q5 : ((P[0].toNat : Int) == 48) = false := by rw [beq_eq_false_iff_ne]; intro e; exact h48 (UInt8.toNat_inj.1 (by have : (48 : UInt8).toNat = 48 := rfl; omega))
  clear h48
  have e1 : (T.toList == []) = false := by simpa using hT
  have e2 : T.toList.isEmpty = false := by simpa using hT
  clear hP hR
  go_enter Tryz.func48, Tryz.ntmps48
  go_wp2_with fail
  refine (HC.out _ hE).mono ?_
  rintro e w1 ⟨rfl, qw1⟩
  have f1 := (qw1.frozen (a := ⟨B, 0, none⟩) hl).trans hz
  have l2 := Nat.lt_of_lt_of_le hl qw1.size
  have c3 := qw1.cell hB
  clear hz hl hB
  have uw1 := qw1
  clear qw1
  go_wp2_with fail
  refine (HT.out _).mono ?_
  rintro e w2 ⟨rfl, rfl⟩
  go_wp2_with fail
  refine (HP.out _ (hE.dn uw1)).mono ?_
  rintro e w3 ⟨rfl, qw3⟩
  have f4 := (qw3.frozen (a := ⟨B, 0, none⟩) l2).trans f1
  have l5 := Nat.lt_of_lt_of_le l2 qw3.size
  have c6 := qw3.cell c3
  clear f1 l2 c3
  have uw3 := uw1.trans qw3
  clear qw3 uw1
  go_wp2_with fail
  exact ⟨rfl, rfl, uw3⟩
set_option maxHeartbeats 2000000 in
set_option maxRecDepth 100000 in
theorem nm4t_gt_over (B : Nat) (s P R0 T : ByteArray) (v : Int) (w : World) (hB : w.cell? ⟨B, 0, none⟩ = some (.string s)) (hz : w.frozen? ⟨B, 0, none⟩ = false) (hl : B < w.heap.size) (hE : EnvC w) (hP : P.size ≤ 1000) (hR : R0.size ≤ 1000)
    (HC : Hid (∀ W, EnvC W → Calls Tryz.prog 71 #[.string s, .string ⟨#[45]⟩] W fun e w' => e = .returned (.tuple #[.string P, .string R0, .bool true]) ∧ Dn W w')) (h : 4 < P.size) (h48 : P[0]'(by omega) ≠ 48) (hT : T.toList ≠ []) (HT : Hid (∀ W, Calls Tryz.prog 72 #[.string P, .string ⟨#[48]⟩] W fun e w' => e = .returned (.string T) ∧ W = w')) (HP : Hid (∀ W, EnvC W → Calls Tryz.prog 73 #[.string T] W fun e w' => e = .returned (.tuple #[.int .i64 0, .int .i64 15]) ∧ Dn W w')) :
    Calls Tryz.prog 48 #[.pointer (some ⟨B, 0, none⟩), .int .i64 4, .bool true] w fun e w' => e = .returned (.int .i64 9223372036854775807) ∧ ∃ W, Dn w W ∧ w' = W.setCell ⟨B, 0, none⟩ (.string (⟨#[45]⟩ ++ R0)) := by
  have z1 : ¬ (9223372036854775807 < R0.size + 1) := by omega
  have z2 : ¬ (9223372036854775807 < 1 + R0.size) := by omega
  have h0 : 0 < P.size := by omega
  have q1 : decide ((P.size : Int) < 4) = false := by simp; omega
  have q2 : decide (4 < (P.size : Int)) = true := by simp; omega
  have q3 : ¬ P.size < 4 := by omega
  have q5 : ((P[0].toNat : Int) == 48) = false := by rw [beq_eq_false_iff_ne]; intro e; exact h48 (UInt8.toNat_inj.1 (by have : (48 : UInt8).toNat = 48 := rfl; omega))
  clear h48
  have e1 : (T.toList == []) = false := by simpa using hT
  have e2 : T.toList.isEmpty = false := by simpa using hT
  clear hP hR
  go_enter Tryz.func48, Tryz.ntmps48
  go_wp2_with fail
  refine (HC.out _ hE).mono ?_
  rintro e w1 ⟨rfl, qw1⟩
  have f1 := (qw1.frozen (a := ⟨B, 0, none⟩) hl).trans hz
  have l2 := Nat.lt_of_lt_of_le hl qw1.size
  have c3 := qw1.cell hB
  clear hz hl hB
  have uw1 := qw1
  clear qw1
  go_wp2_with fail
  refine (HT.out _).mono ?_
  rintro e w2 ⟨rfl, rfl⟩
  go_wp2_with fail
  refine (HP.out _ (hE.dn uw1)).mono ?_
  rintro e w3 ⟨rfl, qw3⟩
  have f4 := (qw3.frozen (a := ⟨B, 0, none⟩) l2).trans f1
  have l5 := Nat.lt_of_lt_of_le l2 qw3.size
  have c6 := qw3.cell c3
  clear f1 l2 c3
  have uw3 := uw1.trans qw3
  clear qw3 uw1
  go_wp2_with fail
  go_ret
  exact ⟨rfl, _, uw3, rfl⟩
set_option maxHeartbeats 2000000 in
set_option maxRecDepth 100000 in
theorem nm2t_lt (B : Nat) (s P R0 T : ByteArray) (v : Int) (w : World) (hB : w.cell? ⟨B, 0, none⟩ = some (.string s)) (hz : w.frozen? ⟨B, 0, none⟩ = false) (hl : B < w.heap.size) (hE : EnvC w) (hP : P.size ≤ 1000) (hR : R0.size ≤ 1000)
    (HC : Hid (∀ W, EnvC W → Calls Tryz.prog 71 #[.string s, .string ⟨#[45]⟩] W fun e w' => e = .returned (.tuple #[.string P, .string R0, .bool true]) ∧ Dn W w')) (h : P.size < 2) :
    Calls Tryz.prog 48 #[.pointer (some ⟨B, 0, none⟩), .int .i64 2, .bool false] w fun e w' => e = .panicked (pF 5) ∧ Dn w w' := by
  have z1 : ¬ (9223372036854775807 < R0.size + 1) := by omega
  have z2 : ¬ (9223372036854775807 < 1 + R0.size) := by omega
  have q1 : decide ((P.size : Int) < 2) = true := by simp; omega
  clear hP hR
  go_enter Tryz.func48, Tryz.ntmps48
  go_wp2_with fail
  refine (HC.out _ hE).mono ?_
  rintro e w1 ⟨rfl, qw1⟩
  have f1 := (qw1.frozen (a := ⟨B, 0, none⟩) hl).trans hz
  have l2 := Nat.lt_of_lt_of_le hl qw1.size
  have c3 := qw1.cell hB
  clear hz hl hB
  have uw1 := qw1
  clear qw1
  go_wp2_with fail
  exact ⟨rfl, rfl, uw1⟩
set_option maxHeartbeats 2000000 in
set_option maxRecDepth 100000 in
theorem nm2t_gt (B : Nat) (s P R0 T : ByteArray) (v : Int) (w : World) (hB : w.cell? ⟨B, 0, none⟩ = some (.string s)) (hz : w.frozen? ⟨B, 0, none⟩ = false) (hl : B < w.heap.size) (hE : EnvC w) (hP : P.size ≤ 1000) (hR : R0.size ≤ 1000)
    (HC : Hid (∀ W, EnvC W → Calls Tryz.prog 71 #[.string s, .string ⟨#[45]⟩] W fun e w' => e = .returned (.tuple #[.string P, .string R0, .bool true]) ∧ Dn W w')) (h : 2 < P.size) :
    Calls Tryz.prog 48 #[.pointer (some ⟨B, 0, none⟩), .int .i64 2, .bool false] w fun e w' => e = .panicked (pF 5) ∧ Dn w w' := by
  have z1 : ¬ (9223372036854775807 < R0.size + 1) := by omega
  have z2 : ¬ (9223372036854775807 < 1 + R0.size) := by omega
  have q1 : decide ((P.size : Int) < 2) = false := by simp; omega
  have q2 : decide (2 < (P.size : Int)) = true := by simp; omega
  have q3 : ¬ P.size < 2 := by omega
  clear hP hR
  go_enter Tryz.func48, Tryz.ntmps48
  go_wp2_with fail
  refine (HC.out _ hE).mono ?_
  rintro e w1 ⟨rfl, qw1⟩
  have f1 := (qw1.frozen (a := ⟨B, 0, none⟩) hl).trans hz
  have l2 := Nat.lt_of_lt_of_le hl qw1.size
  have c3 := qw1.cell hB
  clear hz hl hB
  have uw1 := qw1
  clear qw1
  go_wp2_with fail
  exact ⟨rfl, rfl, uw1⟩
set_option maxHeartbeats 2000000 in
set_option maxRecDepth 100000 in
theorem nm2t_eq_e (B : Nat) (s P R0 T : ByteArray) (v : Int) (w : World) (hB : w.cell? ⟨B, 0, none⟩ = some (.string s)) (hz : w.frozen? ⟨B, 0, none⟩ = false) (hl : B < w.heap.size) (hE : EnvC w) (hP : P.size ≤ 1000) (hR : R0.size ≤ 1000)
    (HC : Hid (∀ W, EnvC W → Calls Tryz.prog 71 #[.string s, .string ⟨#[45]⟩] W fun e w' => e = .returned (.tuple #[.string P, .string R0, .bool true]) ∧ Dn W w')) (h : P.size = 2) (HT : Hid (∀ W, Calls Tryz.prog 72 #[.string P, .string ⟨#[48]⟩] W fun e w' => e = .returned (.string ⟨#[]⟩) ∧ W = w')) (HP : Hid (∀ W, EnvC W → Calls Tryz.prog 73 #[.string ⟨#[48]⟩] W fun e w' => e = .returned (.tuple #[.int .i64 v, .int .i64 0]) ∧ Dn W w')) :
    Calls Tryz.prog 48 #[.pointer (some ⟨B, 0, none⟩), .int .i64 2, .bool false] w fun e w' => e = .returned (.int .i64 v) ∧ ∃ W, Dn w W ∧ w' = W.setCell ⟨B, 0, none⟩ (.string (⟨#[45]⟩ ++ R0)) := by
  have z1 : ¬ (9223372036854775807 < R0.size + 1) := by omega
  have z2 : ¬ (9223372036854775807 < 1 + R0.size) := by omega
  have q1 : decide ((P.size : Int) < 2) = false := by simp; omega
  have q2 : decide (2 < (P.size : Int)) = false := by simp; omega
  have q3 : ¬ P.size < 2 := by omega
  have q4 : ¬ 2 < P.size := by omega
  clear h
  clear hP hR
  go_enter Tryz.func48, Tryz.ntmps48
  go_wp2_with fail
  refine (HC.out _ hE).mono ?_
  rintro e w1 ⟨rfl, qw1⟩
  have f1 := (qw1.frozen (a := ⟨B, 0, none⟩) hl).trans hz
  have l2 := Nat.lt_of_lt_of_le hl qw1.size
  have c3 := qw1.cell hB
  clear hz hl hB
  have uw1 := qw1
  clear qw1
  go_wp2_with fail
  refine (HT.out _).mono ?_
  rintro e w2 ⟨rfl, rfl⟩
  go_wp2_with fail
  refine (HP.out _ (hE.dn uw1)).mono ?_
  rintro e w3 ⟨rfl, qw3⟩
  have f4 := (qw3.frozen (a := ⟨B, 0, none⟩) l2).trans f1
  have l5 := Nat.lt_of_lt_of_le l2 qw3.size
  have c6 := qw3.cell c3
  clear f1 l2 c3
  have uw3 := uw1.trans qw3
  clear qw3 uw1
  go_wp2_with fail
  go_ret
  exact ⟨rfl, _, uw3, rfl⟩
set_option maxHeartbeats 2000000 in
set_option maxRecDepth 100000 in
theorem nm2t_eq_ok (B : Nat) (s P R0 T : ByteArray) (v : Int) (w : World) (hB : w.cell? ⟨B, 0, none⟩ = some (.string s)) (hz : w.frozen? ⟨B, 0, none⟩ = false) (hl : B < w.heap.size) (hE : EnvC w) (hP : P.size ≤ 1000) (hR : R0.size ≤ 1000)
    (HC : Hid (∀ W, EnvC W → Calls Tryz.prog 71 #[.string s, .string ⟨#[45]⟩] W fun e w' => e = .returned (.tuple #[.string P, .string R0, .bool true]) ∧ Dn W w')) (h : P.size = 2) (hT : T.toList ≠ []) (HT : Hid (∀ W, Calls Tryz.prog 72 #[.string P, .string ⟨#[48]⟩] W fun e w' => e = .returned (.string T) ∧ W = w')) (HP : Hid (∀ W, EnvC W → Calls Tryz.prog 73 #[.string T] W fun e w' => e = .returned (.tuple #[.int .i64 v, .int .i64 0]) ∧ Dn W w')) :
    Calls Tryz.prog 48 #[.pointer (some ⟨B, 0, none⟩), .int .i64 2, .bool false] w fun e w' => e = .returned (.int .i64 v) ∧ ∃ W, Dn w W ∧ w' = W.setCell ⟨B, 0, none⟩ (.string (⟨#[45]⟩ ++ R0)) := by
  have z1 : ¬ (9223372036854775807 < R0.size + 1) := by omega
  have z2 : ¬ (9223372036854775807 < 1 + R0.size) := by omega
  have q1 : decide ((P.size : Int) < 2) = false := by simp; omega
  have q2 : decide (2 < (P.size : Int)) = false := by simp; omega
  have q3 : ¬ P.size < 2 := by omega
  have q4 : ¬ 2 < P.size := by omega
  clear h
  have e1 : (T.toList == []) = false := by simpa using hT
  have e2 : T.toList.isEmpty = false := by simpa using hT
  clear hP hR
  go_enter Tryz.func48, Tryz.ntmps48
  go_wp2_with fail
  refine (HC.out _ hE).mono ?_
  rintro e w1 ⟨rfl, qw1⟩
  have f1 := (qw1.frozen (a := ⟨B, 0, none⟩) hl).trans hz
  have l2 := Nat.lt_of_lt_of_le hl qw1.size
  have c3 := qw1.cell hB
  clear hz hl hB
  have uw1 := qw1
  clear qw1
  go_wp2_with fail
  refine (HT.out _).mono ?_
  rintro e w2 ⟨rfl, rfl⟩
  go_wp2_with fail
  refine (HP.out _ (hE.dn uw1)).mono ?_
  rintro e w3 ⟨rfl, qw3⟩
  have f4 := (qw3.frozen (a := ⟨B, 0, none⟩) l2).trans f1
  have l5 := Nat.lt_of_lt_of_le l2 qw3.size
  have c6 := qw3.cell c3
  clear f1 l2 c3
  have uw3 := uw1.trans qw3
  clear qw3 uw1
  go_wp2_with fail
  go_ret
  exact ⟨rfl, _, uw3, rfl⟩
set_option maxHeartbeats 2000000 in
set_option maxRecDepth 100000 in
theorem nm2t_eq_bad (B : Nat) (s P R0 T : ByteArray) (v : Int) (w : World) (hB : w.cell? ⟨B, 0, none⟩ = some (.string s)) (hz : w.frozen? ⟨B, 0, none⟩ = false) (hl : B < w.heap.size) (hE : EnvC w) (hP : P.size ≤ 1000) (hR : R0.size ≤ 1000)
    (HC : Hid (∀ W, EnvC W → Calls Tryz.prog 71 #[.string s, .string ⟨#[45]⟩] W fun e w' => e = .returned (.tuple #[.string P, .string R0, .bool true]) ∧ Dn W w')) (h : P.size = 2) (hT : T.toList ≠ []) (HT : Hid (∀ W, Calls Tryz.prog 72 #[.string P, .string ⟨#[48]⟩] W fun e w' => e = .returned (.string T) ∧ W = w')) (HP : Hid (∀ W, EnvC W → Calls Tryz.prog 73 #[.string T] W fun e w' => e = .returned (.tuple #[.int .i64 0, .int .i64 5]) ∧ Dn W w')) :
    Calls Tryz.prog 48 #[.pointer (some ⟨B, 0, none⟩), .int .i64 2, .bool false] w fun e w' => e = .panicked (pF 5) ∧ Dn w w' := by
  have z1 : ¬ (9223372036854775807 < R0.size + 1) := by omega
  have z2 : ¬ (9223372036854775807 < 1 + R0.size) := by omega
  have q1 : decide ((P.size : Int) < 2) = false := by simp; omega
  have q2 : decide (2 < (P.size : Int)) = false := by simp; omega
  have q3 : ¬ P.size < 2 := by omega
  have q4 : ¬ 2 < P.size := by omega
  clear h
  have e1 : (T.toList == []) = false := by simpa using hT
  have e2 : T.toList.isEmpty = false := by simpa using hT
  clear hP hR
  go_enter Tryz.func48, Tryz.ntmps48
  go_wp2_with fail
  refine (HC.out _ hE).mono ?_
  rintro e w1 ⟨rfl, qw1⟩
  have f1 := (qw1.frozen (a := ⟨B, 0, none⟩) hl).trans hz
  have l2 := Nat.lt_of_lt_of_le hl qw1.size
  have c3 := qw1.cell hB
  clear hz hl hB
  have uw1 := qw1
  clear qw1
  go_wp2_with fail
  refine (HT.out _).mono ?_
  rintro e w2 ⟨rfl, rfl⟩
  go_wp2_with fail
  refine (HP.out _ (hE.dn uw1)).mono ?_
  rintro e w3 ⟨rfl, qw3⟩
  have f4 := (qw3.frozen (a := ⟨B, 0, none⟩) l2).trans f1
  have l5 := Nat.lt_of_lt_of_le l2 qw3.size
  have c6 := qw3.cell c3
  clear f1 l2 c3
  have uw3 := uw1.trans qw3
  clear qw3 uw1
  go_wp2_with fail
  exact ⟨rfl, rfl, uw3⟩
set_option maxHeartbeats 2000000 in
set_option maxRecDepth 100000 in
theorem nm4f_lt (B : Nat) (s P R0 T : ByteArray) (v : Int) (w : World) (hB : w.cell? ⟨B, 0, none⟩ = some (.string s)) (hz : w.frozen? ⟨B, 0, none⟩ = false) (hl : B < w.heap.size) (hE : EnvC w) (hP : P.size ≤ 1000) (hR : R0.size ≤ 1000)
    (HC : Hid (∀ W, EnvC W → Calls Tryz.prog 71 #[.string s, .string ⟨#[45]⟩] W fun e w' => e = .returned (.tuple #[.string P, .string R0, .bool false]) ∧ Dn W w')) (h : P.size < 4) :
    Calls Tryz.prog 48 #[.pointer (some ⟨B, 0, none⟩), .int .i64 4, .bool true] w fun e w' => e = .panicked (pF 5) ∧ Dn w w' := by
  have z1 : ¬ (9223372036854775807 < R0.size + 1) := by omega
  have z2 : ¬ (9223372036854775807 < 1 + R0.size) := by omega
  have q1 : decide ((P.size : Int) < 4) = true := by simp; omega
  clear hP hR
  go_enter Tryz.func48, Tryz.ntmps48
  go_wp2_with fail
  refine (HC.out _ hE).mono ?_
  rintro e w1 ⟨rfl, qw1⟩
  have f1 := (qw1.frozen (a := ⟨B, 0, none⟩) hl).trans hz
  have l2 := Nat.lt_of_lt_of_le hl qw1.size
  have c3 := qw1.cell hB
  clear hz hl hB
  have uw1 := qw1
  clear qw1
  go_wp2_with fail
  exact ⟨rfl, rfl, uw1⟩
set_option maxHeartbeats 2000000 in
set_option maxRecDepth 100000 in
theorem nm4f_zero (B : Nat) (s P R0 T : ByteArray) (v : Int) (w : World) (hB : w.cell? ⟨B, 0, none⟩ = some (.string s)) (hz : w.frozen? ⟨B, 0, none⟩ = false) (hl : B < w.heap.size) (hE : EnvC w) (hP : P.size ≤ 1000) (hR : R0.size ≤ 1000)
    (HC : Hid (∀ W, EnvC W → Calls Tryz.prog 71 #[.string s, .string ⟨#[45]⟩] W fun e w' => e = .returned (.tuple #[.string P, .string R0, .bool false]) ∧ Dn W w')) (h : 4 < P.size) (h48 : P[0]'(by omega) = 48) :
    Calls Tryz.prog 48 #[.pointer (some ⟨B, 0, none⟩), .int .i64 4, .bool true] w fun e w' => e = .panicked (pF 5) ∧ Dn w w' := by
  have z1 : ¬ (9223372036854775807 < R0.size + 1) := by omega
  have z2 : ¬ (9223372036854775807 < 1 + R0.size) := by omega
  have h0 : 0 < P.size := by omega
  have q1 : decide ((P.size : Int) < 4) = false := by simp; omega
  have q2 : decide (4 < (P.size : Int)) = true := by simp; omega
  have q3 : ¬ P.size < 4 := by omega
  have q5 : ((P[0].toNat : Int) == 48) = true := by rw [h48]; rfl
  clear h48
  clear hP hR
  go_enter Tryz.func48, Tryz.ntmps48
  go_wp2_with fail
  refine (HC.out _ hE).mono ?_
  rintro e w1 ⟨rfl, qw1⟩
  have f1 := (qw1.frozen (a := ⟨B, 0, none⟩) hl).trans hz
  have l2 := Nat.lt_of_lt_of_le hl qw1.size
  have c3 := qw1.cell hB
  clear hz hl hB
  have uw1 := qw1
  clear qw1
  go_wp2_with fail
  exact ⟨rfl, rfl, uw1⟩
set_option maxHeartbeats 2000000 in
set_option maxRecDepth 100000 in
theorem nm4f_eq_e (B : Nat) (s P R0 T : ByteArray) (v : Int) (w : World) (hB : w.cell? ⟨B, 0, none⟩ = some (.string s)) (hz : w.frozen? ⟨B, 0, none⟩ = false) (hl : B < w.heap.size) (hE : EnvC w) (hP : P.size ≤ 1000) (hR : R0.size ≤ 1000)
    (HC : Hid (∀ W, EnvC W → Calls Tryz.prog 71 #[.string s, .string ⟨#[45]⟩] W fun e w' => e = .returned (.tuple #[.string P, .string R0, .bool false]) ∧ Dn W w')) (h : P.size = 4) (HT : Hid (∀ W, Calls Tryz.prog 72 #[.string P, .string ⟨#[48]⟩] W fun e w' => e = .returned (.string ⟨#[]⟩) ∧ W = w')) (HP : Hid (∀ W, EnvC W → Calls Tryz.prog 73 #[.string ⟨#[48]⟩] W fun e w' => e = .returned (.tuple #[.int .i64 v, .int .i64 0]) ∧ Dn W w')) :
    Calls Tryz.prog 48 #[.pointer (some ⟨B, 0, none⟩), .int .i64 4, .bool true] w fun e w' => e = .returned (.int .i64 v) ∧ ∃ W, Dn w W ∧ w' = W.setCell ⟨B, 0, none⟩ (.string R0) := by
  have z1 : ¬ (9223372036854775807 < R0.size + 1) := by omega
  have z2 : ¬ (9223372036854775807 < 1 + R0.size) := by omega
  have q1 : decide ((P.size : Int) < 4) = false := by simp; omega
  have q2 : decide (4 < (P.size : Int)) = false := by simp; omega
  have q3 : ¬ P.size < 4 := by omega
  have q4 : ¬ 4 < P.size := by omega
  clear h
  clear hP hR
  go_enter Tryz.func48, Tryz.ntmps48
  go_wp2_with fail
  refine (HC.out _ hE).mono ?_
  rintro e w1 ⟨rfl, qw1⟩
  have f1 := (qw1.frozen (a := ⟨B, 0, none⟩) hl).trans hz
  have l2 := Nat.lt_of_lt_of_le hl qw1.size
  have c3 := qw1.cell hB
  clear hz hl hB
  have uw1 := qw1
  clear qw1
  go_wp2_with fail
  refine (HT.out _).mono ?_
  rintro e w2 ⟨rfl, rfl⟩
  go_wp2_with fail
  refine (HP.out _ (hE.dn uw1)).mono ?_
  rintro e w3 ⟨rfl, qw3⟩
  have f4 := (qw3.frozen (a := ⟨B, 0, none⟩) l2).trans f1
  have l5 := Nat.lt_of_lt_of_le l2 qw3.size
  have c6 := qw3.cell c3
  clear f1 l2 c3
  have uw3 := uw1.trans qw3
  clear qw3 uw1
  go_wp2_with fail
  go_ret
  exact ⟨rfl, _, uw3, rfl⟩
set_option maxHeartbeats 2000000 in
set_option maxRecDepth 100000 in
theorem nm4f_eq_ok (B : Nat) (s P R0 T : ByteArray) (v : Int) (w : World) (hB : w.cell? ⟨B, 0, none⟩ = some (.string s)) (hz : w.frozen? ⟨B, 0, none⟩ = false) (hl : B < w.heap.size) (hE : EnvC w) (hP : P.size ≤ 1000) (hR : R0.size ≤ 1000)
    (HC : Hid (∀ W, EnvC W → Calls Tryz.prog 71 #[.string s, .string ⟨#[45]⟩] W fun e w' => e = .returned (.tuple #[.string P, .string R0, .bool false]) ∧ Dn W w')) (h : P.size = 4) (hT : T.toList ≠ []) (HT : Hid (∀ W, Calls Tryz.prog 72 #[.string P, .string ⟨#[48]⟩] W fun e w' => e = .returned (.string T) ∧ W = w')) (HP : Hid (∀ W, EnvC W → Calls Tryz.prog 73 #[.string T] W fun e w' => e = .returned (.tuple #[.int .i64 v, .int .i64 0]) ∧ Dn W w')) :
    Calls Tryz.prog 48 #[.pointer (some ⟨B, 0, none⟩), .int .i64 4, .bool true] w fun e w' => e = .returned (.int .i64 v) ∧ ∃ W, Dn w W ∧ w' = W.setCell ⟨B, 0, none⟩ (.string R0) := by
  have z1 : ¬ (9223372036854775807 < R0.size + 1) := by omega
  have z2 : ¬ (9223372036854775807 < 1 + R0.size) := by omega
  have q1 : decide ((P.size : Int) < 4) = false := by simp; omega
  have q2 : decide (4 < (P.size : Int)) = false := by simp; omega
  have q3 : ¬ P.size < 4 := by omega
  have q4 : ¬ 4 < P.size := by omega
  clear h
  have e1 : (T.toList == []) = false := by simpa using hT
  have e2 : T.toList.isEmpty = false := by simpa using hT
  clear hP hR
  go_enter Tryz.func48, Tryz.ntmps48
  go_wp2_with fail
  refine (HC.out _ hE).mono ?_
  rintro e w1 ⟨rfl, qw1⟩
  have f1 := (qw1.frozen (a := ⟨B, 0, none⟩) hl).trans hz
  have l2 := Nat.lt_of_lt_of_le hl qw1.size
  have c3 := qw1.cell hB
  clear hz hl hB
  have uw1 := qw1
  clear qw1
  go_wp2_with fail
  refine (HT.out _).mono ?_
  rintro e w2 ⟨rfl, rfl⟩
  go_wp2_with fail
  refine (HP.out _ (hE.dn uw1)).mono ?_
  rintro e w3 ⟨rfl, qw3⟩
  have f4 := (qw3.frozen (a := ⟨B, 0, none⟩) l2).trans f1
  have l5 := Nat.lt_of_lt_of_le l2 qw3.size
  have c6 := qw3.cell c3
  clear f1 l2 c3
  have uw3 := uw1.trans qw3
  clear qw3 uw1
  go_wp2_with fail
  go_ret
  exact ⟨rfl, _, uw3, rfl⟩
set_option maxHeartbeats 2000000 in
set_option maxRecDepth 100000 in
theorem nm4f_eq_bad (B : Nat) (s P R0 T : ByteArray) (v : Int) (w : World) (hB : w.cell? ⟨B, 0, none⟩ = some (.string s)) (hz : w.frozen? ⟨B, 0, none⟩ = false) (hl : B < w.heap.size) (hE : EnvC w) (hP : P.size ≤ 1000) (hR : R0.size ≤ 1000)
    (HC : Hid (∀ W, EnvC W → Calls Tryz.prog 71 #[.string s, .string ⟨#[45]⟩] W fun e w' => e = .returned (.tuple #[.string P, .string R0, .bool false]) ∧ Dn W w')) (h : P.size = 4) (hT : T.toList ≠ []) (HT : Hid (∀ W, Calls Tryz.prog 72 #[.string P, .string ⟨#[48]⟩] W fun e w' => e = .returned (.string T) ∧ W = w')) (HP : Hid (∀ W, EnvC W → Calls Tryz.prog 73 #[.string T] W fun e w' => e = .returned (.tuple #[.int .i64 0, .int .i64 5]) ∧ Dn W w')) :
    Calls Tryz.prog 48 #[.pointer (some ⟨B, 0, none⟩), .int .i64 4, .bool true] w fun e w' => e = .panicked (pF 5) ∧ Dn w w' := by
  have z1 : ¬ (9223372036854775807 < R0.size + 1) := by omega
  have z2 : ¬ (9223372036854775807 < 1 + R0.size) := by omega
  have q1 : decide ((P.size : Int) < 4) = false := by simp; omega
  have q2 : decide (4 < (P.size : Int)) = false := by simp; omega
  have q3 : ¬ P.size < 4 := by omega
  have q4 : ¬ 4 < P.size := by omega
  clear h
  have e1 : (T.toList == []) = false := by simpa using hT
  have e2 : T.toList.isEmpty = false := by simpa using hT
  clear hP hR
  go_enter Tryz.func48, Tryz.ntmps48
  go_wp2_with fail
  refine (HC.out _ hE).mono ?_
  rintro e w1 ⟨rfl, qw1⟩
  have f1 := (qw1.frozen (a := ⟨B, 0, none⟩) hl).trans hz
  have l2 := Nat.lt_of_lt_of_le hl qw1.size
  have c3 := qw1.cell hB
  clear hz hl hB
  have uw1 := qw1
  clear qw1
  go_wp2_with fail
  refine (HT.out _).mono ?_
  rintro e w2 ⟨rfl, rfl⟩
  go_wp2_with fail
  refine (HP.out _ (hE.dn uw1)).mono ?_
  rintro e w3 ⟨rfl, qw3⟩
  have f4 := (qw3.frozen (a := ⟨B, 0, none⟩) l2).trans f1
  have l5 := Nat.lt_of_lt_of_le l2 qw3.size
  have c6 := qw3.cell c3
  clear f1 l2 c3
  have uw3 := uw1.trans qw3
  clear qw3 uw1
  go_wp2_with fail
  exact ⟨rfl, rfl, uw3⟩
set_option maxHeartbeats 2000000 in
set_option maxRecDepth 100000 in
theorem nm4f_eq_over (B : Nat) (s P R0 T : ByteArray) (v : Int) (w : World) (hB : w.cell? ⟨B, 0, none⟩ = some (.string s)) (hz : w.frozen? ⟨B, 0, none⟩ = false) (hl : B < w.heap.size) (hE : EnvC w) (hP : P.size ≤ 1000) (hR : R0.size ≤ 1000)
    (HC : Hid (∀ W, EnvC W → Calls Tryz.prog 71 #[.string s, .string ⟨#[45]⟩] W fun e w' => e = .returned (.tuple #[.string P, .string R0, .bool false]) ∧ Dn W w')) (h : P.size = 4) (hT : T.toList ≠ []) (HT : Hid (∀ W, Calls Tryz.prog 72 #[.string P, .string ⟨#[48]⟩] W fun e w' => e = .returned (.string T) ∧ W = w')) (HP : Hid (∀ W, EnvC W → Calls Tryz.prog 73 #[.string T] W fun e w' => e = .returned (.tuple #[.int .i64 0, .int .i64 15]) ∧ Dn W w')) :
    Calls Tryz.prog 48 #[.pointer (some ⟨B, 0, none⟩), .int .i64 4, .bool true] w fun e w' => e = .returned (.int .i64 9223372036854775807) ∧ ∃ W, Dn w W ∧ w' = W.setCell ⟨B, 0, none⟩ (.string R0) := by
  have z1 : ¬ (9223372036854775807 < R0.size + 1) := by omega
  have z2 : ¬ (9223372036854775807 < 1 + R0.size) := by omega
  have q1 : decide ((P.size : Int) < 4) = false := by simp; omega
  have q2 : decide (4 < (P.size : Int)) = false := by simp; omega
  have q3 : ¬ P.size < 4 := by omega
  have q4 : ¬ 4 < P.size := by omega
  clear h
  have e1 : (T.toList == []) = false := by simpa using hT
  have e2 : T.toList.isEmpty = false := by simpa using hT
  clear hP hR
  go_enter Tryz.func48, Tryz.ntmps48
  go_wp2_with fail
  refine (HC.out _ hE).mono ?_
  rintro e w1 ⟨rfl, qw1⟩
  have f1 := (qw1.frozen (a := ⟨B, 0, none⟩) hl).trans hz
  have l2 := Nat.lt_of_lt_of_le hl qw1.size
  have c3 := qw1.cell hB
  clear hz hl hB
  have uw1 := qw1
  clear qw1
  go_wp2_with fail
  refine (HT.out _).mono ?_
  rintro e w2 ⟨rfl, rfl⟩
  go_wp2_with fail
  refine (HP.out _ (hE.dn uw1)).mono ?_
  rintro e w3 ⟨rfl, qw3⟩
  have f4 := (qw3.frozen (a := ⟨B, 0, none⟩) l2).trans f1
  have l5 := Nat.lt_of_lt_of_le l2 qw3.size
  have c6 := qw3.cell c3
  clear f1 l2 c3
  have uw3 := uw1.trans qw3
  clear qw3 uw1
  go_wp2_with fail
  go_ret
  exact ⟨rfl, _, uw3, rfl⟩
set_option maxHeartbeats 2000000 in
set_option maxRecDepth 100000 in
theorem nm4f_gt_e (B : Nat) (s P R0 T : ByteArray) (v : Int) (w : World) (hB : w.cell? ⟨B, 0, none⟩ = some (.string s)) (hz : w.frozen? ⟨B, 0, none⟩ = false) (hl : B < w.heap.size) (hE : EnvC w) (hP : P.size ≤ 1000) (hR : R0.size ≤ 1000)
    (HC : Hid (∀ W, EnvC W → Calls Tryz.prog 71 #[.string s, .string ⟨#[45]⟩] W fun e w' => e = .returned (.tuple #[.string P, .string R0, .bool false]) ∧ Dn W w')) (h : 4 < P.size) (h48 : P[0]'(by omega) ≠ 48) (HT : Hid (∀ W, Calls Tryz.prog 72 #[.string P, .string ⟨#[48]⟩] W fun e w' => e = .returned (.string ⟨#[]⟩) ∧ W = w')) (HP : Hid (∀ W, EnvC W → Calls Tryz.prog 73 #[.string ⟨#[48]⟩] W fun e w' => e = .returned (.tuple #[.int .i64 v, .int .i64 0]) ∧ Dn W w')) :
    Calls Tryz.prog 48 #[.pointer (some ⟨B, 0, none⟩), .int .i64 4, .bool true] w fun e w' => e = .returned (.int .i64 v) ∧ ∃ W, Dn w W ∧ w' = W.setCell ⟨B, 0, none⟩ (.string R0) := by
  have z1 : ¬ (9223372036854775807 < R0.size + 1) := by omega
  have z2 : ¬ (9223372036854775807 < 1 + R0.size) := by omega
  have h0 : 0 < P.size := by omega
  have q1 : decide ((P.size : Int) < 4) = false := by simp; omega
  have q2 : decide (4 < (P.size : Int)) = true := by simp; omega
  have q3 : ¬ P.size < 4 := by omega
  have q5 : ((P[0].toNat : Int) == 48) = false := by rw [beq_eq_false_iff_ne]; intro e; exact h48 (UInt8.toNat_inj.1 (by have : (48 : UInt8).toNat = 48 := rfl; omega))
  clear h48
  clear hP hR
  go_enter Tryz.func48, Tryz.ntmps48
  go_wp2_with fail
  refine (HC.out _ hE).mono ?_
  rintro e w1 ⟨rfl, qw1⟩
  have f1 := (qw1.frozen (a := ⟨B, 0, none⟩) hl).trans hz
  have l2 := Nat.lt_of_lt_of_le hl qw1.size
  have c3 := qw1.cell hB
  clear hz hl hB
  have uw1 := qw1
  clear qw1
  go_wp2_with fail
  refine (HT.out _).mono ?_
  rintro e w2 ⟨rfl, rfl⟩
  go_wp2_with fail
  refine (HP.out _ (hE.dn uw1)).mono ?_
  rintro e w3 ⟨rfl, qw3⟩
  have f4 := (qw3.frozen (a := ⟨B, 0, none⟩) l2).trans f1
  have l5 := Nat.lt_of_lt_of_le l2 qw3.size
  have c6 := qw3.cell c3
  clear f1 l2 c3
  have uw3 := uw1.trans qw3
  clear qw3 uw1
  go_wp2_with fail
  go_ret
  exact ⟨rfl, _, uw3, rfl⟩
set_option maxHeartbeats 2000000 in
set_option maxRecDepth 100000 in
theorem nm4f_gt_ok (B : Nat) (s P R0 T : ByteArray) (v : Int) (w : World) (hB : w.cell? ⟨B, 0, none⟩ = some (.string s)) (hz : w.frozen? ⟨B, 0, none⟩ = false) (hl : B < w.heap.size) (hE : EnvC w) (hP : P.size ≤ 1000) (hR : R0.size ≤ 1000)
    (HC : Hid (∀ W, EnvC W → Calls Tryz.prog 71 #[.string s, .string ⟨#[45]⟩] W fun e w' => e = .returned (.tuple #[.string P, .string R0, .bool false]) ∧ Dn W w')) (h : 4 < P.size) (h48 : P[0]'(by omega) ≠ 48) (hT : T.toList ≠ []) (HT : Hid (∀ W, Calls Tryz.prog 72 #[.string P, .string ⟨#[48]⟩] W fun e w' => e = .returned (.string T) ∧ W = w')) (HP : Hid (∀ W, EnvC W → Calls Tryz.prog 73 #[.string T] W fun e w' => e = .returned (.tuple #[.int .i64 v, .int .i64 0]) ∧ Dn W w')) :
    Calls Tryz.prog 48 #[.pointer (some ⟨B, 0, none⟩), .int .i64 4, .bool true] w fun e w' => e = .returned (.int .i64 v) ∧ ∃ W, Dn w W ∧ w' = W.setCell ⟨B, 0, none⟩ (.string R0) := by
  have z1 : ¬ (9223372036854775807 < R0.size + 1) := by omega
  have z2 : ¬ (9223372036854775807 < 1 + R0.size) := by omega
  have h0 : 0 < P.size := by omega
  have q1 : decide ((P.size : Int) < 4) = false := by simp; omega
  have q2 : decide (4 < (P.size : Int)) = true := by simp; omega
  have q3 : ¬ P.size < 4 := by omega
  have q5 : ((P[0].toNat : Int) == 48) = false := by rw [beq_eq_false_iff_ne]; intro e; exact h48 (UInt8.toNat_inj.1 (by have : (48 : UInt8).toNat = 48 := rfl; omega))
  clear h48
  have e1 : (T.toList == []) = false := by simpa using hT
  have e2 : T.toList.isEmpty = false := by simpa using hT
  clear hP hR
  go_enter Tryz.func48, Tryz.ntmps48
  go_wp2_with fail
  refine (HC.out _ hE).mono ?_
  rintro e w1 ⟨rfl, qw1⟩
  have f1 := (qw1.frozen (a := ⟨B, 0, none⟩) hl).trans hz
  have l2 := Nat.lt_of_lt_of_le hl qw1.size
  have c3 := qw1.cell hB
  clear hz hl hB
  have uw1 := qw1
  clear qw1
  go_wp2_with fail
  refine (HT.out _).mono ?_
  rintro e w2 ⟨rfl, rfl⟩
  go_wp2_with fail
  refine (HP.out _ (hE.dn uw1)).mono ?_
  rintro e w3 ⟨rfl, qw3⟩
  have f4 := (qw3.frozen (a := ⟨B, 0, none⟩) l2).trans f1
  have l5 := Nat.lt_of_lt_of_le l2 qw3.size
  have c6 := qw3.cell c3
  clear f1 l2 c3
  have uw3 := uw1.trans qw3
  clear qw3 uw1
  go_wp2_with fail
  go_ret
  exact ⟨rfl, _, uw3, rfl⟩
set_option maxHeartbeats 2000000 in
set_option maxRecDepth 100000 in
theorem nm4f_gt_bad (B : Nat) (s P R0 T : ByteArray) (v : Int) (w : World) (hB : w.cell? ⟨B, 0, none⟩ = some (.string s)) (hz : w.frozen? ⟨B, 0, none⟩ = false) (hl : B < w.heap.size) (hE : EnvC w) (hP : P.size ≤ 1000) (hR : R0.size ≤ 1000)
    (HC : Hid (∀ W, EnvC W → Calls Tryz.prog 71 #[.string s, .string ⟨#[45]⟩] W fun e w' => e = .returned (.tuple #[.string P, .string R0, .bool false]) ∧ Dn W w')) (h : 4 < P.size) (h48 : P[0]'(by omega) ≠ 48) (hT : T.toList ≠ []) (HT : Hid (∀ W, Calls Tryz.prog 72 #[.string P, .string ⟨#[48]⟩] W fun e w' => e = .returned (.string T) ∧ W = w')) (HP : Hid (∀ W, EnvC W → Calls Tryz.prog 73 #[.string T] W fun e w' => e = .returned (.tuple #[.int .i64 0, .int .i64 5]) ∧ Dn W w')) :
    Calls Tryz.prog 48 #[.pointer (some ⟨B, 0, none⟩), .int .i64 4, .bool true] w fun e w' => e = .panicked (pF 5) ∧ Dn w w' := by
  have z1 : ¬ (9223372036854775807 < R0.size + 1) := by omega
  have z2 : ¬ (9223372036854775807 < 1 + R0.size) := by omega
  have h0 : 0 < P.size := by omega
  have q1 : decide ((P.size : Int) < 4) = false := by simp; omega
  have q2 : decide (4 < (P.size : Int)) = true := by simp; omega
  have q3 : ¬ P.size < 4 := by omega
  have q5 : ((P[0].toNat : Int) == 48) = false := by rw [beq_eq_false_iff_ne]; intro e; exact h48 (UInt8.toNat_inj.1 (by have : (48 : UInt8).toNat = 48 := rfl; omega))
  clear h48
  have e1 : (T.toList == []) = false := by simpa using hT
  have e2 : T.toList.isEmpty = false := by simpa using hT
  clear hP hR
  go_enter Tryz.func48, Tryz.ntmps48
  go_wp2_with fail
  refine (HC.out _ hE).mono ?_
  rintro e w1 ⟨rfl, qw1⟩
  have f1 := (qw1.frozen (a := ⟨B, 0, none⟩) hl).trans hz
  have l2 := Nat.lt_of_lt_of_le hl qw1.size
  have c3 := qw1.cell hB
  clear hz hl hB
  have uw1 := qw1
  clear qw1
  go_wp2_with fail
  refine (HT.out _).mono ?_
  rintro e w2 ⟨rfl, rfl⟩
  go_wp2_with fail
  refine (HP.out _ (hE.dn uw1)).mono ?_
  rintro e w3 ⟨rfl, qw3⟩
  have f4 := (qw3.frozen (a := ⟨B, 0, none⟩) l2).trans f1
  have l5 := Nat.lt_of_lt_of_le l2 qw3.size
  have c6 := qw3.cell c3
  clear f1 l2 c3
  have uw3 := uw1.trans qw3
  clear qw3 uw1
  go_wp2_with fail
  exact ⟨rfl, rfl, uw3⟩
set_option maxHeartbeats 2000000 in
set_option maxRecDepth 100000 in
theorem nm4f_gt_over (B : Nat) (s P R0 T : ByteArray) (v : Int) (w : World) (hB : w.cell? ⟨B, 0, none⟩ = some (.string s)) (hz : w.frozen? ⟨B, 0, none⟩ = false) (hl : B < w.heap.size) (hE : EnvC w) (hP : P.size ≤ 1000) (hR : R0.size ≤ 1000)
    (HC : Hid (∀ W, EnvC W → Calls Tryz.prog 71 #[.string s, .string ⟨#[45]⟩] W fun e w' => e = .returned (.tuple #[.string P, .string R0, .bool false]) ∧ Dn W w')) (h : 4 < P.size) (h48 : P[0]'(by omega) ≠ 48) (hT : T.toList ≠ []) (HT : Hid (∀ W, Calls Tryz.prog 72 #[.string P, .string ⟨#[48]⟩] W fun e w' => e = .returned (.string T) ∧ W = w')) (HP : Hid (∀ W, EnvC W → Calls Tryz.prog 73 #[.string T] W fun e w' => e = .returned (.tuple #[.int .i64 0, .int .i64 15]) ∧ Dn W w')) :
    Calls Tryz.prog 48 #[.pointer (some ⟨B, 0, none⟩), .int .i64 4, .bool true] w fun e w' => e = .returned (.int .i64 9223372036854775807) ∧ ∃ W, Dn w W ∧ w' = W.setCell ⟨B, 0, none⟩ (.string R0) := by
  have z1 : ¬ (9223372036854775807 < R0.size + 1) := by omega
  have z2 : ¬ (9223372036854775807 < 1 + R0.size) := by omega
  have h0 : 0 < P.size := by omega
  have q1 : decide ((P.size : Int) < 4) = false := by simp; omega
  have q2 : decide (4 < (P.size : Int)) = true := by simp; omega
  have q3 : ¬ P.size < 4 := by omega
  have q5 : ((P[0].toNat : Int) == 48) = false := by rw [beq_eq_false_iff_ne]; intro e; exact h48 (UInt8.toNat_inj.1 (by have : (48 : UInt8).toNat = 48 := rfl; omega))
  clear h48
  have e1 : (T.toList == []) = false := by simpa using hT
  have e2 : T.toList.isEmpty = false := by simpa using hT
  clear hP hR
  go_enter Tryz.func48, Tryz.ntmps48
  go_wp2_with fail
  refine (HC.out _ hE).mono ?_
  rintro e w1 ⟨rfl, qw1⟩
  have f1 := (qw1.frozen (a := ⟨B, 0, none⟩) hl).trans hz
  have l2 := Nat.lt_of_lt_of_le hl qw1.size
  have c3 := qw1.cell hB
  clear hz hl hB
  have uw1 := qw1
  clear qw1
  go_wp2_with fail
  refine (HT.out _).mono ?_
  rintro e w2 ⟨rfl, rfl⟩
  go_wp2_with fail
  refine (HP.out _ (hE.dn uw1)).mono ?_
  rintro e w3 ⟨rfl, qw3⟩
  have f4 := (qw3.frozen (a := ⟨B, 0, none⟩) l2).trans f1
  have l5 := Nat.lt_of_lt_of_le l2 qw3.size
  have c6 := qw3.cell c3
  clear f1 l2 c3
  have uw3 := uw1.trans qw3
  clear qw3 uw1
  go_wp2_with fail
  go_ret
  exact ⟨rfl, _, uw3, rfl⟩
set_option maxHeartbeats 2000000 in
set_option maxRecDepth 100000 in
theorem nm2f_lt (B : Nat) (s P R0 T : ByteArray) (v : Int) (w : World) (hB : w.cell? ⟨B, 0, none⟩ = some (.string s)) (hz : w.frozen? ⟨B, 0, none⟩ = false) (hl : B < w.heap.size) (hE : EnvC w) (hP : P.size ≤ 1000) (hR : R0.size ≤ 1000)
    (HC : Hid (∀ W, EnvC W → Calls Tryz.prog 71 #[.string s, .string ⟨#[45]⟩] W fun e w' => e = .returned (.tuple #[.string P, .string R0, .bool false]) ∧ Dn W w')) (h : P.size < 2) :
    Calls Tryz.prog 48 #[.pointer (some ⟨B, 0, none⟩), .int .i64 2, .bool false] w fun e w' => e = .panicked (pF 5) ∧ Dn w w' := by
  have z1 : ¬ (9223372036854775807 < R0.size + 1) := by omega
  have z2 : ¬ (9223372036854775807 < 1 + R0.size) := by omega
  have q1 : decide ((P.size : Int) < 2) = true := by simp; omega
  clear hP hR
  go_enter Tryz.func48, Tryz.ntmps48
  go_wp2_with fail
  refine (HC.out _ hE).mono ?_
  rintro e w1 ⟨rfl, qw1⟩
  have f1 := (qw1.frozen (a := ⟨B, 0, none⟩) hl).trans hz
  have l2 := Nat.lt_of_lt_of_le hl qw1.size
  have c3 := qw1.cell hB
  clear hz hl hB
  have uw1 := qw1
  clear qw1
  go_wp2_with fail
  exact ⟨rfl, rfl, uw1⟩
set_option maxHeartbeats 2000000 in
set_option maxRecDepth 100000 in
theorem nm2f_gt (B : Nat) (s P R0 T : ByteArray) (v : Int) (w : World) (hB : w.cell? ⟨B, 0, none⟩ = some (.string s)) (hz : w.frozen? ⟨B, 0, none⟩ = false) (hl : B < w.heap.size) (hE : EnvC w) (hP : P.size ≤ 1000) (hR : R0.size ≤ 1000)
    (HC : Hid (∀ W, EnvC W → Calls Tryz.prog 71 #[.string s, .string ⟨#[45]⟩] W fun e w' => e = .returned (.tuple #[.string P, .string R0, .bool false]) ∧ Dn W w')) (h : 2 < P.size) :
    Calls Tryz.prog 48 #[.pointer (some ⟨B, 0, none⟩), .int .i64 2, .bool false] w fun e w' => e = .panicked (pF 5) ∧ Dn w w' := by
  have z1 : ¬ (9223372036854775807 < R0.size + 1) := by omega
  have z2 : ¬ (9223372036854775807 < 1 + R0.size) := by omega
  have q1 : decide ((P.size : Int) < 2) = false := by simp; omega
  have q2 : decide (2 < (P.size : Int)) = true := by simp; omega
  have q3 : ¬ P.size < 2 := by omega
  clear hP hR
  go_enter Tryz.func48, Tryz.ntmps48
  go_wp2_with fail
  refine (HC.out _ hE).mono ?_
  rintro e w1 ⟨rfl, qw1⟩
  have f1 := (qw1.frozen (a := ⟨B, 0, none⟩) hl).trans hz
  have l2 := Nat.lt_of_lt_of_le hl qw1.size
  have c3 := qw1.cell hB
  clear hz hl hB
  have uw1 := qw1
  clear qw1
  go_wp2_with fail
  exact ⟨rfl, rfl, uw1⟩
set_option maxHeartbeats 2000000 in
set_option maxRecDepth 100000 in
theorem nm2f_eq_e (B : Nat) (s P R0 T : ByteArray) (v : Int) (w : World) (hB : w.cell? ⟨B, 0, none⟩ = some (.string s)) (hz : w.frozen? ⟨B, 0, none⟩ = false) (hl : B < w.heap.size) (hE : EnvC w) (hP : P.size ≤ 1000) (hR : R0.size ≤ 1000)
    (HC : Hid (∀ W, EnvC W → Calls Tryz.prog 71 #[.string s, .string ⟨#[45]⟩] W fun e w' => e = .returned (.tuple #[.string P, .string R0, .bool false]) ∧ Dn W w')) (h : P.size = 2) (HT : Hid (∀ W, Calls Tryz.prog 72 #[.string P, .string ⟨#[48]⟩] W fun e w' => e = .returned (.string ⟨#[]⟩) ∧ W = w')) (HP : Hid (∀ W, EnvC W → Calls Tryz.prog 73 #[.string ⟨#[48]⟩] W fun e w' => e = .returned (.tuple #[.int .i64 v, .int .i64 0]) ∧ Dn W w')) :
    Calls Tryz.prog 48 #[.pointer (some ⟨B, 0, none⟩), .int .i64 2, .bool false] w fun e w' => e = .returned (.int .i64 v) ∧ ∃ W, Dn w W ∧ w' = W.setCell ⟨B, 0, none⟩ (.string R0) := by
  have z1 : ¬ (9223372036854775807 < R0.size + 1) := by omega
  have z2 : ¬ (9223372036854775807 < 1 + R0.size) := by omega
  have q1 : decide ((P.size : Int) < 2) = false := by simp; omega
  have q2 : decide (2 < (P.size : Int)) = false := by simp; omega
  have q3 : ¬ P.size < 2 := by omega
  have q4 : ¬ 2 < P.size := by omega
  clear h
  clear hP hR
  go_enter Tryz.func48, Tryz.ntmps48
  go_wp2_with fail
  refine (HC.out _ hE).mono ?_
  rintro e w1 ⟨rfl, qw1⟩
  have f1 := (qw1.frozen (a := ⟨B, 0, none⟩) hl).trans hz
  have l2 := Nat.lt_of_lt_of_le hl qw1.size
  have c3 := qw1.cell hB
  clear hz hl hB
  have uw1 := qw1
  clear qw1
  go_wp2_with fail
  refine (HT.out _).mono ?_
  rintro e w2 ⟨rfl, rfl⟩
  go_wp2_with fail
  refine (HP.out _ (hE.dn uw1)).mono ?_
  rintro e w3 ⟨rfl, qw3⟩
  have f4 := (qw3.frozen (a := ⟨B, 0, none⟩) l2).trans f1
  have l5 := Nat.lt_of_lt_of_le l2 qw3.size
  have c6 := qw3.cell c3
  clear f1 l2 c3
  have uw3 := uw1.trans qw3
  clear qw3 uw1
  go_wp2_with fail
  go_ret
  exact ⟨rfl, _, uw3, rfl⟩
set_option maxHeartbeats 2000000 in
set_option maxRecDepth 100000 in
theorem nm2f_eq_ok (B : Nat) (s P R0 T : ByteArray) (v : Int) (w : World) (hB : w.cell? ⟨B, 0, none⟩ = some (.string s)) (hz : w.frozen? ⟨B, 0, none⟩ = false) (hl : B < w.heap.size) (hE : EnvC w) (hP : P.size ≤ 1000) (hR : R0.size ≤ 1000)
    (HC : Hid (∀ W, EnvC W → Calls Tryz.prog 71 #[.string s, .string ⟨#[45]⟩] W fun e w' => e = .returned (.tuple #[.string P, .string R0, .bool false]) ∧ Dn W w')) (h : P.size = 2) (hT : T.toList ≠ []) (HT : Hid (∀ W, Calls Tryz.prog 72 #[.string P, .string ⟨#[48]⟩] W fun e w' => e = .returned (.string T) ∧ W = w')) (HP : Hid (∀ W, EnvC W → Calls Tryz.prog 73 #[.string T] W fun e w' => e = .returned (.tuple #[.int .i64 v, .int .i64 0]) ∧ Dn W w')) :
    Calls Tryz.prog 48 #[.pointer (some ⟨B, 0, none⟩), .int .i64 2, .bool false] w fun e w' => e = .returned (.int .i64 v) ∧ ∃ W, Dn w W ∧ w' = W.setCell ⟨B, 0, none⟩ (.string R0) := by
  have z1 : ¬ (9223372036854775807 < R0.size + 1) := by omega
  have z2 : ¬ (9223372036854775807 < 1 + R0.size) := by omega
  have q1 : decide ((P.size : Int) < 2) = false := by simp; omega
  have q2 : decide (2 < (P.size : Int)) = false := by simp; omega
  have q3 : ¬ P.size < 2 := by omega
  have q4 : ¬ 2 < P.size := by omega
  clear h
  have e1 : (T.toList == []) = false := by simpa using hT
  have e2 : T.toList.isEmpty = false := by simpa using hT
  clear hP hR
  go_enter Tryz.func48, Tryz.ntmps48
  go_wp2_with fail
  refine (HC.out _ hE).mono ?_
  rintro e w1 ⟨rfl, qw1⟩
  have f1 := (qw1.frozen (a := ⟨B, 0, none⟩) hl).trans hz
  have l2 := Nat.lt_of_lt_of_le hl qw1.size
  have c3 := qw1.cell hB
  clear hz hl hB
  have uw1 := qw1
  clear qw1
  go_wp2_with fail
  refine (HT.out _).mono ?_
  rintro e w2 ⟨rfl, rfl⟩
  go_wp2_with fail
  refine (HP.out _ (hE.dn uw1)).mono ?_
  rintro e w3 ⟨rfl, qw3⟩
  have f4 := (qw3.frozen (a := ⟨B, 0, none⟩) l2).trans f1
  have l5 := Nat.lt_of_lt_of_le l2 qw3.size
  have c6 := qw3.cell c3
  clear f1 l2 c3
  have uw3 := uw1.trans qw3
  clear qw3 uw1
  go_wp2_with fail
  go_ret
  exact ⟨rfl, _, uw3, rfl⟩
set_option maxHeartbeats 2000000 in
set_option maxRecDepth 100000 in
theorem nm2f_eq_bad (B : Nat) (s P R0 T : ByteArray) (v : Int) (w : World) (hB : w.cell? ⟨B, 0, none⟩ = some (.string s)) (hz : w.frozen? ⟨B, 0, none⟩ = false) (hl : B < w.heap.size) (hE : EnvC w) (hP : P.size ≤ 1000) (hR : R0.size ≤ 1000)
    (HC : Hid (∀ W, EnvC W → Calls Tryz.prog 71 #[.string s, .string ⟨#[45]⟩] W fun e w' => e = .returned (.tuple #[.string P, .string R0, .bool false]) ∧ Dn W w')) (h : P.size = 2) (hT : T.toList ≠ []) (HT : Hid (∀ W, Calls Tryz.prog 72 #[.string P, .string ⟨#[48]⟩] W fun e w' => e = .returned (.string T) ∧ W = w')) (HP : Hid (∀ W, EnvC W → Calls Tryz.prog 73 #[.string T] W fun e w' => e = .returned (.tuple #[.int .i64 0, .int .i64 5]) ∧ Dn W w')) :
    Calls Tryz.prog 48 #[.pointer (some ⟨B, 0, none⟩), .int .i64 2, .bool false] w fun e w' => e = .panicked (pF 5) ∧ Dn w w' := by
  have z1 : ¬ (9223372036854775807 < R0.size + 1) := by omega
  have z2 : ¬ (9223372036854775807 < 1 + R0.size) := by omega
  have q1 : decide ((P.size : Int) < 2) = false := by simp; omega
  have q2 : decide (2 < (P.size : Int)) = false := by simp; omega
  have q3 : ¬ P.size < 2 := by omega
  have q4 : ¬ 2 < P.size := by omega
  clear h
  have e1 : (T.toList == []) = false := by simpa using hT
  have e2 : T.toList.isEmpty = false := by simpa using hT
  clear hP hR
  go_enter Tryz.func48, Tryz.ntmps48
  go_wp2_with fail
  refine (HC.out _ hE).mono ?_
  rintro e w1 ⟨rfl, qw1⟩
  have f1 := (qw1.frozen (a := ⟨B, 0, none⟩) hl).trans hz
  have l2 := Nat.lt_of_lt_of_le hl qw1.size
  have c3 := qw1.cell hB
  clear hz hl hB
  have uw1 := qw1
  clear qw1
  go_wp2_with fail
  refine (HT.out _).mono ?_
  rintro e w2 ⟨rfl, rfl⟩
  go_wp2_with fail
  refine (HP.out _ (hE.dn uw1)).mono ?_
  rintro e w3 ⟨rfl, qw3⟩
  have f4 := (qw3.frozen (a := ⟨B, 0, none⟩) l2).trans f1
  have l5 := Nat.lt_of_lt_of_le l2 qw3.size
  have c6 := qw3.cell c3
  clear f1 l2 c3
  have uw3 := uw1.trans qw3
  clear qw3 uw1
  go_wp2_with fail
  exact ⟨rfl, rfl, uw3⟩
end Go.Proofs.YtopbbcbpanfigaaGreatDoor
