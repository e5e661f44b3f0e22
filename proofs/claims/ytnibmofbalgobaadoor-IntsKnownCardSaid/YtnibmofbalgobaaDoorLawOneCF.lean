/-
  WALKS OF circalaw01: IntsGcd returns true. (Printed by wip/gen/law1c.py.)
-/
import Derived.Test.YtnibmofbalgobaaDoorLawOneC0
namespace Go.Proofs.YtnibmofbalgobaaDoor
open Go.RowKit
set_option maxHeartbeats 4000000 in
set_option maxRecDepth 100000 in
theorem igcdl_fit_o1  (n : Nat) (hn : n ≤ 18) (w : World) (hE : EnvI w) :
    Calls Tryd.prog 5 #[.int .i64 (-9223372036854775808), .int .i64 0, .int .i64 (n : Int)] w fun e w' => e = .returned (.bool true) ∧ Dn w w' := by
  have d1 : decide ((n : Int) < 0) = false := by simp
  have d2 : decide (18 < (n : Int)) = false := by simp; omega
  have HG := Lib.hid (fun W => igcd_over (-9223372036854775808) 0 W (by decide) (by decide) (by decide))
  have HH := Lib.hid (fun W => igcd_over 0 (-9223372036854775808) W (by decide) (by decide) (by decide))
  have HN := Lib.hid hn
  go_enter Tryd.func5, Tryd.ntmps5
  go_wp2_with fail
  refine (ipow_yes n _ HN.out).mono ?_
  rintro e w1 ⟨rfl, rfl⟩
  go_wp2_with fail
  go_loop [9, 10] (fun pv kv => ∃ k : Nat, k ≤ n ∧ kv = .int .i64 k ∧ pv = .int .i64 (Dg.p10 k)) (fun _ kv => n - (intOf kv).toNat)
  case atStart => exact ⟨0, by omega, rfl, rfl⟩
  case round =>
    obtain ⟨k, hk, rfl, rfl⟩ := hrel
    by_cases hlt : k < n
    · have q1 : decide ((k : Int) < n) = true := by simp; omega
      obtain ⟨b1, b2⟩ := p10_18 (k + 1) (by omega)
      have hs : Dg.p10 (k + 1) = 10 * Dg.p10 k := rfl
      rw [hs] at b1 b2
      have HS := Lib.hid hs
      clear hs
      go_wp2
      go_round
      case rel => exact ⟨k + 1, by omega, by go_num, by rw [HS.out]; congr 1; omega⟩
      case measure => simp [intOf]; omega
    · obtain rfl : k = n := by omega
      have t1 : ¬ k < k := by omega
      go_wp2_with fail
      refine (lgives _ _).mono ?_
      rintro e w2 ⟨rfl, rfl⟩
      go_wp2_with fail
      refine (HG.out _).mono ?_
      rintro e w3 ⟨rfl, qw3⟩
      have uw3 := qw3.dn
      clear qw3
      go_wp2_with fail
      refine (HH.out _).mono ?_
      rintro e w4 ⟨rfl, qw4⟩
      have uw4 := uw3.trans qw4.dn
      clear qw4 uw3
      go_wp2_with fail
      refine (lfails 15 _).mono ?_
      rintro e w5 ⟨rfl, rfl⟩
      go_wp2_with fail
      refine (lives1 _ (hE.dn uw4)).mono ?_
      rintro e w6 ⟨rfl, qw6⟩
      have uw6 := uw4.trans qw6
      clear qw6 uw4
      go_wp2_with fail
      go_ret
      exact ⟨rfl, uw6⟩
set_option maxHeartbeats 4000000 in
set_option maxRecDepth 100000 in
theorem igcdl_fit_o2  (n : Nat) (hn : n ≤ 18) (w : World) (hE : EnvI w) :
    Calls Tryd.prog 5 #[.int .i64 0, .int .i64 (-9223372036854775808), .int .i64 (n : Int)] w fun e w' => e = .returned (.bool true) ∧ Dn w w' := by
  have d1 : decide ((n : Int) < 0) = false := by simp
  have d2 : decide (18 < (n : Int)) = false := by simp; omega
  have HG := Lib.hid (fun W => igcd_over 0 (-9223372036854775808) W (by decide) (by decide) (by decide))
  have HH := Lib.hid (fun W => igcd_over (-9223372036854775808) 0 W (by decide) (by decide) (by decide))
  have HN := Lib.hid hn
  go_enter Tryd.func5, Tryd.ntmps5
  go_wp2_with fail
  refine (ipow_yes n _ HN.out).mono ?_
  rintro e w1 ⟨rfl, rfl⟩
  go_wp2_with fail
  go_loop [9, 10] (fun pv kv => ∃ k : Nat, k ≤ n ∧ kv = .int .i64 k ∧ pv = .int .i64 (Dg.p10 k)) (fun _ kv => n - (intOf kv).toNat)
  case atStart => exact ⟨0, by omega, rfl, rfl⟩
  case round =>
    obtain ⟨k, hk, rfl, rfl⟩ := hrel
    by_cases hlt : k < n
    · have q1 : decide ((k : Int) < n) = true := by simp; omega
      obtain ⟨b1, b2⟩ := p10_18 (k + 1) (by omega)
      have hs : Dg.p10 (k + 1) = 10 * Dg.p10 k := rfl
      rw [hs] at b1 b2
      have HS := Lib.hid hs
      clear hs
      go_wp2
      go_round
      case rel => exact ⟨k + 1, by omega, by go_num, by rw [HS.out]; congr 1; omega⟩
      case measure => simp [intOf]; omega
    · obtain rfl : k = n := by omega
      have t1 : ¬ k < k := by omega
      go_wp2_with fail
      refine (lgives _ _).mono ?_
      rintro e w2 ⟨rfl, rfl⟩
      go_wp2_with fail
      refine (HG.out _).mono ?_
      rintro e w3 ⟨rfl, qw3⟩
      have uw3 := qw3.dn
      clear qw3
      go_wp2_with fail
      refine (HH.out _).mono ?_
      rintro e w4 ⟨rfl, qw4⟩
      have uw4 := uw3.trans qw4.dn
      clear qw4 uw3
      go_wp2_with fail
      refine (lfails 15 _).mono ?_
      rintro e w5 ⟨rfl, rfl⟩
      go_wp2_with fail
      refine (lives1 _ (hE.dn uw4)).mono ?_
      rintro e w6 ⟨rfl, qw6⟩
      have uw6 := uw4.trans qw6
      clear qw6 uw4
      go_wp2_with fail
      go_ret
      exact ⟨rfl, uw6⟩
set_option maxHeartbeats 4000000 in
set_option maxRecDepth 100000 in
theorem igcdl_fit_o3  (n : Nat) (hn : n ≤ 18) (w : World) (hE : EnvI w) :
    Calls Tryd.prog 5 #[.int .i64 (-9223372036854775808), .int .i64 (-9223372036854775808), .int .i64 (n : Int)] w fun e w' => e = .returned (.bool true) ∧ Dn w w' := by
  have d1 : decide ((n : Int) < 0) = false := by simp
  have d2 : decide (18 < (n : Int)) = false := by simp; omega
  have HG := Lib.hid (fun W => igcd_over (-9223372036854775808) (-9223372036854775808) W (by decide) (by decide) (by decide))
  have HH := Lib.hid (fun W => igcd_over (-9223372036854775808) (-9223372036854775808) W (by decide) (by decide) (by decide))
  have HN := Lib.hid hn
  go_enter Tryd.func5, Tryd.ntmps5
  go_wp2_with fail
  refine (ipow_yes n _ HN.out).mono ?_
  rintro e w1 ⟨rfl, rfl⟩
  go_wp2_with fail
  go_loop [9, 10] (fun pv kv => ∃ k : Nat, k ≤ n ∧ kv = .int .i64 k ∧ pv = .int .i64 (Dg.p10 k)) (fun _ kv => n - (intOf kv).toNat)
  case atStart => exact ⟨0, by omega, rfl, rfl⟩
  case round =>
    obtain ⟨k, hk, rfl, rfl⟩ := hrel
    by_cases hlt : k < n
    · have q1 : decide ((k : Int) < n) = true := by simp; omega
      obtain ⟨b1, b2⟩ := p10_18 (k + 1) (by omega)
      have hs : Dg.p10 (k + 1) = 10 * Dg.p10 k := rfl
      rw [hs] at b1 b2
      have HS := Lib.hid hs
      clear hs
      go_wp2
      go_round
      case rel => exact ⟨k + 1, by omega, by go_num, by rw [HS.out]; congr 1; omega⟩
      case measure => simp [intOf]; omega
    · obtain rfl : k = n := by omega
      have t1 : ¬ k < k := by omega
      go_wp2_with fail
      refine (lgives _ _).mono ?_
      rintro e w2 ⟨rfl, rfl⟩
      go_wp2_with fail
      refine (HG.out _).mono ?_
      rintro e w3 ⟨rfl, qw3⟩
      have uw3 := qw3.dn
      clear qw3
      go_wp2_with fail
      refine (HH.out _).mono ?_
      rintro e w4 ⟨rfl, qw4⟩
      have uw4 := uw3.trans qw4.dn
      clear qw4 uw3
      go_wp2_with fail
      refine (lfails 15 _).mono ?_
      rintro e w5 ⟨rfl, rfl⟩
      go_wp2_with fail
      refine (lives1 _ (hE.dn uw4)).mono ?_
      rintro e w6 ⟨rfl, qw6⟩
      have uw6 := uw4.trans qw6
      clear qw6 uw4
      go_wp2_with fail
      go_ret
      exact ⟨rfl, uw6⟩
set_option maxHeartbeats 4000000 in
set_option maxRecDepth 100000 in
theorem igcdl_fit_z  (n : Nat) (hn : n ≤ 18) (w : World) (hE : EnvI w) :
    Calls Tryd.prog 5 #[.int .i64 0, .int .i64 0, .int .i64 (n : Int)] w fun e w' => e = .returned (.bool true) ∧ Dn w w' := by
  have d1 : decide ((n : Int) < 0) = false := by simp
  have d2 : decide (18 < (n : Int)) = false := by simp; omega
  have HG := Lib.hid (fun W => igcd_at 0 0 0 W (by decide) (by decide) (by decide) (by decide))
  have HN := Lib.hid hn
  go_enter Tryd.func5, Tryd.ntmps5
  go_wp2_with fail
  refine (ipow_yes n _ HN.out).mono ?_
  rintro e w1 ⟨rfl, rfl⟩
  go_wp2_with fail
  go_loop [9, 10] (fun pv kv => ∃ k : Nat, k ≤ n ∧ kv = .int .i64 k ∧ pv = .int .i64 (Dg.p10 k)) (fun _ kv => n - (intOf kv).toNat)
  case atStart => exact ⟨0, by omega, rfl, rfl⟩
  case round =>
    obtain ⟨k, hk, rfl, rfl⟩ := hrel
    by_cases hlt : k < n
    · have q1 : decide ((k : Int) < n) = true := by simp; omega
      obtain ⟨b1, b2⟩ := p10_18 (k + 1) (by omega)
      have hs : Dg.p10 (k + 1) = 10 * Dg.p10 k := rfl
      rw [hs] at b1 b2
      have HS := Lib.hid hs
      clear hs
      go_wp2
      go_round
      case rel => exact ⟨k + 1, by omega, by go_num, by rw [HS.out]; congr 1; omega⟩
      case measure => simp [intOf]; omega
    · obtain rfl : k = n := by omega
      have t1 : ¬ k < k := by omega
      go_wp2_with fail
      refine (lgives _ _).mono ?_
      rintro e w2 ⟨rfl, rfl⟩
      go_wp2_with fail
      refine (HG.out _).mono ?_
      rintro e w3 ⟨rfl, qw3⟩
      have uw3 := qw3.dn
      clear qw3
      go_wp2_with fail
      refine (HG.out _).mono ?_
      rintro e w4 ⟨rfl, qw4⟩
      have uw4 := uw3.trans qw4.dn
      clear qw4 uw3
      go_wp2_with fail
      refine (lives1 _ (hE.dn uw4)).mono ?_
      rintro e w5 ⟨rfl, qw5⟩
      have uw5 := uw4.trans qw5
      clear qw5 uw4
      go_wp2_with fail
      go_ret
      exact ⟨rfl, uw5⟩
end Go.Proofs.YtnibmofbalgobaaDoor
