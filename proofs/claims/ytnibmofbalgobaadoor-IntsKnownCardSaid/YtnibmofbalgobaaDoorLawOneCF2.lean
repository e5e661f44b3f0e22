/-
  WALKS OF circalaw01: IntsGcd returns true. (Printed by wip/gen/law1c.py.)
-/
import Derived.Test.YtnibmofbalgobaaDoorLawOneC0
namespace Go.Proofs.YtnibmofbalgobaaDoor
open Go.RowKit
set_option maxHeartbeats 4000000 in
set_option maxRecDepth 100000 in
theorem igcdl_fit_pa (a b : Int) (ha : I64 a) (hb : I64 b) (h1 : a ≠ 0) (h2 : a ≠ -9223372036854775808) (n : Nat) (hn : n ≤ 18) (w : World) (hE : EnvI w) :
    Calls Tryd.prog 5 #[.int .i64 a, .int .i64 b, .int .i64 (n : Int)] w fun e w' => e = .returned (.bool true) ∧ Dn w w' := by
  have k1 : (a == 0) = false := by simpa using h1
  have k2 : (a == -9223372036854775808) = false := by simpa using h2
  have hgg := gcd_le a b ha hb (Or.inl ⟨h1, h2⟩)
  have d1 : decide ((n : Int) < 0) = false := by simp
  have d2 : decide (18 < (n : Int)) = false := by simp; omega
  generalize hg : Nat.gcd (a : Int).natAbs b.natAbs = g at hgg
  obtain ⟨hg1, hg2⟩ := hgg
  have HG := Lib.hid (fun W => igcd_at a b g W ha hb hg hg2)
  have HH := Lib.hid (fun W => igcd_at b a g W hb ha ((Nat.gcd_comm _ _).trans hg) hg2)
  have HO := Lib.hid (fun W => igcd_at _ _ 1 W (tdiv_i64 a g ha hg1) (tdiv_i64 b g hb hg1) (tdiv_gcd a b g hg hg1) (by decide))
  obtain ⟨x1, x2⟩ := tdiv_i64 a g ha hg1
  obtain ⟨y1, y2⟩ := tdiv_i64 b g hb hg1
  have m1 : ((a : Int).tmod g == 0) = true := by simp [dvd_tmod a g (by rw [← hg]; exact Nat.gcd_dvd_left _ _)]
  have m2 : ((b : Int).tmod g == 0) = true := by simp [dvd_tmod b g (by rw [← hg]; exact Nat.gcd_dvd_right _ _)]
  have g0 : ((g : Int) == 0) = false := by simp; omega
  have g2 : ¬ (g : Int) = 0 := by omega
  have g3 : ¬ g = 0 := by omega
  have e1 := IntWalk.i64_in _ ⟨x1, x2⟩
  have e2 := IntWalk.i64_in _ ⟨y1, y2⟩
  have z1 : Int.tdiv 0 (g : Int) = 0 := Int.zero_tdiv _
  try rw [z1] at HO
  clear z1
  have g1 : decide ((g : Int) < 0) = false := by simp
  clear hg
  have HN := Lib.hid hn
  go_enter Tryd.func5, Tryd.ntmps5
  go_wp2_with fail
  refine (ipow_yes n _ HN.out).mono ?_
  rintro e w1 ⟨rfl, rfl⟩
  go_wp2_with fail
  go_loop [9, 10] (fun pv kv => ∃ k : Nat, k ≤ n ∧ kv = .int .i64 k ∧ pv = .int .i64 (Dg.p10 k)) (fun _ kv => n - (intOf kv).toNat)
  case atStart => exact ⟨0, by omega, rfl, rfl⟩
  case round =>
    obtain ⟨k, hk, rfl, rfl⟩ := hrel
    by_cases hlt : k < n
    · have q1 : decide ((k : Int) < n) = true := by simp; omega
      obtain ⟨b1, b2⟩ := p10_18 (k + 1) (by omega)
      have hs : Dg.p10 (k + 1) = 10 * Dg.p10 k := rfl
      rw [hs] at b1 b2
      have HS := Lib.hid hs
      clear hs
      go_wp2
      go_round
      case rel => exact ⟨k + 1, by omega, by go_num, by rw [HS.out]; congr 1; omega⟩
      case measure => simp [intOf]; omega
    · obtain rfl : k = n := by omega
      have t1 : ¬ k < k := by omega
      go_wp2_with fail
      refine (lgives _ _).mono ?_
      rintro e w2 ⟨rfl, rfl⟩
      go_wp2_with fail
      refine (HG.out _).mono ?_
      rintro e w3 ⟨rfl, qw3⟩
      have uw3 := qw3.dn
      clear qw3
      go_wp2_with fail
      refine (HH.out _).mono ?_
      rintro e w4 ⟨rfl, qw4⟩
      have uw4 := uw3.trans qw4.dn
      clear qw4 uw3
      go_wp2_with fail
      go_region_held3 (fun w' => Up w4 w') (first | exact k0_start _ | exact Up.trans ‹Up w4 _› ‹_›)
        (first | (go_at_call 34; refine (HO.out _).mono ?_; rintro e wr ⟨rfl, hur⟩))
      have hf : Up w4 _ := ‹Up w4 _›
      have hR := uw4.trans hf.dn
      clear hf uw4
      go_wp2_with fail
      refine (lgives 1 _).mono ?_
      rintro e w5 ⟨rfl, rfl⟩
      go_wp2_with fail
      refine (lives1 _ (hE.dn hR)).mono ?_
      rintro e w6 ⟨rfl, qw6⟩
      have uw6 := hR.trans qw6
      clear qw6 hR
      go_wp2_with fail
      go_ret
      exact ⟨rfl, uw6⟩
set_option maxHeartbeats 4000000 in
set_option maxRecDepth 100000 in
theorem igcdl_fit_pb (b : Int) (hb : I64 b) (h1 : b ≠ 0) (h2 : b ≠ -9223372036854775808) (n : Nat) (hn : n ≤ 18) (w : World) (hE : EnvI w) :
    Calls Tryd.prog 5 #[.int .i64 0, .int .i64 b, .int .i64 (n : Int)] w fun e w' => e = .returned (.bool true) ∧ Dn w w' := by
  have k1 : (b == 0) = false := by simpa using h1
  have k2 : (b == -9223372036854775808) = false := by simpa using h2
  have ha : I64 0 := by decide
  have hgg := gcd_le 0 b ha hb (Or.inr ⟨h1, h2⟩)
  have d1 : decide ((n : Int) < 0) = false := by simp
  have d2 : decide (18 < (n : Int)) = false := by simp; omega
  generalize hg : Nat.gcd (0 : Int).natAbs b.natAbs = g at hgg
  obtain ⟨hg1, hg2⟩ := hgg
  have HG := Lib.hid (fun W => igcd_at 0 b g W ha hb hg hg2)
  have HH := Lib.hid (fun W => igcd_at b 0 g W hb ha ((Nat.gcd_comm _ _).trans hg) hg2)
  have HO := Lib.hid (fun W => igcd_at _ _ 1 W (tdiv_i64 0 g ha hg1) (tdiv_i64 b g hb hg1) (tdiv_gcd 0 b g hg hg1) (by decide))
  obtain ⟨x1, x2⟩ := tdiv_i64 0 g ha hg1
  obtain ⟨y1, y2⟩ := tdiv_i64 b g hb hg1
  have m1 : ((0 : Int).tmod g == 0) = true := by simp [dvd_tmod 0 g (by rw [← hg]; exact Nat.gcd_dvd_left _ _)]
  have m2 : ((b : Int).tmod g == 0) = true := by simp [dvd_tmod b g (by rw [← hg]; exact Nat.gcd_dvd_right _ _)]
  have g0 : ((g : Int) == 0) = false := by simp; omega
  have g2 : ¬ (g : Int) = 0 := by omega
  have g3 : ¬ g = 0 := by omega
  have e1 := IntWalk.i64_in _ ⟨x1, x2⟩
  have e2 := IntWalk.i64_in _ ⟨y1, y2⟩
  have z1 : Int.tdiv 0 (g : Int) = 0 := Int.zero_tdiv _
  try rw [z1] at HO
  clear z1
  have g1 : decide ((g : Int) < 0) = false := by simp
  clear hg
  have HN := Lib.hid hn
  go_enter Tryd.func5, Tryd.ntmps5
  go_wp2_with fail
  refine (ipow_yes n _ HN.out).mono ?_
  rintro e w1 ⟨rfl, rfl⟩
  go_wp2_with fail
  go_loop [9, 10] (fun pv kv => ∃ k : Nat, k ≤ n ∧ kv = .int .i64 k ∧ pv = .int .i64 (Dg.p10 k)) (fun _ kv => n - (intOf kv).toNat)
  case atStart => exact ⟨0, by omega, rfl, rfl⟩
  case round =>
    obtain ⟨k, hk, rfl, rfl⟩ := hrel
    by_cases hlt : k < n
    · have q1 : decide ((k : Int) < n) = true := by simp; omega
      obtain ⟨b1, b2⟩ := p10_18 (k + 1) (by omega)
      have hs : Dg.p10 (k + 1) = 10 * Dg.p10 k := rfl
      rw [hs] at b1 b2
      have HS := Lib.hid hs
      clear hs
      go_wp2
      go_round
      case rel => exact ⟨k + 1, by omega, by go_num, by rw [HS.out]; congr 1; omega⟩
      case measure => simp [intOf]; omega
    · obtain rfl : k = n := by omega
      have t1 : ¬ k < k := by omega
      go_wp2_with fail
      refine (lgives _ _).mono ?_
      rintro e w2 ⟨rfl, rfl⟩
      go_wp2_with fail
      refine (HG.out _).mono ?_
      rintro e w3 ⟨rfl, qw3⟩
      have uw3 := qw3.dn
      clear qw3
      go_wp2_with fail
      refine (HH.out _).mono ?_
      rintro e w4 ⟨rfl, qw4⟩
      have uw4 := uw3.trans qw4.dn
      clear qw4 uw3
      go_wp2_with fail
      go_region_held3 (fun w' => Up w4 w') (first | exact k0_start _ | exact Up.trans ‹Up w4 _› ‹_›)
        (first | (go_at_call 34; refine (HO.out _).mono ?_; rintro e wr ⟨rfl, hur⟩))
      have hf : Up w4 _ := ‹Up w4 _›
      have hR := uw4.trans hf.dn
      clear hf uw4
      go_wp2_with fail
      refine (lgives 1 _).mono ?_
      rintro e w5 ⟨rfl, rfl⟩
      go_wp2_with fail
      refine (lives1 _ (hE.dn hR)).mono ?_
      rintro e w6 ⟨rfl, qw6⟩
      have uw6 := hR.trans qw6
      clear qw6 hR
      go_wp2_with fail
      go_ret
      exact ⟨rfl, uw6⟩
set_option maxHeartbeats 4000000 in
set_option maxRecDepth 100000 in
theorem igcdl_fit_pc (a b : Int) (ha : I64 a) (hb : I64 b) (hm : a = -9223372036854775808) (h1 : b ≠ 0) (h2 : b ≠ -9223372036854775808) (n : Nat) (hn : n ≤ 18) (w : World) (hE : EnvI w) :
    Calls Tryd.prog 5 #[.int .i64 a, .int .i64 b, .int .i64 (n : Int)] w fun e w' => e = .returned (.bool true) ∧ Dn w w' := by
  have k1 : (b == 0) = false := by simpa using h1
  have k2 : (b == -9223372036854775808) = false := by simpa using h2
  have k3 : (a == -9223372036854775808) = true := by simpa using hm
  have k4 : (a == 0) = false := by simp; omega
  clear hm
  have hgg := gcd_le a b ha hb (Or.inr ⟨h1, h2⟩)
  have d1 : decide ((n : Int) < 0) = false := by simp
  have d2 : decide (18 < (n : Int)) = false := by simp; omega
  generalize hg : Nat.gcd (a : Int).natAbs b.natAbs = g at hgg
  obtain ⟨hg1, hg2⟩ := hgg
  have HG := Lib.hid (fun W => igcd_at a b g W ha hb hg hg2)
  have HH := Lib.hid (fun W => igcd_at b a g W hb ha ((Nat.gcd_comm _ _).trans hg) hg2)
  have HO := Lib.hid (fun W => igcd_at _ _ 1 W (tdiv_i64 a g ha hg1) (tdiv_i64 b g hb hg1) (tdiv_gcd a b g hg hg1) (by decide))
  obtain ⟨x1, x2⟩ := tdiv_i64 a g ha hg1
  obtain ⟨y1, y2⟩ := tdiv_i64 b g hb hg1
  have m1 : ((a : Int).tmod g == 0) = true := by simp [dvd_tmod a g (by rw [← hg]; exact Nat.gcd_dvd_left _ _)]
  have m2 : ((b : Int).tmod g == 0) = true := by simp [dvd_tmod b g (by rw [← hg]; exact Nat.gcd_dvd_right _ _)]
  have g0 : ((g : Int) == 0) = false := by simp; omega
  have g2 : ¬ (g : Int) = 0 := by omega
  have g3 : ¬ g = 0 := by omega
  have e1 := IntWalk.i64_in _ ⟨x1, x2⟩
  have e2 := IntWalk.i64_in _ ⟨y1, y2⟩
  have z1 : Int.tdiv 0 (g : Int) = 0 := Int.zero_tdiv _
  try rw [z1] at HO
  clear z1
  have g1 : decide ((g : Int) < 0) = false := by simp
  clear hg
  have HN := Lib.hid hn
  go_enter Tryd.func5, Tryd.ntmps5
  go_wp2_with fail
  refine (ipow_yes n _ HN.out).mono ?_
  rintro e w1 ⟨rfl, rfl⟩
  go_wp2_with fail
  go_loop [9, 10] (fun pv kv => ∃ k : Nat, k ≤ n ∧ kv = .int .i64 k ∧ pv = .int .i64 (Dg.p10 k)) (fun _ kv => n - (intOf kv).toNat)
  case atStart => exact ⟨0, by omega, rfl, rfl⟩
  case round =>
    obtain ⟨k, hk, rfl, rfl⟩ := hrel
    by_cases hlt : k < n
    · have q1 : decide ((k : Int) < n) = true := by simp; omega
      obtain ⟨b1, b2⟩ := p10_18 (k + 1) (by omega)
      have hs : Dg.p10 (k + 1) = 10 * Dg.p10 k := rfl
      rw [hs] at b1 b2
      have HS := Lib.hid hs
      clear hs
      go_wp2
      go_round
      case rel => exact ⟨k + 1, by omega, by go_num, by rw [HS.out]; congr 1; omega⟩
      case measure => simp [intOf]; omega
    · obtain rfl : k = n := by omega
      have t1 : ¬ k < k := by omega
      go_wp2_with fail
      refine (lgives _ _).mono ?_
      rintro e w2 ⟨rfl, rfl⟩
      go_wp2_with fail
      refine (HG.out _).mono ?_
      rintro e w3 ⟨rfl, qw3⟩
      have uw3 := qw3.dn
      clear qw3
      go_wp2_with fail
      refine (HH.out _).mono ?_
      rintro e w4 ⟨rfl, qw4⟩
      have uw4 := uw3.trans qw4.dn
      clear qw4 uw3
      go_wp2_with fail
      go_region_held3 (fun w' => Up w4 w') (first | exact k0_start _ | exact Up.trans ‹Up w4 _› ‹_›)
        (first | (go_at_call 34; refine (HO.out _).mono ?_; rintro e wr ⟨rfl, hur⟩))
      have hf : Up w4 _ := ‹Up w4 _›
      have hR := uw4.trans hf.dn
      clear hf uw4
      go_wp2_with fail
      refine (lgives 1 _).mono ?_
      rintro e w5 ⟨rfl, rfl⟩
      go_wp2_with fail
      refine (lives1 _ (hE.dn hR)).mono ?_
      rintro e w6 ⟨rfl, qw6⟩
      have uw6 := hR.trans qw6
      clear qw6 hR
      go_wp2_with fail
      go_ret
      exact ⟨rfl, uw6⟩
end Go.Proofs.YtnibmofbalgobaaDoor
