/-
  WALKS OF circalaw01: IntsGcd returns true. (Printed by wip/gen/law1c.py.)
-/
import Derived.Test.YtnibmofbalgobaaDoorLawOneC0
namespace Go.Proofs.YtnibmofbalgobaaDoor
open Go.RowKit
set_option maxHeartbeats 4000000 in
set_option maxRecDepth 100000 in
theorem igcdl_big_o1  (n : Int) (hn : 18 < n) (w : World) (hE : EnvI w) :
    Calls Tryd.prog 5 #[.int .i64 (-9223372036854775808), .int .i64 0, .int .i64 n] w fun e w' => e = .returned (.bool true) ∧ Dn w w' := by
  have d1 : decide (n < 0) = false := by simp; omega
  have d2 : decide (18 < n) = true := by simpa using hn
  have HG := Lib.hid (fun W => igcd_over (-9223372036854775808) 0 W (by decide) (by decide) (by decide))
  have HH := Lib.hid (fun W => igcd_over 0 (-9223372036854775808) W (by decide) (by decide) (by decide))
  have HN := Lib.hid hn
  clear hn
  go_enter Tryd.func5, Tryd.ntmps5
  go_wp2_with fail
  refine (ipow_over n _ HN.out).mono ?_
  rintro e w1 ⟨rfl, rfl⟩
  go_wp2_with fail
  refine (lfails 15 _).mono ?_
  rintro e w2 ⟨rfl, rfl⟩
  go_wp2_with fail
  refine (HG.out _).mono ?_
  rintro e w3 ⟨rfl, qw3⟩
  have uw3 := qw3.dn
  clear qw3
  go_wp2_with fail
  refine (HH.out _).mono ?_
  rintro e w4 ⟨rfl, qw4⟩
  have uw4 := uw3.trans qw4.dn
  clear qw4 uw3
  go_wp2_with fail
  refine (lfails 15 _).mono ?_
  rintro e w5 ⟨rfl, rfl⟩
  go_wp2_with fail
  refine (lives1 _ (hE.dn uw4)).mono ?_
  rintro e w6 ⟨rfl, qw6⟩
  have uw6 := uw4.trans qw6
  clear qw6 uw4
  go_wp2_with fail
  go_ret
  exact ⟨rfl, uw6⟩
set_option maxHeartbeats 4000000 in
set_option maxRecDepth 100000 in
theorem igcdl_big_o2  (n : Int) (hn : 18 < n) (w : World) (hE : EnvI w) :
    Calls Tryd.prog 5 #[.int .i64 0, .int .i64 (-9223372036854775808), .int .i64 n] w fun e w' => e = .returned (.bool true) ∧ Dn w w' := by
  have d1 : decide (n < 0) = false := by simp; omega
  have d2 : decide (18 < n) = true := by simpa using hn
  have HG := Lib.hid (fun W => igcd_over 0 (-9223372036854775808) W (by decide) (by decide) (by decide))
  have HH := Lib.hid (fun W => igcd_over (-9223372036854775808) 0 W (by decide) (by decide) (by decide))
  have HN := Lib.hid hn
  clear hn
  go_enter Tryd.func5, Tryd.ntmps5
  go_wp2_with fail
  refine (ipow_over n _ HN.out).mono ?_
  rintro e w1 ⟨rfl, rfl⟩
  go_wp2_with fail
  refine (lfails 15 _).mono ?_
  rintro e w2 ⟨rfl, rfl⟩
  go_wp2_with fail
  refine (HG.out _).mono ?_
  rintro e w3 ⟨rfl, qw3⟩
  have uw3 := qw3.dn
  clear qw3
  go_wp2_with fail
  refine (HH.out _).mono ?_
  rintro e w4 ⟨rfl, qw4⟩
  have uw4 := uw3.trans qw4.dn
  clear qw4 uw3
  go_wp2_with fail
  refine (lfails 15 _).mono ?_
  rintro e w5 ⟨rfl, rfl⟩
  go_wp2_with fail
  refine (lives1 _ (hE.dn uw4)).mono ?_
  rintro e w6 ⟨rfl, qw6⟩
  have uw6 := uw4.trans qw6
  clear qw6 uw4
  go_wp2_with fail
  go_ret
  exact ⟨rfl, uw6⟩
set_option maxHeartbeats 4000000 in
set_option maxRecDepth 100000 in
theorem igcdl_big_o3  (n : Int) (hn : 18 < n) (w : World) (hE : EnvI w) :
    Calls Tryd.prog 5 #[.int .i64 (-9223372036854775808), .int .i64 (-9223372036854775808), .int .i64 n] w fun e w' => e = .returned (.bool true) ∧ Dn w w' := by
  have d1 : decide (n < 0) = false := by simp; omega
  have d2 : decide (18 < n) = true := by simpa using hn
  have HG := Lib.hid (fun W => igcd_over (-9223372036854775808) (-9223372036854775808) W (by decide) (by decide) (by decide))
  have HH := Lib.hid (fun W => igcd_over (-9223372036854775808) (-9223372036854775808) W (by decide) (by decide) (by decide))
  have HN := Lib.hid hn
  clear hn
  go_enter Tryd.func5, Tryd.ntmps5
  go_wp2_with fail
  refine (ipow_over n _ HN.out).mono ?_
  rintro e w1 ⟨rfl, rfl⟩
  go_wp2_with fail
  refine (lfails 15 _).mono ?_
  rintro e w2 ⟨rfl, rfl⟩
  go_wp2_with fail
  refine (HG.out _).mono ?_
  rintro e w3 ⟨rfl, qw3⟩
  have uw3 := qw3.dn
  clear qw3
  go_wp2_with fail
  refine (HH.out _).mono ?_
  rintro e w4 ⟨rfl, qw4⟩
  have uw4 := uw3.trans qw4.dn
  clear qw4 uw3
  go_wp2_with fail
  refine (lfails 15 _).mono ?_
  rintro e w5 ⟨rfl, rfl⟩
  go_wp2_with fail
  refine (lives1 _ (hE.dn uw4)).mono ?_
  rintro e w6 ⟨rfl, qw6⟩
  have uw6 := uw4.trans qw6
  clear qw6 uw4
  go_wp2_with fail
  go_ret
  exact ⟨rfl, uw6⟩
set_option maxHeartbeats 4000000 in
set_option maxRecDepth 100000 in
theorem igcdl_big_z  (n : Int) (hn : 18 < n) (w : World) (hE : EnvI w) :
    Calls Tryd.prog 5 #[.int .i64 0, .int .i64 0, .int .i64 n] w fun e w' => e = .returned (.bool true) ∧ Dn w w' := by
  have d1 : decide (n < 0) = false := by simp; omega
  have d2 : decide (18 < n) = true := by simpa using hn
  have HG := Lib.hid (fun W => igcd_at 0 0 0 W (by decide) (by decide) (by decide) (by decide))
  have HN := Lib.hid hn
  clear hn
  go_enter Tryd.func5, Tryd.ntmps5
  go_wp2_with fail
  refine (ipow_over n _ HN.out).mono ?_
  rintro e w1 ⟨rfl, rfl⟩
  go_wp2_with fail
  refine (lfails 15 _).mono ?_
  rintro e w2 ⟨rfl, rfl⟩
  go_wp2_with fail
  refine (HG.out _).mono ?_
  rintro e w3 ⟨rfl, qw3⟩
  have uw3 := qw3.dn
  clear qw3
  go_wp2_with fail
  refine (HG.out _).mono ?_
  rintro e w4 ⟨rfl, qw4⟩
  have uw4 := uw3.trans qw4.dn
  clear qw4 uw3
  go_wp2_with fail
  refine (lives1 _ (hE.dn uw4)).mono ?_
  rintro e w5 ⟨rfl, qw5⟩
  have uw5 := uw4.trans qw5
  clear qw5 uw4
  go_wp2_with fail
  go_ret
  exact ⟨rfl, uw5⟩
end Go.Proofs.YtnibmofbalgobaaDoor
