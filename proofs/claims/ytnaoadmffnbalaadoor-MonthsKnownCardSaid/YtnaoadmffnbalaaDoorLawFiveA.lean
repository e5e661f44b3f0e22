/-
  WALKS OF circalaw05: num, month, lives. (Printed by wip/gen/law5.py.)
-/
import Derived.Test.YtnaoadmffnbalaaDoorRefFive
namespace Go.Proofs.YtnaoadmffnbalaaDoor
open Go.RowKit

theorem num5 (n : Int) (w : World) :
    Calls Tryd.prog 42 #[.int .i64 n, .int .i64 0, .int .i64 n] w fun e w' => e = .returned (.bool true) ∧ w = w' := by
  go_enter Tryd.func42, Tryd.ntmps42
  go_wp2_with fail
  go_ret
  exact ⟨rfl, rfl⟩
theorem month5 (y m : Int) (w : World) :
    Calls Tryd.prog 45 #[.int .i64 y, .int .i64 m, .int .i64 0, .int .i64 y, .int .i64 m] w fun e w' => e = .returned (.bool true) ∧ w = w' := by
  go_enter Tryd.func45, Tryd.ntmps45
  go_wp2_with fail
  go_ret
  exact ⟨rfl, rfl⟩
theorem mlen_at (y m n : Int) (w : World) (hn : Cal.mlen y m = n) (h : IsM y m) (hE : EnvM w) :
    Calls Tryd.prog 32 #[.int .i64 y, .int .i64 m] w fun e w' => e = .returned (.tuple #[.int .i64 n, .int .i64 0]) ∧ Up w w' := by
  rw [← hn]; exact mlen_yes y m w h hE
theorem mstart_at (y m n : Int) (w : World) (hn : Cal.sm y m = n) (h : IsM y m) (hE : EnvM w) :
    Calls Tryd.prog 33 #[.int .i64 y, .int .i64 m] w fun e w' => e = .returned (.tuple #[.int .i64 n, .int .i64 0]) ∧ Up w w' := by
  rw [← hn]; exact mstart_yes y m w h hE
theorem mend_at (y m n : Int) (w : World) (hn : Cal.sm y (m + 1) - 1 = n) (h : IsM y m) (hE : EnvM w) :
    Calls Tryd.prog 34 #[.int .i64 y, .int .i64 m] w fun e w' => e = .returned (.tuple #[.int .i64 n, .int .i64 0]) ∧ Up w w' := by
  rw [← hn]; exact mend_yes y m w h hE
theorem mof_at (d y m : Int) (w : World) (h1 : Cal.sm y m ≤ d) (h2 : d < Cal.sm y (m + 1)) (h : IsM y m) (hd : I64 d) (hE : EnvM w) :
    Calls Tryd.prog 43 #[.int .i64 d] w fun e w' => e = .returned (.tuple #[.int .i64 y, .int .i64 m, .int .i64 0]) ∧ Up w w' := by
  obtain ⟨e1, e2⟩ := mo_of d y m h.2.1 h.2.2 h1 h2
  have := mof_yes d w hd (by rw [e1]; exact h.1) hE
  rw [e1, e2] at this
  exact this
theorem mi_of (y m : Int) (h1 : 1 ≤ m) (h2 : m ≤ 12) : mi y m / 12 = y ∧ mi y m % 12 + 1 = m := by unfold mi; omega
theorem madd_at (y m k z n : Int) (w : World) (hz : mi y m + k = mi z n) (h : IsM y m) (h' : IsM z n) (hk : I64 k) (hE : EnvM w) :
    Calls Tryd.prog 41 #[.int .i64 y, .int .i64 m, .int .i64 k] w fun e w' => e = .returned (.tuple #[.int .i64 z, .int .i64 n, .int .i64 0]) ∧ Up w w' := by
  obtain ⟨e1, e2⟩ := mi_of z n h'.2.1 h'.2.2
  have := madd_yes y m k w h hk (by rw [hz, e1]; exact h'.1) hE
  rw [hz, e1, e2] at this
  exact this
theorem mbetw_at (y m z n k : Int) (w : World) (hk : mi z n - mi y m = k) (h : IsM y m) (h' : IsM z n) :
    Calls Tryd.prog 47 #[.int .i64 y, .int .i64 m, .int .i64 z, .int .i64 n] w fun e w' => e = .returned (.tuple #[.int .i64 k, .int .i64 0]) ∧ w = w' := by
  rw [← hk]; exact mbetw_yes y m z n w h h'
set_option maxHeartbeats 4000000 in
set_option maxRecDepth 100000 in
theorem lives5 (w : World) (hE : EnvM w) :
    Calls Tryd.prog 37 #[] w fun e w' => e = .returned (.bool true) ∧ Up w w' := by
  obtain ⟨W1, hW1⟩ : ∃ W1, W1 = ((w.alloc (.cells #[.int .i64 2000, .int .i64 1900, .int .i64 2001] 2)).alloc (.cells #[.int .i64 2, .int .i64 2, .int .i64 9] 3)).alloc (.cells #[.int .i64 29, .int .i64 28, .int .i64 30] 3) := ⟨_, rfl⟩
  have u1 : Up w W1 := by rw [hW1]; exact (((Up.refl _).alloc _).alloc _).alloc _
  have d0_0 : W1.cell? ⟨w.heap.size, 0, none⟩ = some (.int .i64 2000) := by rw [hW1]; simp [go_sem]
  have d0_1 : W1.cell? ⟨w.heap.size, 1, none⟩ = some (.int .i64 1900) := by rw [hW1]; simp [go_sem]
  have d0_2 : W1.cell? ⟨w.heap.size, 2, none⟩ = some (.int .i64 2001) := by rw [hW1]; simp [go_sem]
  have d1_0 : W1.cell? ⟨w.heap.size + 1, 0, none⟩ = some (.int .i64 2) := by rw [hW1]; simp [go_sem]
  have d1_1 : W1.cell? ⟨w.heap.size + 1, 1, none⟩ = some (.int .i64 2) := by rw [hW1]; simp [go_sem]
  have d1_2 : W1.cell? ⟨w.heap.size + 1, 2, none⟩ = some (.int .i64 9) := by rw [hW1]; simp [go_sem]
  have d2_0 : W1.cell? ⟨w.heap.size + 1 + 1, 0, none⟩ = some (.int .i64 29) := by rw [hW1]; simp [go_sem]
  have d2_1 : W1.cell? ⟨w.heap.size + 1 + 1, 1, none⟩ = some (.int .i64 28) := by rw [hW1]; simp [go_sem]
  have d2_2 : W1.cell? ⟨w.heap.size + 1 + 1, 2, none⟩ = some (.int .i64 30) := by rw [hW1]; simp [go_sem]
  have HW := Lib.hid hW1
  clear hW1
  go_enter Tryd.func37, Tryd.ntmps37
  go_wp2_with fail
  rw [← HW.out]
  clear HW
  go_loopw [4] (fun i wr => ∃ k : Int, 0 ≤ k ∧ k ≤ 3 ∧ i = .int .i64 k ∧ Up W1 wr) (fun i _ => (3 - intOf i).toNat)
  case atStart => exact ⟨0, by omega, by omega, rfl, Up.refl _⟩
  case round =>
    obtain ⟨k, hk0, hk, rfl, hu⟩ := hrel
    have hUr := u1.trans hu
    have hEr := hE.up hUr
    have ed0_0 := hu.cell d0_0
    have ed0_1 := hu.cell d0_1
    have ed0_2 := hu.cell d0_2
    have ed1_0 := hu.cell d1_0
    have ed1_1 := hu.cell d1_1
    have ed1_2 := hu.cell d1_2
    have ed2_0 := hu.cell d2_0
    have ed2_1 := hu.cell d2_1
    have ed2_2 := hu.cell d2_2
    have hk' : k = 0 ∨ k = 1 ∨ k = 2 ∨ k = 3 := by omega
    clear hk0 hk d0_0 d0_1 d0_2 d1_0 d1_1 d1_2 d2_0 d2_1 d2_2
    rcases hk' with rfl | rfl | rfl | rfl
    · go_wp2_with fail
      go_region_held3 (fun w' => Up wr w' ∧ w'.cell? ⟨w.heap.size, 0, none⟩ = some (.int .i64 2000) ∧ w'.cell? ⟨w.heap.size + 1, 0, none⟩ = some (.int .i64 2)) (first | exact k2_start ed0_0 ed1_0 | exact k2_step ‹_› ‹_›)
        (first | (go_at_call 32; refine (mlen_at 2000 2 29 _ (by decide) (by decide) (hE.up (hUr.trans ?_))).mono ?_; (simp [*]); rintro e w1 ⟨rfl, hu1⟩))
      have hf : Up wr _ := (‹Up wr _ ∧ _› : _ ∧ _).1
      have g := hf.cell ed2_0
      have hf2 := hu.trans hf
      clear hf ed0_0 ed0_1 ed0_2 ed1_0 ed1_1 ed1_2 ed2_0 ed2_1 ed2_2
      go_wp2_with fail
      go_roundw
      case rel => exact ⟨_, by decide, by decide, rfl, hf2⟩
      case measure => simp [intOf]
    · go_wp2_with fail
      go_region_held3 (fun w' => Up wr w' ∧ w'.cell? ⟨w.heap.size, 1, none⟩ = some (.int .i64 1900) ∧ w'.cell? ⟨w.heap.size + 1, 1, none⟩ = some (.int .i64 2)) (first | exact k2_start ed0_1 ed1_1 | exact k2_step ‹_› ‹_›)
        (first | (go_at_call 32; refine (mlen_at 1900 2 28 _ (by decide) (by decide) (hE.up (hUr.trans ?_))).mono ?_; (simp [*]); rintro e w1 ⟨rfl, hu1⟩))
      have hf : Up wr _ := (‹Up wr _ ∧ _› : _ ∧ _).1
      have g := hf.cell ed2_1
      have hf2 := hu.trans hf
      clear hf ed0_0 ed0_1 ed0_2 ed1_0 ed1_1 ed1_2 ed2_0 ed2_1 ed2_2
      go_wp2_with fail
      go_roundw
      case rel => exact ⟨_, by decide, by decide, rfl, hf2⟩
      case measure => simp [intOf]
    · go_wp2_with fail
      go_region_held3 (fun w' => Up wr w' ∧ w'.cell? ⟨w.heap.size, 2, none⟩ = some (.int .i64 2001) ∧ w'.cell? ⟨w.heap.size + 1, 2, none⟩ = some (.int .i64 9)) (first | exact k2_start ed0_2 ed1_2 | exact k2_step ‹_› ‹_›)
        (first | (go_at_call 32; refine (mlen_at 2001 9 30 _ (by decide) (by decide) (hE.up (hUr.trans ?_))).mono ?_; (simp [*]); rintro e w1 ⟨rfl, hu1⟩))
      have hf : Up wr _ := (‹Up wr _ ∧ _› : _ ∧ _).1
      have g := hf.cell ed2_2
      have hf2 := hu.trans hf
      clear hf ed0_0 ed0_1 ed0_2 ed1_0 ed1_1 ed1_2 ed2_0 ed2_1 ed2_2
      go_wp2_with fail
      go_roundw
      case rel => exact ⟨_, by decide, by decide, rfl, hf2⟩
      case measure => simp [intOf]
    · clear ed0_0 ed0_1 ed0_2 ed1_0 ed1_1 ed1_2 ed2_0 ed2_1 ed2_2 hEr hu
      go_wp2_with fail
      refine (mstart_at 0 3 60 _ (by decide +kernel) (by decide) (hE.up hUr)).mono ?_
      rintro e w11 ⟨rfl, qw11⟩
      have uw11 := hUr.trans qw11
      clear qw11 hUr
      go_wp2_with fail
      refine (mend_at 0 2 59 _ (by decide +kernel) (by decide) (hE.up uw11)).mono ?_
      rintro e w12 ⟨rfl, qw12⟩
      have uw12 := uw11.trans qw12
      clear qw12 uw11
      go_wp2_with fail
      refine (mstart_at 1970 12 719862 _ (by decide +kernel) (by decide) (hE.up uw12)).mono ?_
      rintro e w13 ⟨rfl, qw13⟩
      have uw13 := uw12.trans qw13
      clear qw13 uw12
      go_wp2_with fail
      refine (num5 60 _).mono ?_
      rintro e w14 ⟨rfl, rfl⟩
      go_wp2_with fail
      refine (num5 59 _).mono ?_
      rintro e w15 ⟨rfl, rfl⟩
      go_wp2_with fail
      refine (num5 719862 _).mono ?_
      rintro e w16 ⟨rfl, rfl⟩
      go_wp2_with fail
      refine (mof_at 59 0 2 _ (by decide +kernel) (by decide +kernel) (by decide) (by decide) (hE.up uw13)).mono ?_
      rintro e w17 ⟨rfl, qw17⟩
      have uw17 := uw13.trans qw17
      clear qw17 uw13
      go_wp2_with fail
      refine (mof_at 60 0 3 _ (by decide +kernel) (by decide +kernel) (by decide) (by decide) (hE.up uw17)).mono ?_
      rintro e w18 ⟨rfl, qw18⟩
      have uw18 := uw17.trans qw18
      clear qw18 uw17
      go_wp2_with fail
      refine (mof_at (-1) (-1) 12 _ (by decide +kernel) (by decide +kernel) (by decide) (by decide) (hE.up uw18)).mono ?_
      rintro e w19 ⟨rfl, qw19⟩
      have uw19 := uw18.trans qw19
      clear qw19 uw18
      go_wp2_with fail
      refine (month5 0 2 _).mono ?_
      rintro e w20 ⟨rfl, rfl⟩
      go_wp2_with fail
      refine (month5 0 3 _).mono ?_
      rintro e w21 ⟨rfl, rfl⟩
      go_wp2_with fail
      refine (month5 (-1) 12 _).mono ?_
      rintro e w22 ⟨rfl, rfl⟩
      go_wp2_with fail
      refine (madd_at 1999 11 3 2000 2 _ (by decide) (by decide) (by decide) (by decide) (hE.up uw19)).mono ?_
      rintro e w23 ⟨rfl, qw23⟩
      have uw23 := uw19.trans qw23
      clear qw23 uw19
      go_wp2_with fail
      refine (madd_at 2000 1 (-1) 1999 12 _ (by decide) (by decide) (by decide) (by decide) (hE.up uw23)).mono ?_
      rintro e w24 ⟨rfl, qw24⟩
      have uw24 := uw23.trans qw24
      clear qw24 uw23
      go_wp2_with fail
      refine (madd_far 10000000000000000 12 1 _ (by decide) (by decide) (by decide) (hE.up uw24)).mono ?_
      rintro e w25 ⟨rfl, qw25⟩
      have uw25 := uw24.trans qw25
      clear qw25 uw24
      go_wp2_with fail
      refine (month5 2000 2 _).mono ?_
      rintro e w26 ⟨rfl, rfl⟩
      go_wp2_with fail
      refine (month5 1999 12 _).mono ?_
      rintro e w27 ⟨rfl, rfl⟩
      go_wp2_with fail
      refine (mbetw_at 1999 11 2000 2 3 _ (by decide) (by decide) (by decide)).mono ?_
      rintro e w28 ⟨rfl, rfl⟩
      go_wp2_with fail
      refine (mbetw_at 5 1 4 12 (-1) _ (by decide) (by decide) (by decide)).mono ?_
      rintro e w29 ⟨rfl, rfl⟩
      go_wp2_with fail
      refine (num5 3 _).mono ?_
      rintro e w30 ⟨rfl, rfl⟩
      go_wp2_with fail
      refine (num5 (-1) _).mono ?_
      rintro e w31 ⟨rfl, rfl⟩
      go_wp2_with fail
      refine (mcheck_no 1 13 7 _ (by unfold BadM; decide)).mono ?_
      rintro e w32 ⟨rfl, rfl⟩
      go_wp2_with fail
      refine (mcheck_no 10000000000000001 13 6 _ (by unfold BadM; decide)).mono ?_
      rintro e w33 ⟨rfl, rfl⟩
      go_wp2_with fail
      go_ret
      exact ⟨rfl, uw25⟩
end Go.Proofs.YtnaoadmffnbalaaDoor
