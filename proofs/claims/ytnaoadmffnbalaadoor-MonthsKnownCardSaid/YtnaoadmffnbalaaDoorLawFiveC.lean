/-
  WALKS OF circalaw05: MonthsBetween, MonthsKnown: each returns true. (Printed by wip/gen/law5c.py.)
-/
import Derived.Test.YtnaoadmffnbalaaDoorLawFiveA
namespace Go.Proofs.YtnaoadmffnbalaaDoor
open Go.RowKit

set_option maxHeartbeats 2000000 in
set_option maxRecDepth 100000 in
theorem monthsBetween_true (y z m n : Int) (w : World) (_hy : I64 y) (_hz : I64 z) (_hm : I64 m) (_hn : I64 n) (hE : EnvM w) :
    Calls Tryd.prog 10 #[.agg #[.int .i64 y, .int .i64 z, .int .i64 m, .int .i64 n]] w fun e w' => e = .returned (.bool true) ∧ Up w w' := by
  have u0 : ∀ q, Up w ((w.alloc (.cells #[.int .i64 y, .int .i64 z, .int .i64 m, .int .i64 n] 57)).drewN q) := fun q => ((Up.refl _).alloc _).drewN _
  rcases isM_or y m with h | ⟨er, h⟩
  · rcases isM_or z n with h' | ⟨er, h'⟩
    · have hr := rAdd5 y m (mi z n - mi y m)
      have hzn := mi_of z n h'.2.1 h'.2.2
      have hk : mi y m + (mi z n - mi y m) = mi z n := by omega
      have HK : I64 (mi z n - mi y m) := by
        obtain ⟨⟨_, _⟩, _, _⟩ := h
        obtain ⟨⟨_, _⟩, _, _⟩ := h'
        unfold I64 mi; omega
      rw [hk, addR_yes _ (by rw [hzn.1]; exact h'.1), hzn.1, hzn.2] at hr
      have hr3 : ∀ w : World, Calls Tryd.prog 46 #[.int .i64 y, .int .i64 m, .int .i64 (mi z n - mi y m)] w fun e w' => e = .returned (.tuple #[.int .i64 z, .int .i64 n, .bool true]) ∧ w = w' := fun w => hr w h HK
      have HR3 := Lib.hid hr3
      have hbk : mi y m - mi z n = -(mi z n - mi y m) := by omega
      have HBK := Lib.hid hbk
      have hbd1 := HK.1
      have hbd2 : mi z n - mi y m ≤ 1000000000000000000 := by
        obtain ⟨⟨_, _⟩, _, _⟩ := h
        obtain ⟨⟨_, _⟩, _, _⟩ := h'
        unfold mi; omega
      have hbd3 : -1000000000000000000 ≤ mi z n - mi y m := by
        obtain ⟨⟨_, _⟩, _, _⟩ := h
        obtain ⟨⟨_, _⟩, _, _⟩ := h'
        unfold mi; omega
      clear hr hr3 hzn hk hbk
      go_enter Tryd.func10, Tryd.ntmps10
      go_wp2_with fail
      refine (mbetw_yes _ _ _ _ _ h h').mono ?_
      rintro e w1 ⟨rfl, rfl⟩
      go_wp2_with fail
      refine (mbetw_at _ _ _ _ _ _ HBK.out h' h).mono ?_
      rintro e w2 ⟨rfl, rfl⟩
      go_wp2_with fail
      go_quiet (first | (go_at_call 35; exact Calls.qs (rCheck5_yes _ _ _ h)) | (go_at_call 35; exact Calls.qs (rCheck5_yes _ _ _ h')))
      go_wp2_with fail
      refine (HR3.out _).mono ?_
      rintro e w3 ⟨rfl, rfl⟩
      go_wp2_with fail
      refine (num5 _ _).mono ?_
      rintro e w4 ⟨rfl, rfl⟩
      go_wp2_with fail
      refine (lives5 _ (hE.up (u0 _))).mono ?_
      rintro e wl ⟨rfl, ql⟩
      go_wp2_with fail
      go_ret
      exact ⟨rfl, (u0 _).trans ql⟩
    · have hb := h'
      rcases h' with ⟨_, rfl⟩ | ⟨_, _, rfl⟩
      all_goals
        go_enter Tryd.func10, Tryd.ntmps10
        go_wp2_with fail
        refine (mbetw_no2 _ _ _ _ _ _ h hb).mono ?_
        rintro e w1 ⟨rfl, rfl⟩
        go_wp2_with fail
        refine (mbetw_no1 _ _ _ _ _ _ hb).mono ?_
        rintro e w2 ⟨rfl, rfl⟩
        go_wp2_with fail
        go_quiet (first | (go_at_call 35; exact Calls.qs (rCheck5_yes _ _ _ h)) | (go_at_call 35; exact Calls.qs (rCheck5_no _ _ _ _ hb)))
        go_wp2_with fail
        refine (lives5 _ (hE.up (u0 _))).mono ?_
        rintro e wl ⟨rfl, ql⟩
        go_wp2_with fail
        go_ret
        exact ⟨rfl, (u0 _).trans ql⟩
  · have hb := h
    rcases isM_or z n with h' | ⟨er', h'⟩
    · rcases h with ⟨_, rfl⟩ | ⟨_, _, rfl⟩
      all_goals
        go_enter Tryd.func10, Tryd.ntmps10
        go_wp2_with fail
        refine (mbetw_no1 _ _ _ _ _ _ hb).mono ?_
        rintro e w1 ⟨rfl, rfl⟩
        go_wp2_with fail
        refine (mbetw_no2 _ _ _ _ _ _ h' hb).mono ?_
        rintro e w2 ⟨rfl, rfl⟩
        go_wp2_with fail
        go_quiet (first | (go_at_call 35; exact Calls.qs (rCheck5_no _ _ _ _ hb)) | (go_at_call 35; exact Calls.qs (rCheck5_yes _ _ _ h')))
        go_wp2_with fail
        refine (lives5 _ (hE.up (u0 _))).mono ?_
        rintro e wl ⟨rfl, ql⟩
        go_wp2_with fail
        go_ret
        exact ⟨rfl, (u0 _).trans ql⟩
    · have hb' := h'
      rcases h with ⟨_, rfl⟩ | ⟨_, _, rfl⟩ <;> rcases h' with ⟨_, rfl⟩ | ⟨_, _, rfl⟩
      all_goals
        go_enter Tryd.func10, Tryd.ntmps10
        go_wp2_with fail
        refine (mbetw_no1 _ _ _ _ _ _ hb).mono ?_
        rintro e w1 ⟨rfl, rfl⟩
        go_wp2_with fail
        refine (mbetw_no1 _ _ _ _ _ _ hb').mono ?_
        rintro e w2 ⟨rfl, rfl⟩
        go_wp2_with fail
        go_quiet (first | (go_at_call 35; exact Calls.qs (rCheck5_no _ _ _ _ hb)) | (go_at_call 35; exact Calls.qs (rCheck5_no _ _ _ _ hb')))
        go_wp2_with fail
        refine (lives5 _ (hE.up (u0 _))).mono ?_
        rintro e wl ⟨rfl, ql⟩
        go_wp2_with fail
        go_ret
        exact ⟨rfl, (u0 _).trans ql⟩

theorem ym_of (i : Int) (h0 : 0 ≤ i) (h1 : i ≤ 4800) : ∃ y m : Int, mi (-100) 1 + i = mi y m ∧ 1 ≤ m ∧ m ≤ 12 ∧ -100 ≤ y ∧ y ≤ 300 ∧ (i = 0 → y = -100 ∧ m = 1) ∧ (i = 4800 → y = 300 ∧ m = 1) :=
  ⟨(mi (-100) 1 + i) / 12, (mi (-100) 1 + i) % 12 + 1, by unfold mi; omega, by omega, by omega, by unfold mi; omega, by unfold mi; omega, by unfold mi; omega, by unfold mi; omega⟩
set_option maxHeartbeats 1500000 in
set_option maxRecDepth 100000 in
theorem monthsKnown_true (w : World) (hE : EnvM w) :
    Calls Tryd.prog 11 #[] w fun e w' => e = .returned (.bool true) ∧ Up w w' := by
  go_enter Tryd.func11, Tryd.ntmps11
  go_wp2_with fail
  refine (rStart (-100) _ (by unfold YrB; omega)).mono ?_
  rintro e w0 ⟨rfl, rfl⟩
  go_wp2_with fail
  go_loopw [1, 2, 3, 4] (fun yv mv dv iv wr => ∃ y m i : Int, 0 ≤ i ∧ i ≤ 4800 ∧ mi (-100) 1 + i = mi y m ∧ 1 ≤ m ∧ m ≤ 12 ∧ yv = .int .i64 y ∧ mv = .int .i64 m ∧ dv = .int .i64 (Cal.sm y m) ∧ iv = .int .i64 i ∧ Up w wr) (fun _ _ _ iv _ => (4800 - intOf iv).toNat)
  case atStart => exact ⟨-100, 1, 0, by omega, by omega, by omega, by omega, by omega, rfl, rfl, by rw [sm_one], rfl, Up.refl _⟩
  case round =>
    obtain ⟨y, m, i, i1, i2, hi, m1, m2, rfl, rfl, rfl, rfl, hu⟩ := hrel
    have hy1 : -100 ≤ y := by unfold mi at hi; omega
    have hy2 : y ≤ 300 := by unfold mi at hi; omega
    by_cases hlt : i < 4800
    · have HM : IsM y m := ⟨⟨by omega, by omega⟩, m1, m2⟩
      have HI : I64 i := ⟨by omega, by omega⟩
      have hb := sm_bd y m HM
      have hl := Cal.mlen_bd y m
      have HS : I64 (Cal.sm y m) := ⟨by omega, by omega⟩
      have hsn := sm_succ y m m1 m2
      have hlo : Cal.sm y m < Cal.sm y (m + 1) := by omega
      have HA := Lib.hid hi
      have hbt : mi y m - mi (-100) 1 = i := by omega
      have HB := Lib.hid hbt
      have HN := Lib.hid hsn
      have hM0 : IsM (-100) 1 := by decide
      by_cases h12 : m < 12
      · have hnext : mi (-100) 1 + (i + 1) = mi y (m + 1) := by unfold mi at *; omega
        have HX := Lib.hid hnext
        clear hi hbt hsn hnext
        go_wp2_with fail
        refine (mstart_yes _ _ _ HM (hE.up hu)).mono ?_
        rintro e w1 ⟨rfl, qw1⟩
        have uw1 := hu.trans qw1
        clear qw1 hu
        go_wp2_with fail
        refine (mof_at _ y m _ (Int.le_refl _) hlo HM HS (hE.up uw1)).mono ?_
        rintro e w2 ⟨rfl, qw2⟩
        have uw2 := uw1.trans qw2
        clear qw2 uw1
        go_wp2_with fail
        refine (madd_at (-100) 1 i y m _ HA.out hM0 HM HI (hE.up uw2)).mono ?_
        rintro e w3 ⟨rfl, qw3⟩
        have uw3 := uw2.trans qw3
        clear qw3 uw2
        go_wp2_with fail
        refine (mbetw_at (-100) 1 y m i _ HB.out hM0 HM).mono ?_
        rintro e w4 ⟨rfl, rfl⟩
        go_wp2_with fail
        refine (num5 _ _).mono ?_
        rintro e w5 ⟨rfl, rfl⟩
        go_wp2_with fail
        refine (month5 _ _ _).mono ?_
        rintro e w6 ⟨rfl, rfl⟩
        go_wp2_with fail
        refine (month5 _ _ _).mono ?_
        rintro e w7 ⟨rfl, rfl⟩
        go_wp2_with fail
        refine (num5 _ _).mono ?_
        rintro e w8 ⟨rfl, rfl⟩
        go_wp2_with fail
        refine (rLen5 _ _ _ HM.y m1 m2).mono ?_
        rintro e w9 ⟨rfl, rfl⟩
        go_wp2_with fail
        go_roundw
        case rel => exact ⟨y, m + 1, i + 1, by omega, by omega, HX.out, by omega, by omega, rfl, rfl, by rw [HN.out], rfl, uw3⟩
        case measure => simp [intOf]; omega
      · obtain rfl : m = 12 := by omega
        have hnext : mi (-100) 1 + (i + 1) = mi (y + 1) 1 := by unfold mi at *; omega
        have HX := Lib.hid hnext
        have h13 : Cal.sm (y + 1) 1 = Cal.sm y 12 + Cal.mlen y 12 := by rw [sm_one, ← sm_13]; exact hsn
        have H13 := Lib.hid h13
        clear hi hbt hsn hnext h13
        go_wp2_with fail
        refine (mstart_yes _ _ _ HM (hE.up hu)).mono ?_
        rintro e w1 ⟨rfl, qw1⟩
        have uw1 := hu.trans qw1
        clear qw1 hu
        go_wp2_with fail
        refine (mof_at _ y 12 _ (Int.le_refl _) hlo HM HS (hE.up uw1)).mono ?_
        rintro e w2 ⟨rfl, qw2⟩
        have uw2 := uw1.trans qw2
        clear qw2 uw1
        go_wp2_with fail
        refine (madd_at (-100) 1 i y 12 _ HA.out hM0 HM HI (hE.up uw2)).mono ?_
        rintro e w3 ⟨rfl, qw3⟩
        have uw3 := uw2.trans qw3
        clear qw3 uw2
        go_wp2_with fail
        refine (mbetw_at (-100) 1 y 12 i _ HB.out hM0 HM).mono ?_
        rintro e w4 ⟨rfl, rfl⟩
        go_wp2_with fail
        refine (num5 _ _).mono ?_
        rintro e w5 ⟨rfl, rfl⟩
        go_wp2_with fail
        refine (month5 _ _ _).mono ?_
        rintro e w6 ⟨rfl, rfl⟩
        go_wp2_with fail
        refine (month5 _ _ _).mono ?_
        rintro e w7 ⟨rfl, rfl⟩
        go_wp2_with fail
        refine (num5 _ _).mono ?_
        rintro e w8 ⟨rfl, rfl⟩
        go_wp2_with fail
        refine (rLen5 _ _ _ HM.y m1 m2).mono ?_
        rintro e w9 ⟨rfl, rfl⟩
        go_wp2_with fail
        go_roundw
        case rel => exact ⟨y + 1, 1, i + 1, by omega, by omega, HX.out, by omega, by omega, rfl, rfl, by rw [H13.out], rfl, uw3⟩
        case measure => simp [intOf]; omega
    · obtain rfl : i = 4800 := by omega
      obtain rfl : y = 300 := by unfold mi at hi; omega
      obtain rfl : m = 1 := by unfold mi at hi; omega
      have hs : Cal.sm 300 1 = 109573 := by decide +kernel
      have hs2 : Cal.sy 300 = 109573 := by decide +kernel
      rw [hs]
      have HS2 := Lib.hid hs2
      clear hlt i1 i2 hi m1 m2 hy1 hy2 hs hs2
      go_wp2_with fail
      refine (madd_at (-10000000000000000) 1 240000000000000011 10000000000000000 12 _ (by decide) (by decide) (by decide) (by decide) (hE.up hu)).mono ?_
      rintro e w31 ⟨rfl, qw31⟩
      have uw31 := hu.trans qw31
      clear qw31 hu
      go_wp2_with fail
      refine (madd_far 10000000000000000 12 (-9223372036854775808) _ (by decide) (by decide) (by decide) (hE.up uw31)).mono ?_
      rintro e w32 ⟨rfl, qw32⟩
      have uw32 := uw31.trans qw32
      clear qw32 uw31
      go_wp2_with fail
      refine (madd_far (-10000000000000000) 1 (-1) _ (by decide) (by decide) (by decide) (hE.up uw32)).mono ?_
      rintro e w33 ⟨rfl, qw33⟩
      have uw33 := uw32.trans qw33
      clear qw33 uw32
      go_wp2_with fail
      refine (rStart 300 _ (by unfold YrB; omega)).mono ?_
      rintro e w40 ⟨rfl, rfl⟩
      rw [HS2.out]
      go_wp2_with fail
      refine (month5 _ _ _).mono ?_
      rintro e w34 ⟨rfl, rfl⟩
      go_wp2_with fail
      refine (lives5 _ (hE.up uw33)).mono ?_
      rintro e w35 ⟨rfl, qw35⟩
      have uw35 := uw33.trans qw35
      clear qw35 uw33
      go_wp2_with fail
      go_ret
      exact ⟨rfl, uw35⟩
end Go.Proofs.YtnaoadmffnbalaaDoor
