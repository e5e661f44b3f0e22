/-
  WALKS OF circalaw05: MonthsDays, MonthsOf, MonthsAdd, MonthsBetween, MonthsKnown: each returns true. (Printed by wip/gen/law5b.py.)
-/
import Derived.Test.YtnaoadmffnbalaaDoorLawFiveA
import Derived.Deep.QuietTactic
import Derived.BigQuiet
namespace Go.Proofs.YtnaoadmffnbalaaDoor
open Go.RowKit

theorem next_month (y m : Int) (h : IsM y m) (hz : IsY ((mi y m + 1) / 12)) : IsM ((mi y m + 1) / 12) ((mi y m + 1) % 12 + 1) ∧ Cal.sm ((mi y m + 1) / 12) ((mi y m + 1) % 12 + 1) = Cal.sm y (m + 1) := by
  obtain ⟨hy, h1, h2⟩ := h
  refine ⟨⟨hz, by omega, by omega⟩, ?_⟩
  by_cases hm : m < 12
  · have e1 : (mi y m + 1) / 12 = y := by unfold mi; omega
    have e2 : (mi y m + 1) % 12 + 1 = m + 1 := by unfold mi; omega
    rw [e1, e2]
  · obtain rfl : m = 12 := by omega
    have e1 : (mi y 12 + 1) / 12 = y + 1 := by unfold mi; omega
    have e2 : (mi y 12 + 1) % 12 + 1 = 1 := by unfold mi; omega
    rw [e1, e2, sm_one]; exact (sm_13 y).symm
theorem last_month (y m : Int) (h : IsM y m) (hz : ¬ IsY ((mi y m + 1) / 12)) : y = 10000000000000000 ∧ m = 12 := by
  obtain ⟨⟨y1, y2⟩, h1, h2⟩ := h
  unfold IsY mi at hz
  omega
set_option maxHeartbeats 1000000 in
set_option maxRecDepth 100000 in
theorem monthsDays_true (y m : Int) (w : World) (_hy : I64 y) (_hm : I64 m) (hE : EnvM w) :
    Calls Tryd.prog 7 #[.int .i64 y, .int .i64 m] w fun e w' => e = .returned (.bool true) ∧ Up w w' := by
  rcases isM_or y m with h | ⟨er, h⟩
  · have hb := sm_bd y m h
    have hb2 := sm_mono y m (m + 1) h.2.1 (by omega) (by have := h.2.2; omega)
    by_cases hz : IsY ((mi y m + 1) / 12)
    · obtain ⟨hn, hs⟩ := next_month y m h hz
      have HS := Lib.hid hs
      clear hs
      go_enter Tryd.func7, Tryd.ntmps7
      go_wp2_with fail
      refine (mlen_yes _ _ _ h hE).mono ?_
      rintro e w1 ⟨rfl, qw1⟩
      have uw1 := qw1
      clear qw1
      go_wp2_with fail
      refine (mstart_yes _ _ _ h (hE.up uw1)).mono ?_
      rintro e w2 ⟨rfl, qw2⟩
      have uw2 := uw1.trans qw2
      clear qw2 uw1
      go_wp2_with fail
      refine (mend_yes _ _ _ h (hE.up uw2)).mono ?_
      rintro e w3 ⟨rfl, qw3⟩
      have uw3 := uw2.trans qw3
      clear qw3 uw2
      go_wp2_with fail
      refine (rCheck5_yes _ _ _ h).mono ?_
      rintro e w4 ⟨rfl, rfl⟩
      go_wp2_with fail
      refine (mcheck_yes _ _ _ h).mono ?_
      rintro e w5 ⟨rfl, rfl⟩
      go_wp2_with fail
      refine (rLen5 _ _ _ h.y h.2.1 h.2.2).mono ?_
      rintro e w6 ⟨rfl, rfl⟩
      go_wp2_with fail
      refine (rStart5 _ _ _ h).mono ?_
      rintro e w7 ⟨rfl, rfl⟩
      go_wp2_with fail
      refine (rEnd5 _ _ _ h).mono ?_
      rintro e w8 ⟨rfl, rfl⟩
      go_wp2_with fail
      refine (madd_yes _ _ _ _ h ⟨by omega, by omega⟩ hz (hE.up uw3)).mono ?_
      rintro e w9 ⟨rfl, qw9⟩
      have uw9 := uw3.trans qw9
      clear qw9 uw3
      go_wp2_with fail
      refine (mstart_at _ _ _ _ HS.out hn (hE.up uw9)).mono ?_
      rintro e w10 ⟨rfl, qw10⟩
      have uw10 := uw9.trans qw10
      clear qw10 uw9
      go_wp2_with fail
      refine (num5 _ _).mono ?_
      rintro e w11 ⟨rfl, rfl⟩
      go_wp2_with fail
      refine (lives5 _ (hE.up uw10)).mono ?_
      rintro e w12 ⟨rfl, qw12⟩
      have uw12 := uw10.trans qw12
      clear qw12 uw10
      go_wp2_with fail
      go_ret
      exact ⟨rfl, uw12⟩
    · have hl := last_month y m h hz
      obtain ⟨rfl, rfl⟩ := hl
      go_enter Tryd.func7, Tryd.ntmps7
      go_wp2_with fail
      refine (mlen_yes _ _ _ h hE).mono ?_
      rintro e w1 ⟨rfl, qw1⟩
      have uw1 := qw1
      clear qw1
      go_wp2_with fail
      refine (mstart_yes _ _ _ h (hE.up uw1)).mono ?_
      rintro e w2 ⟨rfl, qw2⟩
      have uw2 := uw1.trans qw2
      clear qw2 uw1
      go_wp2_with fail
      refine (mend_yes _ _ _ h (hE.up uw2)).mono ?_
      rintro e w3 ⟨rfl, qw3⟩
      have uw3 := uw2.trans qw3
      clear qw3 uw2
      go_wp2_with fail
      refine (rCheck5_yes _ _ _ h).mono ?_
      rintro e w4 ⟨rfl, rfl⟩
      go_wp2_with fail
      refine (mcheck_yes _ _ _ h).mono ?_
      rintro e w5 ⟨rfl, rfl⟩
      go_wp2_with fail
      refine (rLen5 _ _ _ h.y h.2.1 h.2.2).mono ?_
      rintro e w6 ⟨rfl, rfl⟩
      go_wp2_with fail
      refine (rStart5 _ _ _ h).mono ?_
      rintro e w7 ⟨rfl, rfl⟩
      go_wp2_with fail
      refine (rEnd5 _ _ _ h).mono ?_
      rintro e w8 ⟨rfl, rfl⟩
      go_wp2_with fail
      refine (madd_far _ _ _ _ h ⟨by omega, by omega⟩ hz (hE.up uw3)).mono ?_
      rintro e w9 ⟨rfl, qw9⟩
      have uw9 := uw3.trans qw9
      clear qw9 uw3
      go_wp2_with fail
      refine (lives5 _ (hE.up uw9)).mono ?_
      rintro e w10 ⟨rfl, qw10⟩
      have uw10 := uw9.trans qw10
      clear qw10 uw9
      go_wp2_with fail
      go_ret
      exact ⟨rfl, uw10⟩
  · have hb := h
    rcases h with ⟨_, rfl⟩ | ⟨_, _, rfl⟩
    all_goals
      go_enter Tryd.func7, Tryd.ntmps7
      go_wp2_with fail
      refine (mlen_no _ _ _ _ hb).mono ?_
      rintro e w1 ⟨rfl, rfl⟩
      go_wp2_with fail
      refine (mstart_no _ _ _ _ hb).mono ?_
      rintro e w2 ⟨rfl, rfl⟩
      go_wp2_with fail
      refine (mend_no _ _ _ _ hb).mono ?_
      rintro e w3 ⟨rfl, rfl⟩
      go_wp2_with fail
      refine (rCheck5_no _ _ _ _ hb).mono ?_
      rintro e w4 ⟨rfl, rfl⟩
      go_wp2_with fail
      refine (mcheck_no _ _ _ _ hb).mono ?_
      rintro e w5 ⟨rfl, rfl⟩
      go_wp2_with fail
      refine (lives5 _ hE).mono ?_
      rintro e w6 ⟨rfl, qw6⟩
      have uw6 := qw6
      clear qw6
      go_wp2_with fail
      go_ret
      exact ⟨rfl, uw6⟩

set_option maxHeartbeats 1000000 in
set_option maxRecDepth 100000 in
theorem monthsOf_true (d : Int) (w : World) (hd : I64 d) (hE : EnvM w) :
    Calls Tryd.prog 8 #[.int .i64 d] w fun e w' => e = .returned (.bool true) ∧ Up w w' := by
  by_cases h : IsY (Cal.yr d)
  · obtain ⟨m1, m2, m3, m4⟩ := mo_spec d
    have HM : IsM (Cal.yr d) (mo d) := ⟨h, m1, m2⟩
    have c1 : decide (Cal.sm (Cal.yr d) (mo d) ≤ d) = true := by simp; omega
    have c2 : decide (d ≤ Cal.sm (Cal.yr d) (mo d + 1) - 1) = true := by simp; omega
    clear m3 m4
    go_enter Tryd.func8, Tryd.ntmps8
    go_wp2_with fail
    refine (mof_yes _ _ hd h hE).mono ?_
    rintro e w1 ⟨rfl, qw1⟩
    have uw1 := qw1
    clear qw1
    go_wp2_with fail
    refine (rOf_yes _ _ hd h).mono ?_
    rintro e w2 ⟨rfl, rfl⟩
    go_wp2_with fail
    refine (rOf5 _ _ hd h).mono ?_
    rintro e w3 ⟨rfl, rfl⟩
    go_wp2_with fail
    refine (mstart_yes _ _ _ HM (hE.up uw1)).mono ?_
    rintro e w4 ⟨rfl, qw4⟩
    have uw4 := uw1.trans qw4
    clear qw4 uw1
    go_wp2_with fail
    refine (mend_yes _ _ _ HM (hE.up uw4)).mono ?_
    rintro e w5 ⟨rfl, qw5⟩
    have uw5 := uw4.trans qw5
    clear qw5 uw4
    go_wp2_with fail
    refine (month5 _ _ _).mono ?_
    rintro e w6 ⟨rfl, rfl⟩
    go_wp2_with fail
    refine (lives5 _ (hE.up uw5)).mono ?_
    rintro e w7 ⟨rfl, qw7⟩
    have uw7 := uw5.trans qw7
    clear qw7 uw5
    go_wp2_with fail
    go_ret
    exact ⟨rfl, uw7⟩
  · go_enter Tryd.func8, Tryd.ntmps8
    go_wp2_with fail
    refine (mof_no _ _ hd h hE).mono ?_
    rintro e w1 ⟨rfl, qw1⟩
    have uw1 := qw1
    clear qw1
    go_wp2_with fail
    refine (rOf_no _ _ hd h).mono ?_
    rintro e w2 ⟨rfl, rfl⟩
    go_wp2_with fail
    refine (lives5 _ (hE.up uw1)).mono ?_
    rintro e w3 ⟨rfl, qw3⟩
    have uw3 := uw1.trans qw3
    clear qw3 uw1
    go_wp2_with fail
    go_ret
    exact ⟨rfl, uw3⟩

set_option maxHeartbeats 4000000 in
set_option maxRecDepth 100000 in
theorem monthsAdd_true (y m k l : Int) (w : World) (_hy : I64 y) (_hm : I64 m) (hk : I64 k) (hl : I64 l) (hE : EnvM w) :
    Calls Tryd.prog 9 #[.int .i64 y, .int .i64 m, .agg #[.int .i64 k, .int .i64 l]] w fun e w' => e = .returned (.bool true) ∧ Up w w' := by
  have HK := hk
  have HL := hl
  obtain ⟨k1, k2⟩ := hk
  obtain ⟨l1, l2⟩ := hl
  have u0 : ∀ q, Up w ((w.alloc (.cells #[.int .i64 k, .int .i64 l] 51)).drewN q) := fun q => ((Up.refl _).alloc _).drewN _
  rcases isM_or y m with h | ⟨er, h⟩
  rotate_left
  · have hb := h
    rcases h with ⟨_, rfl⟩ | ⟨_, _, rfl⟩
    all_goals
      go_enter Tryd.func9, Tryd.ntmps9
      go_wp2_with fail
      go_quiet (fail)
      go_wp2_with fail
      refine (madd_no _ _ _ _ _ hb).mono ?_
      rintro e w1 ⟨rfl, rfl⟩
      go_wp2_with fail
      refine (rCheck5_no _ _ _ _ hb).mono ?_
      rintro e w2 ⟨rfl, rfl⟩
      go_wp2_with fail
      refine (lives5 _ (hE.up (u0 _))).mono ?_
      rintro e w3 ⟨rfl, qw3⟩
      have uw3 := (u0 _).trans qw3
      clear qw3
      go_wp2_with fail
      go_ret
      exact ⟨rfl, uw3⟩
  by_cases hz : IsY ((mi y m + k) / 12)
  rotate_left
  · have hr := rAdd5 y m k
    simp only [addR_no _ hz] at hr
    have HR := Lib.hid hr
    clear hr
    go_enter Tryd.func9, Tryd.ntmps9
    go_wp2_with fail
    go_quiet (fail)
    go_wp2_with fail
    refine (madd_far _ _ _ _ h HK hz (hE.up (u0 _))).mono ?_
    rintro e w1 ⟨rfl, qw1⟩
    have uw1 := (u0 _).trans qw1
    clear qw1
    go_wp2_with fail
    refine (rCheck5_yes _ _ _ h).mono ?_
    rintro e w2 ⟨rfl, rfl⟩
    go_wp2_with fail
    refine (HR.out _ h HK).mono ?_
    rintro e w3 ⟨rfl, rfl⟩
    go_wp2_with fail
    refine (lives5 _ (hE.up uw1)).mono ?_
    rintro e w4 ⟨rfl, qw4⟩
    have uw4 := uw1.trans qw4
    clear qw4 uw1
    go_wp2_with fail
    go_ret
    exact ⟨rfl, uw4⟩
  have hr := rAdd5 y m k
  simp only [addR_yes _ hz] at hr
  have HR := Lib.hid hr
  clear hr
  obtain ⟨z, hzq⟩ : ∃ z, (mi y m + k) / 12 = z := ⟨_, rfl⟩
  obtain ⟨n, hnq⟩ : ∃ n, (mi y m + k) % 12 + 1 = n := ⟨_, rfl⟩
  have HM2 : IsM z n := ⟨by rw [← hzq]; exact hz, by omega, by omega⟩
  have hmz : mi y m + k = mi z n := by unfold mi at *; omega
  have hbt : mi z n - mi y m = k := by omega
  have e1 : (mi z n) / 12 = z := by rw [← hmz]; exact hzq
  have e2 : (mi z n) % 12 + 1 = n := by rw [← hmz]; exact hnq
  have HR2 : ∀ w : World, Calls Tryd.prog 46 #[.int .i64 y, .int .i64 m, .int .i64 k] w fun e w' => e = .returned (.tuple #[.int .i64 z, .int .i64 n, .bool true]) ∧ w = w' := by
    intro w
    have := HR.out w h HK
    rw [hzq, hnq] at this
    exact this
  have HR3 := Lib.hid HR2
  have HMZ := Lib.hid hmz
  have HBT := Lib.hid hbt
  have hsum : ∀ t, mi z n + t = mi y m + (k + t) := fun t => by omega
  have HSUM := Lib.hid hsum
  clear HR HR2 hzq hnq hz hmz hbt e1 e2 hsum
  by_cases hz2 : IsY ((mi z n + l) / 12)
  rotate_left
  · go_enter Tryd.func9, Tryd.ntmps9
    go_wp2_with fail
    go_quiet (fail)
    go_wp2_with fail
    refine (madd_at _ _ _ z n _ HMZ.out h HM2 HK (hE.up (u0 _))).mono ?_
    rintro e w1 ⟨rfl, qw1⟩
    have uw1 := (u0 _).trans qw1
    clear qw1
    go_wp2_with fail
    refine (rCheck5_yes _ _ _ h).mono ?_
    rintro e w2 ⟨rfl, rfl⟩
    go_wp2_with fail
    refine (HR3.out _).mono ?_
    rintro e w3 ⟨rfl, rfl⟩
    go_wp2_with fail
    refine (mbetw_at _ _ _ _ _ _ HBT.out h HM2).mono ?_
    rintro e w4 ⟨rfl, rfl⟩
    go_wp2_with fail
    refine (month5 _ _ _).mono ?_
    rintro e w5 ⟨rfl, rfl⟩
    go_wp2_with fail
    refine (num5 _ _).mono ?_
    rintro e w6 ⟨rfl, rfl⟩
    go_wp2_with fail
    refine (madd_far _ _ _ _ HM2 HL hz2 (hE.up uw1)).mono ?_
    rintro e w7 ⟨rfl, qw7⟩
    have uw7 := uw1.trans qw7
    clear qw7 uw1
    go_wp2_with fail
    refine (lives5 _ (hE.up uw7)).mono ?_
    rintro e w8 ⟨rfl, qw8⟩
    have uw8 := uw7.trans qw8
    clear qw8 uw7
    go_wp2_with fail
    go_ret
    exact ⟨rfl, uw8⟩
  obtain ⟨a, haq⟩ : ∃ a, (mi z n + l) / 12 = a := ⟨_, rfl⟩
  obtain ⟨b, hbq⟩ : ∃ b, (mi z n + l) % 12 + 1 = b := ⟨_, rfl⟩
  have HM3 : IsM a b := ⟨by rw [← haq]; exact hz2, by omega, by omega⟩
  have hma : mi z n + l = mi a b := by unfold mi at *; omega
  have HMA := Lib.hid hma
  clear haq hbq hz2
  have hkl : (I64 (k + l) ∧ ¬ (0 < l ∧ 9223372036854775807 - l < k) ∧ ¬ (l < 0 ∧ k < -9223372036854775808 - l)) ∨ (0 < l ∧ 9223372036854775807 - l < k) ∨ (l < 0 ∧ k < -9223372036854775808 - l) := by unfold I64; omega
  rcases hkl with ⟨hs, hn1, hn2⟩ | ⟨g1, g2⟩ | ⟨g1, g2⟩
  · have hfin : mi y m + (k + l) = mi a b := by rw [← HSUM.out]; exact HMA.out
    have HF := Lib.hid hfin
    have HS := hs
    obtain ⟨hs1, hs2⟩ := hs
    clear hfin hma
    by_cases p1 : 0 < l
    · have d1 : decide (0 < l) = true := by simp; omega
      have d2 : decide (9223372036854775807 - l < k) = false := by simp; omega
      have d3 : decide (l < 0) = false := by simp; omega
      go_enter Tryd.func9, Tryd.ntmps9
      go_wp2_with fail
      go_quiet (fail)
      go_wp2_with fail
      refine (madd_at _ _ _ z n _ HMZ.out h HM2 HK (hE.up (u0 _))).mono ?_
      rintro e w1 ⟨rfl, qw1⟩
      have uw1 := (u0 _).trans qw1
      clear qw1
      go_wp2_with fail
      refine (rCheck5_yes _ _ _ h).mono ?_
      rintro e w2 ⟨rfl, rfl⟩
      go_wp2_with fail
      refine (HR3.out _).mono ?_
      rintro e w3 ⟨rfl, rfl⟩
      go_wp2_with fail
      refine (mbetw_at _ _ _ _ _ _ HBT.out h HM2).mono ?_
      rintro e w4 ⟨rfl, rfl⟩
      go_wp2_with fail
      refine (month5 _ _ _).mono ?_
      rintro e w5 ⟨rfl, rfl⟩
      go_wp2_with fail
      refine (num5 _ _).mono ?_
      rintro e w6 ⟨rfl, rfl⟩
      go_wp2_with fail
      refine (madd_at _ _ _ a b _ HMA.out HM2 HM3 HL (hE.up uw1)).mono ?_
      rintro e w7 ⟨rfl, qw7⟩
      have uw7 := uw1.trans qw7
      clear qw7 uw1
      go_wp2_with fail
      refine (madd_at _ _ _ a b _ HF.out h HM3 HS (hE.up uw7)).mono ?_
      rintro e w8 ⟨rfl, qw8⟩
      have uw8 := uw7.trans qw8
      clear qw8 uw7
      go_wp2_with fail
      refine (month5 _ _ _).mono ?_
      rintro e w9 ⟨rfl, rfl⟩
      go_wp2_with fail
      refine (lives5 _ (hE.up uw8)).mono ?_
      rintro e w10 ⟨rfl, qw10⟩
      have uw10 := uw8.trans qw10
      clear qw10 uw8
      go_wp2_with fail
      go_ret
      exact ⟨rfl, uw10⟩
    · have d1 : decide (0 < l) = false := by simp; omega
      by_cases p2 : l < 0
      · have d3 : decide (l < 0) = true := by simp; omega
        have d4 : decide (k < -9223372036854775808 - l) = false := by simp; omega
        go_enter Tryd.func9, Tryd.ntmps9
        go_wp2_with fail
        go_quiet (fail)
        go_wp2_with fail
        refine (madd_at _ _ _ z n _ HMZ.out h HM2 HK (hE.up (u0 _))).mono ?_
        rintro e w1 ⟨rfl, qw1⟩
        have uw1 := (u0 _).trans qw1
        clear qw1
        go_wp2_with fail
        refine (rCheck5_yes _ _ _ h).mono ?_
        rintro e w2 ⟨rfl, rfl⟩
        go_wp2_with fail
        refine (HR3.out _).mono ?_
        rintro e w3 ⟨rfl, rfl⟩
        go_wp2_with fail
        refine (mbetw_at _ _ _ _ _ _ HBT.out h HM2).mono ?_
        rintro e w4 ⟨rfl, rfl⟩
        go_wp2_with fail
        refine (month5 _ _ _).mono ?_
        rintro e w5 ⟨rfl, rfl⟩
        go_wp2_with fail
        refine (num5 _ _).mono ?_
        rintro e w6 ⟨rfl, rfl⟩
        go_wp2_with fail
        refine (madd_at _ _ _ a b _ HMA.out HM2 HM3 HL (hE.up uw1)).mono ?_
        rintro e w7 ⟨rfl, qw7⟩
        have uw7 := uw1.trans qw7
        clear qw7 uw1
        go_wp2_with fail
        refine (madd_at _ _ _ a b _ HF.out h HM3 HS (hE.up uw7)).mono ?_
        rintro e w8 ⟨rfl, qw8⟩
        have uw8 := uw7.trans qw8
        clear qw8 uw7
        go_wp2_with fail
        refine (month5 _ _ _).mono ?_
        rintro e w9 ⟨rfl, rfl⟩
        go_wp2_with fail
        refine (lives5 _ (hE.up uw8)).mono ?_
        rintro e w10 ⟨rfl, qw10⟩
        have uw10 := uw8.trans qw10
        clear qw10 uw8
        go_wp2_with fail
        go_ret
        exact ⟨rfl, uw10⟩
      · have d3 : decide (l < 0) = false := by simp; omega
        go_enter Tryd.func9, Tryd.ntmps9
        go_wp2_with fail
        go_quiet (fail)
        go_wp2_with fail
        refine (madd_at _ _ _ z n _ HMZ.out h HM2 HK (hE.up (u0 _))).mono ?_
        rintro e w1 ⟨rfl, qw1⟩
        have uw1 := (u0 _).trans qw1
        clear qw1
        go_wp2_with fail
        refine (rCheck5_yes _ _ _ h).mono ?_
        rintro e w2 ⟨rfl, rfl⟩
        go_wp2_with fail
        refine (HR3.out _).mono ?_
        rintro e w3 ⟨rfl, rfl⟩
        go_wp2_with fail
        refine (mbetw_at _ _ _ _ _ _ HBT.out h HM2).mono ?_
        rintro e w4 ⟨rfl, rfl⟩
        go_wp2_with fail
        refine (month5 _ _ _).mono ?_
        rintro e w5 ⟨rfl, rfl⟩
        go_wp2_with fail
        refine (num5 _ _).mono ?_
        rintro e w6 ⟨rfl, rfl⟩
        go_wp2_with fail
        refine (madd_at _ _ _ a b _ HMA.out HM2 HM3 HL (hE.up uw1)).mono ?_
        rintro e w7 ⟨rfl, qw7⟩
        have uw7 := uw1.trans qw7
        clear qw7 uw1
        go_wp2_with fail
        refine (madd_at _ _ _ a b _ HF.out h HM3 HS (hE.up uw7)).mono ?_
        rintro e w8 ⟨rfl, qw8⟩
        have uw8 := uw7.trans qw8
        clear qw8 uw7
        go_wp2_with fail
        refine (month5 _ _ _).mono ?_
        rintro e w9 ⟨rfl, rfl⟩
        go_wp2_with fail
        refine (lives5 _ (hE.up uw8)).mono ?_
        rintro e w10 ⟨rfl, qw10⟩
        have uw10 := uw8.trans qw10
        clear qw10 uw8
        go_wp2_with fail
        go_ret
        exact ⟨rfl, uw10⟩
  · have d1 : decide (0 < l) = true := by simp; omega
    have d2 : decide (9223372036854775807 - l < k) = true := by simp; omega
    clear hma
    go_enter Tryd.func9, Tryd.ntmps9
    go_wp2_with fail
    go_quiet (fail)
    go_wp2_with fail
    refine (madd_at _ _ _ z n _ HMZ.out h HM2 HK (hE.up (u0 _))).mono ?_
    rintro e w1 ⟨rfl, qw1⟩
    have uw1 := (u0 _).trans qw1
    clear qw1
    go_wp2_with fail
    refine (rCheck5_yes _ _ _ h).mono ?_
    rintro e w2 ⟨rfl, rfl⟩
    go_wp2_with fail
    refine (HR3.out _).mono ?_
    rintro e w3 ⟨rfl, rfl⟩
    go_wp2_with fail
    refine (mbetw_at _ _ _ _ _ _ HBT.out h HM2).mono ?_
    rintro e w4 ⟨rfl, rfl⟩
    go_wp2_with fail
    refine (month5 _ _ _).mono ?_
    rintro e w5 ⟨rfl, rfl⟩
    go_wp2_with fail
    refine (num5 _ _).mono ?_
    rintro e w6 ⟨rfl, rfl⟩
    go_wp2_with fail
    refine (madd_at _ _ _ a b _ HMA.out HM2 HM3 HL (hE.up uw1)).mono ?_
    rintro e w7 ⟨rfl, qw7⟩
    have uw7 := uw1.trans qw7
    clear qw7 uw1
    go_wp2_with fail
    refine (lives5 _ (hE.up uw7)).mono ?_
    rintro e w8 ⟨rfl, qw8⟩
    have uw8 := uw7.trans qw8
    clear qw8 uw7
    go_wp2_with fail
    go_ret
    exact ⟨rfl, uw8⟩
  · have d1 : decide (0 < l) = false := by simp; omega
    have d3 : decide (l < 0) = true := by simp; omega
    have d4 : decide (k < -9223372036854775808 - l) = true := by simp; omega
    clear hma
    go_enter Tryd.func9, Tryd.ntmps9
    go_wp2_with fail
    go_quiet (fail)
    go_wp2_with fail
    refine (madd_at _ _ _ z n _ HMZ.out h HM2 HK (hE.up (u0 _))).mono ?_
    rintro e w1 ⟨rfl, qw1⟩
    have uw1 := (u0 _).trans qw1
    clear qw1
    go_wp2_with fail
    refine (rCheck5_yes _ _ _ h).mono ?_
    rintro e w2 ⟨rfl, rfl⟩
    go_wp2_with fail
    refine (HR3.out _).mono ?_
    rintro e w3 ⟨rfl, rfl⟩
    go_wp2_with fail
    refine (mbetw_at _ _ _ _ _ _ HBT.out h HM2).mono ?_
    rintro e w4 ⟨rfl, rfl⟩
    go_wp2_with fail
    refine (month5 _ _ _).mono ?_
    rintro e w5 ⟨rfl, rfl⟩
    go_wp2_with fail
    refine (num5 _ _).mono ?_
    rintro e w6 ⟨rfl, rfl⟩
    go_wp2_with fail
    refine (madd_at _ _ _ a b _ HMA.out HM2 HM3 HL (hE.up uw1)).mono ?_
    rintro e w7 ⟨rfl, qw7⟩
    have uw7 := uw1.trans qw7
    clear qw7 uw1
    go_wp2_with fail
    refine (lives5 _ (hE.up uw7)).mono ?_
    rintro e w8 ⟨rfl, qw8⟩
    have uw8 := uw7.trans qw8
    clear qw8 uw7
    go_wp2_with fail
    go_ret
    exact ⟨rfl, uw8⟩
end Go.Proofs.YtnaoadmffnbalaaDoor
