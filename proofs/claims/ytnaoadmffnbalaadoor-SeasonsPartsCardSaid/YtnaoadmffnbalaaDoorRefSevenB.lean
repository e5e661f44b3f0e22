/-
  WALKS OF circaref07: Run.
-/
import Derived.Test.YtnaoadmffnbalaaDoorRefSeven
namespace Go.Proofs.YtnaoadmffnbalaaDoor
open Go.RowKit
theorem rRun7_no1 (y c : Int) (w : World) (h : ¬ IsC c) :
    Calls Tryd.prog 52 #[.int .i64 y, .int .i64 c] w fun e w' => e = .returned (.tuple #[runV 0 0, .int .i64 7]) ∧ Up w w' := by
  go_enter Tryd.func52, Tryd.ntmps52
  go_wp2_with fail
  refine (rMonths7_no _ _ h).mono ?_
  rintro e w1 ⟨rfl, rfl⟩
  go_wp2_with fail
  exact bodyPost_ret (v := .tuple #[runV 0 0, .int .i64 7]) (by simp [results, Tryd.results52, go_sem, runV]) rfl ⟨rfl, (Up.refl _).alloc _⟩
theorem rRun7_no2 (y c : Int) (w : World) (h : IsC c) (hy : ¬ IsY y) :
    Calls Tryd.prog 52 #[.int .i64 y, .int .i64 c] w fun e w' => e = .returned (.tuple #[runV 0 0, .int .i64 6]) ∧ Up w w' := by
  obtain ⟨b1, b2, b3, b4⟩ := code_bd c h
  have c1 : (manyS c == 0) = false := by simp; omega
  go_enter Tryd.func52, Tryd.ntmps52
  go_wp2_with fail
  refine (rMonths7_yes _ _ h).mono ?_
  rintro e w1 ⟨rfl, rfl⟩
  go_wp2_with fail
  refine (rIs_no _ _ hy).mono ?_
  rintro e w1 ⟨rfl, rfl⟩
  go_wp2_with fail
  exact bodyPost_ret (v := .tuple #[runV 0 0, .int .i64 6]) (by simp [results, Tryd.results52, go_sem, runV]) rfl ⟨rfl, (Up.refl _).alloc _⟩
/-- The last day of the k-th month of a code's run. -/
def hiAt (y c k : Int) : Int := if k = 0 then 0 else Cal.sm ((mi y (fromS c) + (k - 1)) / 12) ((mi y (fromS c) + (k - 1)) % 12 + 1 + 1) - 1
set_option maxHeartbeats 2000000 in
theorem rRun7_yes (y c : Int) (w : World) (h : IsC c) (hs : IsSY y c) :
    Calls Tryd.prog 52 #[.int .i64 y, .int .i64 c] w fun e w' => e = .returned (.tuple #[runV (sLo y c) (sHi y c), .int .i64 0]) ∧ Up w w' := by
  obtain ⟨b1, b2, b3, b4⟩ := code_bd c h
  obtain ⟨hy, hz⟩ := hs
  have HM : IsM y (fromS c) := ⟨hy, b1, b2⟩
  have HY := Lib.hid hy
  have HZ := Lib.hid hz
  have HF := Lib.hid (show hiAt y c (manyS c) = sHi y c from if_neg (by omega))
  obtain ⟨y1, y2⟩ := hy
  have c1 : (manyS c == 0) = false := by simp; omega
  clear hz
  go_enter Tryd.func52, Tryd.ntmps52
  go_wp2_with fail
  refine (rMonths7_yes _ _ h).mono ?_
  rintro e w1 ⟨rfl, rfl⟩
  go_wp2_with fail
  refine (rIs_yes _ _ HY.out).mono ?_
  rintro e w1 ⟨rfl, rfl⟩
  go_wp2_with fail
  refine (rStart5 _ _ _ HM).mono ?_
  rintro e w1 ⟨rfl, rfl⟩
  go_wp2_with fail
  go_loopw [9, 10] (fun hi i wr => ∃ k : Int, 0 ≤ k ∧ k ≤ manyS c ∧ i = .int .i64 k ∧ hi = .int .i64 (hiAt y c k) ∧ wr = w.alloc (.cells #[.int .i8 0, .int .i64 0, .int .i8 0, .int .i64 0] 68)) (fun _ i _ => (manyS c - intOf i).toNat)
  case atStart => exact ⟨0, by omega, by omega, rfl, rfl, rfl⟩
  case round =>
    obtain ⟨k, k1, k2, rfl, rfl, rfl⟩ := hrel
    by_cases hlt : k < manyS c
    · have c2 : decide (k < manyS c) = true := by simp; omega
      by_cases hm : fromS c + k ≤ 12
      · have c3 : decide (12 < fromS c + k) = false := by simp; omega
        have HK : IsM y (fromS c + k) := ⟨HY.out, by omega, by omega⟩
        go_wp2_with fail
        refine (rIs_yes _ _ HY.out).mono ?_
        rintro e w1 ⟨rfl, rfl⟩
        go_wp2_with fail
        refine (rEnd5 _ _ _ HK).mono ?_
        rintro e w1 ⟨rfl, rfl⟩
        go_wp2_with fail
        go_roundw
        case rel =>
          refine ⟨k + 1, by omega, by omega, rfl, ?_, by trivial⟩
          unfold hiAt
          rw [if_neg (by omega)]
          have a1 : (mi y (fromS c) + (k + 1 - 1)) / 12 = y := by unfold mi; omega
          have a2 : (mi y (fromS c) + (k + 1 - 1)) % 12 + 1 + 1 = fromS c + k + 1 := by unfold mi; omega
          rw [a1, a2]
        case measure => simp [intOf]; omega
      · have c3 : decide (12 < fromS c + k) = true := by simp; omega
        have a0 : lastS y c / 12 = y + 1 := by unfold lastS mi; omega
        have HN : IsY (y + 1) := a0 ▸ HZ.out
        have HK : IsM (y + 1) (fromS c + k - 12) := ⟨HN, by omega, by omega⟩
        clear a0
        have HN := Lib.hid HN
        go_wp2_with fail
        refine (rIs_yes _ _ HN.out).mono ?_
        rintro e w1 ⟨rfl, rfl⟩
        go_wp2_with fail
        refine (rEnd5 _ _ _ HK).mono ?_
        rintro e w1 ⟨rfl, rfl⟩
        go_wp2_with fail
        go_roundw
        case rel =>
          refine ⟨k + 1, by omega, by omega, rfl, ?_, by trivial⟩
          unfold hiAt
          rw [if_neg (by omega)]
          have a1 : (mi y (fromS c) + (k + 1 - 1)) / 12 = y + 1 := by unfold mi; omega
          have a2 : (mi y (fromS c) + (k + 1 - 1)) % 12 + 1 + 1 = fromS c + k - 12 + 1 := by unfold mi; omega
          rw [a1, a2]
        case measure => simp [intOf]; omega
    · obtain rfl : k = manyS c := by omega
      have c2 : decide (manyS c < manyS c) = false := by simp
      go_wp2_with fail
      exact bodyPost_ret (v := .tuple #[runV (sLo y c) (sHi y c), .int .i64 0]) (by simp [results, Tryd.results52, go_sem, runV, HF.out, sLo]) rfl ⟨rfl, (Up.refl _).alloc _⟩
set_option maxHeartbeats 2000000 in
theorem rRun7_no3 (y c : Int) (w : World) (h : IsC c) (hy : IsY y) (hz : ¬ IsY (lastS y c / 12)) :
    Calls Tryd.prog 52 #[.int .i64 y, .int .i64 c] w fun e w' => e = .returned (.tuple #[runV 0 0, .int .i64 6]) ∧ Up w w' := by
  obtain ⟨b1, b2, b3, b4⟩ := code_bd c h
  have HM : IsM y (fromS c) := ⟨hy, b1, b2⟩
  have HY := Lib.hid hy
  have a0 : lastS y c / 12 = y + 1 ∧ 13 ≤ fromS c + manyS c - 1 := by
    by_cases hk : 13 ≤ fromS c + manyS c - 1
    · exact ⟨by unfold lastS mi; omega, hk⟩
    · exact absurd hy (by have : lastS y c / 12 = y := by unfold lastS mi; omega
                          rwa [this] at hz)
  obtain ⟨a0, a1⟩ := a0
  have HN := Lib.hid (show ¬ IsY (y + 1) from a0 ▸ hz)
  obtain ⟨y1, y2⟩ := hy
  have c1 : (manyS c == 0) = false := by simp; omega
  clear hz a0
  go_enter Tryd.func52, Tryd.ntmps52
  go_wp2_with fail
  refine (rMonths7_yes _ _ h).mono ?_
  rintro e w1 ⟨rfl, rfl⟩
  go_wp2_with fail
  refine (rIs_yes _ _ HY.out).mono ?_
  rintro e w1 ⟨rfl, rfl⟩
  go_wp2_with fail
  refine (rStart5 _ _ _ HM).mono ?_
  rintro e w1 ⟨rfl, rfl⟩
  go_wp2_with fail
  go_loopw [9, 10] (fun hi i wr => ∃ k x : Int, 0 ≤ k ∧ fromS c + k ≤ 13 ∧ i = .int .i64 k ∧ hi = .int .i64 x ∧ wr = w.alloc (.cells #[.int .i8 0, .int .i64 0, .int .i8 0, .int .i64 0] 68)) (fun _ i _ => (13 - intOf i).toNat)
  case atStart => exact ⟨0, 0, by omega, by omega, rfl, rfl, rfl⟩
  case round =>
    obtain ⟨k, x, k1, k2, rfl, rfl, rfl⟩ := hrel
    have c2 : decide (k < manyS c) = true := by simp; omega
    by_cases hm : fromS c + k ≤ 12
    · have c3 : decide (12 < fromS c + k) = false := by simp; omega
      have HK : IsM y (fromS c + k) := ⟨HY.out, by omega, by omega⟩
      go_wp2_with fail
      refine (rIs_yes _ _ HY.out).mono ?_
      rintro e w1 ⟨rfl, rfl⟩
      go_wp2_with fail
      refine (rEnd5 _ _ _ HK).mono ?_
      rintro e w1 ⟨rfl, rfl⟩
      go_wp2_with fail
      go_roundw
      case rel => exact ⟨k + 1, _, by omega, by omega, rfl, rfl, by trivial⟩
      case measure => simp [intOf]; omega
    · have c3 : decide (12 < fromS c + k) = true := by simp; omega
      go_wp2_with fail
      refine (rIs_no _ _ HN.out).mono ?_
      rintro e w1 ⟨rfl, rfl⟩
      go_wp2_with fail
      exact bodyPost_ret (v := .tuple #[runV 0 0, .int .i64 6]) (by simp [results, Tryd.results52, go_sem, runV]) rfl ⟨rfl, (Up.refl _).alloc _⟩
theorem rRun7_bad (y c : Int) (w : World) (h : IsC c) (hs : ¬ IsSY y c) :
    Calls Tryd.prog 52 #[.int .i64 y, .int .i64 c] w fun e w' => e = .returned (.tuple #[runV 0 0, .int .i64 6]) ∧ Up w w' := by
  by_cases hy : IsY y
  · exact rRun7_no3 y c w h hy (fun hz => hs ⟨hy, hz⟩)
  · exact rRun7_no2 y c w h hy
end Go.Proofs.YtnaoadmffnbalaaDoor
