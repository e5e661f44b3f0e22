/-
  WALKS OF circaref05. (Printed by wip/gen/ref5.py.)
-/
import Derived.Test.YtopbbcbpanfigaaGreatDoorMonths
import Derived.Test.YtopbbcbpanfigaaGreatDoorRefFour
namespace Go.Proofs.YtopbbcbpanfigaaGreatDoor
open Go.RowKit
theorem rCheck5_yes (y m : Int) (w : World) (h : IsM y m) :
    Calls Tryz.prog 34 #[.int .i64 y, .int .i64 m] w fun e w' => e = .returned (.int .i64 0) ∧ w = w' := by
  obtain ⟨hy, h1, h2⟩ := h
  have c1 : decide (m < 1) = false := by simp; omega
  have c2 : decide (12 < m) = false := by simp; omega
  go_enter Tryz.func34, Tryz.ntmps34
  go_wp2_with fail
  refine (rIs_yes _ _ hy).mono ?_
  rintro e w1 ⟨rfl, rfl⟩
  go_wp2_with fail
  go_ret
  exact ⟨rfl, rfl⟩
theorem rCheck5_no (y m er : Int) (w : World) (h : BadM y m er) :
    Calls Tryz.prog 34 #[.int .i64 y, .int .i64 m] w fun e w' => e = .returned (.int .i64 er) ∧ w = w' := by
  rcases h with ⟨hy, rfl⟩ | ⟨hy, hm, rfl⟩
  · go_enter Tryz.func34, Tryz.ntmps34
    go_wp2_with fail
    refine (rIs_no _ _ hy).mono ?_
    rintro e w1 ⟨rfl, rfl⟩
    go_wp2_with fail
    go_ret
    exact ⟨rfl, rfl⟩
  · by_cases h1 : m < 1
    · have c1 : decide (m < 1) = true := by simp; omega
      go_enter Tryz.func34, Tryz.ntmps34
      go_wp2_with fail
      refine (rIs_yes _ _ hy).mono ?_
      rintro e w1 ⟨rfl, rfl⟩
      go_wp2_with fail
      go_ret
      exact ⟨rfl, rfl⟩
    · have c1 : decide (m < 1) = false := by simp; omega
      have c2 : decide (12 < m) = true := by simp; omega
      go_enter Tryz.func34, Tryz.ntmps34
      go_wp2_with fail
      refine (rIs_yes _ _ hy).mono ?_
      rintro e w1 ⟨rfl, rfl⟩
      go_wp2_with fail
      go_ret
      exact ⟨rfl, rfl⟩
set_option maxHeartbeats 1000000 in
theorem rLen5 (y m : Int) (w : World) (hy : YrB y) (h1 : 1 ≤ m) (h2 : m ≤ 12) :
    Calls Tryz.prog 35 #[.int .i64 y, .int .i64 m] w fun e w' => e = .returned (.int .i64 (Cal.mlen y m)) ∧ w = w' := by
  have hm : m = 2 ∨ m = 4 ∨ m = 6 ∨ m = 9 ∨ m = 11 ∨ m = 1 ∨ m = 3 ∨ m = 5 ∨ m = 7 ∨ m = 8 ∨ m = 10 ∨ m = 12 := by omega
  have hl := len_bd y
  clear h1 h2
  rcases hm with rfl | rfl | rfl | rfl | rfl | rfl | rfl | rfl | rfl | rfl | rfl | rfl
  · go_enter Tryz.func35, Tryz.ntmps35
    go_wp2_with fail
    refine (rLen _ _ hy).mono ?_
    rintro e w1 ⟨rfl, rfl⟩
    go_wp2_with fail
    go_ret
    exact ⟨ret1_i (by simp [Cal.mlen, Cal.len]; omega), rfl⟩
  all_goals
    go_enter Tryz.func35, Tryz.ntmps35
    go_wp2_with fail
    go_ret
    exact ⟨ret1_i (by simp [Cal.mlen]), rfl⟩
theorem IsM.y {y m : Int} (h : IsM y m) : YrB y := h.1.b
set_option maxHeartbeats 1000000 in
theorem rStart5 (y m : Int) (w : World) (h : IsM y m) :
    Calls Tryz.prog 39 #[.int .i64 y, .int .i64 m] w fun e w' => e = .returned (.int .i64 (Cal.sm y m)) ∧ w = w' := by
  have HM := h
  obtain ⟨hy, h1, h2⟩ := h
  go_enter Tryz.func39, Tryz.ntmps39
  go_wp2_with fail
  refine (rStart _ _ HM.y).mono ?_
  rintro e w1 ⟨rfl, rfl⟩
  go_wp2_with fail
  go_loop [5, 6] (fun d i => ∃ k : Int, 1 ≤ k ∧ k ≤ m ∧ i = .int .i64 k ∧ d = .int .i64 (Cal.sm y k)) (fun _ i => (m - intOf i).toNat)
  case atStart => exact ⟨1, by omega, by omega, rfl, by rw [sm_one]⟩
  case round =>
    obtain ⟨k, k1, k2, rfl, rfl⟩ := hrel
    have HK : IsM y k := ⟨hy, k1, by omega⟩
    have hb := sm_bd y k HK
    have hml := Cal.mlen_bd y k
    have HN := Lib.hid (sm_succ y k (by omega) (by omega))
    by_cases hlt : k < m
    · go_wp2_with fail
      refine (rLen5 _ _ _ HK.y (by omega) (by omega)).mono ?_
      rintro e w1 ⟨rfl, rfl⟩
      go_wp2_with fail
      go_round
      case rel => exact ⟨k + 1, by omega, by omega, rfl, by rw [HN.out]⟩
      case measure => simp [intOf]; omega
    · obtain rfl : k = m := by omega
      go_wp2_with fail
      go_ret
      exact ⟨rfl, rfl⟩
theorem rEnd5 (y m : Int) (w : World) (h : IsM y m) :
    Calls Tryz.prog 76 #[.int .i64 y, .int .i64 m] w fun e w' => e = .returned (.int .i64 (Cal.sm y (m + 1) - 1)) ∧ w = w' := by
  have hb := sm_bd y m h
  have hl := Cal.mlen_bd y m
  have HN := Lib.hid (sm_succ y m h.2.1 h.2.2)
  go_enter Tryz.func76, Tryz.ntmps76
  go_wp2_with fail
  refine (rStart5 _ _ _ h).mono ?_
  rintro e w1 ⟨rfl, rfl⟩
  go_wp2_with fail
  refine (rLen5 _ _ _ h.y h.2.1 h.2.2).mono ?_
  rintro e w2 ⟨rfl, rfl⟩
  go_wp2_with fail
  go_ret
  exact ⟨ret1_i (by rw [HN.out]), rfl⟩
set_option maxHeartbeats 1000000 in
theorem rOf5 (d : Int) (w : World) (hd : I64 d) (h : IsY (Cal.yr d)) :
    Calls Tryz.prog 58 #[.int .i64 d] w fun e w' => e = .returned (.tuple #[.int .i64 (Cal.yr d), .int .i64 (mo d)]) ∧ w = w' := by
  have hm := mo_spec d
  have HD := hd
  have h0 := rOf_yes d w hd h
  obtain ⟨y, hy⟩ : ∃ y, Cal.yr d = y := ⟨_, rfl⟩
  rw [hy] at h hm h0 ⊢
  have H0 := Lib.hid h0
  clear hy h0
  obtain ⟨d1, d2⟩ := hd
  obtain ⟨m1, m2, m3, m4⟩ := hm
  have HY := Lib.hid h
  clear h
  go_enter Tryz.func58, Tryz.ntmps58
  go_wp2_with fail
  refine H0.out.mono ?_
  rintro e w1 ⟨rfl, rfl⟩
  go_wp2_with fail
  go_loop [6] (fun i => ∃ k : Int, 1 ≤ k ∧ k ≤ mo d ∧ i = .int .i64 k) (fun i => (13 - intOf i).toNat)
  case atStart => exact ⟨1, by omega, by omega, rfl⟩
  case round =>
    obtain ⟨k, k1, k2, rfl⟩ := hrel
    have HK : IsM y k := ⟨HY.out, k1, by omega⟩
    have hb := sm_bd y k HK
    by_cases hlt : k < mo d
    · have hmono := sm_mono y (k + 1) (mo d) (by omega) (by omega) (by omega)
      have c1 : decide (Cal.sm y (k + 1) - 1 < d) = true := by simp; omega
      go_wp2_with fail
      refine (rEnd5 _ _ _ HK).mono ?_
      rintro e w1 ⟨rfl, rfl⟩
      go_wp2_with fail
      go_round
      case rel => exact ⟨k + 1, by omega, by omega, rfl⟩
      case measure => simp [intOf]; omega
    · have hk : k = mo d := by omega
      have c1 : decide (Cal.sm y (k + 1) - 1 < d) = false := by rw [hk]; simp; omega
      have HKK := Lib.hid hk
      clear hk
      go_wp2_with fail
      refine (rEnd5 _ _ _ HK).mono ?_
      rintro e w1 ⟨rfl, rfl⟩
      go_wp2_with fail
      go_ret2
      exact ⟨ret2_i rfl HKK.out, rfl⟩

/-- What circaref05.Add returns for the month number t. -/
def addR (t : Int) : Value := if IsY (t / 12) then .tuple #[.int .i64 (t / 12), .int .i64 (t % 12 + 1), .bool true] else .tuple #[.int .i64 0, .int .i64 0, .bool false]
theorem addR_yes (t : Int) (h : IsY (t / 12)) : addR t = .tuple #[.int .i64 (t / 12), .int .i64 (t % 12 + 1), .bool true] := if_pos h
theorem addR_no (t : Int) (h : ¬ IsY (t / 12)) : addR t = .tuple #[.int .i64 0, .int .i64 0, .bool false] := if_neg h
end Go.Proofs.YtopbbcbpanfigaaGreatDoor
