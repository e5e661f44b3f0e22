/-
  WALKS OF circaref05. (Printed by wip/gen/ref5.py.)
-/
import Derived.Test.YtnaoadmffnbalaaDoorMonths
import Derived.Test.YtnaoadmffnbalaaDoorRefFour
namespace Go.Proofs.YtnaoadmffnbalaaDoor
open Go.RowKit
theorem rCheck5_yes (y m : Int) (w : World) (h : IsM y m) :
    Calls Tryd.prog 35 #[.int .i64 y, .int .i64 m] w fun e w' => e = .returned (.int .i64 0) ∧ w = w' := by
  obtain ⟨hy, h1, h2⟩ := h
  have c1 : decide (m < 1) = false := by simp; omega
  have c2 : decide (12 < m) = false := by simp; omega
  go_enter Tryd.func35, Tryd.ntmps35
  go_wp2_with fail
  refine (rIs_yes _ _ hy).mono ?_
  rintro e w1 ⟨rfl, rfl⟩
  go_wp2_with fail
  go_ret
  exact ⟨rfl, rfl⟩
theorem rCheck5_no (y m er : Int) (w : World) (h : BadM y m er) :
    Calls Tryd.prog 35 #[.int .i64 y, .int .i64 m] w fun e w' => e = .returned (.int .i64 er) ∧ w = w' := by
  rcases h with ⟨hy, rfl⟩ | ⟨hy, hm, rfl⟩
  · go_enter Tryd.func35, Tryd.ntmps35
    go_wp2_with fail
    refine (rIs_no _ _ hy).mono ?_
    rintro e w1 ⟨rfl, rfl⟩
    go_wp2_with fail
    go_ret
    exact ⟨rfl, rfl⟩
  · by_cases h1 : m < 1
    · have c1 : decide (m < 1) = true := by simp; omega
      go_enter Tryd.func35, Tryd.ntmps35
      go_wp2_with fail
      refine (rIs_yes _ _ hy).mono ?_
      rintro e w1 ⟨rfl, rfl⟩
      go_wp2_with fail
      go_ret
      exact ⟨rfl, rfl⟩
    · have c1 : decide (m < 1) = false := by simp; omega
      have c2 : decide (12 < m) = true := by simp; omega
      go_enter Tryd.func35, Tryd.ntmps35
      go_wp2_with fail
      refine (rIs_yes _ _ hy).mono ?_
      rintro e w1 ⟨rfl, rfl⟩
      go_wp2_with fail
      go_ret
      exact ⟨rfl, rfl⟩
set_option maxHeartbeats 1000000 in
theorem rLen5 (y m : Int) (w : World) (hy : YrB y) (h1 : 1 ≤ m) (h2 : m ≤ 12) :
    Calls Tryd.prog 38 #[.int .i64 y, .int .i64 m] w fun e w' => e = .returned (.int .i64 (Cal.mlen y m)) ∧ w = w' := by
  have hm : m = 2 ∨ m = 4 ∨ m = 6 ∨ m = 9 ∨ m = 11 ∨ m = 1 ∨ m = 3 ∨ m = 5 ∨ m = 7 ∨ m = 8 ∨ m = 10 ∨ m = 12 := by omega
  have hl := len_bd y
  clear h1 h2
  rcases hm with rfl | rfl | rfl | rfl | rfl | rfl | rfl | rfl | rfl | rfl | rfl | rfl
  · go_enter Tryd.func38, Tryd.ntmps38
    go_wp2_with fail
    refine (rLen _ _ hy).mono ?_
    rintro e w1 ⟨rfl, rfl⟩
    go_wp2_with fail
    go_ret
    exact ⟨ret1_i (by simp [Cal.mlen, Cal.len]; omega), rfl⟩
  all_goals
    go_enter Tryd.func38, Tryd.ntmps38
    go_wp2_with fail
    go_ret
    exact ⟨ret1_i (by simp [Cal.mlen]), rfl⟩
theorem IsM.y {y m : Int} (h : IsM y m) : YrB y := h.1.b
set_option maxHeartbeats 1000000 in
theorem rStart5 (y m : Int) (w : World) (h : IsM y m) :
    Calls Tryd.prog 39 #[.int .i64 y, .int .i64 m] w fun e w' => e = .returned (.int .i64 (Cal.sm y m)) ∧ w = w' := by
  have HM := h
  obtain ⟨hy, h1, h2⟩ := h
  go_enter Tryd.func39, Tryd.ntmps39
  go_wp2_with fail
  refine (rStart _ _ HM.y).mono ?_
  rintro e w1 ⟨rfl, rfl⟩
  go_wp2_with fail
  go_loop [5, 6] (fun d i => ∃ k : Int, 1 ≤ k ∧ k ≤ m ∧ i = .int .i64 k ∧ d = .int .i64 (Cal.sm y k)) (fun _ i => (m - intOf i).toNat)
  case atStart => exact ⟨1, by omega, by omega, rfl, by rw [sm_one]⟩
  case round =>
    obtain ⟨k, k1, k2, rfl, rfl⟩ := hrel
    have HK : IsM y k := ⟨hy, k1, by omega⟩
    have hb := sm_bd y k HK
    have hml := Cal.mlen_bd y k
    have HN := Lib.hid (sm_succ y k (by omega) (by omega))
    by_cases hlt : k < m
    · go_wp2_with fail
      refine (rLen5 _ _ _ HK.y (by omega) (by omega)).mono ?_
      rintro e w1 ⟨rfl, rfl⟩
      go_wp2_with fail
      go_round
      case rel => exact ⟨k + 1, by omega, by omega, rfl, by rw [HN.out]⟩
      case measure => simp [intOf]; omega
    · obtain rfl : k = m := by omega
      go_wp2_with fail
      go_ret
      exact ⟨rfl, rfl⟩
theorem rEnd5 (y m : Int) (w : World) (h : IsM y m) :
    Calls Tryd.prog 40 #[.int .i64 y, .int .i64 m] w fun e w' => e = .returned (.int .i64 (Cal.sm y (m + 1) - 1)) ∧ w = w' := by
  have hb := sm_bd y m h
  have hl := Cal.mlen_bd y m
  have HN := Lib.hid (sm_succ y m h.2.1 h.2.2)
  go_enter Tryd.func40, Tryd.ntmps40
  go_wp2_with fail
  refine (rStart5 _ _ _ h).mono ?_
  rintro e w1 ⟨rfl, rfl⟩
  go_wp2_with fail
  refine (rLen5 _ _ _ h.y h.2.1 h.2.2).mono ?_
  rintro e w2 ⟨rfl, rfl⟩
  go_wp2_with fail
  go_ret
  exact ⟨ret1_i (by rw [HN.out]), rfl⟩
set_option maxHeartbeats 1000000 in
theorem rOf5 (d : Int) (w : World) (hd : I64 d) (h : IsY (Cal.yr d)) :
    Calls Tryd.prog 44 #[.int .i64 d] w fun e w' => e = .returned (.tuple #[.int .i64 (Cal.yr d), .int .i64 (mo d)]) ∧ w = w' := by
  have hm := mo_spec d
  have HD := hd
  have h0 := rOf_yes d w hd h
  obtain ⟨y, hy⟩ : ∃ y, Cal.yr d = y := ⟨_, rfl⟩
  rw [hy] at h hm h0 ⊢
  have H0 := Lib.hid h0
  clear hy h0
  obtain ⟨d1, d2⟩ := hd
  obtain ⟨m1, m2, m3, m4⟩ := hm
  have HY := Lib.hid h
  clear h
  go_enter Tryd.func44, Tryd.ntmps44
  go_wp2_with fail
  refine H0.out.mono ?_
  rintro e w1 ⟨rfl, rfl⟩
  go_wp2_with fail
  go_loop [6] (fun i => ∃ k : Int, 1 ≤ k ∧ k ≤ mo d ∧ i = .int .i64 k) (fun i => (13 - intOf i).toNat)
  case atStart => exact ⟨1, by omega, by omega, rfl⟩
  case round =>
    obtain ⟨k, k1, k2, rfl⟩ := hrel
    have HK : IsM y k := ⟨HY.out, k1, by omega⟩
    have hb := sm_bd y k HK
    by_cases hlt : k < mo d
    · have hmono := sm_mono y (k + 1) (mo d) (by omega) (by omega) (by omega)
      have c1 : decide (Cal.sm y (k + 1) - 1 < d) = true := by simp; omega
      go_wp2_with fail
      refine (rEnd5 _ _ _ HK).mono ?_
      rintro e w1 ⟨rfl, rfl⟩
      go_wp2_with fail
      go_round
      case rel => exact ⟨k + 1, by omega, by omega, rfl⟩
      case measure => simp [intOf]; omega
    · have hk : k = mo d := by omega
      have c1 : decide (Cal.sm y (k + 1) - 1 < d) = false := by rw [hk]; simp; omega
      have HKK := Lib.hid hk
      clear hk
      go_wp2_with fail
      refine (rEnd5 _ _ _ HK).mono ?_
      rintro e w1 ⟨rfl, rfl⟩
      go_wp2_with fail
      go_ret2
      exact ⟨ret2_i rfl HKK.out, rfl⟩

/-- What circaref05.Add returns for the month number t. -/
def addR (t : Int) : Value := if IsY (t / 12) then .tuple #[.int .i64 (t / 12), .int .i64 (t % 12 + 1), .bool true] else .tuple #[.int .i64 0, .int .i64 0, .bool false]
theorem addR_yes (t : Int) (h : IsY (t / 12)) : addR t = .tuple #[.int .i64 (t / 12), .int .i64 (t % 12 + 1), .bool true] := if_pos h
theorem addR_no (t : Int) (h : ¬ IsY (t / 12)) : addR t = .tuple #[.int .i64 0, .int .i64 0, .bool false] := if_neg h
set_option maxHeartbeats 2000000 in
theorem rAdd5 (y m k : Int) (w : World) (h : IsM y m) (hk : I64 k) :
    Calls Tryd.prog 46 #[.int .i64 y, .int .i64 m, .int .i64 k] w fun e w' => e = .returned (addR (mi y m + k)) ∧ w = w' := by
  obtain ⟨⟨y1, y2⟩, h1, h2⟩ := h
  obtain ⟨k1, k2⟩ := hk
  by_cases h0 : 0 ≤ k
  · obtain ⟨q, hq⟩ : ∃ q, k / 12 = q := ⟨_, rfl⟩
    obtain ⟨l, hl⟩ : ∃ l, k % 12 = l := ⟨_, rfl⟩
    have a1 : 12 * q + l ≤ k := by omega
    have a2 : k ≤ 12 * q + l := by omega
    have a3 : 0 ≤ l := by omega
    have a4 : l < 12 := by omega
    go_enter Tryd.func46, Tryd.ntmps46
    go_wp2_with fail
    try simp only [hq]
    try simp only [hl]
    clear hq hl
    go_loop [1, 9, 10] (fun m' z' l' => ∃ n z r : Int, 1 ≤ n ∧ n ≤ 12 ∧ 0 ≤ r ∧ r ≤ l ∧ 12 * z + n + r ≤ 12 * y + m + k ∧ 12 * y + m + k ≤ 12 * z + n + r ∧ m' = .int .i64 n ∧ z' = .int .i64 z ∧ l' = .int .i64 r) (fun _ _ l' => (intOf l').toNat)
    case atStart => exact ⟨m, y + q, l, h1, h2, a3, by omega, by omega, by omega, rfl, rfl, rfl⟩
    case round =>
      obtain ⟨n, z, r, n1, n2, r1, r2, r3, r4, rfl, rfl, rfl⟩ := hrel
      by_cases hr : 0 < r
      · by_cases hn : n < 12
        · go_wp2_with fail
          go_round
          case rel => exact ⟨n + 1, z, r - 1, by omega, by omega, by omega, by omega, by omega, by omega, rfl, rfl, rfl⟩
          case measure => simp [intOf]; omega
        · obtain rfl : n = 12 := by omega
          go_wp2_with fail
          go_round
          case rel => exact ⟨1, z + 1, r - 1, by omega, by omega, by omega, by omega, by omega, by omega, rfl, rfl, rfl⟩
          case measure => simp [intOf]; omega
      · obtain rfl : r = 0 := by omega
        go_wp2_with fail
        refine wp_loop_rounds 1 ?_
        rw [rounds_succ]
        go_wp2_with fail
        have hzq : z = (mi y m + k) / 12 := by unfold mi at *; omega
        have hnq : n = (mi y m + k) % 12 + 1 := by unfold mi at *; omega
        rw [hzq, hnq]
        clear hzq hnq
        by_cases hz : IsY ((mi y m + k) / 12)
        · refine (rIs_yes _ _ hz).mono ?_
          rintro e w1 ⟨rfl, rfl⟩
          go_wp2_with fail
          go_ret3
          exact ⟨(congrArg Ending.returned (addR_yes _ hz)).symm, rfl⟩
        · refine (rIs_no _ _ hz).mono ?_
          rintro e w1 ⟨rfl, rfl⟩
          go_wp2_with fail
          go_ret3
          exact ⟨(congrArg Ending.returned (addR_no _ hz)).symm, rfl⟩
  · obtain ⟨q, hq⟩ : ∃ q, k.tdiv 12 = q := ⟨_, rfl⟩
    obtain ⟨l, hl⟩ : ∃ l, k.tmod 12 = l := ⟨_, rfl⟩
    have e1 := tdiv_neg k 12 (by omega)
    have e2 := tmod_neg k 12 (by omega)
    have a1 : 12 * q + l ≤ k := by omega
    have a2 : k ≤ 12 * q + l := by omega
    have a3 : -12 < l := by omega
    have a4 : l ≤ 0 := by omega
    clear e1 e2
    go_enter Tryd.func46, Tryd.ntmps46
    go_wp2_with fail
    try simp only [hq]
    try simp only [hl]
    clear hq hl
    refine wp_loop_rounds 1 ?_
    rw [rounds_succ]
    go_wp2_with fail
    go_loop [1, 9, 10] (fun m' z' l' => ∃ n z r : Int, 1 ≤ n ∧ n ≤ 12 ∧ r ≤ 0 ∧ l ≤ r ∧ 12 * z + n + r ≤ 12 * y + m + k ∧ 12 * y + m + k ≤ 12 * z + n + r ∧ m' = .int .i64 n ∧ z' = .int .i64 z ∧ l' = .int .i64 r) (fun _ _ l' => (- intOf l').toNat)
    case atStart => exact ⟨m, y + q, l, h1, h2, a4, by omega, by omega, by omega, rfl, rfl, rfl⟩
    case round =>
      obtain ⟨n, z, r, n1, n2, r1, r2, r3, r4, rfl, rfl, rfl⟩ := hrel
      by_cases hr : r < 0
      · by_cases hn : 1 < n
        · go_wp2_with fail
          go_round
          case rel => exact ⟨n - 1, z, r + 1, by omega, by omega, by omega, by omega, by omega, by omega, rfl, rfl, rfl⟩
          case measure => simp [intOf]; omega
        · obtain rfl : n = 1 := by omega
          go_wp2_with fail
          go_round
          case rel => exact ⟨12, z - 1, r + 1, by omega, by omega, by omega, by omega, by omega, by omega, rfl, rfl, rfl⟩
          case measure => simp [intOf]; omega
      · obtain rfl : r = 0 := by omega
        go_wp2_with fail
        have hzq : z = (mi y m + k) / 12 := by unfold mi at *; omega
        have hnq : n = (mi y m + k) % 12 + 1 := by unfold mi at *; omega
        rw [hzq, hnq]
        clear hzq hnq
        by_cases hz : IsY ((mi y m + k) / 12)
        · refine (rIs_yes _ _ hz).mono ?_
          rintro e w1 ⟨rfl, rfl⟩
          go_wp2_with fail
          go_ret3
          exact ⟨(congrArg Ending.returned (addR_yes _ hz)).symm, rfl⟩
        · refine (rIs_no _ _ hz).mono ?_
          rintro e w1 ⟨rfl, rfl⟩
          go_wp2_with fail
          go_ret3
          exact ⟨(congrArg Ending.returned (addR_no _ hz)).symm, rfl⟩
end Go.Proofs.YtnaoadmffnbalaaDoor
