/-
  WALKS OF circaref04: Is, Leap, Len, Start, Of, Leaps.
-/
import Derived.Test.YtopbbcbpanfigaaGreatDoorYearsA
namespace Go.Proofs.YtopbbcbpanfigaaGreatDoor
open Go.RowKit

theorem rIs_yes (y : Int) (w : World) (hy : IsY y) :
    Calls Tryz.prog 24 #[.int .i64 y] w fun e w' => e = .returned (.bool true) ∧ w = w' := by
  obtain ⟨hy1, hy2⟩ := hy
  have c1 : decide (-10000000000000000 ≤ y) = true := by simp; omega
  have c2 : decide (y ≤ 10000000000000000) = true := by simp; omega
  go_enter Tryz.func24, Tryz.ntmps24
  go_wp2_with fail
  go_ret
  exact ⟨rfl, rfl⟩
theorem rIs_no (y : Int) (w : World) (hy : ¬ IsY y) :
    Calls Tryz.prog 24 #[.int .i64 y] w fun e w' => e = .returned (.bool false) ∧ w = w' := by
  unfold IsY at hy
  by_cases h : y < -10000000000000000
  · have c1 : decide (-10000000000000000 ≤ y) = false := by simp; omega
    go_enter Tryz.func24, Tryz.ntmps24
    go_wp2_with fail
    go_ret
    exact ⟨rfl, rfl⟩
  · have c1 : decide (-10000000000000000 ≤ y) = true := by simp; omega
    have c2 : decide (y ≤ 10000000000000000) = false := by simp; omega
    go_enter Tryz.func24, Tryz.ntmps24
    go_wp2_with fail
    go_ret
    exact ⟨rfl, rfl⟩

theorem lp_mk (y : Int) (b : Bool) (h : (y % 400 = 0 ∨ (y % 4 = 0 ∧ y % 100 ≠ 0)) ↔ b = true) : b = Cal.lp y := by
  unfold Cal.lp
  cases b <;> simp_all
theorem rLeap (y : Int) (w : World) (hy : YrB y) :
    Calls Tryz.prog 56 #[.int .i64 y] w fun e w' => e = .returned (.bool (Cal.lp y)) ∧ w = w' := by
  obtain ⟨hy1, hy2⟩ := hy
  by_cases h0 : 0 ≤ y
  · by_cases h1 : y % 400 = 0
    · have c1 : (y % 400 == 0) = true := by simp [h1]
      go_enter Tryz.func56, Tryz.ntmps56
      go_wp2_with fail
      go_ret
      exact ⟨retb (lp_mk y _ (by simp [h1])), rfl⟩
    · have c1 : (y % 400 == 0) = false := by simp [h1]
      by_cases h2 : y % 4 = 0
      · have c2 : (y % 4 == 0) = true := by simp [h2]
        by_cases h3 : y % 100 = 0
        · have c3 : (y % 100 != 0) = false := by simp [h3]
          go_enter Tryz.func56, Tryz.ntmps56
          go_wp2_with fail
          go_ret
          exact ⟨retb (lp_mk y _ (by simp; omega)), rfl⟩
        · have c3 : (y % 100 != 0) = true := by simp [h3]
          go_enter Tryz.func56, Tryz.ntmps56
          go_wp2_with fail
          go_ret
          exact ⟨retb (lp_mk y _ (by simp; omega)), rfl⟩
      · have c2 : (y % 4 == 0) = false := by simp [h2]
        go_enter Tryz.func56, Tryz.ntmps56
        go_wp2_with fail
        go_ret
        exact ⟨retb (lp_mk y _ (by simp; omega)), rfl⟩
  · have e1 := tmod_neg y 400 (by omega)
    have e2 := tmod_neg y 4 (by omega)
    have e3 := tmod_neg y 100 (by omega)
    by_cases h1 : y % 400 = 0
    · have c1 : (y.tmod 400 == 0) = true := by rw [beq_iff_eq]; omega
      clear e1 e2 e3
      go_enter Tryz.func56, Tryz.ntmps56
      go_wp2_with fail
      go_ret
      exact ⟨retb (lp_mk y _ (by simp [h1])), rfl⟩
    · have c1 : (y.tmod 400 == 0) = false := by rw [beq_eq_false_iff_ne]; omega
      by_cases h2 : y % 4 = 0
      · have c2 : (y.tmod 4 == 0) = true := by rw [beq_iff_eq]; omega
        by_cases h3 : y % 100 = 0
        · have c3 : (y.tmod 100 != 0) = false := by rw [bne_eq_false_iff_eq]; omega
          clear e1 e2 e3
          go_enter Tryz.func56, Tryz.ntmps56
          go_wp2_with fail
          go_ret
          exact ⟨retb (lp_mk y _ (by simp; omega)), rfl⟩
        · have c3 : (y.tmod 100 != 0) = true := by rw [bne_iff_ne]; omega
          clear e1 e2 e3
          go_enter Tryz.func56, Tryz.ntmps56
          go_wp2_with fail
          go_ret
          exact ⟨retb (lp_mk y _ (by simp; omega)), rfl⟩
      · have c2 : (y.tmod 4 == 0) = false := by rw [beq_eq_false_iff_ne]; omega
        clear e1 e2 e3
        go_enter Tryz.func56, Tryz.ntmps56
        go_wp2_with fail
        go_ret
        exact ⟨retb (lp_mk y _ (by simp; omega)), rfl⟩
theorem rLen (y : Int) (w : World) (hy : YrB y) :
    Calls Tryz.prog 26 #[.int .i64 y] w fun e w' => e = .returned (.int .i64 (Cal.len y)) ∧ w = w' := by
  cases hl : Cal.lp y
  · have e : Cal.len y = 365 := by unfold Cal.len Cal.lpN; rw [hl]; rfl
    rw [e]
    go_enter Tryz.func26, Tryz.ntmps26
    go_wp2_with (go_at_call 56; refine (rLeap _ _ hy).mono ?_; rintro e w1 ⟨rfl, rfl⟩)
    go_ret
    exact ⟨rfl, rfl⟩
  · have e : Cal.len y = 366 := by unfold Cal.len Cal.lpN; rw [hl]; rfl
    rw [e]
    go_enter Tryz.func26, Tryz.ntmps26
    go_wp2_with (go_at_call 56; refine (rLeap _ _ hy).mono ?_; rintro e w1 ⟨rfl, rfl⟩)
    go_ret
    exact ⟨rfl, rfl⟩
theorem len_bd (y : Int) : 365 ≤ Cal.len y ∧ Cal.len y ≤ 366 := by
  have := Cal.lpN_bd y; unfold Cal.len; omega

/-- Go's quotient and remainder by c, as the references use them for a floor. -/
theorem floor_cases (y c : Int) (hc : 1 < c) : ∃ q, q = y / c ∧ c * q ≤ y ∧ y < c * q + c ∧
    ((0 ≤ y ∧ y / c = q ∧ decide (y % c < 0) = false) ∨ (y < 0 ∧ y.tdiv c = q ∧ decide (y.tmod c < 0) = false) ∨ (y < 0 ∧ y.tdiv c = q + 1 ∧ decide (y.tmod c < 0) = true)) := by
  refine ⟨y / c, rfl, ?_, ?_, ?_⟩
  · exact Int.mul_ediv_self_le (by omega)
  · have := Int.lt_mul_ediv_self_add (x := y) (k := c) (by omega); exact this
  · by_cases h : 0 ≤ y
    · left
      exact ⟨h, rfl, by have := Int.emod_nonneg y (show c ≠ 0 by omega); simp; omega⟩
    · right
      have e1 := tdiv_neg y c (by omega)
      have e2 := tmod_neg y c (by omega)
      have h6 := Int.emod_nonneg (-y) (show c ≠ 0 by omega)
      by_cases h3 : (-y) % c = 0
      · left
        have := (fdiv_neg1 y c (by omega) h3).1
        exact ⟨by omega, by omega, by rw [e2, h3]; rfl⟩
      · right
        have := (fdiv_neg2 y c (by omega) h3).1
        exact ⟨by omega, by omega, by simp; omega⟩

theorem sy_small (i : Nat) (h : i ≤ 400) : 0 ≤ Cal.sy i ∧ Cal.sy i ≤ 146097 := by
  have a := Cal.sy_mono 0 i (by omega)
  have b := Cal.sy_mono i 400 (by omega)
  rw [Cal.sy_zero] at a; rw [Cal.sy_400] at b; exact ⟨a, b⟩
set_option maxHeartbeats 400000 in
theorem rStart (y : Int) (w : World) (hy : YrB y) :
    Calls Tryz.prog 18 #[.int .i64 y] w fun e w' => e = .returned (.int .i64 (Cal.sy y)) ∧ w = w' := by
  obtain ⟨hy1, hy2⟩ := hy
  obtain ⟨q, hq, q1, q2, hcase⟩ := floor_cases y 400 (by omega)
  clear hq
  have hn : ∃ n : Nat, (n : Int) = y - 400 * q := ⟨(y - 400 * q).toNat, by omega⟩
  obtain ⟨n, hn⟩ := hn
  have HN := Lib.hid hn
  have hn4 : n < 400 := by omega
  have hn5 : (n : Int) ≤ y - 400 * q := by omega
  have hn6 : y - 400 * q ≤ (n : Int) := by omega
  clear hn
  have fin : q * 146097 + Cal.sy n = Cal.sy y := by
    rw [HN.out, show y = 400 * q + (y - 400 * q) by omega, Cal.sy_cycle]
    rw [show 400 * q + (y - 400 * q) - 400 * q = y - 400 * q by omega]; omega
  have FIN := Lib.hid fin
  clear fin
  rcases hcase with ⟨h0, e1, c1⟩ | ⟨h0, e1, c1⟩ | ⟨h0, e1, c1⟩
  all_goals
    go_enter Tryz.func18, Tryz.ntmps18
    go_wp2_with fail
    try simp only [e1]
    clear e1
    go_loop [4, 5] (fun d k => ∃ i : Nat, i ≤ n ∧ k = .int .i64 i ∧ d = .int .i64 (q * 146097 + Cal.sy i)) (fun _ k => n - (intOf k).toNat)
    case atStart => exact ⟨0, Nat.zero_le _, rfl, by simp [Cal.sy_zero]⟩
    case round =>
      obtain ⟨i, hi, rfl, rfl⟩ := hrel
      have hb := len_bd i
      have hsb := sy_small i (by omega)
      have hs := Lib.hid (Cal.sy_succ i)
      by_cases hlt : i < n
      · go_wp2_with (go_at_call 26; refine (rLen _ _ ⟨by omega, by omega⟩).mono ?_; rintro e w1 ⟨rfl, rfl⟩)
        go_round
        case rel => exact ⟨i + 1, by omega, by go_num, by push_cast; rw [hs.out]; go_num⟩
        case measure => simp [intOf]; omega
      · obtain rfl : i = n := by omega
        go_wp2_with fail
        go_ret
        exact ⟨ret1_i FIN.out, rfl⟩

theorem yr_fin (d q : Int) (i : Nat) (h1 : Cal.sy i ≤ d - q * 146097) (h2 : d - q * 146097 < Cal.sy (i + 1)) : 400 * q + (i : Int) = Cal.yr d := by
  refine (Cal.yr_of d _ ?_ ?_).symm
  · rw [Cal.sy_cycle]; omega
  · rw [Int.add_assoc, Cal.sy_cycle]; omega

set_option maxHeartbeats 800000 in
theorem rOf_gen (d : Int) (b : Bool) (w : World) (hd : I64 d)
    (hb : ∀ w : World, Calls Tryz.prog 24 #[.int .i64 (Cal.yr d)] w fun e w' => e = .returned (.bool b) ∧ w = w') :
    Calls Tryz.prog 30 #[.int .i64 d] w fun e w' => e = .returned (.tuple #[.int .i64 (Cal.yr d), .bool b]) ∧ w = w' := by
  have HB := Lib.hid hb
  clear hb
  obtain ⟨hy1, hy2⟩ := hd
  obtain ⟨q, hq, q1, q2, hcase⟩ := floor_cases d 146097 (by omega)
  clear hq
  obtain ⟨r, hr⟩ : ∃ r : Int, r = d - q * 146097 := ⟨_, rfl⟩
  have r1 : 0 ≤ r := by omega
  have r2 : r < 146097 := by omega
  have hr' : d - q * 146097 = r := by omega
  have HR := Lib.hid hr'
  have hw' : wrap64 (d - wrap64 (q * 146097)) = r := by unfold wrap64; omega
  clear hr
  rcases hcase with ⟨h0, e1, c1⟩ | ⟨h0, e1, c1⟩ | ⟨h0, e1, c1⟩
  all_goals
    go_enter Tryz.func30, Tryz.ntmps30
    go_wp2_with fail
    try simp only [e1]
    try simp only [hw']
    try simp only [hr']
    clear e1 hr' hw'
    go_loop [5, 6] (fun l k => ∃ i : Nat, i ≤ 399 ∧ Cal.sy i ≤ r ∧ k = .int .i64 i ∧ l = .int .i64 (r - Cal.sy i)) (fun _ k => 400 - (intOf k).toNat)
    case atStart => exact ⟨0, by omega, by simpa [Cal.sy_zero] using r1, rfl, by simp [Cal.sy_zero]⟩
    case round =>
      obtain ⟨i, hi, hle, rfl, rfl⟩ := hrel
      have hlb := len_bd i
      have hsb := sy_small i (by omega)
      have hs := Lib.hid (Cal.sy_succ i)
      by_cases hlt : Cal.len i ≤ r - Cal.sy i
      · have hi2 : i < 399 := by
          have := Cal.sy_succ i
          have h400 := Cal.sy_400
          apply Decidable.byContradiction
          intro hc
          obtain rfl : i = 399 := by omega
          have : Cal.sy 400 ≤ r := by simp at *; omega
          omega
        go_wp2_with (go_at_call 26; refine (rLen _ _ ⟨by omega, by omega⟩).mono ?_; rintro e w1 ⟨rfl, rfl⟩)
        go_round
        case rel => exact ⟨i + 1, by omega, by push_cast; rw [hs.out]; omega, by go_num, by push_cast; rw [hs.out, Int.sub_sub]⟩
        case measure => simp [intOf]; omega
      · have hfin := yr_fin d q i (by rw [HR.out]; omega) (by rw [HR.out, hs.out]; omega)
        have HF := Lib.hid hfin
        clear hfin
        go_wp2_with (go_at_call 26; refine (rLen _ _ ⟨by omega, by omega⟩).mono ?_; rintro e w1 ⟨rfl, rfl⟩)
        rw [HF.out]
        refine (HB.out _).mono ?_
        rintro e w1 ⟨rfl, rfl⟩
        go_wp2_with fail
        go_ret2
        exact ⟨by simp, rfl⟩
theorem rOf_yes (d : Int) (w : World) (hd : I64 d) (h : IsY (Cal.yr d)) :
    Calls Tryz.prog 30 #[.int .i64 d] w fun e w' => e = .returned (.tuple #[.int .i64 (Cal.yr d), .bool true]) ∧ w = w' :=
  rOf_gen d true w hd fun w => rIs_yes _ w h
theorem rOf_no (d : Int) (w : World) (hd : I64 d) (h : ¬ IsY (Cal.yr d)) :
    Calls Tryz.prog 30 #[.int .i64 d] w fun e w' => e = .returned (.tuple #[.int .i64 (Cal.yr d), .bool false]) ∧ w = w' :=
  rOf_gen d false w hd fun w => rIs_no _ w h

theorem bf_fin (a n k : Int) : 97 * n + (Cal.bf k - Cal.bf (a + 400 * n)) = Cal.bf k - Cal.bf a := by
  rw [show a + 400 * n = 400 * n + a by omega, Cal.bf_cycle]; omega
end Go.Proofs.YtopbbcbpanfigaaGreatDoor
