/-
  WALKS OF circa/months. (Printed by wip/gen/months.py.)
-/
import Derived.Test.YtopbbcbpanfigaaGreatDoorYearsC
import Derived.Test.YtopbbcbpanfigaaGreatDoorIntsAdd
import Derived.Test.YtopbbcbpanfigaaGreatDoorCalM
namespace Go.Proofs.YtopbbcbpanfigaaGreatDoor
open Go.RowKit

def lensL : List Int := [31, 28, 31, 30, 31, 30, 31, 31, 30, 31, 30, 31]
/-- What years.steps and months.lengths hold. -/
structure EnvM (w : World) : Prop where
  st : Steps w
  ln : ∀ i : Nat, i < 12 → w.cell? ⟨0, i, none⟩ = some (.int .i64 (lensL.getD i 0))
theorem EnvM.up {w w' : World} (h : EnvM w) (hb : Up w w') : EnvM w' := ⟨h.st.up hb, fun i hi => hb.cell (h.ln i hi)⟩
theorem EnvM.below {w w' : World} (h : EnvM w) (hb : Below w.heap.size w w') : EnvM w' := ⟨h.st.below hb, fun i hi => cell_below hb (h.ln i hi)⟩

def IsM (y m : Int) : Prop := IsY y ∧ 1 ≤ m ∧ m ≤ 12
instance (y m : Int) : Decidable (IsM y m) := by unfold IsM; infer_instance
/-- Why a pair is no month. -/
def BadM (y m e : Int) : Prop := (¬ IsY y ∧ e = 6) ∨ (IsY y ∧ ¬ (1 ≤ m ∧ m ≤ 12) ∧ e = 7)
theorem isM_or (y m : Int) : IsM y m ∨ ∃ e, BadM y m e := by
  unfold IsM BadM
  by_cases h : IsY y
  · by_cases h' : 1 ≤ m ∧ m ≤ 12
    · exact Or.inl ⟨h, h'⟩
    · exact Or.inr ⟨7, Or.inr ⟨h, h', rfl⟩⟩
  · exact Or.inr ⟨6, Or.inl ⟨h, rfl⟩⟩
theorem mcheck_yes (y m : Int) (w : World) (h : IsM y m) :
    Calls Tryz.prog 62 #[.int .i64 y, .int .i64 m] w fun e w' => e = .returned (.int .i64 0) ∧ w = w' := by
  obtain ⟨hy, h1, h2⟩ := h
  have c1 : decide (m < 1) = false := by simp; omega
  have c2 : decide (12 < m) = false := by simp; omega
  go_enter Tryz.func62, Tryz.ntmps62
  go_wp2_with fail
  refine (check_yes _ _ hy).mono ?_
  rintro e w1 ⟨rfl, rfl⟩
  go_wp2_with fail
  go_ret
  exact ⟨rfl, rfl⟩
theorem mcheck_no (y m er : Int) (w : World) (h : BadM y m er) :
    Calls Tryz.prog 62 #[.int .i64 y, .int .i64 m] w fun e w' => e = .returned (.int .i64 er) ∧ w = w' := by
  rcases h with ⟨hy, rfl⟩ | ⟨hy, hm, rfl⟩
  · go_enter Tryz.func62, Tryz.ntmps62
    go_wp2_with fail
    refine (check_no _ _ hy).mono ?_
    rintro e w1 ⟨rfl, rfl⟩
    go_wp2_with fail
    go_ret
    exact ⟨rfl, rfl⟩
  · by_cases h1 : m < 1
    · have c1 : decide (m < 1) = true := by simp; omega
      go_enter Tryz.func62, Tryz.ntmps62
      go_wp2_with fail
      refine (check_yes _ _ hy).mono ?_
      rintro e w1 ⟨rfl, rfl⟩
      go_wp2_with fail
      go_ret
      exact ⟨rfl, rfl⟩
    · have c1 : decide (m < 1) = false := by simp; omega
      have c2 : decide (12 < m) = true := by simp; omega
      go_enter Tryz.func62, Tryz.ntmps62
      go_wp2_with fail
      refine (check_yes _ _ hy).mono ?_
      rintro e w1 ⟨rfl, rfl⟩
      go_wp2_with fail
      go_ret
      exact ⟨rfl, rfl⟩

theorem mlen_other (y m : Int) (h1 : 1 ≤ m) (h2 : m ≤ 12) (h : m ≠ 2) : lensL.getD (m - 1).toNat 0 = Cal.mlen y m := by
  have hm : m = 1 ∨ m = 3 ∨ m = 4 ∨ m = 5 ∨ m = 6 ∨ m = 7 ∨ m = 8 ∨ m = 9 ∨ m = 10 ∨ m = 11 ∨ m = 12 := by omega
  rcases hm with rfl | rfl | rfl | rfl | rfl | rfl | rfl | rfl | rfl | rfl | rfl <;> simp [Cal.mlen, lensL]
set_option maxHeartbeats 1000000 in
theorem length_yes (y m : Int) (w : World) (h : IsM y m) (hE : EnvM w) :
    Calls Tryz.prog 63 #[.int .i64 y, .int .i64 m] w fun e w' => e = .returned (.int .i64 (Cal.mlen y m)) ∧ Up w w' := by
  obtain ⟨hy, h1, h2⟩ := h
  by_cases hm : m = 2
  · subst hm
    cases hl : Cal.lp y
    · have e : Cal.mlen y 2 = 28 := by simp [Cal.mlen, Cal.lpN, hl]
      rw [e]
      go_enter Tryz.func63, Tryz.ntmps63
      go_wp2_with fail
      refine (leap_is y false _ hl hy hE.st).mono ?_
      rintro e w1 ⟨rfl, qw1⟩
      have uw1 := qw1
      clear qw1
      have c := (hE.up uw1).ln 1 (by decide)
      simp only [lensL, List.getD, List.getElem?_cons_succ, List.getElem?_cons_zero, Option.getD_some] at c
      go_wp2_with fail
      go_ret
      exact ⟨rfl, uw1⟩
    · have e : Cal.mlen y 2 = 29 := by simp [Cal.mlen, Cal.lpN, hl]
      rw [e]
      go_enter Tryz.func63, Tryz.ntmps63
      go_wp2_with fail
      refine (leap_is y true _ hl hy hE.st).mono ?_
      rintro e w1 ⟨rfl, qw1⟩
      have uw1 := qw1
      clear qw1
      go_wp2_with fail
      go_ret
      exact ⟨rfl, uw1⟩
  · have e := mlen_other y m h1 h2 hm
    have hm2 : (m == 2) = false := by rw [beq_eq_false_iff_ne]; exact hm
    obtain ⟨k, hk⟩ : ∃ k : Nat, (k : Int) = m - 1 := ⟨(m - 1).toNat, by omega⟩
    obtain rfl : m = k + 1 := by omega
    have hk2 : k < 12 := by omega
    rw [show ((k : Int) + 1 - 1).toNat = k by omega] at e
    have HE := Lib.hid e
    clear e hk hm
    cases hl : Cal.lp y
    all_goals
      have HL := Lib.hid hl
      clear hl
      go_enter Tryz.func63, Tryz.ntmps63
      go_wp2_with fail
      refine (leap_is y _ _ HL.out hy hE.st).mono ?_
      rintro e w1 ⟨rfl, u1⟩
      have c := (hE.up u1).ln k hk2
      go_wp2_with fail
      go_ret
      exact ⟨ret1_i HE.out, u1⟩
theorem mlen_yes (y m : Int) (w : World) (h : IsM y m) (hE : EnvM w) :
    Calls Tryz.prog 38 #[.int .i64 y, .int .i64 m] w fun e w' => e = .returned (.tuple #[.int .i64 (Cal.mlen y m), .int .i64 0]) ∧ Up w w' := by
  go_enter Tryz.func38, Tryz.ntmps38
  go_wp2_with fail
  refine (mcheck_yes _ _ _ h).mono ?_
  rintro e w1 ⟨rfl, rfl⟩
  go_wp2_with fail
  refine (length_yes _ _ _ h hE).mono ?_
  rintro e w2 ⟨rfl, qw2⟩
  have uw2 := qw2
  clear qw2
  go_wp2_with fail
  go_ret2
  exact ⟨rfl, uw2⟩
theorem mlen_no (y m er : Int) (w : World) (h : BadM y m er) :
    Calls Tryz.prog 38 #[.int .i64 y, .int .i64 m] w fun e w' => e = .returned (.tuple #[.int .i64 0, .int .i64 er]) ∧ w = w' := by
  have hb := h
  rcases h with ⟨_, rfl⟩ | ⟨_, _, rfl⟩
  all_goals
    go_enter Tryz.func38, Tryz.ntmps38
    go_wp2_with fail
    refine (mcheck_no _ _ _ _ hb).mono ?_
    rintro e w1 ⟨rfl, rfl⟩
    go_wp2_with fail
    go_ret2
    exact ⟨rfl, rfl⟩
set_option maxHeartbeats 1000000 in
theorem mstart_yes (y m : Int) (w : World) (h : IsM y m) (hE : EnvM w) :
    Calls Tryz.prog 36 #[.int .i64 y, .int .i64 m] w fun e w' => e = .returned (.tuple #[.int .i64 (Cal.sm y m), .int .i64 0]) ∧ Up w w' := by
  have HM := h
  obtain ⟨hy, h1, h2⟩ := h
  have hs := sy_bdY y hy
  have HY := Lib.hid hy
  obtain ⟨y1, y2⟩ := hy
  go_enter Tryz.func36, Tryz.ntmps36
  go_wp2_with fail
  refine (mcheck_yes _ _ _ HM).mono ?_
  rintro e w1 ⟨rfl, rfl⟩
  go_wp2_with fail
  refine (ystart_yes _ _ HY.out hE.st).mono ?_
  rintro e w2 ⟨rfl, qw2⟩
  have uw2 := qw2
  clear qw2
  go_wp2_with fail
  go_loopw [7, 23] (fun d i wr => ∃ k : Int, 0 ≤ k ∧ k ≤ m - 1 ∧ i = .int .i64 k ∧ d = .int .i64 (Cal.sm y (k + 1)) ∧ Up w wr) (fun _ i _ => (m - 1 - intOf i).toNat)
  case atStart => exact ⟨0, by omega, by omega, rfl, by simp [Cal.sm, Cal.cum_one], uw2⟩
  case round =>
    obtain ⟨k, k1, k2, rfl, rfl, hu⟩ := hrel
    have hc := Cal.cum_bd y (k + 1) (by omega) (by omega)
    have hcs : Cal.sm y (k + 1) = Cal.sy y + Cal.cum y (k + 1) := rfl
    have hsb : -3652425000000000000 ≤ Cal.sm y (k + 1) ∧ Cal.sm y (k + 1) ≤ 3652425000000000366 := by omega
    have hml := Cal.mlen_bd y (k + 1)
    clear hcs hc
    by_cases hlt : k < m - 1
    · have hn := sm_succ y (k + 1) (by omega) (by omega)
      have HN := Lib.hid hn
      have HM1 : IsM y (k + 1) := ⟨HY.out, by omega, by omega⟩
      clear hn
      go_wp2_with fail
      refine (length_yes _ _ _ HM1 (hE.up hu)).mono ?_
      rintro e w3 ⟨rfl, q⟩
      go_wp2_with fail
      go_roundw
      case rel => exact ⟨k + 1, by omega, by omega, rfl, by rw [HN.out], hu.trans q⟩
      case measure => simp [intOf]; omega
    · obtain rfl : k = m - 1 := by omega
      go_wp2_with fail
      go_ret2
      exact ⟨by simp, hu⟩
theorem mstart_no (y m er : Int) (w : World) (h : BadM y m er) :
    Calls Tryz.prog 36 #[.int .i64 y, .int .i64 m] w fun e w' => e = .returned (.tuple #[.int .i64 0, .int .i64 er]) ∧ w = w' := by
  have hb := h
  rcases h with ⟨_, rfl⟩ | ⟨_, _, rfl⟩
  all_goals
    go_enter Tryz.func36, Tryz.ntmps36
    go_wp2_with fail
    refine (mcheck_no _ _ _ _ hb).mono ?_
    rintro e w1 ⟨rfl, rfl⟩
    go_wp2_with fail
    go_ret2
    exact ⟨rfl, rfl⟩
theorem sm_bd (y m : Int) (h : IsM y m) : -3652425000000000000 ≤ Cal.sm y m ∧ Cal.sm y m ≤ 3652425000000000366 ∧ Cal.sm y (m + 1) ≤ 3652425000000000366 := by
  obtain ⟨hy, h1, h2⟩ := h
  have hs := sy_bdY y hy
  have hc := Cal.cum_mono y 1 m (by omega) (by omega) (by omega)
  have hd := Cal.cum_mono y (m + 1) 13 (by omega) (by omega) (by omega)
  have he := Cal.cum_mono y m (m + 1) (by omega) (by omega) (by omega)
  have h13 := Cal.cum_13 y
  have hn := Cal.sy_succ y
  rw [Cal.cum_one] at hc
  unfold Cal.sm
  omega
set_option maxHeartbeats 1000000 in
theorem mof_yes (d : Int) (w : World) (hd : I64 d) (h : IsY (Cal.yr d)) (hE : EnvM w) :
    Calls Tryz.prog 40 #[.int .i64 d] w fun e w' => e = .returned (.tuple #[.int .i64 (Cal.yr d), .int .i64 (mo d), .int .i64 0]) ∧ Up w w' := by
  have hs := sy_bdY _ h
  have hsp := Cal.yr_spec d
  have hm := mo_spec d
  obtain ⟨y, hy⟩ : ∃ y, Cal.yr d = y := ⟨_, rfl⟩
  rw [hy] at h hs hsp hm ⊢
  have HD := hd
  have HYY := Lib.hid hy
  have HY := Lib.hid h
  clear hy
  obtain ⟨d1, d2⟩ := hd
  obtain ⟨s1, s2, s3⟩ := hs
  obtain ⟨m1, m2, m3, m4⟩ := hm
  obtain ⟨p1, p2⟩ := hsp
  go_enter Tryz.func40, Tryz.ntmps40
  go_wp2_with fail
  refine (of_is _ y _ HYY.out HD HY.out hE.st).mono ?_
  rintro e w1 ⟨rfl, qw1⟩
  have uw1 := qw1
  clear qw1
  go_wp2_with fail
  refine (ystart_yes _ _ HY.out (hE.up uw1).st).mono ?_
  rintro e w2 ⟨rfl, qw2⟩
  have uw2 := uw1.trans qw2
  clear qw2 uw1
  go_wp2_with fail
  go_loopw [2, 7, 26] (fun yv l i wr => ∃ k : Int, 0 ≤ k ∧ k ≤ mo d - 1 ∧ yv = .int .i64 y ∧ i = .int .i64 k ∧ l = .int .i64 (d - Cal.sm y (k + 1)) ∧ Up w wr) (fun _ _ i _ => (12 - intOf i).toNat)
  case atStart => exact ⟨0, by omega, by omega, rfl, rfl, by simp [Cal.sm, Cal.cum_one], uw2⟩
  case round =>
    obtain ⟨k, k1, k2, rfl, rfl, rfl, hu⟩ := hrel
    have HM1 : IsM y (k + 1) := ⟨HY.out, by omega, by omega⟩
    have hb := sm_bd y (k + 1) HM1
    have hml := Cal.mlen_bd y (k + 1)
    have hn := sm_succ y (k + 1) (by omega) (by omega)
    have hmono := sm_mono y (k + 1) (mo d) (by omega) (by omega) (by omega)
    by_cases hlt : k < mo d - 1
    · have hmono2 := sm_mono y (k + 1 + 1) (mo d) (by omega) (by omega) (by omega)
      have c1 : decide (d - Cal.sm y (k + 1) < Cal.mlen y (k + 1)) = false := by simp; omega
      have HN := Lib.hid hn
      clear hn
      go_wp2_with fail
      refine (length_yes _ _ _ HM1 (hE.up hu)).mono ?_
      rintro e w3 ⟨rfl, q⟩
      go_wp2_with fail
      go_roundw
      case rel => exact ⟨k + 1, by omega, by omega, rfl, rfl, by rw [HN.out]; congr 1; omega, hu.trans q⟩
      case measure => simp [intOf]; omega
    · have hk : k + 1 = mo d := by omega
      have m4' : d < Cal.sm y (k + 1 + 1) := by rw [hk]; exact m4
      have c1 : decide (d - Cal.sm y (k + 1) < Cal.mlen y (k + 1)) = true := by simp; omega
      have HK := Lib.hid hk
      clear hn hk
      go_wp2_with fail
      refine (length_yes _ _ _ HM1 (hE.up hu)).mono ?_
      rintro e w3 ⟨rfl, q⟩
      go_wp2_with fail
      go_ret3
      exact ⟨ret3_i rfl HK.out rfl, hu.trans q⟩
theorem mof_no (d : Int) (w : World) (hd : I64 d) (h : ¬ IsY (Cal.yr d)) (hE : EnvM w) :
    Calls Tryz.prog 40 #[.int .i64 d] w fun e w' => e = .returned (.tuple #[.int .i64 0, .int .i64 0, .int .i64 6]) ∧ Up w w' := by
  go_enter Tryz.func40, Tryz.ntmps40
  go_wp2_with fail
  refine (of_no _ _ hd h hE.st).mono ?_
  rintro e w1 ⟨rfl, qw1⟩
  have uw1 := qw1
  clear qw1
  go_wp2_with fail
  go_ret3
  exact ⟨rfl, uw1⟩

/-- The number of a month, counted from the year 0 on. -/
def mi (y m : Int) : Int := 12 * y + (m - 1)
end Go.Proofs.YtopbbcbpanfigaaGreatDoor
