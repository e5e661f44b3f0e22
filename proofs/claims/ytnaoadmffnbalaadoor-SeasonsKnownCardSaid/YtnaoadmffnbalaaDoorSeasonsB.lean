/-
  WALKS OF circa/seasons: Of.
-/
import Derived.Test.YtnaoadmffnbalaaDoorSeasonsA
namespace Go.Proofs.YtnaoadmffnbalaaDoor
open Go.RowKit
/-- The run of a code in any year, or why there is none. -/
theorem srun_bad (y c : Int) (w : World) (h : IsC c) (hs : ¬ IsSY y c) (hE : EnvS w) :
    Calls Tryd.prog 51 #[.int .i64 y, .int .i64 c] w fun e w' => e = .returned (.tuple #[runV 0 0, .int .i64 6]) ∧ Up w w' := by
  by_cases hy : IsY y
  · exact srun_no3 y c w h hy (fun hz => hs ⟨hy, hz⟩) hE
  · exact srun_no2 y c w h hy hE
theorem sof_no1 (d c : Int) (w : World) (h : ¬ IsC c) :
    Calls Tryd.prog 55 #[.int .i64 d, .int .i64 c] w fun e w' => e = .returned (.tuple #[.int .i64 0, .bool false, .int .i64 7]) ∧ w = w' := by
  go_enter Tryd.func55, Tryd.ntmps55
  go_wp2_with fail
  refine (smonths_no _ _ h).mono ?_
  rintro e w1 ⟨rfl, rfl⟩
  go_wp2_with fail
  go_ret3
  exact ⟨rfl, rfl⟩
theorem sof_no2 (d c : Int) (w : World) (hd : I64 d) (h : IsC c) (hy : ¬ IsY (Cal.yr d)) (hE : EnvS w) :
    Calls Tryd.prog 55 #[.int .i64 d, .int .i64 c] w fun e w' => e = .returned (.tuple #[.int .i64 0, .bool false, .int .i64 6]) ∧ Up w w' := by
  go_enter Tryd.func55, Tryd.ntmps55
  go_wp2_with fail
  refine (smonths_yes _ _ h hE).mono ?_
  rintro e w1 ⟨rfl, u1⟩
  go_wp2_with fail
  refine (mof_no _ _ hd hy (hE.up u1).mo).mono ?_
  rintro e w2 ⟨rfl, q2⟩
  have u2 := u1.trans q2
  clear q2 u1
  go_wp2_with fail
  go_ret3
  exact ⟨rfl, u2⟩
/-- The year and the month in which a day's run of a code must have begun, in months from that year on. -/
def ofY (d c : Int) : Int := if mo d < fromS c then Cal.yr d - 1 else Cal.yr d
def ofM (d c : Int) : Int := if mo d < fromS c then mo d + 12 else mo d
def IsOf (d c : Int) : Prop := ofM d c < fromS c + manyS c ∧ IsSY (ofY d c) c
instance (d c : Int) : Decidable (IsOf d c) := by unfold IsOf; infer_instance
theorem mo_bd (d : Int) : 1 ≤ mo d ∧ mo d ≤ 12 := by have := mo_spec d; exact ⟨this.1, this.2.1⟩
set_option maxHeartbeats 1000000 in
theorem sof_no3 (d c : Int) (w : World) (hd : I64 d) (h : IsC c) (hy : IsY (Cal.yr d)) (ho : ¬ IsOf d c) (hE : EnvS w) :
    Calls Tryd.prog 55 #[.int .i64 d, .int .i64 c] w fun e w' => e = .returned (.tuple #[.int .i64 0, .bool false, .int .i64 0]) ∧ Up w w' := by
  obtain ⟨b1, b2, b3, b4⟩ := code_bd c h
  obtain ⟨m1, m2⟩ := mo_bd d
  have HY := Lib.hid hy
  obtain ⟨y1, y2⟩ := hy
  by_cases hl : mo d < fromS c
  · have c1 : decide (mo d < fromS c) = true := by simp; omega
    have e1 : ofM d c = mo d + 12 := if_pos hl
    have e2 : ofY d c = Cal.yr d - 1 := if_pos hl
    by_cases hm : fromS c + manyS c ≤ mo d + 12
    · have c2 : decide (fromS c + manyS c ≤ mo d + 12) = true := by simp; omega
      clear e1 e2 ho
      go_enter Tryd.func55, Tryd.ntmps55
      go_wp2_with fail
      refine (smonths_yes _ _ h hE).mono ?_
      rintro e w1 ⟨rfl, u1⟩
      go_wp2_with fail
      refine (mof_yes _ _ hd HY.out (hE.up u1).mo).mono ?_
      rintro e w2 ⟨rfl, q2⟩
      have u2 := u1.trans q2
      clear q2 u1
      go_wp2_with fail
      go_ret3
      exact ⟨rfl, u2⟩
    · have c2 : decide (fromS c + manyS c ≤ mo d + 12) = false := by simp; omega
      have hs : ¬ IsSY (Cal.yr d - 1) c := fun k => ho ⟨by rw [e1]; omega, by rw [e2]; exact k⟩
      clear e1 e2 ho
      go_enter Tryd.func55, Tryd.ntmps55
      go_wp2_with fail
      refine (smonths_yes _ _ h hE).mono ?_
      rintro e w1 ⟨rfl, u1⟩
      go_wp2_with fail
      refine (mof_yes _ _ hd HY.out (hE.up u1).mo).mono ?_
      rintro e w2 ⟨rfl, q2⟩
      have u2 := u1.trans q2
      clear q2 u1
      go_wp2_with fail
      refine (srun_bad _ _ _ h hs (hE.up u2)).mono ?_
      rintro e w3 ⟨rfl, q3⟩
      have u3 := u2.trans q3
      clear q3 u2
      unfold runV
      go_wp2_with fail
      go_ret3
      exact ⟨rfl, u3.alloc _⟩
  · have c1 : decide (mo d < fromS c) = false := by simp; omega
    have e1 : ofM d c = mo d := if_neg hl
    have e2 : ofY d c = Cal.yr d := if_neg hl
    by_cases hm : fromS c + manyS c ≤ mo d
    · have c2 : decide (fromS c + manyS c ≤ mo d) = true := by simp; omega
      clear e1 e2 ho
      go_enter Tryd.func55, Tryd.ntmps55
      go_wp2_with fail
      refine (smonths_yes _ _ h hE).mono ?_
      rintro e w1 ⟨rfl, u1⟩
      go_wp2_with fail
      refine (mof_yes _ _ hd HY.out (hE.up u1).mo).mono ?_
      rintro e w2 ⟨rfl, q2⟩
      have u2 := u1.trans q2
      clear q2 u1
      go_wp2_with fail
      go_ret3
      exact ⟨rfl, u2⟩
    · have c2 : decide (fromS c + manyS c ≤ mo d) = false := by simp; omega
      have hs : ¬ IsSY (Cal.yr d) c := fun k => ho ⟨by rw [e1]; omega, by rw [e2]; exact k⟩
      clear e1 e2 ho
      go_enter Tryd.func55, Tryd.ntmps55
      go_wp2_with fail
      refine (smonths_yes _ _ h hE).mono ?_
      rintro e w1 ⟨rfl, u1⟩
      go_wp2_with fail
      refine (mof_yes _ _ hd HY.out (hE.up u1).mo).mono ?_
      rintro e w2 ⟨rfl, q2⟩
      have u2 := u1.trans q2
      clear q2 u1
      go_wp2_with fail
      refine (srun_bad _ _ _ h hs (hE.up u2)).mono ?_
      rintro e w3 ⟨rfl, q3⟩
      have u3 := u2.trans q3
      clear q3 u2
      unfold runV
      go_wp2_with fail
      go_ret3
      exact ⟨rfl, u3.alloc _⟩
set_option maxHeartbeats 1000000 in
theorem sof_yes (d c : Int) (w : World) (hd : I64 d) (h : IsC c) (hy : IsY (Cal.yr d)) (ho : IsOf d c) (hE : EnvS w) :
    Calls Tryd.prog 55 #[.int .i64 d, .int .i64 c] w fun e w' => e = .returned (.tuple #[.int .i64 (ofY d c), .bool true, .int .i64 0]) ∧ Up w w' := by
  obtain ⟨b1, b2, b3, b4⟩ := code_bd c h
  obtain ⟨m1, m2⟩ := mo_bd d
  have HY := Lib.hid hy
  obtain ⟨y1, y2⟩ := hy
  obtain ⟨ho, hs⟩ := ho
  by_cases hl : mo d < fromS c
  · have c1 : decide (mo d < fromS c) = true := by simp; omega
    have e1 : ofM d c = mo d + 12 := if_pos hl
    have e2 : ofY d c = Cal.yr d - 1 := if_pos hl
    rw [e1] at ho
    rw [e2] at hs ⊢
    have c2 : decide (fromS c + manyS c ≤ mo d + 12) = false := by simp; omega
    clear e1 e2
    go_enter Tryd.func55, Tryd.ntmps55
    go_wp2_with fail
    refine (smonths_yes _ _ h hE).mono ?_
    rintro e w1 ⟨rfl, u1⟩
    go_wp2_with fail
    refine (mof_yes _ _ hd HY.out (hE.up u1).mo).mono ?_
    rintro e w2 ⟨rfl, q2⟩
    have u2 := u1.trans q2
    clear q2 u1
    go_wp2_with fail
    refine (srun_yes _ _ _ h hs (hE.up u2)).mono ?_
    rintro e w3 ⟨rfl, q3⟩
    have u3 := u2.trans q3
    clear q3 u2
    unfold runV
    go_wp2_with fail
    go_ret3
    exact ⟨rfl, u3.alloc _⟩
  · have c1 : decide (mo d < fromS c) = false := by simp; omega
    have e1 : ofM d c = mo d := if_neg hl
    have e2 : ofY d c = Cal.yr d := if_neg hl
    rw [e1] at ho
    rw [e2] at hs ⊢
    have c2 : decide (fromS c + manyS c ≤ mo d) = false := by simp; omega
    clear e1 e2
    go_enter Tryd.func55, Tryd.ntmps55
    go_wp2_with fail
    refine (smonths_yes _ _ h hE).mono ?_
    rintro e w1 ⟨rfl, u1⟩
    go_wp2_with fail
    refine (mof_yes _ _ hd HY.out (hE.up u1).mo).mono ?_
    rintro e w2 ⟨rfl, q2⟩
    have u2 := u1.trans q2
    clear q2 u1
    go_wp2_with fail
    refine (srun_yes _ _ _ h hs (hE.up u2)).mono ?_
    rintro e w3 ⟨rfl, q3⟩
    have u3 := u2.trans q3
    clear q3 u2
    unfold runV
    go_wp2_with fail
    go_ret3
    exact ⟨rfl, u3.alloc _⟩
end Go.Proofs.YtnaoadmffnbalaaDoor
