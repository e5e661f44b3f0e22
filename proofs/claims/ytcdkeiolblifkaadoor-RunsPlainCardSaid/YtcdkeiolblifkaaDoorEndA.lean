/-
  WALKS OF circa/ends AND circaref08: Check, Of, Compare; of cmp.Compare, cmp.Or at two values.
-/
import Derived.Test.YtcdkeiolblifkaaDoorIntsF
namespace Go.Proofs.YtcdkeiolblifkaaDoor
open Go.RowKit
def c3 (a b : Int) : Int := if a < b then -1 else if b < a then 1 else 0
/-- How two ends lie to each other. -/
def eC (i d j f : Int) : Int := if c3 i j ≠ 0 then c3 i j else c3 d f
def eOk (i d : Int) : Prop := i = 0 ∨ (i = 1 ∨ i = -1) ∧ d = 0
instance decEOk (i d : Int) : Decidable (eOk i d) := by unfold eOk; infer_instance
def eErr (i d : Int) : Int := if eOk i d then 0 else 5
theorem c3_lt {a b : Int} (h : a < b) : c3 a b = -1 := by unfold c3; rw [if_pos h]
theorem c3_gt {a b : Int} (h : b < a) : c3 a b = 1 := by unfold c3; rw [if_neg (by omega), if_pos h]
theorem c3_eq (a : Int) : c3 a a = 0 := by unfold c3; simp
theorem isNaN8 (a : Int) (w : World) : Calls Tryd.prog 79 #[.int .i8 a] w fun e w' => e = .returned (.bool false) ∧ w = w' := by
  go_enter Tryd.func79, Tryd.ntmps79
  go_wp2_with fail
  go_ret
  exact ⟨retb (by simp), rfl⟩
theorem isNaN64 (a : Int) (w : World) : Calls Tryd.prog 80 #[.int .i64 a] w fun e w' => e = .returned (.bool false) ∧ w = w' := by
  go_enter Tryd.func80, Tryd.ntmps80
  go_wp2_with fail
  go_ret
  exact ⟨retb (by simp), rfl⟩
theorem cmp8 (a b : Int) (w : World) : Calls Tryd.prog 65 #[.int .i8 a, .int .i8 b] w fun e w' => e = .returned (.int .i64 (c3 a b)) ∧ w = w' := by
  rcases Int.lt_trichotomy a b with h | h | h
  · have d1 : decide (a < b) = true := by simpa using h
    have HC := Lib.hid (c3_lt h)
    go_enter Tryd.func65, Tryd.ntmps65
    go_wp2_with fail
    refine (isNaN8 a _).mono ?_
    rintro e w1 ⟨rfl, rfl⟩
    go_wp2_with fail
    refine (isNaN8 b _).mono ?_
    rintro e w2 ⟨rfl, rfl⟩
    go_wp2_with fail
    go_ret
    exact ⟨ret1_i HC.out.symm, rfl⟩
  · subst h
    have HC := Lib.hid (c3_eq a)
    have d1 : decide (a < a) = false := by simp
    go_enter Tryd.func65, Tryd.ntmps65
    go_wp2_with fail
    refine (isNaN8 a _).mono ?_
    rintro e w1 ⟨rfl, rfl⟩
    go_wp2_with fail
    refine (isNaN8 a _).mono ?_
    rintro e w2 ⟨rfl, rfl⟩
    go_wp2_with fail
    go_ret
    exact ⟨ret1_i HC.out.symm, rfl⟩
  · have d1 : decide (a < b) = false := by simp; omega
    have d2 : decide (b < a) = true := by simpa using h
    have HC := Lib.hid (c3_gt h)
    go_enter Tryd.func65, Tryd.ntmps65
    go_wp2_with fail
    refine (isNaN8 a _).mono ?_
    rintro e w1 ⟨rfl, rfl⟩
    go_wp2_with fail
    refine (isNaN8 b _).mono ?_
    rintro e w2 ⟨rfl, rfl⟩
    go_wp2_with fail
    go_ret
    exact ⟨ret1_i HC.out.symm, rfl⟩
theorem cmp64 (a b : Int) (w : World) : Calls Tryd.prog 66 #[.int .i64 a, .int .i64 b] w fun e w' => e = .returned (.int .i64 (c3 a b)) ∧ w = w' := by
  rcases Int.lt_trichotomy a b with h | h | h
  · have d1 : decide (a < b) = true := by simpa using h
    have HC := Lib.hid (c3_lt h)
    go_enter Tryd.func66, Tryd.ntmps66
    go_wp2_with fail
    refine (isNaN64 a _).mono ?_
    rintro e w1 ⟨rfl, rfl⟩
    go_wp2_with fail
    refine (isNaN64 b _).mono ?_
    rintro e w2 ⟨rfl, rfl⟩
    go_wp2_with fail
    go_ret
    exact ⟨ret1_i HC.out.symm, rfl⟩
  · subst h
    have HC := Lib.hid (c3_eq a)
    have d1 : decide (a < a) = false := by simp
    go_enter Tryd.func66, Tryd.ntmps66
    go_wp2_with fail
    refine (isNaN64 a _).mono ?_
    rintro e w1 ⟨rfl, rfl⟩
    go_wp2_with fail
    refine (isNaN64 a _).mono ?_
    rintro e w2 ⟨rfl, rfl⟩
    go_wp2_with fail
    go_ret
    exact ⟨ret1_i HC.out.symm, rfl⟩
  · have d1 : decide (a < b) = false := by simp; omega
    have d2 : decide (b < a) = true := by simpa using h
    have HC := Lib.hid (c3_gt h)
    go_enter Tryd.func66, Tryd.ntmps66
    go_wp2_with fail
    refine (isNaN64 a _).mono ?_
    rintro e w1 ⟨rfl, rfl⟩
    go_wp2_with fail
    refine (isNaN64 b _).mono ?_
    rintro e w2 ⟨rfl, rfl⟩
    go_wp2_with fail
    go_ret
    exact ⟨ret1_i HC.out.symm, rfl⟩
def or2 (x y : Int) : Int := if x ≠ 0 then x else y
set_option maxHeartbeats 400000 in
theorem cmpOr (B : Nat) (x y : Int) (w : World) (h0 : w.cell? ⟨B, 0, none⟩ = some (.int .i64 x)) (h1 : w.cell? ⟨B, 1, none⟩ = some (.int .i64 y)) :
    Calls Tryd.prog 50 #[.slice (some ⟨B, 0, none⟩) 2 2] w fun e w' => e = .returned (.int .i64 (or2 x y)) ∧ w = w' := by
  go_enter Tryd.func50, Tryd.ntmps50
  go_wp2_with fail
  go_loop [8] (fun kv => ∃ k : Int, 0 ≤ k ∧ k ≤ 2 ∧ kv = .int .i64 k ∧ (1 ≤ k → x = 0) ∧ (2 ≤ k → y = 0)) (fun kv => (2 - intOf kv).toNat)
  case atStart => exact ⟨0, by omega, by omega, rfl, by omega, by omega⟩
  case round =>
    obtain ⟨k, k0, k2, rfl, hx, hy⟩ := hrel
    have hk : k = 0 ∨ k = 1 ∨ k = 2 := by omega
    clear k0 k2
    rcases hk with rfl | rfl | rfl
    · clear hx hy
      by_cases hx : x = 0
      · subst hx
        go_wp2_with fail
        go_round
        case rel => exact ⟨1, by omega, by omega, rfl, by intros; trivial, by omega⟩
        case measure => simp [intOf]
      · have d : (x != 0) = true := by simpa using hx
        have HC := Lib.hid (show or2 x y = x by unfold or2; rw [if_pos hx])
        go_wp2_with fail
        go_ret
        exact ⟨ret1_i HC.out.symm, rfl⟩
    · obtain rfl := hx (by omega)
      clear hx hy
      by_cases hy : y = 0
      · subst hy
        go_wp2_with fail
        go_round
        case rel => exact ⟨2, by omega, by omega, rfl, by intros; trivial, by intros; trivial⟩
        case measure => simp [intOf]
      · have d : (y != 0) = true := by simpa using hy
        have HC := Lib.hid (show or2 0 y = y by unfold or2; rw [if_neg (by simp)])
        go_wp2_with fail
        go_ret
        exact ⟨ret1_i HC.out.symm, rfl⟩
    · obtain rfl := hx (by omega)
      obtain rfl := hy (by omega)
      clear hx hy
      have HC := Lib.hid (show or2 0 0 = 0 by decide)
      go_wp2_with fail
      go_ret
      exact ⟨ret1_i HC.out.symm, rfl⟩
end Go.Proofs.YtcdkeiolblifkaaDoor
