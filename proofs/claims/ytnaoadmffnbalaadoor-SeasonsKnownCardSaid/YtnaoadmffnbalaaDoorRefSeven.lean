/-
  WALKS OF circaref07: Months.
-/
import Derived.Test.YtnaoadmffnbalaaDoorSeasonsB
import Derived.Test.YtnaoadmffnbalaaDoorRefFive
namespace Go.Proofs.YtnaoadmffnbalaaDoor
open Go.RowKit
set_option maxHeartbeats 2000000 in
theorem rMonths7_yes (c : Int) (w : World) (h : IsC c) :
    Calls Tryd.prog 49 #[.int .i64 c] w fun e w' => e = .returned (.tuple #[.int .i64 (fromS c), .int .i64 (manyS c)]) ∧ w = w' := by
  obtain ⟨h1, h2⟩ := h
  have : c = 21 ∨ c = 22 ∨ c = 23 ∨ c = 24 ∨ c = 25 ∨ c = 26 ∨ c = 27 ∨ c = 28 ∨ c = 29 ∨ c = 30 ∨ c = 31 ∨ c = 32 ∨ c = 33 ∨ c = 34 ∨ c = 35 ∨ c = 36 ∨ c = 37 ∨ c = 38 ∨ c = 39 ∨ c = 40 ∨ c = 41 := by omega
  clear h1 h2
  rcases this with rfl | rfl | rfl | rfl | rfl | rfl | rfl | rfl | rfl | rfl | rfl | rfl | rfl | rfl | rfl | rfl | rfl | rfl | rfl | rfl | rfl
  all_goals
    go_enter Tryd.func49, Tryd.ntmps49
    go_wp2_with fail
    go_ret2
    exact ⟨ret2_i (by decide) (by decide), rfl⟩
set_option maxHeartbeats 1000000 in
theorem rMonths7_no (c : Int) (w : World) (h : ¬ IsC c) :
    Calls Tryd.prog 49 #[.int .i64 c] w fun e w' => e = .returned (.tuple #[.int .i64 0, .int .i64 0]) ∧ w = w' := by
  unfold IsC at h
  have k21 : (c == 21) = false := by simp; omega
  have k22 : (c == 22) = false := by simp; omega
  have k23 : (c == 23) = false := by simp; omega
  have k24 : (c == 24) = false := by simp; omega
  have k25 : (c == 25) = false := by simp; omega
  have k26 : (c == 26) = false := by simp; omega
  have k27 : (c == 27) = false := by simp; omega
  have k28 : (c == 28) = false := by simp; omega
  have k29 : (c == 29) = false := by simp; omega
  have k30 : (c == 30) = false := by simp; omega
  have k31 : (c == 31) = false := by simp; omega
  have k32 : (c == 32) = false := by simp; omega
  have k33 : (c == 33) = false := by simp; omega
  have k34 : (c == 34) = false := by simp; omega
  have k35 : (c == 35) = false := by simp; omega
  have k36 : (c == 36) = false := by simp; omega
  have k37 : (c == 37) = false := by simp; omega
  have k38 : (c == 38) = false := by simp; omega
  have k39 : (c == 39) = false := by simp; omega
  have k40 : (c == 40) = false := by simp; omega
  have k41 : (c == 41) = false := by simp; omega
  clear h
  go_enter Tryd.func49, Tryd.ntmps49
  go_wp2_with fail
  go_ret2
  exact ⟨rfl, rfl⟩
end Go.Proofs.YtnaoadmffnbalaaDoor
