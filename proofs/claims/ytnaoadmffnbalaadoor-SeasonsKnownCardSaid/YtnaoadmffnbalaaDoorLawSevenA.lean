/-
  WALKS OF circalaw07: run, days; slices.Clip.
-/
import Derived.Test.YtnaoadmffnbalaaDoorRefSevenC
namespace Go.Proofs.YtnaoadmffnbalaaDoor
open Go.RowKit
/-- What 'run' tells: a run that was returned well. -/
theorem lrun_ok (a b : Int) (w : World) :
    Calls Tryd.prog 53 #[runV a b, .int .i64 0, runV a b, .int .i64 0] w fun e w' => e = .returned (.bool true) ∧ Up w w' := by
  unfold runV
  go_enter Tryd.func53, Tryd.ntmps53
  go_wp2_with fail
  go_ret
  exact ⟨retb (by simp), ((Up.refl _).alloc _).alloc _⟩
theorem lrun_bad (n : Int) (w : World) (h : n = 6 ∨ n = 7) :
    Calls Tryd.prog 53 #[runV 0 0, .int .i64 n, runV 0 0, .int .i64 n] w fun e w' => e = .returned (.bool true) ∧ Up w w' := by
  unfold runV
  rcases h with rfl | rfl
  all_goals
    go_enter Tryd.func53, Tryd.ntmps53
    go_wp2_with fail
    go_ret
    exact ⟨retb (by simp), ((Up.refl _).alloc _).alloc _⟩
theorem ldays (a b : Int) (w : World) :
    Calls Tryd.prog 67 #[.int .i64 a, .int .i64 b] w fun e w' => e = .returned (runV a b) ∧ Up w w' := by
  go_enter Tryd.func67, Tryd.ntmps67
  go_wp2_with fail
  exact bodyPost_ret (v := runV a b) (by simp [results, Tryd.results67, go_sem, runV]) rfl ⟨rfl, (Up.refl _).alloc _⟩
theorem clip_nil (w : World) :
    Calls Tryd.prog 68 #[.slice none 0 0] w fun e w' => e = .returned (.slice none 0 0) ∧ w = w' := by
  go_enter Tryd.func68, Tryd.ntmps68
  go_wp2_with fail
  go_ret
  exact ⟨rfl, rfl⟩
theorem clip_at (g n cap : Nat) (w : World) (h : n ≤ cap) (_hc : cap ≤ maxLen) :
    Calls Tryd.prog 68 #[.slice (some ⟨g, 0, none⟩) n cap] w fun e w' => e = .returned (.slice (some ⟨g, 0, none⟩) n n) ∧ w = w' := by
  have hm : maxLen ≤ 9223372036854775807 := by decide +kernel
  go_enter Tryd.func68, Tryd.ntmps68
  go_wp2_with fail
  go_ret
  exact ⟨rfl, rfl⟩
end Go.Proofs.YtnaoadmffnbalaaDoor
