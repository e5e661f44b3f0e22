/-
  WALKS OF circalaw07: list.
-/
import Derived.Test.YtnaoadmffnbalaaDoorSeasonsC
namespace Go.Proofs.YtnaoadmffnbalaaDoor
open Go.RowKit
/-- A slice value that holds these numbers first. -/
def ListW (w : World) (v : Value) (l : List Int) : Prop :=
  (v = .slice none 0 0 ∧ l = []) ∨ ∃ g cap, v = .slice (some ⟨g, 0, none⟩) l.length cap ∧ ∀ j x, l[j]? = some x → w.cell? ⟨g, j, none⟩ = some (.int .i64 x)
set_option maxHeartbeats 1000000 in
theorem llist (l : List Int) (a b : Value) (w : World) (hl : l.length ≤ 1000) (ha : ListC w a l) (hb : ListW w b l) :
    Calls Tryd.prog 58 #[a, b] w fun e w' => e = .returned (.bool true) ∧ Up w w' := by
  rcases ha with ⟨rfl, rfl⟩ | ⟨g, rfl, hg⟩
  · obtain ⟨x, cap, rfl⟩ : ∃ x cap, b = .slice x 0 cap := by
      rcases hb with ⟨rfl, _⟩ | ⟨g, cap, rfl, _⟩
      · exact ⟨_, _, rfl⟩
      · exact ⟨_, _, rfl⟩
    go_enter Tryd.func58, Tryd.ntmps58
    go_wp2_with fail
    go_loopw [5] (fun i wr => i = .int .i64 0 ∧ Up w wr) (fun _ _ => 0)
    case atStart => exact ⟨rfl, Up.refl _⟩
    case round =>
      obtain ⟨rfl, hu⟩ := hrel
      go_wp2_with fail
      go_ret
      exact ⟨rfl, hu⟩
  · obtain ⟨x, cap, rfl, hx⟩ : ∃ x cap, b = .slice x l.length cap ∧ ∀ j y, l[j]? = some y → ∃ h, x = some ⟨h, 0, none⟩ ∧ w.cell? ⟨h, j, none⟩ = some (.int .i64 y) := by
      rcases hb with ⟨rfl, rfl⟩ | ⟨h, cap, rfl, hh⟩
      · exact ⟨_, _, rfl, by simp⟩
      · exact ⟨_, _, rfl, fun j y hy => ⟨h, rfl, hh j y hy⟩⟩
    clear hb
    have HG := Lib.hid hg
    have HX := Lib.hid hx
    clear hg hx
    go_enter Tryd.func58, Tryd.ntmps58
    go_wp2_with fail
    go_loopw [5] (fun i wr => ∃ k : Nat, k ≤ l.length ∧ i = .int .i64 k ∧ Up w wr) (fun i _ => l.length - (intOf i).toNat)
    case atStart => exact ⟨0, by omega, rfl, Up.refl _⟩
    case round =>
      obtain ⟨k, hk, rfl, hu⟩ := hrel
      by_cases hlt : k < l.length
      · have c1 : decide ((k : Int) < l.length) = true := by simp; omega
        obtain ⟨y, hy⟩ : ∃ y, l[k]? = some y := ⟨l[k], by simp [hlt]⟩
        have q1 := hu.cell (HG.out k y hy)
        obtain ⟨h, rfl, q2⟩ := HX.out k y hy
        have q2 := hu.cell q2
        clear hy
        go_wp2_with fail
        go_quiet (fail)
        go_wp2_with fail
        go_roundw
        case rel => exact ⟨k + 1, by omega, by simp, by first | exact hu.drewN _ | trivial⟩
        case measure => simp [intOf]; omega
      · obtain rfl : k = l.length := by omega
        have c1 : decide ((l.length : Int) < l.length) = false := by simp
        go_wp2_with fail
        go_ret
        exact ⟨rfl, hu⟩
end Go.Proofs.YtnaoadmffnbalaaDoor
