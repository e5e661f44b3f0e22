/-
  CONTRACTS OF ints.Add (its deferred closure changes the named results) AND ints.Sub.
-/
import Derived.Test.YtopbbcbpanfigaaGreatDoorIntsA
import Derived.Defers
namespace Go.Proofs.YtopbbcbpanfigaaGreatDoor
open Go.RowKit

/-- The sum as Go has it, and whether that is the sum. -/
theorem add_cmp (a b : Int) (ha : I64 a) (hb : I64 b) :
    (I64 (a + b) → wrap64 (a + b) = a + b ∧ decide (a < a + b) = decide (0 < b)) ∧ (¬ I64 (a + b) → decide (a < wrap64 (a + b)) = !decide (0 < b)) := by
  obtain ⟨a1, a2⟩ := ha
  obtain ⟨b1, b2⟩ := hb
  constructor
  · intro h
    exact ⟨IntWalk.wrap64_in _ h, by rw [decide_eq_decide]; omega⟩
  · intro h
    unfold I64 at h
    by_cases h0 : 0 < b
    · rw [decide_eq_true h0]
      simp only [Bool.not_true, decide_eq_false_iff_not]
      unfold wrap64; omega
    · rw [decide_eq_false h0]
      simp only [Bool.not_false, decide_eq_true_eq]
      unfold wrap64; omega

/-- The world at the door of ints.Add: both arguments and both results in variables of their own. -/
def addW (w : World) (a b n : Int) : World :=
  ((((w.alloc (.cells #[.int .i64 a] 2)).alloc (.cells #[.int .i64 b] 2)).alloc (.cells #[.int .i64 n] 2)).alloc (.cells #[.int .i64 0] 24))
theorem addW_up (w : World) (a b n : Int) : Up w (addW w a b n) := ((((Up.refl _).alloc _).alloc _).alloc _).alloc _
theorem addW_cells (w : World) (a b n : Int) : (addW w a b n).cell? ⟨w.heap.size, 0, none⟩ = some (.int .i64 a) ∧ (addW w a b n).cell? ⟨w.heap.size + 1, 0, none⟩ = some (.int .i64 b) ∧
    (addW w a b n).cell? ⟨w.heap.size + 1 + 1, 0, none⟩ = some (.int .i64 n) ∧ (addW w a b n).cell? ⟨w.heap.size + 1 + 1 + 1, 0, none⟩ = some (.int .i64 0) ∧
    (addW w a b n).frozen? ⟨w.heap.size + 1 + 1, 0, none⟩ = false ∧ (addW w a b n).frozen? ⟨w.heap.size + 1 + 1 + 1, 0, none⟩ = false := by
  refine ⟨?_, ?_, ?_, ?_, ?_, ?_⟩ <;> simp [addW, go_sem]
end Go.Proofs.YtopbbcbpanfigaaGreatDoor
