/-
  SMALL RUNS, DAY BY DAY (the plain law of RunsPlain).
-/
import Derived.Test.YtcdkeiolblifkaaDoorRunP
namespace Go.Proofs.YtcdkeiolblifkaaDoor
open Go.RowKit
set_option linter.unusedVariables false
set_option maxHeartbeats 2000000
/-- A run has a day. -/
def HasQ (a b c d day : Int) : Prop := (a = -1 ∨ b ≤ day) ∧ (c = 1 ∨ day ≤ d)
instance decHasQ (a b c d day : Int) : Decidable (HasQ a b c d day) := by unfold HasQ; infer_instance
/-- The law's small run. -/
def ofA (k : Int) : Int := if k % 8 = 0 ∨ k % 8 = 2 then -1 else 0
def ofB (k lo : Int) : Int := if k % 8 = 0 ∨ k % 8 = 2 then 0 else lo
def ofC (k : Int) : Int := if k % 8 = 1 ∨ k % 8 = 2 then 1 else 0
def ofD (k n lo : Int) : Int := if k % 8 = 1 ∨ k % 8 = 2 then 0 else lo + n % 16
/-- Small runs. -/
structure Sm (a b c d : Int) : Prop where
  l : a = -1 ∧ b = 0 ∨ a = 0 ∧ -39 ≤ b ∧ b ≤ 39
  h : c = 1 ∧ d = 0 ∨ c = 0 ∧ -39 ≤ d ∧ d ≤ 54
  o : a = 0 → c = 0 → b ≤ d
theorem of_sm (k n lo : Int) (h : -39 ≤ lo ∧ lo ≤ 39) : Sm (ofA k) (ofB k lo) (ofC k) (ofD k n lo) := by
  unfold ofA ofB ofC ofD
  constructor <;> (repeat' split) <;> omega
theorem Sm.ok {a b c d : Int} (h : Sm a b c d) : RnOk a b c d := by
  obtain ⟨h1, h2, h3⟩ := h
  unfold RnOk eOk key
  refine ⟨?_, ?_, ?_, ?_, ?_⟩ <;> omega
theorem Sm.i64 {a b c d : Int} (h : Sm a b c d) : I64 b ∧ I64 d := by
  obtain ⟨h1, h2, h3⟩ := h
  unfold I64
  omega
theorem Sm.has {a b c d day : Int} (h : Sm a b c d) (hy : I64 day) : Wi 0 day 0 day a b c d ↔ HasQ a b c d day := by
  obtain ⟨h1, h2, h3⟩ := h
  have hk := Sm.ok ⟨h1, h2, h3⟩
  unfold HasQ
  unfold I64 at hy
  unfold Wi
  unfold key
  constructor
  · rintro ⟨_, _, _, _⟩; omega
  · intro hc
    refine ⟨⟨Or.inl rfl, Or.inl rfl, Int.le_refl _, Int.le_refl _, Int.le_refl _⟩, hk, ?_, ?_⟩ <;> omega
theorem sm_meet {a b c d e f g h : Int} (h1 : Sm a b c d) (h2 : Sm e f g h) : Meet a b c d e f g h ↔ ∃ t, -60 ≤ t ∧ t < 61 ∧ HasQ a b c d t ∧ HasQ e f g h t := by
  have k1 := h1.ok
  have k2 := h2.ok
  obtain ⟨l1, l2, l3⟩ := h1
  obtain ⟨m1, m2, m3⟩ := h2
  unfold Meet HasQ key
  constructor
  · rintro ⟨_, _, x, y⟩
    by_cases p : (if a = -1 then -60 else b) ≤ (if e = -1 then -60 else f)
    · refine ⟨if e = -1 then -60 else f, ?_, ?_, ?_, ?_⟩ <;> (repeat' split at *) <;> omega
    · refine ⟨if a = -1 then -60 else b, ?_, ?_, ?_, ?_⟩ <;> (repeat' split at *) <;> omega
  · rintro ⟨t, t1, t2, t3, t4⟩
    exact ⟨k1, k2, by omega, by omega⟩
theorem sm_tch {a b c d e f g h : Int} (h1 : Sm a b c d) (h2 : Sm e f g h) : Tch a b c d e f g h ↔ (∃ t, -60 ≤ t ∧ t < 61 ∧ HasQ a b c d t ∧ HasQ e f g h t) ∨ ∃ t, -60 ≤ t ∧ t < 61 ∧ HasQ a b c d t ∧ (HasQ e f g h (t - 1) ∨ HasQ e f g h (t + 1)) := by
  have hm := sm_meet h1 h2
  have k1 := h1.ok
  have k2 := h2.ok
  rw [← hm]
  have hs1 := h1
  have hs2 := h2
  obtain ⟨l1, l2, l3⟩ := h1
  obtain ⟨m1, m2, m3⟩ := h2
  constructor
  · intro hT
    by_cases hM : Meet a b c d e f g h
    · exact Or.inl hM
    · right
      obtain ⟨_, _, x, y⟩ := hT
      have hn : ¬ (key e f ≤ key c d ∧ key a b ≤ key g h) := fun hc => hM ⟨k1, k2, hc⟩
      unfold key at hn x y
      unfold HasQ
      by_cases p : 36893488147419103232 * e + f ≤ 36893488147419103232 * c + d
      · refine ⟨b, ?_, ?_, ?_, Or.inl ?_⟩ <;> omega
      · refine ⟨d, ?_, ?_, ?_, Or.inr ?_⟩ <;> omega
  · rintro (hM | ⟨t, t1, t2, t3, t4⟩)
    · exact ⟨k1, k2, by have := hM.2.2.1; omega, by have := hM.2.2.2; omega⟩
    · unfold HasQ at t3 t4
      refine ⟨k1, k2, ?_, ?_⟩ <;> unfold key <;> omega
theorem sm_wi {a b c d e f g h : Int} (h1 : Sm a b c d) (h2 : Sm e f g h) : Wi a b c d e f g h ↔ ¬ ∃ t, -60 ≤ t ∧ t < 61 ∧ HasQ a b c d t ∧ ¬ HasQ e f g h t := by
  have k1 := h1.ok
  have k2 := h2.ok
  obtain ⟨l1, l2, l3⟩ := h1
  obtain ⟨m1, m2, m3⟩ := h2
  constructor
  · rintro ⟨_, _, x, y⟩ ⟨t, t1, t2, t3, t4⟩
    unfold key at x y
    unfold HasQ at t3 t4
    omega
  · intro hn
    by_cases p : key e f ≤ key a b
    · by_cases q : key c d ≤ key g h
      · exact ⟨k1, k2, p, q⟩
      · refine absurd ⟨if c = 1 then 60 else d, ?_⟩ hn
        unfold key at q
        unfold HasQ
        refine ⟨?_, ?_, ?_, ?_⟩ <;> split <;> omega
    · refine absurd ⟨if a = -1 then -60 else b, ?_⟩ hn
      unfold key at p
      unfold HasQ
      refine ⟨?_, ?_, ?_, ?_⟩ <;> split <;> omega
end Go.Proofs.YtcdkeiolblifkaaDoor
