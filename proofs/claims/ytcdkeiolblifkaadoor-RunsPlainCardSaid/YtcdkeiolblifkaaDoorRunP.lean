/-
  RUNS, IN PLAIN NUMBERS: an end is a number on one line ('key'), a run two of them.
-/
import Derived.Test.YtcdkeiolblifkaaDoorEndB
namespace Go.Proofs.YtcdkeiolblifkaaDoor
open Go.RowKit
/-- Where an end lies: the infinities beyond all days. -/
def key (i d : Int) : Int := 36893488147419103232 * i + d
theorem eC_key {i d j f : Int} (hd : I64 d) (hf : I64 f) : eC i d j f = c3 (key i d) (key j f) := by
  unfold I64 at *
  unfold eC c3 key
  repeat' split
  all_goals omega
theorem eC_le {i d j f : Int} (hd : I64 d) (hf : I64 f) : eC i d j f ≤ 0 ↔ key i d ≤ key j f := by
  rw [eC_key hd hf]; unfold c3; repeat' split
  all_goals omega
theorem eC_lt {i d j f : Int} (hd : I64 d) (hf : I64 f) : eC i d j f < 0 ↔ key i d < key j f := by
  rw [eC_key hd hf]; unfold c3; repeat' split
  all_goals omega
theorem eC_gt {i d j f : Int} (hd : I64 d) (hf : I64 f) : 0 < eC i d j f ↔ key j f < key i d := by
  rw [eC_key hd hf]; unfold c3; repeat' split
  all_goals omega
theorem key_inj {i d j f : Int} (hd : I64 d) (hf : I64 f) : key i d = key j f ↔ i = j ∧ d = f := by
  unfold I64 at *
  unfold key
  omega
/-- The error of a run. -/
def rnErr (a b c d : Int) : Int := if ¬ (eOk a b ∧ eOk c d) then 5 else if 0 < a ∨ c < 0 then 4 else if 0 < eC a b c d then 12 else 0
/-- A right run. -/
def RnOk (a b c d : Int) : Prop := eOk a b ∧ eOk c d ∧ a ≤ 0 ∧ 0 ≤ c ∧ key a b ≤ key c d
instance decRnOk (a b c d : Int) : Decidable (RnOk a b c d) := by unfold RnOk; infer_instance
theorem rnErr_ok {a b c d : Int} (hb : I64 b) (hd : I64 d) : rnErr a b c d = 0 ↔ RnOk a b c d := by
  have h := eC_gt (i := a) (j := c) hb hd
  unfold rnErr RnOk
  by_cases h1 : eOk a b ∧ eOk c d
  · rw [if_neg (by simpa using h1)]
    by_cases h2 : 0 < a ∨ c < 0
    · rw [if_pos h2]; constructor
      · intro h; cases h
      · rintro ⟨_, _, _, _, _⟩; omega
    · rw [if_neg h2]
      by_cases h3 : 0 < eC a b c d
      · rw [if_pos h3]; constructor
        · intro h; cases h
        · rintro ⟨_, _, _, _, _⟩; omega
      · rw [if_neg h3]; simp only [true_iff]; exact ⟨h1.1, h1.2, by omega, by omega, by omega⟩
  · rw [if_pos h1]; constructor
    · intro h; cases h
    · rintro ⟨h2, h3, _⟩; exact absurd ⟨h2, h3⟩ h1
/-- The lesser and the greater one of two ends. -/
def mnI (i d j f : Int) : Int := if eC j f i d < 0 then j else i
def mnD (i d j f : Int) : Int := if eC j f i d < 0 then f else d
def mxI (i d j f : Int) : Int := if 0 < eC j f i d then j else i
def mxD (i d j f : Int) : Int := if 0 < eC j f i d then f else d
theorem mn_i64 {i d j f : Int} (hd : I64 d) (hf : I64 f) : I64 (mnD i d j f) := by unfold mnD; split <;> assumption
theorem mx_i64 {i d j f : Int} (hd : I64 d) (hf : I64 f) : I64 (mxD i d j f) := by unfold mxD; split <;> assumption
theorem mn_key {i d j f : Int} (hd : I64 d) (hf : I64 f) : key (mnI i d j f) (mnD i d j f) = min (key i d) (key j f) := by
  have h := eC_lt (i := j) (j := i) hf hd
  unfold mnI mnD
  by_cases hc : eC j f i d < 0
  · rw [if_pos hc, if_pos hc]; omega
  · rw [if_neg hc, if_neg hc]; omega
theorem mx_key {i d j f : Int} (hd : I64 d) (hf : I64 f) : key (mxI i d j f) (mxD i d j f) = max (key i d) (key j f) := by
  have h := eC_gt (i := j) (j := i) hf hd
  unfold mxI mxD
  by_cases hc : 0 < eC j f i d
  · rw [if_pos hc, if_pos hc]; omega
  · rw [if_neg hc, if_neg hc]; omega
/-- a is within b; a and b touch; a and b meet. -/
def Wi (a b c d e f g h : Int) : Prop := RnOk a b c d ∧ RnOk e f g h ∧ key e f ≤ key a b ∧ key c d ≤ key g h
def Tch (a b c d e f g h : Int) : Prop := RnOk a b c d ∧ RnOk e f g h ∧ key e f ≤ key c d + 1 ∧ key a b ≤ key g h + 1
def Meet (a b c d e f g h : Int) : Prop := RnOk a b c d ∧ RnOk e f g h ∧ key e f ≤ key c d ∧ key a b ≤ key g h
instance decWi (a b c d e f g h : Int) : Decidable (Wi a b c d e f g h) := by unfold Wi; infer_instance
instance decTch (a b c d e f g h : Int) : Decidable (Tch a b c d e f g h) := by unfold Tch; infer_instance
instance decMeet (a b c d e f g h : Int) : Decidable (Meet a b c d e f g h) := by unfold Meet; infer_instance
theorem mn_ok {i d j f : Int} (h : eOk i d) (k : eOk j f) : eOk (mnI i d j f) (mnD i d j f) := by unfold mnI mnD; split <;> assumption
theorem mx_ok {i d j f : Int} (h : eOk i d) (k : eOk j f) : eOk (mxI i d j f) (mxD i d j f) := by unfold mxI mxD; split <;> assumption
/-- What both have in common is right exactly if they meet. -/
theorem common_ok {a b c d e f g h : Int} (hb : I64 b) (hd : I64 d) (hf : I64 f) (hh : I64 h) (h1 : RnOk a b c d) (h2 : RnOk e f g h) :
    RnOk (mxI a b e f) (mxD a b e f) (mnI c d g h) (mnD c d g h) ↔ Meet a b c d e f g h := by
  have k1 := mx_key (i := a) (j := e) hb hf
  have k2 := mn_key (i := c) (j := g) hd hh
  unfold Meet
  constructor
  · rintro ⟨_, _, _, _, hk⟩
    rw [k1, k2] at hk
    have := h1.2.2.2.2
    have := h2.2.2.2.2
    exact ⟨h1, h2, by omega, by omega⟩
  · rintro ⟨_, _, _, _⟩
    refine ⟨mx_ok h1.1 h2.1, mn_ok h1.2.1 h2.2.1, ?_, ?_, ?_⟩
    · have := h1.2.2.1; have := h2.2.2.1; unfold mxI; split <;> assumption
    · have := h1.2.2.2.1; have := h2.2.2.2.1; unfold mnI; split <;> assumption
    · rw [k1, k2]
      have := h1.2.2.2.2
      have := h2.2.2.2.2
      omega
end Go.Proofs.YtcdkeiolblifkaaDoor
