/-
  WALKS OF circa/seasons: Check, Months.
-/
import Derived.Test.YtnaoadmffnbalaaDoorMonths
namespace Go.Proofs.YtnaoadmffnbalaaDoor
open Go.RowKit

def spansL : List Int := [3, 3, 6, 3, 9, 3, 12, 3, 3, 3, 6, 3, 9, 3, 12, 3, 9, 3, 12, 3, 3, 3, 6, 3, 1, 3, 4, 3, 7, 3, 10, 3, 1, 4, 5, 4, 9, 4, 1, 6, 7, 6]
/-- The first month of a code, and how many there are. -/
def fromS (c : Int) : Int := spansL.getD (2 * (c - 21)).toNat 0
def manyS (c : Int) : Int := spansL.getD (2 * (c - 21) + 1).toNat 0
/-- What all three package variables hold. -/
structure EnvS (w : World) : Prop where
  mo : EnvM w
  sp : ∀ i : Nat, i < 42 → w.cell? ⟨0, i, none⟩ = some (.int .i64 (spansL.getD i 0))
theorem EnvS.up {w w' : World} (h : EnvS w) (hb : Up w w') : EnvS w' := ⟨h.mo.up hb, fun i hi => hb.cell (h.sp i hi)⟩
theorem EnvS.below {w w' : World} (h : EnvS w) (hb : Below w.heap.size w w') : EnvS w' := ⟨h.mo.below hb, fun i hi => cell_below hb (h.sp i hi)⟩
def IsC (c : Int) : Prop := 21 ≤ c ∧ c ≤ 41
instance (c : Int) : Decidable (IsC c) := by unfold IsC; infer_instance

theorem scheck_yes (c : Int) (w : World) (h : IsC c) :
    Calls Tryd.prog 50 #[.int .i64 c] w fun e w' => e = .returned (.int .i64 0) ∧ w = w' := by
  obtain ⟨h1, h2⟩ := h
  have c1 : decide (c < 21) = false := by simp; omega
  have c2 : decide (42 ≤ c) = false := by simp; omega
  go_enter Tryd.func50, Tryd.ntmps50
  go_wp2_with fail
  go_ret
  exact ⟨rfl, rfl⟩
theorem scheck_no (c : Int) (w : World) (h : ¬ IsC c) :
    Calls Tryd.prog 50 #[.int .i64 c] w fun e w' => e = .returned (.int .i64 7) ∧ w = w' := by
  unfold IsC at h
  by_cases h1 : c < 21
  · have c1 : decide (c < 21) = true := by simp; omega
    go_enter Tryd.func50, Tryd.ntmps50
    go_wp2_with fail
    go_ret
    exact ⟨rfl, rfl⟩
  · have c1 : decide (c < 21) = false := by simp; omega
    have c2 : decide (42 ≤ c) = true := by simp; omega
    go_enter Tryd.func50, Tryd.ntmps50
    go_wp2_with fail
    go_ret
    exact ⟨rfl, rfl⟩

theorem smonths_no (c : Int) (w : World) (h : ¬ IsC c) :
    Calls Tryd.prog 48 #[.int .i64 c] w fun e w' => e = .returned (.tuple #[.int .i64 0, .int .i64 0, .int .i64 7]) ∧ w = w' := by
  go_enter Tryd.func48, Tryd.ntmps48
  go_wp2_with fail
  refine (scheck_no _ _ h).mono ?_
  rintro e w1 ⟨rfl, rfl⟩
  go_wp2_with fail
  go_ret3
  exact ⟨rfl, rfl⟩
set_option maxHeartbeats 1000000 in
theorem smonths_yes (c : Int) (w : World) (h : IsC c) (hE : EnvS w) :
    Calls Tryd.prog 48 #[.int .i64 c] w fun e w' => e = .returned (.tuple #[.int .i64 (fromS c), .int .i64 (manyS c), .int .i64 0]) ∧ Up w w' := by
  have HC := h
  obtain ⟨k, hk⟩ : ∃ k : Nat, (k : Int) = c - 21 := ⟨(c - 21).toNat, by have := h.1; omega⟩
  obtain rfl : c = k + 21 := by omega
  have hk2 : k < 21 := by have := h.2; omega
  have c0 := hE.sp (k * 2) (by omega)
  have c1 := hE.sp (k * 2 + 1) (by omega)
  have e0 : fromS (k + 21) = spansL.getD (k * 2) 0 := by unfold fromS; congr 1; omega
  have e1 : manyS (k + 21) = spansL.getD (k * 2 + 1) 0 := by unfold manyS; congr 1; omega
  rw [← e0] at c0
  rw [← e1] at c1
  have E0 := Lib.hid e0
  have E1 := Lib.hid e1
  clear e0 e1 hk h
  generalize fromS (k + 21) = a at *
  generalize manyS (k + 21) = b at *
  go_enter Tryd.func48, Tryd.ntmps48
  go_wp2_with fail
  refine (scheck_yes _ _ HC).mono ?_
  rintro e w1 ⟨rfl, rfl⟩
  go_wp2_with fail
  go_quiet (fail)
  go_wp2_with fail
  go_ret3
  exact ⟨rfl, ((Up.refl _).alloc _).drewN _⟩

/-- A run of days, as a value. -/
def runV (a b : Int) : Value := .agg #[.int .i8 0, .int .i64 a, .int .i8 0, .int .i64 b]
theorem Up.frozen {w w' : World} {a : Addr} (hb : Up w w') (ha : a.block < w.heap.size) : w'.frozen? a = w.frozen? a := hb.below.frozen ha
/-- A run that lies in a variable of its own, at block n, in the world w'. -/
structure RunAt (n : Nat) (w' : World) : Prop where
  c0 : w'.cell? ⟨n, 0, none⟩ = some (.int .i8 0)
  c1 : w'.cell? ⟨n, 1, none⟩ = some (.int .i64 0)
  c2 : w'.cell? ⟨n, 2, none⟩ = some (.int .i8 0)
  c3 : w'.cell? ⟨n, 3, none⟩ = some (.int .i64 0)
  f : ∀ i, w'.frozen? ⟨n, i, none⟩ = false
  s : n < w'.heap.size
theorem RunAt.up {n : Nat} {w w' : World} (h : RunAt n w) (k : Up w w') : RunAt n w' :=
  ⟨k.cell h.c0, k.cell h.c1, k.cell h.c2, k.cell h.c3, fun i => (k.frozen (a := ⟨n, i, none⟩) h.s).trans (h.f i), Nat.lt_of_lt_of_le h.s k.size⟩
theorem RunAt.new (w : World) (t : TypeId) : RunAt w.heap.size (w.alloc (.cells #[.int .i8 0, .int .i64 0, .int .i8 0, .int .i64 0] t)) :=
  ⟨by simp, by simp, by simp, by simp, fun i => by simp [go_sem], by simp⟩
/-- The world behind a store of a whole run. -/
def setRun (w : World) (n : Nat) (a b c d : Value) : World := (((w.setCell ⟨n, 0, none⟩ a).setCell ⟨n, 1, none⟩ b).setCell ⟨n, 2, none⟩ c).setCell ⟨n, 3, none⟩ d
theorem setRun_cells {n : Nat} {w : World} (h : RunAt n w) (a b c d : Value) : (setRun w n a b c d).cell? ⟨n, 0, none⟩ = some a ∧ (setRun w n a b c d).cell? ⟨n, 1, none⟩ = some b ∧ (setRun w n a b c d).cell? ⟨n, 2, none⟩ = some c ∧ (setRun w n a b c d).cell? ⟨n, 3, none⟩ = some d := by
  obtain ⟨c0, c1, c2, c3, _, _⟩ := h
  have o : ∀ (w : World) (i j : Nat) (v : Value), i ≠ j → (w.setCell ⟨n, i, none⟩ v).cell? ⟨n, j, none⟩ = w.cell? ⟨n, j, none⟩ := fun w i j v hij => World.cell?_setCell_other _ _ _ _ (fun h => hij (congrArg Addr.off h))
  unfold setRun
  refine ⟨?_, ?_, ?_, ?_⟩
  · rw [o _ _ _ _ (by decide), o _ _ _ _ (by decide), o _ _ _ _ (by decide)]
    exact World.cell?_setCell_same _ _ _ c0
  · rw [o _ _ _ _ (by decide), o _ _ _ _ (by decide)]
    exact World.cell?_setCell_same _ _ _ (u := .int .i64 0) (by rw [o _ _ _ _ (by decide)]; exact c1)
  · rw [o _ _ _ _ (by decide)]
    exact World.cell?_setCell_same _ _ _ (u := .int .i8 0) (by rw [o _ _ _ _ (by decide), o _ _ _ _ (by decide)]; exact c2)
  · exact World.cell?_setCell_same _ _ _ (u := .int .i64 0) (by rw [o _ _ _ _ (by decide), o _ _ _ _ (by decide), o _ _ _ _ (by decide)]; exact c3)
theorem setRun_up {w0 w : World} {n : Nat} (h : Up w0 w) (hn : w0.heap.size ≤ n) (a b c d : Value) : Up w0 (setRun w n a b c d) :=
  (((h.setCell (p := ⟨n, 0, none⟩) hn a).setCell (p := ⟨n, 1, none⟩) hn b).setCell (p := ⟨n, 2, none⟩) hn c).setCell (p := ⟨n, 3, none⟩) hn d
theorem srun_no1 (y c : Int) (w : World) (h : ¬ IsC c) :
    Calls Tryd.prog 51 #[.int .i64 y, .int .i64 c] w fun e w' => e = .returned (.tuple #[runV 0 0, .int .i64 7]) ∧ Up w w' := by
  go_enter Tryd.func51, Tryd.ntmps51
  go_wp2_with fail
  refine (smonths_no _ _ h).mono ?_
  rintro e w1 ⟨rfl, rfl⟩
  go_wp2_with fail
  exact bodyPost_ret (v := .tuple #[runV 0 0, .int .i64 7]) (by simp [results, Tryd.results51, go_sem, runV]) rfl ⟨rfl, (Up.refl _).alloc _⟩

theorem code_bd (c : Int) (h : IsC c) : 1 ≤ fromS c ∧ fromS c ≤ 12 ∧ 3 ≤ manyS c ∧ manyS c ≤ 6 := by
  obtain ⟨h1, h2⟩ := h
  have : c = 21 ∨ c = 22 ∨ c = 23 ∨ c = 24 ∨ c = 25 ∨ c = 26 ∨ c = 27 ∨ c = 28 ∨ c = 29 ∨ c = 30 ∨ c = 31 ∨ c = 32 ∨ c = 33 ∨ c = 34 ∨ c = 35 ∨ c = 36 ∨ c = 37 ∨ c = 38 ∨ c = 39 ∨ c = 40 ∨ c = 41 := by omega
  rcases this with rfl | rfl | rfl | rfl | rfl | rfl | rfl | rfl | rfl | rfl | rfl | rfl | rfl | rfl | rfl | rfl | rfl | rfl | rfl | rfl | rfl <;> decide
/-- The number of the last month of a code's run. -/
def lastS (y c : Int) : Int := mi y (fromS c) + (manyS c - 1)
/-- Is there a run of this code in the year? -/
def IsSY (y c : Int) : Prop := IsY y ∧ IsY (lastS y c / 12)
instance (y c : Int) : Decidable (IsSY y c) := by unfold IsSY; infer_instance
def sLo (y c : Int) : Int := Cal.sm y (fromS c)
def sHi (y c : Int) : Int := Cal.sm (lastS y c / 12) (lastS y c % 12 + 1 + 1) - 1

set_option maxHeartbeats 1000000 in
theorem srun_no2 (y c : Int) (w : World) (h : IsC c) (hy : ¬ IsY y) (hE : EnvS w) :
    Calls Tryd.prog 51 #[.int .i64 y, .int .i64 c] w fun e w' => e = .returned (.tuple #[runV 0 0, .int .i64 6]) ∧ Up w w' := by
  have hr := RunAt.new w 68
  have u0 : Up w (w.alloc (.cells #[.int .i8 0, .int .i64 0, .int .i8 0, .int .i64 0] 68)) := (Up.refl _).alloc _
  go_enter Tryd.func51, Tryd.ntmps51
  go_wp2_with fail
  refine (smonths_yes _ _ h (hE.up u0)).mono ?_
  rintro e w1 ⟨rfl, q1⟩
  have r1 := hr.up q1
  have u1 := u0.trans q1
  clear q1 u0 hr
  go_wp2_with fail
  refine (mstart_no y (fromS c) 6 _ (Or.inl ⟨hy, rfl⟩)).mono ?_
  rintro e w2 ⟨rfl, rfl⟩
  have HR := r1
  obtain ⟨r0, r1, r2, r3, rf, rs⟩ := r1
  have f0 := rf 0
  have f1 := rf 1
  have f2 := rf 2
  have f3 := rf 3
  clear rf
  go_wp2_with fail
  obtain ⟨z0, z1, z2, z3⟩ := setRun_cells HR (.int .i8 0) (.int .i64 0) (.int .i8 0) (.int .i64 0)
  exact bodyPost_ret (w := setRun w1 w.heap.size (.int .i8 0) (.int .i64 0) (.int .i8 0) (.int .i64 0)) (v := .tuple #[runV 0 0, .int .i64 6]) (by simp [results, Tryd.results51, go_sem, runV, z0, z1, z2, z3]) rfl ⟨rfl, setRun_up u1 (Nat.le_refl _) _ _ _ _⟩
set_option maxHeartbeats 1000000 in
theorem srun_no3 (y c : Int) (w : World) (h : IsC c) (hy : IsY y) (hz : ¬ IsY (lastS y c / 12)) (hE : EnvS w) :
    Calls Tryd.prog 51 #[.int .i64 y, .int .i64 c] w fun e w' => e = .returned (.tuple #[runV 0 0, .int .i64 6]) ∧ Up w w' := by
  have hr := RunAt.new w 68
  have u0 : Up w (w.alloc (.cells #[.int .i8 0, .int .i64 0, .int .i8 0, .int .i64 0] 68)) := (Up.refl _).alloc _
  obtain ⟨b1, b2, b3, b4⟩ := code_bd c h
  have HM : IsM y (fromS c) := ⟨hy, b1, b2⟩
  go_enter Tryd.func51, Tryd.ntmps51
  go_wp2_with fail
  refine (smonths_yes _ _ h (hE.up u0)).mono ?_
  rintro e w1 ⟨rfl, q1⟩
  have r1 := hr.up q1
  have u1 := u0.trans q1
  clear q1 u0 hr
  go_wp2_with fail
  refine (mstart_yes _ _ _ HM (hE.up u1).mo).mono ?_
  rintro e w2 ⟨rfl, q2⟩
  have r2 := r1.up q2
  have u2 := u1.trans q2
  clear q2 u1 r1
  go_wp2_with fail
  refine (madd_far _ _ _ _ HM ⟨by omega, by omega⟩ hz (hE.up u2).mo).mono ?_
  rintro e w3 ⟨rfl, q3⟩
  have r1 := r2.up q3
  have u3 := u2.trans q3
  clear q3 u2 r2
  have HR := r1
  obtain ⟨r0, r1, r2, r3, rf, rs⟩ := r1
  have f0 := rf 0
  have f1 := rf 1
  have f2 := rf 2
  have f3 := rf 3
  clear rf
  go_wp2_with fail
  obtain ⟨z0, z1, z2, z3⟩ := setRun_cells HR (.int .i8 0) (.int .i64 0) (.int .i8 0) (.int .i64 0)
  exact bodyPost_ret (w := setRun w3 w.heap.size (.int .i8 0) (.int .i64 0) (.int .i8 0) (.int .i64 0)) (v := .tuple #[runV 0 0, .int .i64 6]) (by simp [results, Tryd.results51, go_sem, runV, z0, z1, z2, z3]) rfl ⟨rfl, setRun_up u3 (Nat.le_refl _) _ _ _ _⟩
set_option maxHeartbeats 1000000 in
theorem srun_yes (y c : Int) (w : World) (h : IsC c) (hs : IsSY y c) (hE : EnvS w) :
    Calls Tryd.prog 51 #[.int .i64 y, .int .i64 c] w fun e w' => e = .returned (.tuple #[runV (sLo y c) (sHi y c), .int .i64 0]) ∧ Up w w' := by
  have hr := RunAt.new w 68
  have u0 : Up w (w.alloc (.cells #[.int .i8 0, .int .i64 0, .int .i8 0, .int .i64 0] 68)) := (Up.refl _).alloc _
  obtain ⟨b1, b2, b3, b4⟩ := code_bd c h
  obtain ⟨hy, hz⟩ := hs
  have HM : IsM y (fromS c) := ⟨hy, b1, b2⟩
  have HL : IsM (lastS y c / 12) (lastS y c % 12 + 1) := ⟨hz, by omega, by omega⟩
  go_enter Tryd.func51, Tryd.ntmps51
  go_wp2_with fail
  refine (smonths_yes _ _ h (hE.up u0)).mono ?_
  rintro e w1 ⟨rfl, q1⟩
  have r1 := hr.up q1
  have u1 := u0.trans q1
  clear q1 u0 hr
  go_wp2_with fail
  refine (mstart_yes _ _ _ HM (hE.up u1).mo).mono ?_
  rintro e w2 ⟨rfl, q2⟩
  have r2 := r1.up q2
  have u2 := u1.trans q2
  clear q2 u1 r1
  go_wp2_with fail
  refine (madd_yes _ _ _ _ HM ⟨by omega, by omega⟩ hz (hE.up u2).mo).mono ?_
  rintro e w3 ⟨rfl, q3⟩
  have r1 := r2.up q3
  have u3 := u2.trans q3
  clear q3 u2 r2
  go_wp2_with fail
  refine (mend_yes _ _ _ HL (hE.up u3).mo).mono ?_
  rintro e w4 ⟨rfl, q4⟩
  have r2 := r1.up q4
  have u4 := u3.trans q4
  clear q4 u3 r1
  have r1 := r2
  clear r2
  have HR := r1
  obtain ⟨r0, r1, r2, r3, rf, rs⟩ := r1
  have f0 := rf 0
  have f1 := rf 1
  have f2 := rf 2
  have f3 := rf 3
  clear rf
  go_wp2_with fail
  obtain ⟨z0, z1, z2, z3⟩ := setRun_cells HR (.int .i8 0) (.int .i64 (sLo y c)) (.int .i8 0) (.int .i64 (sHi y c))
  exact bodyPost_ret (w := setRun w4 w.heap.size (.int .i8 0) (.int .i64 (sLo y c)) (.int .i8 0) (.int .i64 (sHi y c))) (v := .tuple #[runV (sLo y c) (sHi y c), .int .i64 0]) (by simp [results, Tryd.results51, go_sem, runV, z0, z1, z2, z3]) rfl ⟨rfl, setRun_up u4 (Nat.le_refl _) _ _ _ _⟩
end Go.Proofs.YtnaoadmffnbalaaDoor
