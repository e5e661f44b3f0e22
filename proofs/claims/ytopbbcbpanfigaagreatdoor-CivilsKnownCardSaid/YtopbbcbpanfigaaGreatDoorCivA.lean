/-
  WALKS OF circa/civils: Check, Day, Of, Weekday, Ordinal, FromOrdinal, Compare; of cmp.Compare, cmp.Or at three values. (Printed by wip/gen/civ1.py.)
-/
import Derived.Test.YtopbbcbpanfigaaGreatDoorIntsD
import Derived.Test.YtopbbcbpanfigaaGreatDoorMonths
import Derived.Test.YtopbbcbpanfigaaGreatDoorRefFour
namespace Go.Proofs.YtopbbcbpanfigaaGreatDoor
open Go.RowKit
set_option linter.unusedVariables false
set_option linter.unusedSimpArgs false
/-- What the package-level variables hold. -/
structure EnvC (w : World) : Prop where
  i : EnvI w
  m : EnvM w
  ml : ∃ n, w.cell? ⟨3, 0, none⟩ = some (.int .i64 n)
theorem EnvC.dn {w w' : World} (h : EnvC w) (k : Dn w w') : EnvC w' := by
  obtain ⟨n, hn⟩ := h.ml
  exact ⟨h.i.dn k, h.m.below k.below, n, k.cell hn⟩
/-- Why three numbers are no civil day; 0: they are one. -/
def cErr (y m d : Int) : Int := if ¬ IsY y then 6 else if ¬ (1 ≤ m ∧ m ≤ 12) then 7 else if ¬ (1 ≤ d ∧ d ≤ Cal.mlen y m) then 8 else 0
theorem cErr_ok {y m d : Int} (h : cErr y m d = 0) : IsM y m ∧ 1 ≤ d ∧ d ≤ Cal.mlen y m := by
  unfold cErr at h
  split at h
  · omega
  · split at h
    · omega
    · split at h
      · omega
      · rename_i h1 h2 h3
        exact ⟨⟨Decidable.not_not.1 h1, Decidable.not_not.1 h2⟩, Decidable.not_not.1 h3⟩
theorem cErr_of {y m d : Int} (h : IsM y m) (h1 : 1 ≤ d) (h2 : d ≤ Cal.mlen y m) : cErr y m d = 0 := by
  unfold cErr
  rw [if_neg (fun k => k h.1), if_neg (fun k => k h.2), if_neg (fun k => k ⟨h1, h2⟩)]
def cq (a b : Int) : Int := if a < b then -1 else if b < a then 1 else 0
theorem cq_lt {a b : Int} (h : a < b) : cq a b = -1 := by unfold cq; rw [if_pos h]
theorem cq_eq (a : Int) : cq a a = 0 := by unfold cq; rw [if_neg (by omega), if_neg (by omega)]
theorem cq_gt {a b : Int} (h : b < a) : cq a b = 1 := by unfold cq; rw [if_neg (by omega), if_pos h]
def oq (x y z : Int) : Int := if x ≠ 0 then x else if y ≠ 0 then y else z
theorem isnq64 (a : Int) (w : World) : Calls Tryz.prog 77 #[.int .i64 a] w fun e w' => e = .returned (.bool false) ∧ w = w' := by
  have h : (a != a) = false := by simp
  go_enter Tryz.func77, Tryz.ntmps77
  go_wp2_with fail
  go_ret
  exact ⟨rfl, rfl⟩
theorem isnqi (a : Int) (w : World) : Calls Tryz.prog 78 #[.int .i64 a] w fun e w' => e = .returned (.bool false) ∧ w = w' := by
  have h : (a != a) = false := by simp
  go_enter Tryz.func78, Tryz.ntmps78
  go_wp2_with fail
  go_ret
  exact ⟨rfl, rfl⟩
theorem cq64 (a b : Int) (w : World) : Calls Tryz.prog 60 #[.int .i64 a, .int .i64 b] w fun e w' => e = .returned (.int .i64 (cq a b)) ∧ w = w' := by
  rcases Int.lt_trichotomy a b with h | h | h
  · have d1 : decide (a < b) = true := by simpa using h
    have HC := Lib.hid (cq_lt h)
    go_enter Tryz.func60, Tryz.ntmps60
    go_wp2_with fail
    refine (isnq64 a _).mono ?_
    rintro e w1 ⟨rfl, rfl⟩
    go_wp2_with fail
    refine (isnq64 b _).mono ?_
    rintro e w2 ⟨rfl, rfl⟩
    go_wp2_with fail
    go_ret
    exact ⟨ret1_i HC.out.symm, rfl⟩
  · subst h
    have HC := Lib.hid (cq_eq a)
    have d1 : decide (a < a) = false := by simp
    go_enter Tryz.func60, Tryz.ntmps60
    go_wp2_with fail
    refine (isnq64 a _).mono ?_
    rintro e w1 ⟨rfl, rfl⟩
    go_wp2_with fail
    refine (isnq64 a _).mono ?_
    rintro e w2 ⟨rfl, rfl⟩
    go_wp2_with fail
    go_ret
    exact ⟨ret1_i HC.out.symm, rfl⟩
  · have d1 : decide (a < b) = false := by simp; omega
    have d2 : decide (b < a) = true := by simpa using h
    have HC := Lib.hid (cq_gt h)
    go_enter Tryz.func60, Tryz.ntmps60
    go_wp2_with fail
    refine (isnq64 a _).mono ?_
    rintro e w1 ⟨rfl, rfl⟩
    go_wp2_with fail
    refine (isnq64 b _).mono ?_
    rintro e w2 ⟨rfl, rfl⟩
    go_wp2_with fail
    go_ret
    exact ⟨ret1_i HC.out.symm, rfl⟩
theorem cqi (a b : Int) (w : World) : Calls Tryz.prog 61 #[.int .i64 a, .int .i64 b] w fun e w' => e = .returned (.int .i64 (cq a b)) ∧ w = w' := by
  rcases Int.lt_trichotomy a b with h | h | h
  · have d1 : decide (a < b) = true := by simpa using h
    have HC := Lib.hid (cq_lt h)
    go_enter Tryz.func61, Tryz.ntmps61
    go_wp2_with fail
    refine (isnqi a _).mono ?_
    rintro e w1 ⟨rfl, rfl⟩
    go_wp2_with fail
    refine (isnqi b _).mono ?_
    rintro e w2 ⟨rfl, rfl⟩
    go_wp2_with fail
    go_ret
    exact ⟨ret1_i HC.out.symm, rfl⟩
  · subst h
    have HC := Lib.hid (cq_eq a)
    have d1 : decide (a < a) = false := by simp
    go_enter Tryz.func61, Tryz.ntmps61
    go_wp2_with fail
    refine (isnqi a _).mono ?_
    rintro e w1 ⟨rfl, rfl⟩
    go_wp2_with fail
    refine (isnqi a _).mono ?_
    rintro e w2 ⟨rfl, rfl⟩
    go_wp2_with fail
    go_ret
    exact ⟨ret1_i HC.out.symm, rfl⟩
  · have d1 : decide (a < b) = false := by simp; omega
    have d2 : decide (b < a) = true := by simpa using h
    have HC := Lib.hid (cq_gt h)
    go_enter Tryz.func61, Tryz.ntmps61
    go_wp2_with fail
    refine (isnqi a _).mono ?_
    rintro e w1 ⟨rfl, rfl⟩
    go_wp2_with fail
    refine (isnqi b _).mono ?_
    rintro e w2 ⟨rfl, rfl⟩
    go_wp2_with fail
    go_ret
    exact ⟨ret1_i HC.out.symm, rfl⟩
set_option maxHeartbeats 1000000 in
theorem cqOr (B : Nat) (x y z : Int) (w : World) (h0 : w.cell? ⟨B, 0, none⟩ = some (.int .i64 x)) (h1 : w.cell? ⟨B, 1, none⟩ = some (.int .i64 y)) (h2 : w.cell? ⟨B, 2, none⟩ = some (.int .i64 z)) :
    Calls Tryz.prog 59 #[.slice (some ⟨B, 0, none⟩) 3 3] w fun e w' => e = .returned (.int .i64 (oq x y z)) ∧ w = w' := by
  by_cases hx : x = 0
  · subst hx
    by_cases hy : y = 0
    · subst hy
      by_cases hz : z = 0
      · subst hz
        have HC := Lib.hid (show oq 0 0 0 = 0 by decide)
        go_enter Tryz.func59, Tryz.ntmps59
        go_wp2_with fail
        refine wp_loop_rounds 4 ?_
        rw [rounds_succ]
        go_wp2_with fail
        rw [rounds_succ]
        go_wp2_with fail
        rw [rounds_succ]
        go_wp2_with fail
        rw [rounds_succ]
        go_wp2_with fail
        go_ret
        exact ⟨ret1_i HC.out.symm, rfl⟩
      · have d : (z != 0) = true := by simpa using hz
        have HC := Lib.hid (show oq 0 0 z = z by simp [oq])
        go_enter Tryz.func59, Tryz.ntmps59
        go_wp2_with fail
        refine wp_loop_rounds 4 ?_
        rw [rounds_succ]
        go_wp2_with fail
        rw [rounds_succ]
        go_wp2_with fail
        rw [rounds_succ]
        go_wp2_with fail
        go_ret
        exact ⟨ret1_i HC.out.symm, rfl⟩
    · have d : (y != 0) = true := by simpa using hy
      have HC := Lib.hid (show oq 0 y z = y by simp [oq, hy])
      go_enter Tryz.func59, Tryz.ntmps59
      go_wp2_with fail
      refine wp_loop_rounds 3 ?_
      rw [rounds_succ]
      go_wp2_with fail
      rw [rounds_succ]
      go_wp2_with fail
      go_ret
      exact ⟨ret1_i HC.out.symm, rfl⟩
  · have d : (x != 0) = true := by simpa using hx
    have HC := Lib.hid (show oq x y z = x by simp [oq, hx])
    go_enter Tryz.func59, Tryz.ntmps59
    go_wp2_with fail
    refine wp_loop_rounds 2 ?_
    rw [rounds_succ]
    go_wp2_with fail
    go_ret
    exact ⟨ret1_i HC.out.symm, rfl⟩
theorem kdVa_6 {W w1 w2 : World} {a0 a1 a2 a3 a4 a5 : Addr} {v0 v1 v2 v3 v4 v5 : Value} (k : Dn w1 w2) (h : Dn W w1 ∧ w1.cell? a0 = some v0 ∧ w1.cell? a1 = some v1 ∧ w1.cell? a2 = some v2 ∧ w1.cell? a3 = some v3 ∧ w1.cell? a4 = some v4 ∧ w1.cell? a5 = some v5) :
    Dn W w2 ∧ w2.cell? a0 = some v0 ∧ w2.cell? a1 = some v1 ∧ w2.cell? a2 = some v2 ∧ w2.cell? a3 = some v3 ∧ w2.cell? a4 = some v4 ∧ w2.cell? a5 = some v5 := by
  obtain ⟨h1, c0, c1, c2, c3, c4, c5⟩ := h
  exact ⟨h1.trans k, k.cell c0, k.cell c1, k.cell c2, k.cell c3, k.cell c4, k.cell c5⟩
set_option maxHeartbeats 2000000 in
set_option maxRecDepth 100000 in
theorem cvChk_y (y m d : Int) (h : ¬ IsY y) (w : World) (hE : EnvC w) :
    Calls Tryz.prog 13 #[.agg #[.int .i64 y, .int .i64 m, .int .i64 d]] w fun ro w' => ro = .returned (.int .i64 6) ∧ Dn w w' := by
  have H := Lib.hid h
  clear h
  go_enter Tryz.func13, Tryz.ntmps13
  go_wp2_with fail
  obtain ⟨W1, hW1⟩ : ∃ W1, W1 = w.alloc (.cells #[.int .i64 y, .int .i64 m, .int .i64 d] 23) := ⟨_, rfl⟩
  have uW1 : Dn w W1 := by rw [hW1]; exact (Dn.refl _).alloc _
  have c2 : W1.cell? ⟨w.heap.size, 0, none⟩ = some (.int .i64 y) := by rw [hW1]; simp [go_sem]
  have c3 : W1.cell? ⟨w.heap.size, 1, none⟩ = some (.int .i64 m) := by rw [hW1]; simp [go_sem]
  have c4 : W1.cell? ⟨w.heap.size, 2, none⟩ = some (.int .i64 d) := by rw [hW1]; simp [go_sem]
  have l5 : w.heap.size < W1.heap.size := by rw [hW1]; simp <;> omega
  rw [← hW1]
  clear hW1
  refine (mlen_no y m 6 _ (Or.inl ⟨H.out, rfl⟩)).mono ?_
  rintro e w1 ⟨rfl, rfl⟩
  go_wp2_with fail
  go_ret
  exact ⟨rfl, uW1⟩
set_option maxHeartbeats 2000000 in
set_option maxRecDepth 100000 in
theorem cvChk_m (y m d : Int) (h : IsY y) (h2 : ¬ (1 ≤ m ∧ m ≤ 12)) (w : World) (hE : EnvC w) :
    Calls Tryz.prog 13 #[.agg #[.int .i64 y, .int .i64 m, .int .i64 d]] w fun ro w' => ro = .returned (.int .i64 7) ∧ Dn w w' := by
  have H := Lib.hid h
  have H2 := Lib.hid h2
  clear h h2
  go_enter Tryz.func13, Tryz.ntmps13
  go_wp2_with fail
  obtain ⟨W1, hW1⟩ : ∃ W1, W1 = w.alloc (.cells #[.int .i64 y, .int .i64 m, .int .i64 d] 23) := ⟨_, rfl⟩
  have uW1 : Dn w W1 := by rw [hW1]; exact (Dn.refl _).alloc _
  have c2 : W1.cell? ⟨w.heap.size, 0, none⟩ = some (.int .i64 y) := by rw [hW1]; simp [go_sem]
  have c3 : W1.cell? ⟨w.heap.size, 1, none⟩ = some (.int .i64 m) := by rw [hW1]; simp [go_sem]
  have c4 : W1.cell? ⟨w.heap.size, 2, none⟩ = some (.int .i64 d) := by rw [hW1]; simp [go_sem]
  have l5 : w.heap.size < W1.heap.size := by rw [hW1]; simp <;> omega
  rw [← hW1]
  clear hW1
  refine (mlen_no y m 7 _ (Or.inr ⟨H.out, H2.out, rfl⟩)).mono ?_
  rintro e w1 ⟨rfl, rfl⟩
  go_wp2_with fail
  go_ret
  exact ⟨rfl, uW1⟩
set_option maxHeartbeats 2000000 in
set_option maxRecDepth 100000 in
theorem cvChk_d1 (y m d : Int) (h : IsM y m) (h2 : d < 1) (w : World) (hE : EnvC w) :
    Calls Tryz.prog 13 #[.agg #[.int .i64 y, .int .i64 m, .int .i64 d]] w fun ro w' => ro = .returned (.int .i64 8) ∧ Dn w w' := by
  have H := Lib.hid h
  have c1 : decide (d < 1) = true := by simpa using h2
  clear h h2
  go_enter Tryz.func13, Tryz.ntmps13
  go_wp2_with fail
  obtain ⟨W1, hW1⟩ : ∃ W1, W1 = w.alloc (.cells #[.int .i64 y, .int .i64 m, .int .i64 d] 23) := ⟨_, rfl⟩
  have uW1 : Dn w W1 := by rw [hW1]; exact (Dn.refl _).alloc _
  have c2 : W1.cell? ⟨w.heap.size, 0, none⟩ = some (.int .i64 y) := by rw [hW1]; simp [go_sem]
  have c3 : W1.cell? ⟨w.heap.size, 1, none⟩ = some (.int .i64 m) := by rw [hW1]; simp [go_sem]
  have c4 : W1.cell? ⟨w.heap.size, 2, none⟩ = some (.int .i64 d) := by rw [hW1]; simp [go_sem]
  have l5 : w.heap.size < W1.heap.size := by rw [hW1]; simp <;> omega
  rw [← hW1]
  clear hW1
  refine (mlen_yes y m _ H.out (hE.dn uW1).m).mono ?_
  rintro e w1 ⟨rfl, qw1⟩
  replace qw1 := qw1.dn
  have l6 := Nat.lt_of_lt_of_le l5 qw1.size
  have c7 := qw1.cell c2
  have c8 := qw1.cell c3
  have c9 := qw1.cell c4
  clear l5 c2 c3 c4
  have uw1 := uW1.trans qw1
  clear qw1 uW1
  go_wp2_with fail
  go_ret
  exact ⟨rfl, uw1⟩
set_option maxHeartbeats 2000000 in
set_option maxRecDepth 100000 in
theorem cvChk_d2 (y m d : Int) (h : IsM y m) (h2 : ¬ d < 1) (h3 : Cal.mlen y m < d) (w : World) (hE : EnvC w) :
    Calls Tryz.prog 13 #[.agg #[.int .i64 y, .int .i64 m, .int .i64 d]] w fun ro w' => ro = .returned (.int .i64 8) ∧ Dn w w' := by
  have H := Lib.hid h
  have c1 : decide (d < 1) = false := by simpa using h2
  have c2 : decide (Cal.mlen y m < d) = true := by simpa using h3
  clear h h2 h3
  go_enter Tryz.func13, Tryz.ntmps13
  go_wp2_with fail
  obtain ⟨W1, hW1⟩ : ∃ W1, W1 = w.alloc (.cells #[.int .i64 y, .int .i64 m, .int .i64 d] 23) := ⟨_, rfl⟩
  have uW1 : Dn w W1 := by rw [hW1]; exact (Dn.refl _).alloc _
  have c2 : W1.cell? ⟨w.heap.size, 0, none⟩ = some (.int .i64 y) := by rw [hW1]; simp [go_sem]
  have c3 : W1.cell? ⟨w.heap.size, 1, none⟩ = some (.int .i64 m) := by rw [hW1]; simp [go_sem]
  have c4 : W1.cell? ⟨w.heap.size, 2, none⟩ = some (.int .i64 d) := by rw [hW1]; simp [go_sem]
  have l5 : w.heap.size < W1.heap.size := by rw [hW1]; simp <;> omega
  rw [← hW1]
  clear hW1
  refine (mlen_yes y m _ H.out (hE.dn uW1).m).mono ?_
  rintro e w1 ⟨rfl, qw1⟩
  replace qw1 := qw1.dn
  have l6 := Nat.lt_of_lt_of_le l5 qw1.size
  have c7 := qw1.cell c2
  have c8 := qw1.cell c3
  have c9 := qw1.cell c4
  clear l5 c2 c3 c4
  have uw1 := uW1.trans qw1
  clear qw1 uW1
  go_wp2_with fail
  go_ret
  exact ⟨rfl, uw1⟩
set_option maxHeartbeats 2000000 in
set_option maxRecDepth 100000 in
theorem cvChk_ok (y m d : Int) (h : IsM y m) (h2 : ¬ d < 1) (h3 : ¬ Cal.mlen y m < d) (w : World) (hE : EnvC w) :
    Calls Tryz.prog 13 #[.agg #[.int .i64 y, .int .i64 m, .int .i64 d]] w fun ro w' => ro = .returned (.int .i64 0) ∧ Dn w w' := by
  have H := Lib.hid h
  have c1 : decide (d < 1) = false := by simpa using h2
  have c2 : decide (Cal.mlen y m < d) = false := by simpa using h3
  clear h h2 h3
  go_enter Tryz.func13, Tryz.ntmps13
  go_wp2_with fail
  obtain ⟨W1, hW1⟩ : ∃ W1, W1 = w.alloc (.cells #[.int .i64 y, .int .i64 m, .int .i64 d] 23) := ⟨_, rfl⟩
  have uW1 : Dn w W1 := by rw [hW1]; exact (Dn.refl _).alloc _
  have c2 : W1.cell? ⟨w.heap.size, 0, none⟩ = some (.int .i64 y) := by rw [hW1]; simp [go_sem]
  have c3 : W1.cell? ⟨w.heap.size, 1, none⟩ = some (.int .i64 m) := by rw [hW1]; simp [go_sem]
  have c4 : W1.cell? ⟨w.heap.size, 2, none⟩ = some (.int .i64 d) := by rw [hW1]; simp [go_sem]
  have l5 : w.heap.size < W1.heap.size := by rw [hW1]; simp <;> omega
  rw [← hW1]
  clear hW1
  refine (mlen_yes y m _ H.out (hE.dn uW1).m).mono ?_
  rintro e w1 ⟨rfl, qw1⟩
  replace qw1 := qw1.dn
  have l6 := Nat.lt_of_lt_of_le l5 qw1.size
  have c7 := qw1.cell c2
  have c8 := qw1.cell c3
  have c9 := qw1.cell c4
  clear l5 c2 c3 c4
  have uw1 := uW1.trans qw1
  clear qw1 uW1
  go_wp2_with fail
  go_ret
  exact ⟨rfl, uw1⟩
theorem cvChk (y m d e : Int) (w : World) (hE : EnvC w) (he : cErr y m d = e) :
    Calls Tryz.prog 13 #[.agg #[.int .i64 y, .int .i64 m, .int .i64 d]] w fun ro w' => ro = .returned (.int .i64 e) ∧ Dn w w' := by
  subst he
  unfold cErr
  by_cases h1 : IsY y
  · rw [if_neg (fun h => h h1)]
    by_cases h2 : 1 ≤ m ∧ m ≤ 12
    · rw [if_neg (fun h => h h2)]
      by_cases h3 : d < 1
      · rw [if_pos (by omega)]; exact cvChk_d1 y m d ⟨h1, h2⟩ h3 w hE
      · by_cases h4 : Cal.mlen y m < d
        · rw [if_pos (by omega)]; exact cvChk_d2 y m d ⟨h1, h2⟩ h3 h4 w hE
        · rw [if_neg (by omega)]; exact cvChk_ok y m d ⟨h1, h2⟩ h3 h4 w hE
    · rw [if_pos h2]; exact cvChk_m y m d h1 h2 w hE
  · rw [if_pos h1]; exact cvChk_y y m d h1 w hE
set_option maxHeartbeats 2000000 in
set_option maxRecDepth 100000 in
theorem cvDay_bad (y m d e : Int) (he : cErr y m d = e) (h0 : e ≠ 0) (w : World) (hE : EnvC w) :
    Calls Tryz.prog 11 #[.agg #[.int .i64 y, .int .i64 m, .int .i64 d]] w fun ro w' => ro = .returned (.tuple #[.int .i64 0, .int .i64 e]) ∧ Dn w w' := by
  have H := Lib.hid he
  have t : (e != 0) = true := by simpa using h0
  clear he h0
  go_enter Tryz.func11, Tryz.ntmps11
  go_wp2_with fail
  obtain ⟨W1, hW1⟩ : ∃ W1, W1 = w.alloc (.cells #[.int .i64 y, .int .i64 m, .int .i64 d] 23) := ⟨_, rfl⟩
  have uW1 : Dn w W1 := by rw [hW1]; exact (Dn.refl _).alloc _
  have c2 : W1.cell? ⟨w.heap.size, 0, none⟩ = some (.int .i64 y) := by rw [hW1]; simp [go_sem]
  have c3 : W1.cell? ⟨w.heap.size, 1, none⟩ = some (.int .i64 m) := by rw [hW1]; simp [go_sem]
  have c4 : W1.cell? ⟨w.heap.size, 2, none⟩ = some (.int .i64 d) := by rw [hW1]; simp [go_sem]
  have l5 : w.heap.size < W1.heap.size := by rw [hW1]; simp <;> omega
  rw [← hW1]
  clear hW1
  refine (cvChk y m d e _ (hE.dn uW1) H.out).mono ?_
  rintro e w1 ⟨rfl, qw1⟩
  have l6 := Nat.lt_of_lt_of_le l5 qw1.size
  have c7 := qw1.cell c2
  have c8 := qw1.cell c3
  have c9 := qw1.cell c4
  clear l5 c2 c3 c4
  have uw1 := uW1.trans qw1
  clear qw1 uW1
  go_wp2_with fail
  go_ret2
  exact ⟨rfl, uw1⟩
set_option maxHeartbeats 2000000 in
set_option maxRecDepth 100000 in
theorem cvDay_ok (y m d : Int) (he : cErr y m d = 0) (w : World) (hE : EnvC w) :
    Calls Tryz.prog 11 #[.agg #[.int .i64 y, .int .i64 m, .int .i64 d]] w fun ro w' => ro = .returned (.tuple #[.int .i64 (Cal.sm y m + d - 1), .int .i64 0]) ∧ Dn w w' := by
  obtain ⟨hm, d1, d2⟩ := cErr_ok he
  have hb := sm_bd y m hm
  have hl := Cal.mlen_bd y m
  have H := Lib.hid he
  have HM := Lib.hid hm
  clear he hm
  go_enter Tryz.func11, Tryz.ntmps11
  go_wp2_with fail
  obtain ⟨W1, hW1⟩ : ∃ W1, W1 = w.alloc (.cells #[.int .i64 y, .int .i64 m, .int .i64 d] 23) := ⟨_, rfl⟩
  have uW1 : Dn w W1 := by rw [hW1]; exact (Dn.refl _).alloc _
  have c2 : W1.cell? ⟨w.heap.size, 0, none⟩ = some (.int .i64 y) := by rw [hW1]; simp [go_sem]
  have c3 : W1.cell? ⟨w.heap.size, 1, none⟩ = some (.int .i64 m) := by rw [hW1]; simp [go_sem]
  have c4 : W1.cell? ⟨w.heap.size, 2, none⟩ = some (.int .i64 d) := by rw [hW1]; simp [go_sem]
  have l5 : w.heap.size < W1.heap.size := by rw [hW1]; simp <;> omega
  rw [← hW1]
  clear hW1
  refine (cvChk y m d 0 _ (hE.dn uW1) H.out).mono ?_
  rintro e w1 ⟨rfl, qw1⟩
  have l6 := Nat.lt_of_lt_of_le l5 qw1.size
  have c7 := qw1.cell c2
  have c8 := qw1.cell c3
  have c9 := qw1.cell c4
  clear l5 c2 c3 c4
  have uw1 := uW1.trans qw1
  clear qw1 uW1
  go_wp2_with fail
  refine (mstart_yes y m _ HM.out (hE.dn uw1).m).mono ?_
  rintro e w2 ⟨rfl, qw2⟩
  replace qw2 := qw2.dn
  have l10 := Nat.lt_of_lt_of_le l6 qw2.size
  have c11 := qw2.cell c7
  have c12 := qw2.cell c8
  have c13 := qw2.cell c9
  clear l6 c7 c8 c9
  have uw2 := uw1.trans qw2
  clear qw2 uw1
  go_wp2_with fail
  go_ret2
  exact ⟨rfl, uw2⟩
set_option maxHeartbeats 2000000 in
set_option maxRecDepth 100000 in
theorem cvOf_no (d : Int) (hd : I64 d) (h : ¬ IsY (Cal.yr d)) (w : World) (hE : EnvC w) :
    Calls Tryz.prog 16 #[.int .i64 d] w fun ro w' => ro = .returned (.tuple #[.agg #[.int .i64 0, .int .i64 0, .int .i64 0], .int .i64 6]) ∧ Dn w w' := by
  have HD := Lib.hid hd
  have HY := Lib.hid h
  clear hd h
  go_enter Tryz.func16, Tryz.ntmps16
  go_wp2_with fail
  obtain ⟨W1, hW1⟩ : ∃ W1, W1 = w.alloc (.cells #[.int .i64 0, .int .i64 0, .int .i64 0] 23) := ⟨_, rfl⟩
  have uW1 : Dn w W1 := by rw [hW1]; exact (Dn.refl _).alloc _
  have c2 : W1.cell? ⟨w.heap.size, 0, none⟩ = some (.int .i64 0) := by rw [hW1]; simp [go_sem]
  have c3 : W1.cell? ⟨w.heap.size, 1, none⟩ = some (.int .i64 0) := by rw [hW1]; simp [go_sem]
  have c4 : W1.cell? ⟨w.heap.size, 2, none⟩ = some (.int .i64 0) := by rw [hW1]; simp [go_sem]
  have l5 : w.heap.size < W1.heap.size := by rw [hW1]; simp <;> omega
  have f6 : W1.frozen? ⟨w.heap.size, 0, none⟩ = false := by rw [hW1]; simp [go_sem]
  have f7 : W1.frozen? ⟨w.heap.size, 1, none⟩ = false := by rw [hW1]; simp [go_sem]
  have f8 : W1.frozen? ⟨w.heap.size, 2, none⟩ = false := by rw [hW1]; simp [go_sem]
  rw [← hW1]
  clear hW1
  refine (mof_no d _ HD.out HY.out (hE.dn uW1).m).mono ?_
  rintro e w1 ⟨rfl, qw1⟩
  replace qw1 := qw1.dn
  have f9 := (qw1.frozen (a := ⟨w.heap.size, 0, none⟩) l5).trans f6
  have f10 := (qw1.frozen (a := ⟨w.heap.size, 1, none⟩) l5).trans f7
  have f11 := (qw1.frozen (a := ⟨w.heap.size, 2, none⟩) l5).trans f8
  have l12 := Nat.lt_of_lt_of_le l5 qw1.size
  have c13 := qw1.cell c2
  have c14 := qw1.cell c3
  have c15 := qw1.cell c4
  clear f6 f7 f8 l5 c2 c3 c4
  have uw1 := uW1.trans qw1
  clear qw1 uW1
  go_wp2_with fail
  exact bodyPost_ret (v := .tuple #[.agg #[.int .i64 0, .int .i64 0, .int .i64 0], .int .i64 6]) (by simp [results, Tryz.results16, go_sem, c13, c14, c15, f9, f10, f11] <;> omega) rfl ⟨rfl, (((uw1.setCell (by simp <;> omega) _).setCell (by simp <;> omega) _).setCell (by simp <;> omega) _)⟩
set_option maxHeartbeats 2000000 in
set_option maxRecDepth 100000 in
theorem cvOf_yes (d : Int) (hd : I64 d) (h : IsY (Cal.yr d)) (w : World) (hE : EnvC w) :
    Calls Tryz.prog 16 #[.int .i64 d] w fun ro w' => ro = .returned (.tuple #[.agg #[.int .i64 (Cal.yr d), .int .i64 (mo d), .int .i64 (d - Cal.sm (Cal.yr d) (mo d) + 1)], .int .i64 0]) ∧ Dn w w' := by
  obtain ⟨m1, m2, m3, m4⟩ := mo_spec d
  have hM : IsM (Cal.yr d) (mo d) := ⟨h, m1, m2⟩
  have hb := sm_bd _ _ hM
  rw [sm_succ _ _ m1 m2] at m4
  have hl := Cal.mlen_bd (Cal.yr d) (mo d)
  have HD := Lib.hid hd
  have HY := Lib.hid h
  have HM := Lib.hid hM
  clear hd h hM
  go_enter Tryz.func16, Tryz.ntmps16
  go_wp2_with fail
  obtain ⟨W1, hW1⟩ : ∃ W1, W1 = w.alloc (.cells #[.int .i64 0, .int .i64 0, .int .i64 0] 23) := ⟨_, rfl⟩
  have uW1 : Dn w W1 := by rw [hW1]; exact (Dn.refl _).alloc _
  have c2 : W1.cell? ⟨w.heap.size, 0, none⟩ = some (.int .i64 0) := by rw [hW1]; simp [go_sem]
  have c3 : W1.cell? ⟨w.heap.size, 1, none⟩ = some (.int .i64 0) := by rw [hW1]; simp [go_sem]
  have c4 : W1.cell? ⟨w.heap.size, 2, none⟩ = some (.int .i64 0) := by rw [hW1]; simp [go_sem]
  have l5 : w.heap.size < W1.heap.size := by rw [hW1]; simp <;> omega
  have f6 : W1.frozen? ⟨w.heap.size, 0, none⟩ = false := by rw [hW1]; simp [go_sem]
  have f7 : W1.frozen? ⟨w.heap.size, 1, none⟩ = false := by rw [hW1]; simp [go_sem]
  have f8 : W1.frozen? ⟨w.heap.size, 2, none⟩ = false := by rw [hW1]; simp [go_sem]
  rw [← hW1]
  clear hW1
  refine (mof_yes d _ HD.out HY.out (hE.dn uW1).m).mono ?_
  rintro e w1 ⟨rfl, qw1⟩
  replace qw1 := qw1.dn
  have f9 := (qw1.frozen (a := ⟨w.heap.size, 0, none⟩) l5).trans f6
  have f10 := (qw1.frozen (a := ⟨w.heap.size, 1, none⟩) l5).trans f7
  have f11 := (qw1.frozen (a := ⟨w.heap.size, 2, none⟩) l5).trans f8
  have l12 := Nat.lt_of_lt_of_le l5 qw1.size
  have c13 := qw1.cell c2
  have c14 := qw1.cell c3
  have c15 := qw1.cell c4
  clear f6 f7 f8 l5 c2 c3 c4
  have uw1 := uW1.trans qw1
  clear qw1 uW1
  go_wp2_with fail
  refine (mstart_yes (Cal.yr d) (mo d) _ HM.out (hE.dn uw1).m).mono ?_
  rintro e w2 ⟨rfl, qw2⟩
  replace qw2 := qw2.dn
  have f16 := (qw2.frozen (a := ⟨w.heap.size, 0, none⟩) l12).trans f9
  have f17 := (qw2.frozen (a := ⟨w.heap.size, 1, none⟩) l12).trans f10
  have f18 := (qw2.frozen (a := ⟨w.heap.size, 2, none⟩) l12).trans f11
  have l19 := Nat.lt_of_lt_of_le l12 qw2.size
  have c20 := qw2.cell c13
  have c21 := qw2.cell c14
  have c22 := qw2.cell c15
  clear f9 f10 f11 l12 c13 c14 c15
  have uw2 := uw1.trans qw2
  clear qw2 uw1
  go_wp2_with fail
  exact bodyPost_ret (v := .tuple #[.agg #[.int .i64 (Cal.yr d), .int .i64 (mo d), .int .i64 (d - Cal.sm (Cal.yr d) (mo d) + 1)], .int .i64 0]) (by simp [results, Tryz.results16, go_sem, c20, c21, c22, f16, f17, f18] <;> omega) rfl ⟨rfl, (((uw2.setCell (by simp <;> omega) _).setCell (by simp <;> omega) _).setCell (by simp <;> omega) _)⟩
set_option maxHeartbeats 2000000 in
set_option maxRecDepth 100000 in
theorem cvWd (d : Int) (hd : I64 d) (w : World) :
    Calls Tryz.prog 28 #[.int .i64 d] w fun ro w' => ro = .returned (.int .i64 ((d % 7 + 5) % 7)) ∧ Dn w w' := by
  have HD := Lib.hid hd
  clear hd
  have h1 : 0 ≤ d % 7 ∧ d % 7 < 7 := by omega
  go_enter Tryz.func28, Tryz.ntmps28
  go_wp2_with fail
  refine (mod_pos d 7 _ HD.out (by decide) (by decide)).mono ?_
  rintro e w1 ⟨rfl, rfl⟩
  go_wp2_with fail
  go_ret
  exact ⟨rfl, Dn.refl _⟩
set_option maxHeartbeats 2000000 in
set_option maxRecDepth 100000 in
theorem cvOrd_bad (y m d e : Int) (he : cErr y m d = e) (h0 : e ≠ 0) (w : World) (hE : EnvC w) :
    Calls Tryz.prog 12 #[.agg #[.int .i64 y, .int .i64 m, .int .i64 d]] w fun ro w' => ro = .returned (.tuple #[.int .i64 0, .int .i64 e]) ∧ Dn w w' := by
  have H := Lib.hid he
  have H0 := Lib.hid h0
  have t : (e != 0) = true := by simpa using h0
  clear he h0
  go_enter Tryz.func12, Tryz.ntmps12
  go_wp2_with fail
  obtain ⟨W1, hW1⟩ : ∃ W1, W1 = w.alloc (.cells #[.int .i64 y, .int .i64 m, .int .i64 d] 23) := ⟨_, rfl⟩
  have uW1 : Dn w W1 := by rw [hW1]; exact (Dn.refl _).alloc _
  have c2 : W1.cell? ⟨w.heap.size, 0, none⟩ = some (.int .i64 y) := by rw [hW1]; simp [go_sem]
  have c3 : W1.cell? ⟨w.heap.size, 1, none⟩ = some (.int .i64 m) := by rw [hW1]; simp [go_sem]
  have c4 : W1.cell? ⟨w.heap.size, 2, none⟩ = some (.int .i64 d) := by rw [hW1]; simp [go_sem]
  have l5 : w.heap.size < W1.heap.size := by rw [hW1]; simp <;> omega
  rw [← hW1]
  clear hW1
  refine (cvDay_bad y m d e H.out H0.out _ (hE.dn uW1)).mono ?_
  rintro e w1 ⟨rfl, qw1⟩
  have l6 := Nat.lt_of_lt_of_le l5 qw1.size
  have c7 := qw1.cell c2
  have c8 := qw1.cell c3
  have c9 := qw1.cell c4
  clear l5 c2 c3 c4
  have uw1 := uW1.trans qw1
  clear qw1 uW1
  go_wp2_with fail
  go_ret2
  exact ⟨rfl, uw1⟩
set_option maxHeartbeats 2000000 in
set_option maxRecDepth 100000 in
theorem cvOrd_ok (y m d : Int) (he : cErr y m d = 0) (w : World) (hE : EnvC w) :
    Calls Tryz.prog 12 #[.agg #[.int .i64 y, .int .i64 m, .int .i64 d]] w fun ro w' => ro = .returned (.tuple #[.int .i64 (Cal.sm y m + d - 1 - Cal.sy y + 1), .int .i64 0]) ∧ Dn w w' := by
  obtain ⟨hm, d1, d2⟩ := cErr_ok he
  have hb := sm_bd y m hm
  have hs := sy_bdY y hm.1
  have hl := Cal.mlen_bd y m
  have H := Lib.hid he
  have HM := Lib.hid hm
  clear he hm
  go_enter Tryz.func12, Tryz.ntmps12
  go_wp2_with fail
  obtain ⟨W1, hW1⟩ : ∃ W1, W1 = w.alloc (.cells #[.int .i64 y, .int .i64 m, .int .i64 d] 23) := ⟨_, rfl⟩
  have uW1 : Dn w W1 := by rw [hW1]; exact (Dn.refl _).alloc _
  have c2 : W1.cell? ⟨w.heap.size, 0, none⟩ = some (.int .i64 y) := by rw [hW1]; simp [go_sem]
  have c3 : W1.cell? ⟨w.heap.size, 1, none⟩ = some (.int .i64 m) := by rw [hW1]; simp [go_sem]
  have c4 : W1.cell? ⟨w.heap.size, 2, none⟩ = some (.int .i64 d) := by rw [hW1]; simp [go_sem]
  have l5 : w.heap.size < W1.heap.size := by rw [hW1]; simp <;> omega
  rw [← hW1]
  clear hW1
  refine (cvDay_ok y m d H.out _ (hE.dn uW1)).mono ?_
  rintro e w1 ⟨rfl, qw1⟩
  have l6 := Nat.lt_of_lt_of_le l5 qw1.size
  have c7 := qw1.cell c2
  have c8 := qw1.cell c3
  have c9 := qw1.cell c4
  clear l5 c2 c3 c4
  have uw1 := uW1.trans qw1
  clear qw1 uW1
  go_wp2_with fail
  refine (ystart_yes y _ HM.out.1 (hE.dn uw1).m.st).mono ?_
  rintro e w2 ⟨rfl, qw2⟩
  replace qw2 := qw2.dn
  have l10 := Nat.lt_of_lt_of_le l6 qw2.size
  have c11 := qw2.cell c7
  have c12 := qw2.cell c8
  have c13 := qw2.cell c9
  clear l6 c7 c8 c9
  have uw2 := uw1.trans qw2
  clear qw2 uw1
  go_wp2_with fail
  go_ret2
  exact ⟨rfl, uw2⟩
set_option maxHeartbeats 2000000 in
set_option maxRecDepth 100000 in
theorem cvFo_no (y n : Int) (h : ¬ IsY y) (w : World) (hE : EnvC w) :
    Calls Tryz.prog 17 #[.int .i64 y, .int .i64 n] w fun ro w' => ro = .returned (.tuple #[.agg #[.int .i64 0, .int .i64 0, .int .i64 0], .int .i64 6]) ∧ Dn w w' := by
  have HY := Lib.hid h
  clear h
  go_enter Tryz.func17, Tryz.ntmps17
  go_wp2_with fail
  obtain ⟨W1, hW1⟩ : ∃ W1, W1 = w.alloc (.cells #[.int .i64 0, .int .i64 0, .int .i64 0] 23) := ⟨_, rfl⟩
  have uW1 : Dn w W1 := by rw [hW1]; exact (Dn.refl _).alloc _
  have c2 : W1.cell? ⟨w.heap.size, 0, none⟩ = some (.int .i64 0) := by rw [hW1]; simp [go_sem]
  have c3 : W1.cell? ⟨w.heap.size, 1, none⟩ = some (.int .i64 0) := by rw [hW1]; simp [go_sem]
  have c4 : W1.cell? ⟨w.heap.size, 2, none⟩ = some (.int .i64 0) := by rw [hW1]; simp [go_sem]
  have l5 : w.heap.size < W1.heap.size := by rw [hW1]; simp <;> omega
  have f6 : W1.frozen? ⟨w.heap.size, 0, none⟩ = false := by rw [hW1]; simp [go_sem]
  have f7 : W1.frozen? ⟨w.heap.size, 1, none⟩ = false := by rw [hW1]; simp [go_sem]
  have f8 : W1.frozen? ⟨w.heap.size, 2, none⟩ = false := by rw [hW1]; simp [go_sem]
  rw [← hW1]
  clear hW1
  refine (len_no y _ HY.out).mono ?_
  rintro e w1 ⟨rfl, rfl⟩
  go_wp2_with fail
  exact bodyPost_ret (v := .tuple #[.agg #[.int .i64 0, .int .i64 0, .int .i64 0], .int .i64 6]) (by simp [results, Tryz.results17, go_sem, c2, c3, c4, f6, f7, f8] <;> omega) rfl ⟨rfl, (((uW1.setCell (by simp <;> omega) _).setCell (by simp <;> omega) _).setCell (by simp <;> omega) _)⟩
set_option maxHeartbeats 2000000 in
set_option maxRecDepth 100000 in
theorem cvFo_r1 (y n : Int) (h : IsY y) (h2 : n < 1) (w : World) (hE : EnvC w) :
    Calls Tryz.prog 17 #[.int .i64 y, .int .i64 n] w fun ro w' => ro = .returned (.tuple #[.agg #[.int .i64 0, .int .i64 0, .int .i64 0], .int .i64 4]) ∧ Dn w w' := by
  have HY := Lib.hid h
  clear h
  have c1 : decide (n < 1) = true := by simpa using h2
  clear h2
  go_enter Tryz.func17, Tryz.ntmps17
  go_wp2_with fail
  obtain ⟨W1, hW1⟩ : ∃ W1, W1 = w.alloc (.cells #[.int .i64 0, .int .i64 0, .int .i64 0] 23) := ⟨_, rfl⟩
  have uW1 : Dn w W1 := by rw [hW1]; exact (Dn.refl _).alloc _
  have c2 : W1.cell? ⟨w.heap.size, 0, none⟩ = some (.int .i64 0) := by rw [hW1]; simp [go_sem]
  have c3 : W1.cell? ⟨w.heap.size, 1, none⟩ = some (.int .i64 0) := by rw [hW1]; simp [go_sem]
  have c4 : W1.cell? ⟨w.heap.size, 2, none⟩ = some (.int .i64 0) := by rw [hW1]; simp [go_sem]
  have l5 : w.heap.size < W1.heap.size := by rw [hW1]; simp <;> omega
  have f6 : W1.frozen? ⟨w.heap.size, 0, none⟩ = false := by rw [hW1]; simp [go_sem]
  have f7 : W1.frozen? ⟨w.heap.size, 1, none⟩ = false := by rw [hW1]; simp [go_sem]
  have f8 : W1.frozen? ⟨w.heap.size, 2, none⟩ = false := by rw [hW1]; simp [go_sem]
  rw [← hW1]
  clear hW1
  refine (len_yes y _ HY.out (hE.dn uW1).m.st).mono ?_
  rintro e w1 ⟨rfl, qw1⟩
  replace qw1 := qw1.dn
  have f9 := (qw1.frozen (a := ⟨w.heap.size, 0, none⟩) l5).trans f6
  have f10 := (qw1.frozen (a := ⟨w.heap.size, 1, none⟩) l5).trans f7
  have f11 := (qw1.frozen (a := ⟨w.heap.size, 2, none⟩) l5).trans f8
  have l12 := Nat.lt_of_lt_of_le l5 qw1.size
  have c13 := qw1.cell c2
  have c14 := qw1.cell c3
  have c15 := qw1.cell c4
  clear f6 f7 f8 l5 c2 c3 c4
  have uw1 := uW1.trans qw1
  clear qw1 uW1
  go_wp2_with fail
  exact bodyPost_ret (v := .tuple #[.agg #[.int .i64 0, .int .i64 0, .int .i64 0], .int .i64 4]) (by simp [results, Tryz.results17, go_sem, c13, c14, c15, f9, f10, f11] <;> omega) rfl ⟨rfl, (((uw1.setCell (by simp <;> omega) _).setCell (by simp <;> omega) _).setCell (by simp <;> omega) _)⟩
set_option maxHeartbeats 2000000 in
set_option maxRecDepth 100000 in
theorem cvFo_r2 (y n : Int) (h : IsY y) (h2 : ¬ n < 1) (h3 : Cal.len y < n) (w : World) (hE : EnvC w) :
    Calls Tryz.prog 17 #[.int .i64 y, .int .i64 n] w fun ro w' => ro = .returned (.tuple #[.agg #[.int .i64 0, .int .i64 0, .int .i64 0], .int .i64 4]) ∧ Dn w w' := by
  have HY := Lib.hid h
  clear h
  have c1 : decide (n < 1) = false := by simpa using h2
  have c2 : decide (Cal.len y < n) = true := by simpa using h3
  clear h2 h3
  go_enter Tryz.func17, Tryz.ntmps17
  go_wp2_with fail
  obtain ⟨W1, hW1⟩ : ∃ W1, W1 = w.alloc (.cells #[.int .i64 0, .int .i64 0, .int .i64 0] 23) := ⟨_, rfl⟩
  have uW1 : Dn w W1 := by rw [hW1]; exact (Dn.refl _).alloc _
  have c2 : W1.cell? ⟨w.heap.size, 0, none⟩ = some (.int .i64 0) := by rw [hW1]; simp [go_sem]
  have c3 : W1.cell? ⟨w.heap.size, 1, none⟩ = some (.int .i64 0) := by rw [hW1]; simp [go_sem]
  have c4 : W1.cell? ⟨w.heap.size, 2, none⟩ = some (.int .i64 0) := by rw [hW1]; simp [go_sem]
  have l5 : w.heap.size < W1.heap.size := by rw [hW1]; simp <;> omega
  have f6 : W1.frozen? ⟨w.heap.size, 0, none⟩ = false := by rw [hW1]; simp [go_sem]
  have f7 : W1.frozen? ⟨w.heap.size, 1, none⟩ = false := by rw [hW1]; simp [go_sem]
  have f8 : W1.frozen? ⟨w.heap.size, 2, none⟩ = false := by rw [hW1]; simp [go_sem]
  rw [← hW1]
  clear hW1
  refine (len_yes y _ HY.out (hE.dn uW1).m.st).mono ?_
  rintro e w1 ⟨rfl, qw1⟩
  replace qw1 := qw1.dn
  have f9 := (qw1.frozen (a := ⟨w.heap.size, 0, none⟩) l5).trans f6
  have f10 := (qw1.frozen (a := ⟨w.heap.size, 1, none⟩) l5).trans f7
  have f11 := (qw1.frozen (a := ⟨w.heap.size, 2, none⟩) l5).trans f8
  have l12 := Nat.lt_of_lt_of_le l5 qw1.size
  have c13 := qw1.cell c2
  have c14 := qw1.cell c3
  have c15 := qw1.cell c4
  clear f6 f7 f8 l5 c2 c3 c4
  have uw1 := uW1.trans qw1
  clear qw1 uW1
  go_wp2_with fail
  exact bodyPost_ret (v := .tuple #[.agg #[.int .i64 0, .int .i64 0, .int .i64 0], .int .i64 4]) (by simp [results, Tryz.results17, go_sem, c13, c14, c15, f9, f10, f11] <;> omega) rfl ⟨rfl, (((uw1.setCell (by simp <;> omega) _).setCell (by simp <;> omega) _).setCell (by simp <;> omega) _)⟩
set_option maxHeartbeats 2000000 in
set_option maxRecDepth 100000 in
theorem cvFo_ok (y n : Int) (h : IsY y) (h2 : ¬ n < 1) (h3 : ¬ Cal.len y < n) (w : World) (hE : EnvC w) :
    Calls Tryz.prog 17 #[.int .i64 y, .int .i64 n] w fun ro w' => ro = .returned (.tuple #[.agg #[.int .i64 y, .int .i64 (mo (Cal.sy y + n - 1)), .int .i64 (Cal.sy y + n - 1 - Cal.sm y (mo (Cal.sy y + n - 1)) + 1)], .int .i64 0]) ∧ Dn w w' := by
  have hyr : Cal.yr (Cal.sy y + n - 1) = y := Cal.yr_of _ _ (by omega) (by rw [Cal.sy_succ]; omega)
  have HO := cvOf_yes (Cal.sy y + n - 1)
  rw [hyr] at HO
  have hs := sy_bdY y h
  have hl := len_bd y
  have HH := Lib.hid HO
  clear HO hyr
  have HY := Lib.hid h
  clear h
  have c1 : decide (n < 1) = false := by simpa using h2
  have c2 : decide (Cal.len y < n) = false := by simpa using h3
  have HD : Hid (I64 (Cal.sy y + n - 1)) := Lib.hid ⟨by omega, by omega⟩
  go_enter Tryz.func17, Tryz.ntmps17
  go_wp2_with fail
  obtain ⟨W1, hW1⟩ : ∃ W1, W1 = w.alloc (.cells #[.int .i64 0, .int .i64 0, .int .i64 0] 23) := ⟨_, rfl⟩
  have uW1 : Dn w W1 := by rw [hW1]; exact (Dn.refl _).alloc _
  have c2 : W1.cell? ⟨w.heap.size, 0, none⟩ = some (.int .i64 0) := by rw [hW1]; simp [go_sem]
  have c3 : W1.cell? ⟨w.heap.size, 1, none⟩ = some (.int .i64 0) := by rw [hW1]; simp [go_sem]
  have c4 : W1.cell? ⟨w.heap.size, 2, none⟩ = some (.int .i64 0) := by rw [hW1]; simp [go_sem]
  have l5 : w.heap.size < W1.heap.size := by rw [hW1]; simp <;> omega
  have f6 : W1.frozen? ⟨w.heap.size, 0, none⟩ = false := by rw [hW1]; simp [go_sem]
  have f7 : W1.frozen? ⟨w.heap.size, 1, none⟩ = false := by rw [hW1]; simp [go_sem]
  have f8 : W1.frozen? ⟨w.heap.size, 2, none⟩ = false := by rw [hW1]; simp [go_sem]
  rw [← hW1]
  clear hW1
  refine (len_yes y _ HY.out (hE.dn uW1).m.st).mono ?_
  rintro e w1 ⟨rfl, qw1⟩
  replace qw1 := qw1.dn
  have f9 := (qw1.frozen (a := ⟨w.heap.size, 0, none⟩) l5).trans f6
  have f10 := (qw1.frozen (a := ⟨w.heap.size, 1, none⟩) l5).trans f7
  have f11 := (qw1.frozen (a := ⟨w.heap.size, 2, none⟩) l5).trans f8
  have l12 := Nat.lt_of_lt_of_le l5 qw1.size
  have c13 := qw1.cell c2
  have c14 := qw1.cell c3
  have c15 := qw1.cell c4
  clear f6 f7 f8 l5 c2 c3 c4
  have uw1 := uW1.trans qw1
  clear qw1 uW1
  go_wp2_with fail
  refine (ystart_yes y _ HY.out (hE.dn uw1).m.st).mono ?_
  rintro e w2 ⟨rfl, qw2⟩
  replace qw2 := qw2.dn
  have f16 := (qw2.frozen (a := ⟨w.heap.size, 0, none⟩) l12).trans f9
  have f17 := (qw2.frozen (a := ⟨w.heap.size, 1, none⟩) l12).trans f10
  have f18 := (qw2.frozen (a := ⟨w.heap.size, 2, none⟩) l12).trans f11
  have l19 := Nat.lt_of_lt_of_le l12 qw2.size
  have c20 := qw2.cell c13
  have c21 := qw2.cell c14
  have c22 := qw2.cell c15
  clear f9 f10 f11 l12 c13 c14 c15
  have uw2 := uw1.trans qw2
  clear qw2 uw1
  go_wp2_with fail
  refine (HH.out HD.out HY.out _ (hE.dn uw2)).mono ?_
  rintro e w3 ⟨rfl, qw3⟩
  have f23 := (qw3.frozen (a := ⟨w.heap.size, 0, none⟩) l19).trans f16
  have f24 := (qw3.frozen (a := ⟨w.heap.size, 1, none⟩) l19).trans f17
  have f25 := (qw3.frozen (a := ⟨w.heap.size, 2, none⟩) l19).trans f18
  have l26 := Nat.lt_of_lt_of_le l19 qw3.size
  have c27 := qw3.cell c20
  have c28 := qw3.cell c21
  have c29 := qw3.cell c22
  clear f16 f17 f18 l19 c20 c21 c22
  have uw3 := uw2.trans qw3
  clear qw3 uw2
  go_wp2_with fail
  exact bodyPost_ret (v := .tuple #[.agg #[.int .i64 y, .int .i64 (mo (Cal.sy y + n - 1)), .int .i64 (Cal.sy y + n - 1 - Cal.sm y (mo (Cal.sy y + n - 1)) + 1)], .int .i64 0]) (by simp [results, Tryz.results17, go_sem, c27, c28, c29, f23, f24, f25] <;> omega) rfl ⟨rfl, (((uw3.setCell (by simp <;> omega) _).setCell (by simp <;> omega) _).setCell (by simp <;> omega) _)⟩
set_option maxHeartbeats 2000000 in
set_option maxRecDepth 100000 in
theorem cvCmp (y m d z n f : Int) (w : World) :
    Calls Tryz.prog 32 #[.agg #[.int .i64 y, .int .i64 m, .int .i64 d], .agg #[.int .i64 z, .int .i64 n, .int .i64 f]] w fun ro w' => ro = .returned (.int .i64 (oq (cq y z) (cq m n) (cq d f))) ∧ Dn w w' := by
  go_enter Tryz.func32, Tryz.ntmps32
  go_wp2_with fail
  obtain ⟨W1, hW1⟩ : ∃ W1, W1 = (w.alloc (.cells #[.int .i64 y, .int .i64 m, .int .i64 d] 23)).alloc (.cells #[.int .i64 z, .int .i64 n, .int .i64 f] 23) := ⟨_, rfl⟩
  have uW1 : Dn w W1 := by rw [hW1]; exact ((Dn.refl _).alloc _).alloc _
  have c2 : W1.cell? ⟨w.heap.size, 0, none⟩ = some (.int .i64 y) := by rw [hW1]; simp [go_sem]
  have c3 : W1.cell? ⟨w.heap.size, 1, none⟩ = some (.int .i64 m) := by rw [hW1]; simp [go_sem]
  have c4 : W1.cell? ⟨w.heap.size, 2, none⟩ = some (.int .i64 d) := by rw [hW1]; simp [go_sem]
  have l5 : w.heap.size < W1.heap.size := by rw [hW1]; simp <;> omega
  have c6 : W1.cell? ⟨w.heap.size + 1, 0, none⟩ = some (.int .i64 z) := by rw [hW1]; simp [go_sem]
  have c7 : W1.cell? ⟨w.heap.size + 1, 1, none⟩ = some (.int .i64 n) := by rw [hW1]; simp [go_sem]
  have c8 : W1.cell? ⟨w.heap.size + 1, 2, none⟩ = some (.int .i64 f) := by rw [hW1]; simp [go_sem]
  have l9 : w.heap.size + 1 < W1.heap.size := by rw [hW1]; simp <;> omega
  rw [← hW1]
  clear hW1
  have hS10 := kdVa_6 (W := W1) (Dn.refl _) ⟨Dn.refl _, c2, c3, c4, c6, c7, c8⟩
  have HShS10 := Lib.hid hS10
  clear c2 c3 c4 c6 c7 c8
  go_region_held3 (fun w' => Dn W1 w' ∧ w'.cell? ⟨w.heap.size, 0, none⟩ = some (.int .i64 y) ∧ w'.cell? ⟨w.heap.size, 1, none⟩ = some (.int .i64 m) ∧ w'.cell? ⟨w.heap.size, 2, none⟩ = some (.int .i64 d) ∧ w'.cell? ⟨w.heap.size + 1, 0, none⟩ = some (.int .i64 z) ∧ w'.cell? ⟨w.heap.size + 1, 1, none⟩ = some (.int .i64 n) ∧ w'.cell? ⟨w.heap.size + 1, 2, none⟩ = some (.int .i64 f))
    (first | exact kdVa_6 ((Dn.refl _).drew) hS10 | exact kdVa_6 ‹Dn _ _› ‹_› | exact kdVa_6 (Up.dn ‹Up _ _›) ‹_› | assumption | exact kdVa_6 ((Dn.refl _).alloc _) ‹_›)
    (first
      | (go_at_call 60; refine (cq64 _ _ _).mono ?_; rintro e wa ⟨rfl, rfl⟩)
      | (go_at_call 61; refine (cqi _ _ _).mono ?_; rintro e wa ⟨rfl, rfl⟩)
      | (go_at_call 59; refine (cqOr _ (cq y z) (cq m n) (cq d f) _ ?_ ?_ ?_).mono ?_; (simp [go_sem]); (simp [go_sem]); (simp [go_sem]); rintro e wa ⟨rfl, rfl⟩))
  all_goals
    clear hS10
    go_wp2_with fail
    go_ret
    exact ⟨rfl, uW1.trans (((Dn.refl _).alloc _).drew)⟩
end Go.Proofs.YtopbbcbpanfigaaGreatDoor
