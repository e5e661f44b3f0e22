/-
  WALKS OF circa/ends AND circaref08: Check, Of, Compare.
-/
import Derived.Test.YtcdkeiolblifkaaDoorEndA
namespace Go.Proofs.YtcdkeiolblifkaaDoor
open Go.RowKit
theorem eErr_ok {i d : Int} (h : eOk i d) : eErr i d = 0 := by unfold eErr; rw [if_pos h]
theorem eErr_bad {i d : Int} (h : ¬ eOk i d) : eErr i d = 5 := by unfold eErr; rw [if_neg h]
set_option maxHeartbeats 1000000 in
theorem eChk (i d : Int) (w : World) : Calls Tryd.prog 49 #[.agg #[.int .i8 i, .int .i64 d]] w fun e w' => e = .returned (.int .i64 (eErr i d)) ∧ Up w w' := by
  by_cases h0 : i = 0
  · subst h0
    have HE := Lib.hid (eErr_ok (i := 0) (d := d) (Or.inl rfl))
    go_enter Tryd.func49, Tryd.ntmps49
    go_wp2_with fail
    go_ret
    exact ⟨ret1_i HE.out.symm, (Up.refl _).alloc _⟩
  · have c0 : (i == 0) = false := by simpa using h0
    by_cases h1 : i = 1
    · subst h1
      by_cases hd : d = 0
      · subst hd
        have HE := Lib.hid (eErr_ok (i := 1) (d := 0) (Or.inr ⟨Or.inl rfl, rfl⟩))
        go_enter Tryd.func49, Tryd.ntmps49
        go_wp2_with fail
        go_ret
        exact ⟨ret1_i HE.out.symm, (Up.refl _).alloc _⟩
      · have c1 : (d == 0) = false := by simpa using hd
        have HE := Lib.hid (eErr_bad (i := 1) (d := d) (by unfold eOk; omega))
        go_enter Tryd.func49, Tryd.ntmps49
        go_wp2_with fail
        go_ret
        exact ⟨ret1_i HE.out.symm, (Up.refl _).alloc _⟩
    · have c1 : (i == 1) = false := by simpa using h1
      by_cases h2 : i = -1
      · subst h2
        by_cases hd : d = 0
        · subst hd
          have HE := Lib.hid (eErr_ok (i := -1) (d := 0) (Or.inr ⟨Or.inr rfl, rfl⟩))
          go_enter Tryd.func49, Tryd.ntmps49
          go_wp2_with fail
          go_ret
          exact ⟨ret1_i HE.out.symm, (Up.refl _).alloc _⟩
        · have c2 : (d == 0) = false := by simpa using hd
          have HE := Lib.hid (eErr_bad (i := -1) (d := d) (by unfold eOk; omega))
          go_enter Tryd.func49, Tryd.ntmps49
          go_wp2_with fail
          go_ret
          exact ⟨ret1_i HE.out.symm, (Up.refl _).alloc _⟩
      · have c2 : (i == -1) = false := by simpa using h2
        have HE := Lib.hid (eErr_bad (i := i) (d := d) (by unfold eOk; omega))
        go_enter Tryd.func49, Tryd.ntmps49
        go_wp2_with fail
        go_ret
        exact ⟨ret1_i HE.out.symm, (Up.refl _).alloc _⟩
set_option maxHeartbeats 1000000 in
theorem rChk8 (i d : Int) (w : World) : Calls Tryd.prog 47 #[.agg #[.int .i8 i, .int .i64 d]] w fun e w' => e = .returned (.int .i64 (eErr i d)) ∧ Up w w' := by
  by_cases h0 : i = 0
  · subst h0
    have HE := Lib.hid (eErr_ok (i := 0) (d := d) (Or.inl rfl))
    go_enter Tryd.func47, Tryd.ntmps47
    go_wp2_with fail
    go_ret
    exact ⟨ret1_i HE.out.symm, (Up.refl _).alloc _⟩
  · have c0 : (i == 0) = false := by simpa using h0
    by_cases hd : d = 0
    · subst hd
      by_cases h1 : i = 1
      · subst h1
        have HE := Lib.hid (eErr_ok (i := 1) (d := 0) (Or.inr ⟨Or.inl rfl, rfl⟩))
        go_enter Tryd.func47, Tryd.ntmps47
        go_wp2_with fail
        go_ret
        exact ⟨ret1_i HE.out.symm, (Up.refl _).alloc _⟩
      · have c1 : (i == 1) = false := by simpa using h1
        by_cases h2 : i = -1
        · subst h2
          have HE := Lib.hid (eErr_ok (i := -1) (d := 0) (Or.inr ⟨Or.inr rfl, rfl⟩))
          go_enter Tryd.func47, Tryd.ntmps47
          go_wp2_with fail
          go_ret
          exact ⟨ret1_i HE.out.symm, (Up.refl _).alloc _⟩
        · have c2 : (i == -1) = false := by simpa using h2
          have HE := Lib.hid (eErr_bad (i := i) (d := 0) (by unfold eOk; omega))
          go_enter Tryd.func47, Tryd.ntmps47
          go_wp2_with fail
          go_ret
          exact ⟨ret1_i HE.out.symm, (Up.refl _).alloc _⟩
    · have c3 : (d == 0) = false := by simpa using hd
      have HE := Lib.hid (eErr_bad (i := i) (d := d) (by unfold eOk; omega))
      by_cases h1 : i = 1
      · subst h1
        go_enter Tryd.func47, Tryd.ntmps47
        go_wp2_with fail
        go_ret
        exact ⟨ret1_i HE.out.symm, (Up.refl _).alloc _⟩
      · have c1 : (i == 1) = false := by simpa using h1
        by_cases h2 : i = -1
        · subst h2
          go_enter Tryd.func47, Tryd.ntmps47
          go_wp2_with fail
          go_ret
          exact ⟨ret1_i HE.out.symm, (Up.refl _).alloc _⟩
        · have c2 : (i == -1) = false := by simpa using h2
          go_enter Tryd.func47, Tryd.ntmps47
          go_wp2_with fail
          go_ret
          exact ⟨ret1_i HE.out.symm, (Up.refl _).alloc _⟩
theorem eOf (d : Int) (w : World) : Calls Tryd.prog 37 #[.int .i64 d] w fun e w' => e = .returned (.agg #[.int .i8 0, .int .i64 d]) ∧ Up w w' := by
  go_enter Tryd.func37, Tryd.ntmps37
  go_wp2_with fail
  exact bodyPost_ret (v := .agg #[.int .i8 0, .int .i64 d]) (by simp [results, Tryd.results37, go_sem]) rfl ⟨rfl, (Up.refl _).alloc _⟩
theorem kE2 {W w1 w2 : World} {a0 a1 a2 a3 : Addr} {v0 v1 v2 v3 : Value} (k : Up w1 w2) (h : Up W w1 ∧ w1.cell? a0 = some v0 ∧ w1.cell? a1 = some v1 ∧ w1.cell? a2 = some v2 ∧ w1.cell? a3 = some v3) :
    Up W w2 ∧ w2.cell? a0 = some v0 ∧ w2.cell? a1 = some v1 ∧ w2.cell? a2 = some v2 ∧ w2.cell? a3 = some v3 := by
  obtain ⟨h1, c0, c1, c2, c3⟩ := h
  exact ⟨h1.trans k, k.cell c0, k.cell c1, k.cell c2, k.cell c3⟩
set_option maxHeartbeats 1000000 in
theorem eCmp (i d j f : Int) (w : World) : Calls Tryd.prog 41 #[.agg #[.int .i8 i, .int .i64 d], .agg #[.int .i8 j, .int .i64 f]] w fun e w' => e = .returned (.int .i64 (eC i d j f)) ∧ Up w w' := by
  obtain ⟨W, hW⟩ : ∃ W, W = (w.alloc (.cells #[.int .i8 i, .int .i64 d] 27)).alloc (.cells #[.int .i8 j, .int .i64 f] 27) := ⟨_, rfl⟩
  have u : Up w W := by rw [hW]; exact ((Up.refl _).alloc _).alloc _
  have c0 : W.cell? ⟨w.heap.size, 0, none⟩ = some (.int .i8 i) := by rw [hW]; simp [go_sem]
  have c1 : W.cell? ⟨w.heap.size, 1, none⟩ = some (.int .i64 d) := by rw [hW]; simp [go_sem]
  have c2 : W.cell? ⟨w.heap.size + 1, 0, none⟩ = some (.int .i8 j) := by rw [hW]; simp [go_sem]
  have c3' : W.cell? ⟨w.heap.size + 1, 1, none⟩ = some (.int .i64 f) := by rw [hW]; simp [go_sem]
  have hS := kE2 (W := W) (Up.refl W) ⟨Up.refl _, c0, c1, c2, c3'⟩
  have HW := Lib.hid hW
  have HC := Lib.hid (show or2 (c3 i j) (c3 d f) = eC i d j f from rfl)
  clear hW c0 c1 c2 c3'
  go_enter Tryd.func41, Tryd.ntmps41
  go_wp2_with fail
  rw [← HW.out]
  clear HW
  go_region_held3 (fun w' => Up W w' ∧ w'.cell? ⟨w.heap.size, 0, none⟩ = some (.int .i8 i) ∧ w'.cell? ⟨w.heap.size, 1, none⟩ = some (.int .i64 d) ∧ w'.cell? ⟨w.heap.size + 1, 0, none⟩ = some (.int .i8 j) ∧ w'.cell? ⟨w.heap.size + 1, 1, none⟩ = some (.int .i64 f))
    (first | exact kE2 ((Up.refl _).drew) hS | exact kE2 (((Up.refl _).alloc _).drew) hS | assumption)
    (first
      | (go_at_call 65; refine (cmp8 _ _ _).mono ?_; rintro e wa ⟨rfl, rfl⟩)
      | (go_at_call 66; refine (cmp64 _ _ _).mono ?_; rintro e wa ⟨rfl, rfl⟩)
      | (go_at_call 50; refine (cmpOr _ (c3 i j) (c3 d f) _ ?_ ?_).mono ?_; (simp [go_sem]); (simp [go_sem]); rintro e wa ⟨rfl, rfl⟩))
  all_goals
    clear hS
    go_wp2_with fail
    go_ret
    exact ⟨ret1_i HC.out, u.trans (((Up.refl _).alloc _).drew)⟩
theorem eC_lt1 {i d j f : Int} (h : i < j) : eC i d j f = -1 := by unfold eC; rw [c3_lt h]; simp
theorem eC_gt1 {i d j f : Int} (h : j < i) : eC i d j f = 1 := by unfold eC; rw [c3_gt h]; simp
theorem eC_eq1 (i d f : Int) : eC i d i f = c3 d f := by unfold eC; rw [c3_eq]; simp
set_option maxHeartbeats 1000000 in
theorem rCmp8 (i d j f : Int) (w : World) : Calls Tryd.prog 48 #[.agg #[.int .i8 i, .int .i64 d], .agg #[.int .i8 j, .int .i64 f]] w fun e w' => e = .returned (.int .i64 (eC i d j f)) ∧ Up w w' := by
  rcases Int.lt_trichotomy i j with h | h | h
  · have d1 : decide (i < j) = true := by simpa using h
    have HC := Lib.hid (eC_lt1 (d := d) (f := f) h)
    clear h
    go_enter Tryd.func48, Tryd.ntmps48
    go_wp2_with fail
    go_ret
    exact ⟨ret1_i HC.out.symm, ((Up.refl _).alloc _).alloc _⟩
  · subst h
    have e0 := eC_eq1 i d f
    have d0 : decide (i < i) = false := by simp
    rcases Int.lt_trichotomy d f with h | h | h
    · have d1 : decide (d < f) = true := by simpa using h
      have HC := Lib.hid (e0.trans (c3_lt h))
      clear h e0
      go_enter Tryd.func48, Tryd.ntmps48
      go_wp2_with fail
      go_ret
      exact ⟨ret1_i HC.out.symm, ((Up.refl _).alloc _).alloc _⟩
    · subst h
      have HC := Lib.hid (e0.trans (c3_eq d))
      have d1 : decide (d < d) = false := by simp
      clear e0
      go_enter Tryd.func48, Tryd.ntmps48
      go_wp2_with fail
      go_ret
      exact ⟨ret1_i HC.out.symm, ((Up.refl _).alloc _).alloc _⟩
    · have d1 : decide (d < f) = false := by simp; omega
      have d2 : decide (f < d) = true := by simpa using h
      have HC := Lib.hid (e0.trans (c3_gt h))
      clear h e0
      go_enter Tryd.func48, Tryd.ntmps48
      go_wp2_with fail
      go_ret
      exact ⟨ret1_i HC.out.symm, ((Up.refl _).alloc _).alloc _⟩
  · have d1 : decide (i < j) = false := by simp; omega
    have d2 : decide (j < i) = true := by simpa using h
    have HC := Lib.hid (eC_gt1 (d := d) (f := f) h)
    clear h
    go_enter Tryd.func48, Tryd.ntmps48
    go_wp2_with fail
    go_ret
    exact ⟨ret1_i HC.out.symm, ((Up.refl _).alloc _).alloc _⟩
end Go.Proofs.YtcdkeiolblifkaaDoor
