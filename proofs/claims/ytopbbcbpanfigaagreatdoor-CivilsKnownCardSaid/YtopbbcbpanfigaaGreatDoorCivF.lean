/-
  WALKS OF circaref06: Check, Day, Of, Weekday, Compare, two, digits. (Printed by wip/gen/civ4.py.)
-/
import Derived.Test.YtopbbcbpanfigaaGreatDoorCivB
import Derived.Test.YtopbbcbpanfigaaGreatDoorRefFive
namespace Go.Proofs.YtopbbcbpanfigaaGreatDoor
open Go.RowKit
set_option linter.unusedVariables false
set_option linter.unusedSimpArgs false
theorem kdVf_3 {W w1 w2 : World} {a0 a1 a2 : Addr} {v0 v1 v2 : Value} (k : Dn w1 w2) (h : Dn W w1 ∧ w1.cell? a0 = some v0 ∧ w1.cell? a1 = some v1 ∧ w1.cell? a2 = some v2) :
    Dn W w2 ∧ w2.cell? a0 = some v0 ∧ w2.cell? a1 = some v1 ∧ w2.cell? a2 = some v2 := by
  obtain ⟨h1, c0, c1, c2⟩ := h
  exact ⟨h1.trans k, k.cell c0, k.cell c1, k.cell c2⟩
theorem kdVf_6 {W w1 w2 : World} {a0 a1 a2 a3 a4 a5 : Addr} {v0 v1 v2 v3 v4 v5 : Value} (k : Dn w1 w2) (h : Dn W w1 ∧ w1.cell? a0 = some v0 ∧ w1.cell? a1 = some v1 ∧ w1.cell? a2 = some v2 ∧ w1.cell? a3 = some v3 ∧ w1.cell? a4 = some v4 ∧ w1.cell? a5 = some v5) :
    Dn W w2 ∧ w2.cell? a0 = some v0 ∧ w2.cell? a1 = some v1 ∧ w2.cell? a2 = some v2 ∧ w2.cell? a3 = some v3 ∧ w2.cell? a4 = some v4 ∧ w2.cell? a5 = some v5 := by
  obtain ⟨h1, c0, c1, c2, c3, c4, c5⟩ := h
  exact ⟨h1.trans k, k.cell c0, k.cell c1, k.cell c2, k.cell c3, k.cell c4, k.cell c5⟩
set_option maxHeartbeats 4000000 in
set_option maxRecDepth 100000 in
theorem rc6Chk_y (y m d : Int) (h : ¬ IsY y) (w : World) :
    Calls Tryz.prog 10 #[.agg #[.int .i64 y, .int .i64 m, .int .i64 d]] w fun ro w' => ro = .returned (.int .i64 6) ∧ Dn w w' := by
  have HH := Lib.hid h
  clear h
  go_enter Tryz.func10, Tryz.ntmps10
  go_wp2_with fail
  obtain ⟨W1, hW1⟩ : ∃ W1, W1 = w.alloc (.cells #[.int .i64 y, .int .i64 m, .int .i64 d] 23) := ⟨_, rfl⟩
  have uW1 : Dn w W1 := by rw [hW1]; exact (Dn.refl _).alloc _
  have c2 : W1.cell? ⟨w.heap.size, 0, none⟩ = some (.int .i64 y) := by rw [hW1]; simp [go_sem]
  have c3 : W1.cell? ⟨w.heap.size, 1, none⟩ = some (.int .i64 m) := by rw [hW1]; simp [go_sem]
  have c4 : W1.cell? ⟨w.heap.size, 2, none⟩ = some (.int .i64 d) := by rw [hW1]; simp [go_sem]
  have l5 : w.heap.size < W1.heap.size := by rw [hW1]; simp <;> omega
  rw [← hW1]
  clear hW1
  refine (rCheck5_no y m 6 _ (Or.inl ⟨HH.out, rfl⟩)).mono ?_
  rintro e w1 ⟨rfl, rfl⟩
  go_wp2_with fail
  go_ret
  exact ⟨rfl, uW1⟩
set_option maxHeartbeats 4000000 in
set_option maxRecDepth 100000 in
theorem rc6Chk_m (y m d : Int) (h : IsY y) (h2 : ¬ (1 ≤ m ∧ m ≤ 12)) (w : World) :
    Calls Tryz.prog 10 #[.agg #[.int .i64 y, .int .i64 m, .int .i64 d]] w fun ro w' => ro = .returned (.int .i64 7) ∧ Dn w w' := by
  have HH := Lib.hid h
  have HH2 := Lib.hid h2
  clear h h2
  go_enter Tryz.func10, Tryz.ntmps10
  go_wp2_with fail
  obtain ⟨W1, hW1⟩ : ∃ W1, W1 = w.alloc (.cells #[.int .i64 y, .int .i64 m, .int .i64 d] 23) := ⟨_, rfl⟩
  have uW1 : Dn w W1 := by rw [hW1]; exact (Dn.refl _).alloc _
  have c2 : W1.cell? ⟨w.heap.size, 0, none⟩ = some (.int .i64 y) := by rw [hW1]; simp [go_sem]
  have c3 : W1.cell? ⟨w.heap.size, 1, none⟩ = some (.int .i64 m) := by rw [hW1]; simp [go_sem]
  have c4 : W1.cell? ⟨w.heap.size, 2, none⟩ = some (.int .i64 d) := by rw [hW1]; simp [go_sem]
  have l5 : w.heap.size < W1.heap.size := by rw [hW1]; simp <;> omega
  rw [← hW1]
  clear hW1
  refine (rCheck5_no y m 7 _ (Or.inr ⟨HH.out, HH2.out, rfl⟩)).mono ?_
  rintro e w1 ⟨rfl, rfl⟩
  go_wp2_with fail
  go_ret
  exact ⟨rfl, uW1⟩
set_option maxHeartbeats 4000000 in
set_option maxRecDepth 100000 in
theorem rc6Chk_d1 (y m d : Int) (h : IsM y m) (h2 : d < 1) (w : World) :
    Calls Tryz.prog 10 #[.agg #[.int .i64 y, .int .i64 m, .int .i64 d]] w fun ro w' => ro = .returned (.int .i64 8) ∧ Dn w w' := by
  have HM := Lib.hid h
  clear h
  have c1 : decide (d < 1) = true := by simpa using h2
  clear h2
  go_enter Tryz.func10, Tryz.ntmps10
  go_wp2_with fail
  obtain ⟨W1, hW1⟩ : ∃ W1, W1 = w.alloc (.cells #[.int .i64 y, .int .i64 m, .int .i64 d] 23) := ⟨_, rfl⟩
  have uW1 : Dn w W1 := by rw [hW1]; exact (Dn.refl _).alloc _
  have c2 : W1.cell? ⟨w.heap.size, 0, none⟩ = some (.int .i64 y) := by rw [hW1]; simp [go_sem]
  have c3 : W1.cell? ⟨w.heap.size, 1, none⟩ = some (.int .i64 m) := by rw [hW1]; simp [go_sem]
  have c4 : W1.cell? ⟨w.heap.size, 2, none⟩ = some (.int .i64 d) := by rw [hW1]; simp [go_sem]
  have l5 : w.heap.size < W1.heap.size := by rw [hW1]; simp <;> omega
  rw [← hW1]
  clear hW1
  refine (rCheck5_yes y m _ HM.out).mono ?_
  rintro e w1 ⟨rfl, rfl⟩
  go_wp2_with fail
  have hS6 := kdVf_3 (W := W1) (Dn.refl _) ⟨Dn.refl _, c2, c3, c4⟩
  have HShS6 := Lib.hid hS6
  clear c2 c3 c4
  refine wp_region_held_drew (S := fun w' => Dn W1 w' ∧ w'.cell? ⟨w.heap.size, 0, none⟩ = some (.int .i64 y) ∧ w'.cell? ⟨w.heap.size, 1, none⟩ = some (.int .i64 m) ∧ w'.cell? ⟨w.heap.size, 2, none⟩ = some (.int .i64 d)) (by kernel_rfl) ?_ (fun hHeld => ?_)
  · (try dsimp only); (first | exact kdVf_3 ((Dn.refl _).drew) hS6 | exact kdVf_3 ‹Dn _ _› ‹_› | exact kdVf_3 (Up.dn ‹Up _ _›) ‹_› | assumption | exact kdVf_3 ((Dn.refl _).alloc _) ‹_›)
  refine wpAnyH_take (i := 0) (v := ?_) rfl (by kernel_rfl) (by kernel_rfl) (by kernel_rfl) (fun _ _ _ h => h) (Or.inl ⟨by rfl, ?_⟩) (by assumption) ?_
  rotate_left
  · (intro w hSw; (try dsimp only at hSw); go_simp)
    all_goals with_reducible rfl
  try simp only [Act.put, List.getElem_toArray, List.getElem_cons_succ, List.getElem_cons_zero, List.setIfInBounds_toArray, List.set_cons_zero, List.set_cons_succ]
  refine wpAnyH_take (i := 1) (v := ?_) rfl (by kernel_rfl) (by kernel_rfl) (by kernel_rfl) (fun _ _ _ h => h) (Or.inl ⟨by rfl, ?_⟩) (by assumption) ?_
  rotate_left
  · (intro w hSw; (try dsimp only at hSw); go_simp)
    all_goals with_reducible rfl
  try simp only [Act.put, List.getElem_toArray, List.getElem_cons_succ, List.getElem_cons_zero, List.setIfInBounds_toArray, List.set_cons_zero, List.set_cons_succ]
  refine wpAnyH_take (i := 2) (v := ?_) rfl (by kernel_rfl) (by kernel_rfl) (by kernel_rfl) (fun _ _ _ h => h) (Or.inl ⟨by rfl, ?_⟩) (by assumption) ?_
  rotate_left
  · (intro w hSw; (try dsimp only at hSw); go_simp)
    all_goals with_reducible rfl
  try simp only [Act.put, List.getElem_toArray, List.getElem_cons_succ, List.getElem_cons_zero, List.setIfInBounds_toArray, List.set_cons_zero, List.set_cons_succ]
  refine wpAnyH_take (i := 3) (v := ?_) rfl (by kernel_rfl) (by kernel_rfl) (by kernel_rfl) (fun _ _ _ h => h) (Or.inl ⟨by rfl, ?_⟩) (by assumption) ?_
  rotate_left
  · (intro w hSw; (try dsimp only at hSw); go_simp)
    all_goals with_reducible rfl
  try simp only [Act.put, List.getElem_toArray, List.getElem_cons_succ, List.getElem_cons_zero, List.setIfInBounds_toArray, List.set_cons_zero, List.set_cons_succ]
  refine wpAnyH_take (i := 4) (v := undef) rfl (by kernel_rfl) (by kernel_rfl) (by kernel_rfl) (fun _ _ _ h => h) (Or.inr ⟨by rfl, rfl⟩) (by assumption) ?_
  try simp only [Act.put, List.getElem_toArray, List.getElem_cons_succ, List.getElem_cons_zero, List.setIfInBounds_toArray, List.set_cons_zero, List.set_cons_succ]
  refine wpAnyH_take (i := 5) (v := undef) rfl (by kernel_rfl) (by kernel_rfl) (by kernel_rfl) (fun _ _ _ h => h) (Or.inr ⟨by rfl, rfl⟩) (by assumption) ?_
  try simp only [Act.put, List.getElem_toArray, List.getElem_cons_succ, List.getElem_cons_zero, List.setIfInBounds_toArray, List.set_cons_zero, List.set_cons_succ]
  refine wpAnyH_take (i := 6) (v := undef) rfl (by kernel_rfl) (by kernel_rfl) (by kernel_rfl) (fun _ _ _ h => h) (Or.inr ⟨by rfl, rfl⟩) (by assumption) ?_
  try simp only [Act.put, List.getElem_toArray, List.getElem_cons_succ, List.getElem_cons_zero, List.setIfInBounds_toArray, List.set_cons_zero, List.set_cons_succ]
  refine wpAnyH_take (i := 7) (v := undef) rfl (by kernel_rfl) (by kernel_rfl) (by kernel_rfl) (fun _ _ _ h => h) (Or.inr ⟨by rfl, rfl⟩) (by assumption) ?_
  try simp only [Act.put, List.getElem_toArray, List.getElem_cons_succ, List.getElem_cons_zero, List.setIfInBounds_toArray, List.set_cons_zero, List.set_cons_succ]
  refine wpAnyH_take (i := 8) (v := undef) rfl (by kernel_rfl) (by kernel_rfl) (by kernel_rfl) (fun _ _ _ h => h) (Or.inr ⟨by rfl, rfl⟩) (by assumption) ?_
  try simp only [Act.put, List.getElem_toArray, List.getElem_cons_succ, List.getElem_cons_zero, List.setIfInBounds_toArray, List.set_cons_zero, List.set_cons_succ]
  refine wpAnyH_take (i := 9) (v := undef) rfl (by kernel_rfl) (by kernel_rfl) (by kernel_rfl) (fun _ _ _ h => h) (Or.inr ⟨by rfl, rfl⟩) (by assumption) ?_
  try simp only [Act.put, List.getElem_toArray, List.getElem_cons_succ, List.getElem_cons_zero, List.setIfInBounds_toArray, List.set_cons_zero, List.set_cons_succ]
  refine wpAnyH_take (i := 10) (v := undef) rfl (by kernel_rfl) (by kernel_rfl) (by kernel_rfl) (fun _ _ _ h => h) (Or.inr ⟨by rfl, rfl⟩) (by assumption) ?_
  try simp only [Act.put, List.getElem_toArray, List.getElem_cons_succ, List.getElem_cons_zero, List.setIfInBounds_toArray, List.set_cons_zero, List.set_cons_succ]
  refine wpAnyH_take (i := 11) (v := undef) rfl (by kernel_rfl) (by kernel_rfl) (by kernel_rfl) (fun _ _ _ h => h) (Or.inr ⟨by rfl, rfl⟩) (by assumption) ?_
  try simp only [Act.put, List.getElem_toArray, List.getElem_cons_succ, List.getElem_cons_zero, List.setIfInBounds_toArray, List.set_cons_zero, List.set_cons_succ]
  refine wpAnyH_take (i := 12) (v := ?_) rfl (by kernel_rfl) (by kernel_rfl) (by kernel_rfl) (fun _ _ _ h => h) (Or.inl ⟨by rfl, ?_⟩) (by assumption) ?_
  rotate_left
  · (intro w hSw; (try dsimp only at hSw); go_simp)
    all_goals with_reducible rfl
  try simp only [Act.put, List.getElem_toArray, List.getElem_cons_succ, List.getElem_cons_zero, List.setIfInBounds_toArray, List.set_cons_zero, List.set_cons_succ]
  refine wpAnyH_done (by kernel_rfl) ?_ _
  all_goals skip
  all_goals
    clear hS6
    obtain ⟨uf10, c7, c8, c9⟩ := (‹Dn W1 _ ∧ _› : _ ∧ _)
    have l11 := Nat.lt_of_lt_of_le l5 uf10.size
    clear l5
    have vuf10 := uW1.trans uf10
    clear uf10 uW1 HShS6
    go_wp2_with fail
    go_ret
    exact ⟨rfl, vuf10⟩
set_option maxHeartbeats 4000000 in
set_option maxRecDepth 100000 in
theorem rc6Chk_d2 (y m d : Int) (h : IsM y m) (h2 : ¬ d < 1) (h3 : Cal.mlen y m < d) (w : World) :
    Calls Tryz.prog 10 #[.agg #[.int .i64 y, .int .i64 m, .int .i64 d]] w fun ro w' => ro = .returned (.int .i64 8) ∧ Dn w w' := by
  have HM := Lib.hid h
  clear h
  have c1 : decide (d < 1) = false := by simpa using h2
  have c2 : decide (Cal.mlen y m < d) = true := by simpa using h3
  clear h2 h3
  go_enter Tryz.func10, Tryz.ntmps10
  go_wp2_with fail
  obtain ⟨W1, hW1⟩ : ∃ W1, W1 = w.alloc (.cells #[.int .i64 y, .int .i64 m, .int .i64 d] 23) := ⟨_, rfl⟩
  have uW1 : Dn w W1 := by rw [hW1]; exact (Dn.refl _).alloc _
  have c2 : W1.cell? ⟨w.heap.size, 0, none⟩ = some (.int .i64 y) := by rw [hW1]; simp [go_sem]
  have c3 : W1.cell? ⟨w.heap.size, 1, none⟩ = some (.int .i64 m) := by rw [hW1]; simp [go_sem]
  have c4 : W1.cell? ⟨w.heap.size, 2, none⟩ = some (.int .i64 d) := by rw [hW1]; simp [go_sem]
  have l5 : w.heap.size < W1.heap.size := by rw [hW1]; simp <;> omega
  rw [← hW1]
  clear hW1
  refine (rCheck5_yes y m _ HM.out).mono ?_
  rintro e w1 ⟨rfl, rfl⟩
  go_wp2_with fail
  have hS6 := kdVf_3 (W := W1) (Dn.refl _) ⟨Dn.refl _, c2, c3, c4⟩
  have HShS6 := Lib.hid hS6
  clear c2 c3 c4
  go_region_held3 (fun w' => Dn W1 w' ∧ w'.cell? ⟨w.heap.size, 0, none⟩ = some (.int .i64 y) ∧ w'.cell? ⟨w.heap.size, 1, none⟩ = some (.int .i64 m) ∧ w'.cell? ⟨w.heap.size, 2, none⟩ = some (.int .i64 d))
    (first | exact kdVf_3 ((Dn.refl _).drew) hS6 | exact kdVf_3 ‹Dn _ _› ‹_› | exact kdVf_3 (Up.dn ‹Up _ _›) ‹_› | assumption | exact kdVf_3 ((Dn.refl _).alloc _) ‹_›)
    (first
      | (go_at_call 35; refine (rLen5 y m _ HM.out.y HM.out.2.1 HM.out.2.2).mono ?_; rintro e wa ⟨rfl, rfl⟩))
  all_goals
    clear hS6
    obtain ⟨uf10, c7, c8, c9⟩ := (‹Dn W1 _ ∧ _› : _ ∧ _)
    have l11 := Nat.lt_of_lt_of_le l5 uf10.size
    clear l5
    have vuf10 := uW1.trans uf10
    clear uf10 uW1 HShS6
    go_wp2_with fail
    go_ret
    exact ⟨rfl, vuf10⟩
set_option maxHeartbeats 4000000 in
set_option maxRecDepth 100000 in
theorem rc6Chk_ok (y m d : Int) (h : IsM y m) (h2 : ¬ d < 1) (h3 : ¬ Cal.mlen y m < d) (w : World) :
    Calls Tryz.prog 10 #[.agg #[.int .i64 y, .int .i64 m, .int .i64 d]] w fun ro w' => ro = .returned (.int .i64 0) ∧ Dn w w' := by
  have HM := Lib.hid h
  clear h
  have c1 : decide (d < 1) = false := by simpa using h2
  have c2 : decide (Cal.mlen y m < d) = false := by simpa using h3
  clear h2 h3
  go_enter Tryz.func10, Tryz.ntmps10
  go_wp2_with fail
  obtain ⟨W1, hW1⟩ : ∃ W1, W1 = w.alloc (.cells #[.int .i64 y, .int .i64 m, .int .i64 d] 23) := ⟨_, rfl⟩
  have uW1 : Dn w W1 := by rw [hW1]; exact (Dn.refl _).alloc _
  have c2 : W1.cell? ⟨w.heap.size, 0, none⟩ = some (.int .i64 y) := by rw [hW1]; simp [go_sem]
  have c3 : W1.cell? ⟨w.heap.size, 1, none⟩ = some (.int .i64 m) := by rw [hW1]; simp [go_sem]
  have c4 : W1.cell? ⟨w.heap.size, 2, none⟩ = some (.int .i64 d) := by rw [hW1]; simp [go_sem]
  have l5 : w.heap.size < W1.heap.size := by rw [hW1]; simp <;> omega
  rw [← hW1]
  clear hW1
  refine (rCheck5_yes y m _ HM.out).mono ?_
  rintro e w1 ⟨rfl, rfl⟩
  go_wp2_with fail
  have hS6 := kdVf_3 (W := W1) (Dn.refl _) ⟨Dn.refl _, c2, c3, c4⟩
  have HShS6 := Lib.hid hS6
  clear c2 c3 c4
  go_region_held3 (fun w' => Dn W1 w' ∧ w'.cell? ⟨w.heap.size, 0, none⟩ = some (.int .i64 y) ∧ w'.cell? ⟨w.heap.size, 1, none⟩ = some (.int .i64 m) ∧ w'.cell? ⟨w.heap.size, 2, none⟩ = some (.int .i64 d))
    (first | exact kdVf_3 ((Dn.refl _).drew) hS6 | exact kdVf_3 ‹Dn _ _› ‹_› | exact kdVf_3 (Up.dn ‹Up _ _›) ‹_› | assumption | exact kdVf_3 ((Dn.refl _).alloc _) ‹_›)
    (first
      | (go_at_call 35; refine (rLen5 y m _ HM.out.y HM.out.2.1 HM.out.2.2).mono ?_; rintro e wa ⟨rfl, rfl⟩))
  all_goals
    clear hS6
    obtain ⟨uf10, c7, c8, c9⟩ := (‹Dn W1 _ ∧ _› : _ ∧ _)
    have l11 := Nat.lt_of_lt_of_le l5 uf10.size
    clear l5
    have vuf10 := uW1.trans uf10
    clear uf10 uW1 HShS6
    go_wp2_with fail
    go_ret
    exact ⟨rfl, vuf10⟩
theorem rc6Chk (y m d e : Int) (w : World) (he : cErr y m d = e) :
    Calls Tryz.prog 10 #[.agg #[.int .i64 y, .int .i64 m, .int .i64 d]] w fun ro w' => ro = .returned (.int .i64 e) ∧ Dn w w' := by
  subst he
  unfold cErr
  by_cases h1 : IsY y
  · rw [if_neg (fun h => h h1)]
    by_cases h2 : 1 ≤ m ∧ m ≤ 12
    · rw [if_neg (fun h => h h2)]
      by_cases h3 : d < 1
      · rw [if_pos (by omega)]; exact rc6Chk_d1 y m d ⟨h1, h2⟩ h3 w
      · by_cases h4 : Cal.mlen y m < d
        · rw [if_pos (by omega)]; exact rc6Chk_d2 y m d ⟨h1, h2⟩ h3 h4 w
        · rw [if_neg (by omega)]; exact rc6Chk_ok y m d ⟨h1, h2⟩ h3 h4 w
    · rw [if_pos h2]; exact rc6Chk_m y m d h1 h2 w
  · rw [if_pos h1]; exact rc6Chk_y y m d h1 w
set_option maxHeartbeats 4000000 in
set_option maxRecDepth 100000 in
theorem rc6Day (y m d : Int) (h : IsM y m) (h1 : 1 ≤ d) (h2 : d ≤ Cal.mlen y m) (w : World) :
    Calls Tryz.prog 15 #[.agg #[.int .i64 y, .int .i64 m, .int .i64 d]] w fun ro w' => ro = .returned (.int .i64 (Cal.sm y m + d - 1)) ∧ Dn w w' := by
  have hb := sm_bd y m h
  have hl := Cal.mlen_bd y m
  have w1 : IntKind.i64.wrap (d - 1) = d - 1 := IntWalk.i64_in _ (by omega)
  have w2 : IntKind.i64.wrap (Cal.sm y m + (d - 1)) = Cal.sm y m + (d - 1) := IntWalk.i64_in _ (by omega)
  have HM := Lib.hid h
  clear h
  go_enter Tryz.func15, Tryz.ntmps15
  go_wp2_with fail
  obtain ⟨W1, hW1⟩ : ∃ W1, W1 = w.alloc (.cells #[.int .i64 y, .int .i64 m, .int .i64 d] 23) := ⟨_, rfl⟩
  have uW1 : Dn w W1 := by rw [hW1]; exact (Dn.refl _).alloc _
  have c2 : W1.cell? ⟨w.heap.size, 0, none⟩ = some (.int .i64 y) := by rw [hW1]; simp [go_sem]
  have c3 : W1.cell? ⟨w.heap.size, 1, none⟩ = some (.int .i64 m) := by rw [hW1]; simp [go_sem]
  have c4 : W1.cell? ⟨w.heap.size, 2, none⟩ = some (.int .i64 d) := by rw [hW1]; simp [go_sem]
  have l5 : w.heap.size < W1.heap.size := by rw [hW1]; simp <;> omega
  rw [← hW1]
  clear hW1
  have hS6 := kdVf_3 (W := W1) (Dn.refl _) ⟨Dn.refl _, c2, c3, c4⟩
  have HShS6 := Lib.hid hS6
  clear c2 c3 c4
  go_region_held3 (fun w' => Dn W1 w' ∧ w'.cell? ⟨w.heap.size, 0, none⟩ = some (.int .i64 y) ∧ w'.cell? ⟨w.heap.size, 1, none⟩ = some (.int .i64 m) ∧ w'.cell? ⟨w.heap.size, 2, none⟩ = some (.int .i64 d))
    (first | exact kdVf_3 ((Dn.refl _).drew) hS6 | exact kdVf_3 ‹Dn _ _› ‹_› | exact kdVf_3 (Up.dn ‹Up _ _›) ‹_› | assumption | exact kdVf_3 ((Dn.refl _).alloc _) ‹_›)
    (first
      | (go_at_call 39; refine (rStart5 y m _ HM.out).mono ?_; rintro e wa ⟨rfl, rfl⟩))
  all_goals
    clear hS6
    obtain ⟨uf10, c7, c8, c9⟩ := (‹Dn W1 _ ∧ _› : _ ∧ _)
    have l11 := Nat.lt_of_lt_of_le l5 uf10.size
    clear l5
    have vuf10 := uW1.trans uf10
    clear uf10 uW1 HShS6
    go_wp2_with fail
    go_ret
    exact ⟨ret1_i (by omega), vuf10⟩
set_option maxHeartbeats 4000000 in
set_option maxRecDepth 100000 in
theorem rc6Of (d : Int) (hd : I64 d) (h : IsY (Cal.yr d)) (w : World) :
    Calls Tryz.prog 31 #[.int .i64 d] w fun ro w' => ro = .returned (.agg #[.int .i64 (Cal.yr d), .int .i64 (mo d), .int .i64 (d - Cal.sm (Cal.yr d) (mo d) + 1)]) ∧ Dn w w' := by
  obtain ⟨m1, m2, m3, m4⟩ := mo_spec d
  have hM : IsM (Cal.yr d) (mo d) := ⟨h, m1, m2⟩
  have hb := sm_bd _ _ hM
  rw [sm_succ _ _ m1 m2] at m4
  have hl := Cal.mlen_bd (Cal.yr d) (mo d)
  have HD := Lib.hid hd
  have HY := Lib.hid h
  have HM := Lib.hid hM
  clear hd h hM
  go_enter Tryz.func31, Tryz.ntmps31
  go_wp2_with fail
  obtain ⟨W1, hW1⟩ : ∃ W1, W1 = w.alloc (.cells #[.int .i64 0, .int .i64 0, .int .i64 0] 23) := ⟨_, rfl⟩
  have uW1 : Dn w W1 := by rw [hW1]; exact (Dn.refl _).alloc _
  have c2 : W1.cell? ⟨w.heap.size, 0, none⟩ = some (.int .i64 0) := by rw [hW1]; simp [go_sem]
  have c3 : W1.cell? ⟨w.heap.size, 1, none⟩ = some (.int .i64 0) := by rw [hW1]; simp [go_sem]
  have c4 : W1.cell? ⟨w.heap.size, 2, none⟩ = some (.int .i64 0) := by rw [hW1]; simp [go_sem]
  have l5 : w.heap.size < W1.heap.size := by rw [hW1]; simp <;> omega
  have f6 : W1.frozen? ⟨w.heap.size, 0, none⟩ = false := by rw [hW1]; simp [go_sem]
  have f7 : W1.frozen? ⟨w.heap.size, 1, none⟩ = false := by rw [hW1]; simp [go_sem]
  have f8 : W1.frozen? ⟨w.heap.size, 2, none⟩ = false := by rw [hW1]; simp [go_sem]
  rw [← hW1]
  clear hW1
  refine (rOf5 d _ HD.out HY.out).mono ?_
  rintro e w1 ⟨rfl, rfl⟩
  go_wp2_with fail
  refine (rStart5 (Cal.yr d) (mo d) _ HM.out).mono ?_
  rintro e w2 ⟨rfl, rfl⟩
  go_wp2_with fail
  exact bodyPost_ret (v := .agg #[.int .i64 (Cal.yr d), .int .i64 (mo d), .int .i64 (d - Cal.sm (Cal.yr d) (mo d) + 1)]) (by simp [results, Tryz.results31, go_sem, c2, c3, c4, f6, f7, f8] <;> omega) rfl ⟨rfl, (((uW1.setCell (by simp <;> omega) _).setCell (by simp <;> omega) _).setCell (by simp <;> omega) _)⟩
set_option maxHeartbeats 4000000 in
set_option maxRecDepth 100000 in
theorem rc6Wd (d : Int) (w : World) : Calls Tryz.prog 29 #[.int .i64 d] w fun ro w' => ro = .returned (.int .i64 ((d % 7 + 5) % 7)) ∧ Dn w w' := by
  have hq := Int.mul_tdiv_add_tmod d 7
  have hl := Int.tmod_lt_of_pos d (show (0 : Int) < 7 by decide)
  have hg := Int.lt_tmod_of_pos d (show (0 : Int) < 7 by decide)
  have hr : d.tmod 7 = -6 ∨ d.tmod 7 = -5 ∨ d.tmod 7 = -4 ∨ d.tmod 7 = -3 ∨ d.tmod 7 = -2 ∨ d.tmod 7 = -1 ∨ d.tmod 7 = 0 ∨ d.tmod 7 = 1 ∨ d.tmod 7 = 2 ∨ d.tmod 7 = 3 ∨ d.tmod 7 = 4 ∨ d.tmod 7 = 5 ∨ d.tmod 7 = 6 := by omega
  clear hl hg
  generalize d.tdiv 7 = q at hq
  rcases hr with hr | hr | hr | hr | hr | hr | hr | hr | hr | hr | hr | hr | hr
  · have HW := Lib.hid (show (d % 7 + 5) % 7 = 6 by omega)
    clear hq
    go_enter Tryz.func29, Tryz.ntmps29
    go_wp2_with fail
    refine wp_loop_rounds 1 ?_
    rw [rounds_succ]
    go_wp2_with fail
    refine wp_loop_rounds 7 ?_
    rw [rounds_succ]
    go_wp2_with fail
    rw [rounds_succ]
    go_wp2_with fail
    rw [rounds_succ]
    go_wp2_with fail
    rw [rounds_succ]
    go_wp2_with fail
    rw [rounds_succ]
    go_wp2_with fail
    rw [rounds_succ]
    go_wp2_with fail
    rw [rounds_succ]
    go_wp2_with fail
    go_ret
    exact ⟨ret1_i HW.out.symm, Dn.refl _⟩
  · have HW := Lib.hid (show (d % 7 + 5) % 7 = 0 by omega)
    clear hq
    go_enter Tryz.func29, Tryz.ntmps29
    go_wp2_with fail
    refine wp_loop_rounds 1 ?_
    rw [rounds_succ]
    go_wp2_with fail
    refine wp_loop_rounds 6 ?_
    rw [rounds_succ]
    go_wp2_with fail
    rw [rounds_succ]
    go_wp2_with fail
    rw [rounds_succ]
    go_wp2_with fail
    rw [rounds_succ]
    go_wp2_with fail
    rw [rounds_succ]
    go_wp2_with fail
    rw [rounds_succ]
    go_wp2_with fail
    go_ret
    exact ⟨ret1_i HW.out.symm, Dn.refl _⟩
  · have HW := Lib.hid (show (d % 7 + 5) % 7 = 1 by omega)
    clear hq
    go_enter Tryz.func29, Tryz.ntmps29
    go_wp2_with fail
    refine wp_loop_rounds 1 ?_
    rw [rounds_succ]
    go_wp2_with fail
    refine wp_loop_rounds 5 ?_
    rw [rounds_succ]
    go_wp2_with fail
    rw [rounds_succ]
    go_wp2_with fail
    rw [rounds_succ]
    go_wp2_with fail
    rw [rounds_succ]
    go_wp2_with fail
    rw [rounds_succ]
    go_wp2_with fail
    go_ret
    exact ⟨ret1_i HW.out.symm, Dn.refl _⟩
  · have HW := Lib.hid (show (d % 7 + 5) % 7 = 2 by omega)
    clear hq
    go_enter Tryz.func29, Tryz.ntmps29
    go_wp2_with fail
    refine wp_loop_rounds 1 ?_
    rw [rounds_succ]
    go_wp2_with fail
    refine wp_loop_rounds 4 ?_
    rw [rounds_succ]
    go_wp2_with fail
    rw [rounds_succ]
    go_wp2_with fail
    rw [rounds_succ]
    go_wp2_with fail
    rw [rounds_succ]
    go_wp2_with fail
    go_ret
    exact ⟨ret1_i HW.out.symm, Dn.refl _⟩
  · have HW := Lib.hid (show (d % 7 + 5) % 7 = 3 by omega)
    clear hq
    go_enter Tryz.func29, Tryz.ntmps29
    go_wp2_with fail
    refine wp_loop_rounds 1 ?_
    rw [rounds_succ]
    go_wp2_with fail
    refine wp_loop_rounds 3 ?_
    rw [rounds_succ]
    go_wp2_with fail
    rw [rounds_succ]
    go_wp2_with fail
    rw [rounds_succ]
    go_wp2_with fail
    go_ret
    exact ⟨ret1_i HW.out.symm, Dn.refl _⟩
  · have HW := Lib.hid (show (d % 7 + 5) % 7 = 4 by omega)
    clear hq
    go_enter Tryz.func29, Tryz.ntmps29
    go_wp2_with fail
    refine wp_loop_rounds 1 ?_
    rw [rounds_succ]
    go_wp2_with fail
    refine wp_loop_rounds 2 ?_
    rw [rounds_succ]
    go_wp2_with fail
    rw [rounds_succ]
    go_wp2_with fail
    go_ret
    exact ⟨ret1_i HW.out.symm, Dn.refl _⟩
  · have HW := Lib.hid (show (d % 7 + 5) % 7 = 5 by omega)
    clear hq
    go_enter Tryz.func29, Tryz.ntmps29
    go_wp2_with fail
    refine wp_loop_rounds 1 ?_
    rw [rounds_succ]
    go_wp2_with fail
    refine wp_loop_rounds 1 ?_
    rw [rounds_succ]
    go_wp2_with fail
    go_ret
    exact ⟨ret1_i HW.out.symm, Dn.refl _⟩
  · have HW := Lib.hid (show (d % 7 + 5) % 7 = 6 by omega)
    clear hq
    go_enter Tryz.func29, Tryz.ntmps29
    go_wp2_with fail
    refine wp_loop_rounds 2 ?_
    rw [rounds_succ]
    go_wp2_with fail
    rw [rounds_succ]
    go_wp2_with fail
    refine wp_loop_rounds 1 ?_
    rw [rounds_succ]
    go_wp2_with fail
    go_ret
    exact ⟨ret1_i HW.out.symm, Dn.refl _⟩
  · have HW := Lib.hid (show (d % 7 + 5) % 7 = 0 by omega)
    clear hq
    go_enter Tryz.func29, Tryz.ntmps29
    go_wp2_with fail
    refine wp_loop_rounds 3 ?_
    rw [rounds_succ]
    go_wp2_with fail
    rw [rounds_succ]
    go_wp2_with fail
    rw [rounds_succ]
    go_wp2_with fail
    refine wp_loop_rounds 1 ?_
    rw [rounds_succ]
    go_wp2_with fail
    go_ret
    exact ⟨ret1_i HW.out.symm, Dn.refl _⟩
  · have HW := Lib.hid (show (d % 7 + 5) % 7 = 1 by omega)
    clear hq
    go_enter Tryz.func29, Tryz.ntmps29
    go_wp2_with fail
    refine wp_loop_rounds 4 ?_
    rw [rounds_succ]
    go_wp2_with fail
    rw [rounds_succ]
    go_wp2_with fail
    rw [rounds_succ]
    go_wp2_with fail
    rw [rounds_succ]
    go_wp2_with fail
    refine wp_loop_rounds 1 ?_
    rw [rounds_succ]
    go_wp2_with fail
    go_ret
    exact ⟨ret1_i HW.out.symm, Dn.refl _⟩
  · have HW := Lib.hid (show (d % 7 + 5) % 7 = 2 by omega)
    clear hq
    go_enter Tryz.func29, Tryz.ntmps29
    go_wp2_with fail
    refine wp_loop_rounds 5 ?_
    rw [rounds_succ]
    go_wp2_with fail
    rw [rounds_succ]
    go_wp2_with fail
    rw [rounds_succ]
    go_wp2_with fail
    rw [rounds_succ]
    go_wp2_with fail
    rw [rounds_succ]
    go_wp2_with fail
    refine wp_loop_rounds 1 ?_
    rw [rounds_succ]
    go_wp2_with fail
    go_ret
    exact ⟨ret1_i HW.out.symm, Dn.refl _⟩
  · have HW := Lib.hid (show (d % 7 + 5) % 7 = 3 by omega)
    clear hq
    go_enter Tryz.func29, Tryz.ntmps29
    go_wp2_with fail
    refine wp_loop_rounds 6 ?_
    rw [rounds_succ]
    go_wp2_with fail
    rw [rounds_succ]
    go_wp2_with fail
    rw [rounds_succ]
    go_wp2_with fail
    rw [rounds_succ]
    go_wp2_with fail
    rw [rounds_succ]
    go_wp2_with fail
    rw [rounds_succ]
    go_wp2_with fail
    refine wp_loop_rounds 1 ?_
    rw [rounds_succ]
    go_wp2_with fail
    go_ret
    exact ⟨ret1_i HW.out.symm, Dn.refl _⟩
  · have HW := Lib.hid (show (d % 7 + 5) % 7 = 4 by omega)
    clear hq
    go_enter Tryz.func29, Tryz.ntmps29
    go_wp2_with fail
    refine wp_loop_rounds 7 ?_
    rw [rounds_succ]
    go_wp2_with fail
    rw [rounds_succ]
    go_wp2_with fail
    rw [rounds_succ]
    go_wp2_with fail
    rw [rounds_succ]
    go_wp2_with fail
    rw [rounds_succ]
    go_wp2_with fail
    rw [rounds_succ]
    go_wp2_with fail
    rw [rounds_succ]
    go_wp2_with fail
    refine wp_loop_rounds 1 ?_
    rw [rounds_succ]
    go_wp2_with fail
    go_ret
    exact ⟨ret1_i HW.out.symm, Dn.refl _⟩
theorem two_plain (n : Int) (h0 : 0 ≤ n) (h1 : n < 100) : strOfNums [48 + n / 10, 48 + n % 10] = bA (padd 2 (dcm n.natAbs)) := by
  obtain ⟨k, rfl⟩ : ∃ k : Nat, n = k := ⟨n.toNat, by omega⟩
  have hk : k < 100 := by omega
  have e0 : strOfNums [48 + (k : Int) / 10, 48 + (k : Int) % 10] = bA [UInt8.ofNat (48 + k / 10), UInt8.ofNat (48 + k % 10)] := by
    unfold strOfNums
    have a1 : (48 + (k : Int) / 10).toNat = 48 + k / 10 := by omega
    have a2 : (48 + (k : Int) % 10).toNat = 48 + k % 10 := by omega
    simp [a1, a2]
  rw [e0]
  congr 1
  simp only [Int.natAbs_natCast]
  unfold dcm
  by_cases hz : k = 0
  · subst hz; decide
  · rw [if_neg hz]
    unfold rd
    by_cases ht : k < 10
    · rw [Dg.dl_pos hz, show k / 10 = 0 by omega, Dg.dl_zero, show k % 10 = k by omega]
      simp [padd, Dg.ch]
    · rw [Dg.dl_pos hz, Dg.dl_pos (show k / 10 ≠ 0 by omega), show k / 10 / 10 = 0 by omega, Dg.dl_zero, show k / 10 % 10 = k / 10 by omega]
      simp [padd, Dg.ch]
      rw [show ((k : Int) / 10).toNat = k / 10 by omega, show ((k : Int) % 10).toNat = k % 10 by omega]
      exact ⟨rfl, rfl⟩
set_option maxHeartbeats 4000000 in
set_option maxRecDepth 100000 in
theorem rc6Two (n : Int) (h0 : 0 ≤ n) (h1 : n < 100) (w : World) : Calls Tryz.prog 51 #[.int .i64 n] w fun ro w' => ro = .returned (.string (bA (padd 2 (dcm n.natAbs)))) ∧ Dn w w' := by
  have e1 : n.tdiv 10 = n / 10 := Int.tdiv_eq_ediv_of_nonneg h0
  have e2 : n.tmod 10 = n % 10 := Int.tmod_eq_emod_of_nonneg h0
  have w1 : IntKind.u8.wrap (48 + n / 10) = 48 + n / 10 := IntWalk.u8_in _ (by omega)
  have w2 : IntKind.u8.wrap (48 + n % 10) = 48 + n % 10 := IntWalk.u8_in _ (by omega)
  go_enter Tryz.func51, Tryz.ntmps51
  have hc := conv_own (OwnD.mk (w := w.alloc (.cells #[.int .u8 (48 + n / 10), .int .u8 (48 + n % 10)] 5)) (base := 0) (v := .slice (some ⟨w.heap.size, 0, none⟩) 2 2) (l := [48 + n / 10, 48 + n % 10]) (World.ownsRow_lit (base := 0) (e := 5) (size := 1) w #[.int .u8 (48 + n / 10), .int .u8 (48 + n % 10)] 2 (Nat.zero_le _) (by unfold maxLen; omega) rfl)) (by simp)
  rw [two_plain n h0 h1] at hc
  go_wp2_with fail
  go_ret
  exact ⟨rfl, (Dn.refl _).alloc _⟩
theorem dig_no {s : ByteArray} {k : Nat} (hk : k < s.size) (h : ¬ Dg.isD s[k]) : ¬ AllD s.data.toList := by
  intro hA
  refine h (hA _ ?_)
  have := get_at s k hk
  exact List.mem_of_getElem? this
set_option maxHeartbeats 4000000 in
set_option maxRecDepth 100000 in
theorem rc6Dig (s : ByteArray) (hs : s.size ≤ 1000) (w : World) : Calls Tryz.prog 52 #[.string s] w fun ro w' => ro = .returned (.bool (decide (AllD s.data.toList))) ∧ w = w' := by
  go_enter Tryz.func52, Tryz.ntmps52
  go_wp2_with fail
  go_loop [3] (fun kv => ∃ k : Nat, k ≤ s.size ∧ kv = .int .i64 k ∧ ∀ c ∈ s.data.toList.take k, Dg.isD c) (fun kv => ((s.size : Int) - intOf kv).toNat)
  case atStart => exact ⟨0, by omega, rfl, by simp⟩
  case round =>
    obtain ⟨k, hk, rfl, hall⟩ := hrel
    by_cases hlt : k < s.size
    · have q1 : decide ((k : Int) < s.size) = true := by simp; omega
      by_cases hd : Dg.isD s[k]
      · have HALL := Lib.hid (all_step hlt hall hd)
        have g1 : decide ((s[k].toNat : Int) < 48) = false := by unfold Dg.isD at hd; simp; omega
        have g2 : decide (57 < (s[k].toNat : Int)) = false := by unfold Dg.isD at hd; simp; omega
        have n1 : ¬ s[k].toNat < 48 := by unfold Dg.isD at hd; omega
        have n2 : ¬ 57 < s[k].toNat := by unfold Dg.isD at hd; omega
        clear hd hall
        go_wp2_with fail
        go_round
        case rel => exact ⟨k + 1, by omega, by simp, HALL.out⟩
        case measure => simp [intOf]; omega
      · have HNO := Lib.hid (decide_eq_false (dig_no hlt hd))
        by_cases h48 : s[k].toNat < 48
        · have g1 : decide ((s[k].toNat : Int) < 48) = true := by simp; omega
          clear hd hall
          go_wp2_with fail
          go_ret
          exact ⟨by rw [HNO.out]; rfl, rfl⟩
        · have g1 : decide ((s[k].toNat : Int) < 48) = false := by simp; omega
          have n2 : 57 < s[k].toNat := by unfold Dg.isD at hd; omega
          have g2 : decide (57 < (s[k].toNat : Int)) = true := by simp; omega
          clear hd hall
          go_wp2_with fail
          go_ret
          exact ⟨by rw [HNO.out]; rfl, rfl⟩
    · have hke : k = s.size := by omega
      have HY : Hid (decide (AllD s.data.toList) = true) := by
        refine Lib.hid (decide_eq_true ?_)
        rw [hke, ← len_is, List.take_length] at hall
        exact hall
      have q1 : decide ((k : Int) < s.size) = false := by simp; omega
      have q2 : ¬ k < s.size := hlt
      clear hall hke
      go_wp2_with fail
      go_ret
      exact ⟨by rw [HY.out]; rfl, rfl⟩
set_option maxHeartbeats 4000000 in
set_option maxRecDepth 100000 in
theorem rc6Cmp_0l (y m d z n f : Int) (h : y < z) (w : World) :
    Calls Tryz.prog 33 #[.agg #[.int .i64 y, .int .i64 m, .int .i64 d], .agg #[.int .i64 z, .int .i64 n, .int .i64 f]] w fun ro w' => ro = .returned (.int .i64 (-1)) ∧ Dn w w' := by
  have t1 : decide (y < z) = true := by simpa using h
  clear h
  go_enter Tryz.func33, Tryz.ntmps33
  go_wp2_with fail
  obtain ⟨W1, hW1⟩ : ∃ W1, W1 = (((w.alloc (.cells #[.int .i64 y, .int .i64 m, .int .i64 d] 23)).alloc (.cells #[.int .i64 z, .int .i64 n, .int .i64 f] 23)).alloc (.cells #[.int .i64 y, .int .i64 m, .int .i64 d] 2)).alloc (.cells #[.int .i64 z, .int .i64 n, .int .i64 f] 2) := ⟨_, rfl⟩
  have uW1 : Dn w W1 := by rw [hW1]; exact ((((Dn.refl _).alloc _).alloc _).alloc _).alloc _
  have c2 : W1.cell? ⟨w.heap.size, 0, none⟩ = some (.int .i64 y) := by rw [hW1]; simp [go_sem]
  have c3 : W1.cell? ⟨w.heap.size, 1, none⟩ = some (.int .i64 m) := by rw [hW1]; simp [go_sem]
  have c4 : W1.cell? ⟨w.heap.size, 2, none⟩ = some (.int .i64 d) := by rw [hW1]; simp [go_sem]
  have l5 : w.heap.size < W1.heap.size := by rw [hW1]; simp <;> omega
  have c6 : W1.cell? ⟨w.heap.size + 1, 0, none⟩ = some (.int .i64 z) := by rw [hW1]; simp [go_sem]
  have c7 : W1.cell? ⟨w.heap.size + 1, 1, none⟩ = some (.int .i64 n) := by rw [hW1]; simp [go_sem]
  have c8 : W1.cell? ⟨w.heap.size + 1, 2, none⟩ = some (.int .i64 f) := by rw [hW1]; simp [go_sem]
  have l9 : w.heap.size + 1 < W1.heap.size := by rw [hW1]; simp <;> omega
  have c10 : W1.cell? ⟨w.heap.size + 1 + 1, 0, none⟩ = some (.int .i64 y) := by rw [hW1]; simp [go_sem]
  have c11 : W1.cell? ⟨w.heap.size + 1 + 1, 1, none⟩ = some (.int .i64 m) := by rw [hW1]; simp [go_sem]
  have c12 : W1.cell? ⟨w.heap.size + 1 + 1, 2, none⟩ = some (.int .i64 d) := by rw [hW1]; simp [go_sem]
  have l13 : w.heap.size + 1 + 1 < W1.heap.size := by rw [hW1]; simp <;> omega
  have c14 : W1.cell? ⟨w.heap.size + 1 + 1 + 1, 0, none⟩ = some (.int .i64 z) := by rw [hW1]; simp [go_sem]
  have c15 : W1.cell? ⟨w.heap.size + 1 + 1 + 1, 1, none⟩ = some (.int .i64 n) := by rw [hW1]; simp [go_sem]
  have c16 : W1.cell? ⟨w.heap.size + 1 + 1 + 1, 2, none⟩ = some (.int .i64 f) := by rw [hW1]; simp [go_sem]
  have l17 : w.heap.size + 1 + 1 + 1 < W1.heap.size := by rw [hW1]; simp <;> omega
  rw [← hW1]
  clear hW1
  refine wp_loop_rounds 1 ?_
  rw [rounds_succ]
  go_wp2_with fail
  have hS18 := kdVf_6 (W := W1) (Dn.refl _) ⟨Dn.refl _, c10, c11, c12, c14, c15, c16⟩
  have k19 := Lib.hid c2
  have k20 := Lib.hid c3
  have k21 := Lib.hid c4
  have k22 := Lib.hid c6
  have k23 := Lib.hid c7
  have k24 := Lib.hid c8
  have HShS18 := Lib.hid hS18
  clear c2 c3 c4 c6 c7 c8 c10 c11 c12 c14 c15 c16
  go_region_held3 (fun w' => Dn W1 w' ∧ w'.cell? ⟨w.heap.size + 1 + 1, 0, none⟩ = some (.int .i64 y) ∧ w'.cell? ⟨w.heap.size + 1 + 1, 1, none⟩ = some (.int .i64 m) ∧ w'.cell? ⟨w.heap.size + 1 + 1, 2, none⟩ = some (.int .i64 d) ∧ w'.cell? ⟨w.heap.size + 1 + 1 + 1, 0, none⟩ = some (.int .i64 z) ∧ w'.cell? ⟨w.heap.size + 1 + 1 + 1, 1, none⟩ = some (.int .i64 n) ∧ w'.cell? ⟨w.heap.size + 1 + 1 + 1, 2, none⟩ = some (.int .i64 f))
    (first | exact kdVf_6 ((Dn.refl _).drew) hS18 | exact kdVf_6 ‹Dn _ _› ‹_› | exact kdVf_6 (Up.dn ‹Up _ _›) ‹_› | assumption | exact kdVf_6 ((Dn.refl _).alloc _) ‹_›)
    (fail)
  all_goals
    clear hS18
    obtain ⟨uf31, c25, c26, c27, c28, c29, c30⟩ := (‹Dn W1 _ ∧ _› : _ ∧ _)
    have l32 := Nat.lt_of_lt_of_le l5 uf31.size
    clear l5
    have l33 := Nat.lt_of_lt_of_le l9 uf31.size
    clear l9
    have l34 := Nat.lt_of_lt_of_le l13 uf31.size
    clear l13
    have l35 := Nat.lt_of_lt_of_le l17 uf31.size
    clear l17
    have c36 := uf31.cell k19.out
    have c37 := uf31.cell k20.out
    have c38 := uf31.cell k21.out
    clear k19 k20 k21
    have c39 := uf31.cell k22.out
    have c40 := uf31.cell k23.out
    have c41 := uf31.cell k24.out
    clear k22 k23 k24
    have vuf31 := uW1.trans uf31
    clear uf31 uW1 HShS18
    go_wp2_with fail
    go_ret
    exact ⟨rfl, vuf31⟩
set_option maxHeartbeats 4000000 in
set_option maxRecDepth 100000 in
theorem rc6Cmp_0g (y m d z n f : Int) (h : z < y) (w : World) :
    Calls Tryz.prog 33 #[.agg #[.int .i64 y, .int .i64 m, .int .i64 d], .agg #[.int .i64 z, .int .i64 n, .int .i64 f]] w fun ro w' => ro = .returned (.int .i64 (1)) ∧ Dn w w' := by
  have t1 : decide (y < z) = false := by simp; omega
  have t2 : decide (z < y) = true := by simpa using h
  clear h
  go_enter Tryz.func33, Tryz.ntmps33
  go_wp2_with fail
  obtain ⟨W1, hW1⟩ : ∃ W1, W1 = (((w.alloc (.cells #[.int .i64 y, .int .i64 m, .int .i64 d] 23)).alloc (.cells #[.int .i64 z, .int .i64 n, .int .i64 f] 23)).alloc (.cells #[.int .i64 y, .int .i64 m, .int .i64 d] 2)).alloc (.cells #[.int .i64 z, .int .i64 n, .int .i64 f] 2) := ⟨_, rfl⟩
  have uW1 : Dn w W1 := by rw [hW1]; exact ((((Dn.refl _).alloc _).alloc _).alloc _).alloc _
  have c2 : W1.cell? ⟨w.heap.size, 0, none⟩ = some (.int .i64 y) := by rw [hW1]; simp [go_sem]
  have c3 : W1.cell? ⟨w.heap.size, 1, none⟩ = some (.int .i64 m) := by rw [hW1]; simp [go_sem]
  have c4 : W1.cell? ⟨w.heap.size, 2, none⟩ = some (.int .i64 d) := by rw [hW1]; simp [go_sem]
  have l5 : w.heap.size < W1.heap.size := by rw [hW1]; simp <;> omega
  have c6 : W1.cell? ⟨w.heap.size + 1, 0, none⟩ = some (.int .i64 z) := by rw [hW1]; simp [go_sem]
  have c7 : W1.cell? ⟨w.heap.size + 1, 1, none⟩ = some (.int .i64 n) := by rw [hW1]; simp [go_sem]
  have c8 : W1.cell? ⟨w.heap.size + 1, 2, none⟩ = some (.int .i64 f) := by rw [hW1]; simp [go_sem]
  have l9 : w.heap.size + 1 < W1.heap.size := by rw [hW1]; simp <;> omega
  have c10 : W1.cell? ⟨w.heap.size + 1 + 1, 0, none⟩ = some (.int .i64 y) := by rw [hW1]; simp [go_sem]
  have c11 : W1.cell? ⟨w.heap.size + 1 + 1, 1, none⟩ = some (.int .i64 m) := by rw [hW1]; simp [go_sem]
  have c12 : W1.cell? ⟨w.heap.size + 1 + 1, 2, none⟩ = some (.int .i64 d) := by rw [hW1]; simp [go_sem]
  have l13 : w.heap.size + 1 + 1 < W1.heap.size := by rw [hW1]; simp <;> omega
  have c14 : W1.cell? ⟨w.heap.size + 1 + 1 + 1, 0, none⟩ = some (.int .i64 z) := by rw [hW1]; simp [go_sem]
  have c15 : W1.cell? ⟨w.heap.size + 1 + 1 + 1, 1, none⟩ = some (.int .i64 n) := by rw [hW1]; simp [go_sem]
  have c16 : W1.cell? ⟨w.heap.size + 1 + 1 + 1, 2, none⟩ = some (.int .i64 f) := by rw [hW1]; simp [go_sem]
  have l17 : w.heap.size + 1 + 1 + 1 < W1.heap.size := by rw [hW1]; simp <;> omega
  rw [← hW1]
  clear hW1
  refine wp_loop_rounds 1 ?_
  rw [rounds_succ]
  go_wp2_with fail
  have hS18 := kdVf_6 (W := W1) (Dn.refl _) ⟨Dn.refl _, c10, c11, c12, c14, c15, c16⟩
  have k19 := Lib.hid c2
  have k20 := Lib.hid c3
  have k21 := Lib.hid c4
  have k22 := Lib.hid c6
  have k23 := Lib.hid c7
  have k24 := Lib.hid c8
  have HShS18 := Lib.hid hS18
  clear c2 c3 c4 c6 c7 c8 c10 c11 c12 c14 c15 c16
  go_region_held3 (fun w' => Dn W1 w' ∧ w'.cell? ⟨w.heap.size + 1 + 1, 0, none⟩ = some (.int .i64 y) ∧ w'.cell? ⟨w.heap.size + 1 + 1, 1, none⟩ = some (.int .i64 m) ∧ w'.cell? ⟨w.heap.size + 1 + 1, 2, none⟩ = some (.int .i64 d) ∧ w'.cell? ⟨w.heap.size + 1 + 1 + 1, 0, none⟩ = some (.int .i64 z) ∧ w'.cell? ⟨w.heap.size + 1 + 1 + 1, 1, none⟩ = some (.int .i64 n) ∧ w'.cell? ⟨w.heap.size + 1 + 1 + 1, 2, none⟩ = some (.int .i64 f))
    (first | exact kdVf_6 ((Dn.refl _).drew) hS18 | exact kdVf_6 ‹Dn _ _› ‹_› | exact kdVf_6 (Up.dn ‹Up _ _›) ‹_› | assumption | exact kdVf_6 ((Dn.refl _).alloc _) ‹_›)
    (fail)
  all_goals
    clear hS18
    obtain ⟨uf31, c25, c26, c27, c28, c29, c30⟩ := (‹Dn W1 _ ∧ _› : _ ∧ _)
    have l32 := Nat.lt_of_lt_of_le l5 uf31.size
    clear l5
    have l33 := Nat.lt_of_lt_of_le l9 uf31.size
    clear l9
    have l34 := Nat.lt_of_lt_of_le l13 uf31.size
    clear l13
    have l35 := Nat.lt_of_lt_of_le l17 uf31.size
    clear l17
    have c36 := uf31.cell k19.out
    have c37 := uf31.cell k20.out
    have c38 := uf31.cell k21.out
    clear k19 k20 k21
    have c39 := uf31.cell k22.out
    have c40 := uf31.cell k23.out
    have c41 := uf31.cell k24.out
    clear k22 k23 k24
    have vuf31 := uW1.trans uf31
    clear uf31 uW1 HShS18
    go_wp2_with fail
    have hS42 := kdVf_6 (W := W1.drew) (Dn.refl _) ⟨Dn.refl _, c25, c26, c27, c28, c29, c30⟩
    have k43 := Lib.hid c36
    have k44 := Lib.hid c37
    have k45 := Lib.hid c38
    have k46 := Lib.hid c39
    have k47 := Lib.hid c40
    have k48 := Lib.hid c41
    have HShS42 := Lib.hid hS42
    clear c36 c37 c38 c39 c40 c41 c25 c26 c27 c28 c29 c30
    go_region_held3 (fun w' => Dn W1.drew w' ∧ w'.cell? ⟨w.heap.size + 1 + 1, 0, none⟩ = some (.int .i64 y) ∧ w'.cell? ⟨w.heap.size + 1 + 1, 1, none⟩ = some (.int .i64 m) ∧ w'.cell? ⟨w.heap.size + 1 + 1, 2, none⟩ = some (.int .i64 d) ∧ w'.cell? ⟨w.heap.size + 1 + 1 + 1, 0, none⟩ = some (.int .i64 z) ∧ w'.cell? ⟨w.heap.size + 1 + 1 + 1, 1, none⟩ = some (.int .i64 n) ∧ w'.cell? ⟨w.heap.size + 1 + 1 + 1, 2, none⟩ = some (.int .i64 f))
      (first | exact kdVf_6 ((Dn.refl _).drew) hS42 | exact kdVf_6 ‹Dn _ _› ‹_› | exact kdVf_6 (Up.dn ‹Up _ _›) ‹_› | assumption | exact kdVf_6 ((Dn.refl _).alloc _) ‹_›)
      (fail)
    all_goals
      clear hS42
      obtain ⟨uf55, c49, c50, c51, c52, c53, c54⟩ := (‹Dn W1.drew _ ∧ _› : _ ∧ _)
      have l56 := Nat.lt_of_lt_of_le l32 uf55.size
      clear l32
      have l57 := Nat.lt_of_lt_of_le l33 uf55.size
      clear l33
      have l58 := Nat.lt_of_lt_of_le l34 uf55.size
      clear l34
      have l59 := Nat.lt_of_lt_of_le l35 uf55.size
      clear l35
      have c60 := uf55.cell k43.out
      have c61 := uf55.cell k44.out
      have c62 := uf55.cell k45.out
      clear k43 k44 k45
      have c63 := uf55.cell k46.out
      have c64 := uf55.cell k47.out
      have c65 := uf55.cell k48.out
      clear k46 k47 k48
      have vuf55 := vuf31.trans uf55
      clear uf55 vuf31 HShS42
      go_wp2_with fail
      go_ret
      exact ⟨rfl, vuf55⟩
set_option maxHeartbeats 4000000 in
set_option maxRecDepth 100000 in
theorem rc6Cmp_1l (y m d n f : Int) (h : m < n) (w : World) :
    Calls Tryz.prog 33 #[.agg #[.int .i64 y, .int .i64 m, .int .i64 d], .agg #[.int .i64 y, .int .i64 n, .int .i64 f]] w fun ro w' => ro = .returned (.int .i64 (-1)) ∧ Dn w w' := by
  have a0 : decide (y < y) = false := by simp
  have t1 : decide (m < n) = true := by simpa using h
  clear h
  go_enter Tryz.func33, Tryz.ntmps33
  go_wp2_with fail
  obtain ⟨W1, hW1⟩ : ∃ W1, W1 = (((w.alloc (.cells #[.int .i64 y, .int .i64 m, .int .i64 d] 23)).alloc (.cells #[.int .i64 y, .int .i64 n, .int .i64 f] 23)).alloc (.cells #[.int .i64 y, .int .i64 m, .int .i64 d] 2)).alloc (.cells #[.int .i64 y, .int .i64 n, .int .i64 f] 2) := ⟨_, rfl⟩
  have uW1 : Dn w W1 := by rw [hW1]; exact ((((Dn.refl _).alloc _).alloc _).alloc _).alloc _
  have c2 : W1.cell? ⟨w.heap.size, 0, none⟩ = some (.int .i64 y) := by rw [hW1]; simp [go_sem]
  have c3 : W1.cell? ⟨w.heap.size, 1, none⟩ = some (.int .i64 m) := by rw [hW1]; simp [go_sem]
  have c4 : W1.cell? ⟨w.heap.size, 2, none⟩ = some (.int .i64 d) := by rw [hW1]; simp [go_sem]
  have l5 : w.heap.size < W1.heap.size := by rw [hW1]; simp <;> omega
  have c6 : W1.cell? ⟨w.heap.size + 1, 0, none⟩ = some (.int .i64 y) := by rw [hW1]; simp [go_sem]
  have c7 : W1.cell? ⟨w.heap.size + 1, 1, none⟩ = some (.int .i64 n) := by rw [hW1]; simp [go_sem]
  have c8 : W1.cell? ⟨w.heap.size + 1, 2, none⟩ = some (.int .i64 f) := by rw [hW1]; simp [go_sem]
  have l9 : w.heap.size + 1 < W1.heap.size := by rw [hW1]; simp <;> omega
  have c10 : W1.cell? ⟨w.heap.size + 1 + 1, 0, none⟩ = some (.int .i64 y) := by rw [hW1]; simp [go_sem]
  have c11 : W1.cell? ⟨w.heap.size + 1 + 1, 1, none⟩ = some (.int .i64 m) := by rw [hW1]; simp [go_sem]
  have c12 : W1.cell? ⟨w.heap.size + 1 + 1, 2, none⟩ = some (.int .i64 d) := by rw [hW1]; simp [go_sem]
  have l13 : w.heap.size + 1 + 1 < W1.heap.size := by rw [hW1]; simp <;> omega
  have c14 : W1.cell? ⟨w.heap.size + 1 + 1 + 1, 0, none⟩ = some (.int .i64 y) := by rw [hW1]; simp [go_sem]
  have c15 : W1.cell? ⟨w.heap.size + 1 + 1 + 1, 1, none⟩ = some (.int .i64 n) := by rw [hW1]; simp [go_sem]
  have c16 : W1.cell? ⟨w.heap.size + 1 + 1 + 1, 2, none⟩ = some (.int .i64 f) := by rw [hW1]; simp [go_sem]
  have l17 : w.heap.size + 1 + 1 + 1 < W1.heap.size := by rw [hW1]; simp <;> omega
  rw [← hW1]
  clear hW1
  refine wp_loop_rounds 2 ?_
  rw [rounds_succ]
  go_wp2_with fail
  have hS18 := kdVf_6 (W := W1) (Dn.refl _) ⟨Dn.refl _, c10, c11, c12, c14, c15, c16⟩
  have k19 := Lib.hid c2
  have k20 := Lib.hid c3
  have k21 := Lib.hid c4
  have k22 := Lib.hid c6
  have k23 := Lib.hid c7
  have k24 := Lib.hid c8
  have HShS18 := Lib.hid hS18
  clear c2 c3 c4 c6 c7 c8 c10 c11 c12 c14 c15 c16
  go_region_held3 (fun w' => Dn W1 w' ∧ w'.cell? ⟨w.heap.size + 1 + 1, 0, none⟩ = some (.int .i64 y) ∧ w'.cell? ⟨w.heap.size + 1 + 1, 1, none⟩ = some (.int .i64 m) ∧ w'.cell? ⟨w.heap.size + 1 + 1, 2, none⟩ = some (.int .i64 d) ∧ w'.cell? ⟨w.heap.size + 1 + 1 + 1, 0, none⟩ = some (.int .i64 y) ∧ w'.cell? ⟨w.heap.size + 1 + 1 + 1, 1, none⟩ = some (.int .i64 n) ∧ w'.cell? ⟨w.heap.size + 1 + 1 + 1, 2, none⟩ = some (.int .i64 f))
    (first | exact kdVf_6 ((Dn.refl _).drew) hS18 | exact kdVf_6 ‹Dn _ _› ‹_› | exact kdVf_6 (Up.dn ‹Up _ _›) ‹_› | assumption | exact kdVf_6 ((Dn.refl _).alloc _) ‹_›)
    (fail)
  all_goals
    clear hS18
    obtain ⟨uf31, c25, c26, c27, c28, c29, c30⟩ := (‹Dn W1 _ ∧ _› : _ ∧ _)
    have l32 := Nat.lt_of_lt_of_le l5 uf31.size
    clear l5
    have l33 := Nat.lt_of_lt_of_le l9 uf31.size
    clear l9
    have l34 := Nat.lt_of_lt_of_le l13 uf31.size
    clear l13
    have l35 := Nat.lt_of_lt_of_le l17 uf31.size
    clear l17
    have c36 := uf31.cell k19.out
    have c37 := uf31.cell k20.out
    have c38 := uf31.cell k21.out
    clear k19 k20 k21
    have c39 := uf31.cell k22.out
    have c40 := uf31.cell k23.out
    have c41 := uf31.cell k24.out
    clear k22 k23 k24
    have vuf31 := uW1.trans uf31
    clear uf31 uW1 HShS18
    go_wp2_with fail
    have hS42 := kdVf_6 (W := W1.drew) (Dn.refl _) ⟨Dn.refl _, c25, c26, c27, c28, c29, c30⟩
    have k43 := Lib.hid c36
    have k44 := Lib.hid c37
    have k45 := Lib.hid c38
    have k46 := Lib.hid c39
    have k47 := Lib.hid c40
    have k48 := Lib.hid c41
    have HShS42 := Lib.hid hS42
    clear c36 c37 c38 c39 c40 c41 c25 c26 c27 c28 c29 c30
    go_region_held3 (fun w' => Dn W1.drew w' ∧ w'.cell? ⟨w.heap.size + 1 + 1, 0, none⟩ = some (.int .i64 y) ∧ w'.cell? ⟨w.heap.size + 1 + 1, 1, none⟩ = some (.int .i64 m) ∧ w'.cell? ⟨w.heap.size + 1 + 1, 2, none⟩ = some (.int .i64 d) ∧ w'.cell? ⟨w.heap.size + 1 + 1 + 1, 0, none⟩ = some (.int .i64 y) ∧ w'.cell? ⟨w.heap.size + 1 + 1 + 1, 1, none⟩ = some (.int .i64 n) ∧ w'.cell? ⟨w.heap.size + 1 + 1 + 1, 2, none⟩ = some (.int .i64 f))
      (first | exact kdVf_6 ((Dn.refl _).drew) hS42 | exact kdVf_6 ‹Dn _ _› ‹_› | exact kdVf_6 (Up.dn ‹Up _ _›) ‹_› | assumption | exact kdVf_6 ((Dn.refl _).alloc _) ‹_›)
      (fail)
    all_goals
      clear hS42
      obtain ⟨uf55, c49, c50, c51, c52, c53, c54⟩ := (‹Dn W1.drew _ ∧ _› : _ ∧ _)
      have l56 := Nat.lt_of_lt_of_le l32 uf55.size
      clear l32
      have l57 := Nat.lt_of_lt_of_le l33 uf55.size
      clear l33
      have l58 := Nat.lt_of_lt_of_le l34 uf55.size
      clear l34
      have l59 := Nat.lt_of_lt_of_le l35 uf55.size
      clear l35
      have c60 := uf55.cell k43.out
      have c61 := uf55.cell k44.out
      have c62 := uf55.cell k45.out
      clear k43 k44 k45
      have c63 := uf55.cell k46.out
      have c64 := uf55.cell k47.out
      have c65 := uf55.cell k48.out
      clear k46 k47 k48
      have vuf55 := vuf31.trans uf55
      clear uf55 vuf31 HShS42
      go_wp2_with fail
      rw [rounds_succ]
      go_wp2_with fail
      have hS66 := kdVf_6 (W := W1.drew.drew) (Dn.refl _) ⟨Dn.refl _, c49, c50, c51, c52, c53, c54⟩
      have k67 := Lib.hid c60
      have k68 := Lib.hid c61
      have k69 := Lib.hid c62
      have k70 := Lib.hid c63
      have k71 := Lib.hid c64
      have k72 := Lib.hid c65
      have HShS66 := Lib.hid hS66
      clear c60 c61 c62 c63 c64 c65 c49 c50 c51 c52 c53 c54
      go_region_held3 (fun w' => Dn W1.drew.drew w' ∧ w'.cell? ⟨w.heap.size + 1 + 1, 0, none⟩ = some (.int .i64 y) ∧ w'.cell? ⟨w.heap.size + 1 + 1, 1, none⟩ = some (.int .i64 m) ∧ w'.cell? ⟨w.heap.size + 1 + 1, 2, none⟩ = some (.int .i64 d) ∧ w'.cell? ⟨w.heap.size + 1 + 1 + 1, 0, none⟩ = some (.int .i64 y) ∧ w'.cell? ⟨w.heap.size + 1 + 1 + 1, 1, none⟩ = some (.int .i64 n) ∧ w'.cell? ⟨w.heap.size + 1 + 1 + 1, 2, none⟩ = some (.int .i64 f))
        (first | exact kdVf_6 ((Dn.refl _).drew) hS66 | exact kdVf_6 ‹Dn _ _› ‹_› | exact kdVf_6 (Up.dn ‹Up _ _›) ‹_› | assumption | exact kdVf_6 ((Dn.refl _).alloc _) ‹_›)
        (fail)
      all_goals
        clear hS66
        obtain ⟨uf79, c73, c74, c75, c76, c77, c78⟩ := (‹Dn W1.drew.drew _ ∧ _› : _ ∧ _)
        have l80 := Nat.lt_of_lt_of_le l56 uf79.size
        clear l56
        have l81 := Nat.lt_of_lt_of_le l57 uf79.size
        clear l57
        have l82 := Nat.lt_of_lt_of_le l58 uf79.size
        clear l58
        have l83 := Nat.lt_of_lt_of_le l59 uf79.size
        clear l59
        have c84 := uf79.cell k67.out
        have c85 := uf79.cell k68.out
        have c86 := uf79.cell k69.out
        clear k67 k68 k69
        have c87 := uf79.cell k70.out
        have c88 := uf79.cell k71.out
        have c89 := uf79.cell k72.out
        clear k70 k71 k72
        have vuf79 := vuf55.trans uf79
        clear uf79 vuf55 HShS66
        go_wp2_with fail
        go_ret
        exact ⟨rfl, vuf79⟩
set_option maxHeartbeats 4000000 in
set_option maxRecDepth 100000 in
theorem rc6Cmp_1g (y m d n f : Int) (h : n < m) (w : World) :
    Calls Tryz.prog 33 #[.agg #[.int .i64 y, .int .i64 m, .int .i64 d], .agg #[.int .i64 y, .int .i64 n, .int .i64 f]] w fun ro w' => ro = .returned (.int .i64 (1)) ∧ Dn w w' := by
  have a0 : decide (y < y) = false := by simp
  have t1 : decide (m < n) = false := by simp; omega
  have t2 : decide (n < m) = true := by simpa using h
  clear h
  go_enter Tryz.func33, Tryz.ntmps33
  go_wp2_with fail
  obtain ⟨W1, hW1⟩ : ∃ W1, W1 = (((w.alloc (.cells #[.int .i64 y, .int .i64 m, .int .i64 d] 23)).alloc (.cells #[.int .i64 y, .int .i64 n, .int .i64 f] 23)).alloc (.cells #[.int .i64 y, .int .i64 m, .int .i64 d] 2)).alloc (.cells #[.int .i64 y, .int .i64 n, .int .i64 f] 2) := ⟨_, rfl⟩
  have uW1 : Dn w W1 := by rw [hW1]; exact ((((Dn.refl _).alloc _).alloc _).alloc _).alloc _
  have c2 : W1.cell? ⟨w.heap.size, 0, none⟩ = some (.int .i64 y) := by rw [hW1]; simp [go_sem]
  have c3 : W1.cell? ⟨w.heap.size, 1, none⟩ = some (.int .i64 m) := by rw [hW1]; simp [go_sem]
  have c4 : W1.cell? ⟨w.heap.size, 2, none⟩ = some (.int .i64 d) := by rw [hW1]; simp [go_sem]
  have l5 : w.heap.size < W1.heap.size := by rw [hW1]; simp <;> omega
  have c6 : W1.cell? ⟨w.heap.size + 1, 0, none⟩ = some (.int .i64 y) := by rw [hW1]; simp [go_sem]
  have c7 : W1.cell? ⟨w.heap.size + 1, 1, none⟩ = some (.int .i64 n) := by rw [hW1]; simp [go_sem]
  have c8 : W1.cell? ⟨w.heap.size + 1, 2, none⟩ = some (.int .i64 f) := by rw [hW1]; simp [go_sem]
  have l9 : w.heap.size + 1 < W1.heap.size := by rw [hW1]; simp <;> omega
  have c10 : W1.cell? ⟨w.heap.size + 1 + 1, 0, none⟩ = some (.int .i64 y) := by rw [hW1]; simp [go_sem]
  have c11 : W1.cell? ⟨w.heap.size + 1 + 1, 1, none⟩ = some (.int .i64 m) := by rw [hW1]; simp [go_sem]
  have c12 : W1.cell? ⟨w.heap.size + 1 + 1, 2, none⟩ = some (.int .i64 d) := by rw [hW1]; simp [go_sem]
  have l13 : w.heap.size + 1 + 1 < W1.heap.size := by rw [hW1]; simp <;> omega
  have c14 : W1.cell? ⟨w.heap.size + 1 + 1 + 1, 0, none⟩ = some (.int .i64 y) := by rw [hW1]; simp [go_sem]
  have c15 : W1.cell? ⟨w.heap.size + 1 + 1 + 1, 1, none⟩ = some (.int .i64 n) := by rw [hW1]; simp [go_sem]
  have c16 : W1.cell? ⟨w.heap.size + 1 + 1 + 1, 2, none⟩ = some (.int .i64 f) := by rw [hW1]; simp [go_sem]
  have l17 : w.heap.size + 1 + 1 + 1 < W1.heap.size := by rw [hW1]; simp <;> omega
  rw [← hW1]
  clear hW1
  refine wp_loop_rounds 2 ?_
  rw [rounds_succ]
  go_wp2_with fail
  have hS18 := kdVf_6 (W := W1) (Dn.refl _) ⟨Dn.refl _, c10, c11, c12, c14, c15, c16⟩
  have k19 := Lib.hid c2
  have k20 := Lib.hid c3
  have k21 := Lib.hid c4
  have k22 := Lib.hid c6
  have k23 := Lib.hid c7
  have k24 := Lib.hid c8
  have HShS18 := Lib.hid hS18
  clear c2 c3 c4 c6 c7 c8 c10 c11 c12 c14 c15 c16
  go_region_held3 (fun w' => Dn W1 w' ∧ w'.cell? ⟨w.heap.size + 1 + 1, 0, none⟩ = some (.int .i64 y) ∧ w'.cell? ⟨w.heap.size + 1 + 1, 1, none⟩ = some (.int .i64 m) ∧ w'.cell? ⟨w.heap.size + 1 + 1, 2, none⟩ = some (.int .i64 d) ∧ w'.cell? ⟨w.heap.size + 1 + 1 + 1, 0, none⟩ = some (.int .i64 y) ∧ w'.cell? ⟨w.heap.size + 1 + 1 + 1, 1, none⟩ = some (.int .i64 n) ∧ w'.cell? ⟨w.heap.size + 1 + 1 + 1, 2, none⟩ = some (.int .i64 f))
    (first | exact kdVf_6 ((Dn.refl _).drew) hS18 | exact kdVf_6 ‹Dn _ _› ‹_› | exact kdVf_6 (Up.dn ‹Up _ _›) ‹_› | assumption | exact kdVf_6 ((Dn.refl _).alloc _) ‹_›)
    (fail)
  all_goals
    clear hS18
    obtain ⟨uf31, c25, c26, c27, c28, c29, c30⟩ := (‹Dn W1 _ ∧ _› : _ ∧ _)
    have l32 := Nat.lt_of_lt_of_le l5 uf31.size
    clear l5
    have l33 := Nat.lt_of_lt_of_le l9 uf31.size
    clear l9
    have l34 := Nat.lt_of_lt_of_le l13 uf31.size
    clear l13
    have l35 := Nat.lt_of_lt_of_le l17 uf31.size
    clear l17
    have c36 := uf31.cell k19.out
    have c37 := uf31.cell k20.out
    have c38 := uf31.cell k21.out
    clear k19 k20 k21
    have c39 := uf31.cell k22.out
    have c40 := uf31.cell k23.out
    have c41 := uf31.cell k24.out
    clear k22 k23 k24
    have vuf31 := uW1.trans uf31
    clear uf31 uW1 HShS18
    go_wp2_with fail
    have hS42 := kdVf_6 (W := W1.drew) (Dn.refl _) ⟨Dn.refl _, c25, c26, c27, c28, c29, c30⟩
    have k43 := Lib.hid c36
    have k44 := Lib.hid c37
    have k45 := Lib.hid c38
    have k46 := Lib.hid c39
    have k47 := Lib.hid c40
    have k48 := Lib.hid c41
    have HShS42 := Lib.hid hS42
    clear c36 c37 c38 c39 c40 c41 c25 c26 c27 c28 c29 c30
    go_region_held3 (fun w' => Dn W1.drew w' ∧ w'.cell? ⟨w.heap.size + 1 + 1, 0, none⟩ = some (.int .i64 y) ∧ w'.cell? ⟨w.heap.size + 1 + 1, 1, none⟩ = some (.int .i64 m) ∧ w'.cell? ⟨w.heap.size + 1 + 1, 2, none⟩ = some (.int .i64 d) ∧ w'.cell? ⟨w.heap.size + 1 + 1 + 1, 0, none⟩ = some (.int .i64 y) ∧ w'.cell? ⟨w.heap.size + 1 + 1 + 1, 1, none⟩ = some (.int .i64 n) ∧ w'.cell? ⟨w.heap.size + 1 + 1 + 1, 2, none⟩ = some (.int .i64 f))
      (first | exact kdVf_6 ((Dn.refl _).drew) hS42 | exact kdVf_6 ‹Dn _ _› ‹_› | exact kdVf_6 (Up.dn ‹Up _ _›) ‹_› | assumption | exact kdVf_6 ((Dn.refl _).alloc _) ‹_›)
      (fail)
    all_goals
      clear hS42
      obtain ⟨uf55, c49, c50, c51, c52, c53, c54⟩ := (‹Dn W1.drew _ ∧ _› : _ ∧ _)
      have l56 := Nat.lt_of_lt_of_le l32 uf55.size
      clear l32
      have l57 := Nat.lt_of_lt_of_le l33 uf55.size
      clear l33
      have l58 := Nat.lt_of_lt_of_le l34 uf55.size
      clear l34
      have l59 := Nat.lt_of_lt_of_le l35 uf55.size
      clear l35
      have c60 := uf55.cell k43.out
      have c61 := uf55.cell k44.out
      have c62 := uf55.cell k45.out
      clear k43 k44 k45
      have c63 := uf55.cell k46.out
      have c64 := uf55.cell k47.out
      have c65 := uf55.cell k48.out
      clear k46 k47 k48
      have vuf55 := vuf31.trans uf55
      clear uf55 vuf31 HShS42
      go_wp2_with fail
      rw [rounds_succ]
      go_wp2_with fail
      have hS66 := kdVf_6 (W := W1.drew.drew) (Dn.refl _) ⟨Dn.refl _, c49, c50, c51, c52, c53, c54⟩
      have k67 := Lib.hid c60
      have k68 := Lib.hid c61
      have k69 := Lib.hid c62
      have k70 := Lib.hid c63
      have k71 := Lib.hid c64
      have k72 := Lib.hid c65
      have HShS66 := Lib.hid hS66
      clear c60 c61 c62 c63 c64 c65 c49 c50 c51 c52 c53 c54
      go_region_held3 (fun w' => Dn W1.drew.drew w' ∧ w'.cell? ⟨w.heap.size + 1 + 1, 0, none⟩ = some (.int .i64 y) ∧ w'.cell? ⟨w.heap.size + 1 + 1, 1, none⟩ = some (.int .i64 m) ∧ w'.cell? ⟨w.heap.size + 1 + 1, 2, none⟩ = some (.int .i64 d) ∧ w'.cell? ⟨w.heap.size + 1 + 1 + 1, 0, none⟩ = some (.int .i64 y) ∧ w'.cell? ⟨w.heap.size + 1 + 1 + 1, 1, none⟩ = some (.int .i64 n) ∧ w'.cell? ⟨w.heap.size + 1 + 1 + 1, 2, none⟩ = some (.int .i64 f))
        (first | exact kdVf_6 ((Dn.refl _).drew) hS66 | exact kdVf_6 ‹Dn _ _› ‹_› | exact kdVf_6 (Up.dn ‹Up _ _›) ‹_› | assumption | exact kdVf_6 ((Dn.refl _).alloc _) ‹_›)
        (fail)
      all_goals
        clear hS66
        obtain ⟨uf79, c73, c74, c75, c76, c77, c78⟩ := (‹Dn W1.drew.drew _ ∧ _› : _ ∧ _)
        have l80 := Nat.lt_of_lt_of_le l56 uf79.size
        clear l56
        have l81 := Nat.lt_of_lt_of_le l57 uf79.size
        clear l57
        have l82 := Nat.lt_of_lt_of_le l58 uf79.size
        clear l58
        have l83 := Nat.lt_of_lt_of_le l59 uf79.size
        clear l59
        have c84 := uf79.cell k67.out
        have c85 := uf79.cell k68.out
        have c86 := uf79.cell k69.out
        clear k67 k68 k69
        have c87 := uf79.cell k70.out
        have c88 := uf79.cell k71.out
        have c89 := uf79.cell k72.out
        clear k70 k71 k72
        have vuf79 := vuf55.trans uf79
        clear uf79 vuf55 HShS66
        go_wp2_with fail
        have hS90 := kdVf_6 (W := W1.drew.drew.drew) (Dn.refl _) ⟨Dn.refl _, c73, c74, c75, c76, c77, c78⟩
        have k91 := Lib.hid c84
        have k92 := Lib.hid c85
        have k93 := Lib.hid c86
        have k94 := Lib.hid c87
        have k95 := Lib.hid c88
        have k96 := Lib.hid c89
        have HShS90 := Lib.hid hS90
        clear c84 c85 c86 c87 c88 c89 c73 c74 c75 c76 c77 c78
        go_region_held3 (fun w' => Dn W1.drew.drew.drew w' ∧ w'.cell? ⟨w.heap.size + 1 + 1, 0, none⟩ = some (.int .i64 y) ∧ w'.cell? ⟨w.heap.size + 1 + 1, 1, none⟩ = some (.int .i64 m) ∧ w'.cell? ⟨w.heap.size + 1 + 1, 2, none⟩ = some (.int .i64 d) ∧ w'.cell? ⟨w.heap.size + 1 + 1 + 1, 0, none⟩ = some (.int .i64 y) ∧ w'.cell? ⟨w.heap.size + 1 + 1 + 1, 1, none⟩ = some (.int .i64 n) ∧ w'.cell? ⟨w.heap.size + 1 + 1 + 1, 2, none⟩ = some (.int .i64 f))
          (first | exact kdVf_6 ((Dn.refl _).drew) hS90 | exact kdVf_6 ‹Dn _ _› ‹_› | exact kdVf_6 (Up.dn ‹Up _ _›) ‹_› | assumption | exact kdVf_6 ((Dn.refl _).alloc _) ‹_›)
          (fail)
        all_goals
          clear hS90
          obtain ⟨uf103, c97, c98, c99, c100, c101, c102⟩ := (‹Dn W1.drew.drew.drew _ ∧ _› : _ ∧ _)
          have l104 := Nat.lt_of_lt_of_le l80 uf103.size
          clear l80
          have l105 := Nat.lt_of_lt_of_le l81 uf103.size
          clear l81
          have l106 := Nat.lt_of_lt_of_le l82 uf103.size
          clear l82
          have l107 := Nat.lt_of_lt_of_le l83 uf103.size
          clear l83
          have c108 := uf103.cell k91.out
          have c109 := uf103.cell k92.out
          have c110 := uf103.cell k93.out
          clear k91 k92 k93
          have c111 := uf103.cell k94.out
          have c112 := uf103.cell k95.out
          have c113 := uf103.cell k96.out
          clear k94 k95 k96
          have vuf103 := vuf79.trans uf103
          clear uf103 vuf79 HShS90
          go_wp2_with fail
          go_ret
          exact ⟨rfl, vuf103⟩
set_option maxHeartbeats 4000000 in
set_option maxRecDepth 100000 in
theorem rc6Cmp_2l (y m d f : Int) (h : d < f) (w : World) :
    Calls Tryz.prog 33 #[.agg #[.int .i64 y, .int .i64 m, .int .i64 d], .agg #[.int .i64 y, .int .i64 m, .int .i64 f]] w fun ro w' => ro = .returned (.int .i64 (-1)) ∧ Dn w w' := by
  have a0 : decide (y < y) = false := by simp
  have a1 : decide (m < m) = false := by simp
  have t1 : decide (d < f) = true := by simpa using h
  clear h
  go_enter Tryz.func33, Tryz.ntmps33
  go_wp2_with fail
  obtain ⟨W1, hW1⟩ : ∃ W1, W1 = (((w.alloc (.cells #[.int .i64 y, .int .i64 m, .int .i64 d] 23)).alloc (.cells #[.int .i64 y, .int .i64 m, .int .i64 f] 23)).alloc (.cells #[.int .i64 y, .int .i64 m, .int .i64 d] 2)).alloc (.cells #[.int .i64 y, .int .i64 m, .int .i64 f] 2) := ⟨_, rfl⟩
  have uW1 : Dn w W1 := by rw [hW1]; exact ((((Dn.refl _).alloc _).alloc _).alloc _).alloc _
  have c2 : W1.cell? ⟨w.heap.size, 0, none⟩ = some (.int .i64 y) := by rw [hW1]; simp [go_sem]
  have c3 : W1.cell? ⟨w.heap.size, 1, none⟩ = some (.int .i64 m) := by rw [hW1]; simp [go_sem]
  have c4 : W1.cell? ⟨w.heap.size, 2, none⟩ = some (.int .i64 d) := by rw [hW1]; simp [go_sem]
  have l5 : w.heap.size < W1.heap.size := by rw [hW1]; simp <;> omega
  have c6 : W1.cell? ⟨w.heap.size + 1, 0, none⟩ = some (.int .i64 y) := by rw [hW1]; simp [go_sem]
  have c7 : W1.cell? ⟨w.heap.size + 1, 1, none⟩ = some (.int .i64 m) := by rw [hW1]; simp [go_sem]
  have c8 : W1.cell? ⟨w.heap.size + 1, 2, none⟩ = some (.int .i64 f) := by rw [hW1]; simp [go_sem]
  have l9 : w.heap.size + 1 < W1.heap.size := by rw [hW1]; simp <;> omega
  have c10 : W1.cell? ⟨w.heap.size + 1 + 1, 0, none⟩ = some (.int .i64 y) := by rw [hW1]; simp [go_sem]
  have c11 : W1.cell? ⟨w.heap.size + 1 + 1, 1, none⟩ = some (.int .i64 m) := by rw [hW1]; simp [go_sem]
  have c12 : W1.cell? ⟨w.heap.size + 1 + 1, 2, none⟩ = some (.int .i64 d) := by rw [hW1]; simp [go_sem]
  have l13 : w.heap.size + 1 + 1 < W1.heap.size := by rw [hW1]; simp <;> omega
  have c14 : W1.cell? ⟨w.heap.size + 1 + 1 + 1, 0, none⟩ = some (.int .i64 y) := by rw [hW1]; simp [go_sem]
  have c15 : W1.cell? ⟨w.heap.size + 1 + 1 + 1, 1, none⟩ = some (.int .i64 m) := by rw [hW1]; simp [go_sem]
  have c16 : W1.cell? ⟨w.heap.size + 1 + 1 + 1, 2, none⟩ = some (.int .i64 f) := by rw [hW1]; simp [go_sem]
  have l17 : w.heap.size + 1 + 1 + 1 < W1.heap.size := by rw [hW1]; simp <;> omega
  rw [← hW1]
  clear hW1
  refine wp_loop_rounds 3 ?_
  rw [rounds_succ]
  go_wp2_with fail
  have hS18 := kdVf_6 (W := W1) (Dn.refl _) ⟨Dn.refl _, c10, c11, c12, c14, c15, c16⟩
  have k19 := Lib.hid c2
  have k20 := Lib.hid c3
  have k21 := Lib.hid c4
  have k22 := Lib.hid c6
  have k23 := Lib.hid c7
  have k24 := Lib.hid c8
  have HShS18 := Lib.hid hS18
  clear c2 c3 c4 c6 c7 c8 c10 c11 c12 c14 c15 c16
  go_region_held3 (fun w' => Dn W1 w' ∧ w'.cell? ⟨w.heap.size + 1 + 1, 0, none⟩ = some (.int .i64 y) ∧ w'.cell? ⟨w.heap.size + 1 + 1, 1, none⟩ = some (.int .i64 m) ∧ w'.cell? ⟨w.heap.size + 1 + 1, 2, none⟩ = some (.int .i64 d) ∧ w'.cell? ⟨w.heap.size + 1 + 1 + 1, 0, none⟩ = some (.int .i64 y) ∧ w'.cell? ⟨w.heap.size + 1 + 1 + 1, 1, none⟩ = some (.int .i64 m) ∧ w'.cell? ⟨w.heap.size + 1 + 1 + 1, 2, none⟩ = some (.int .i64 f))
    (first | exact kdVf_6 ((Dn.refl _).drew) hS18 | exact kdVf_6 ‹Dn _ _› ‹_› | exact kdVf_6 (Up.dn ‹Up _ _›) ‹_› | assumption | exact kdVf_6 ((Dn.refl _).alloc _) ‹_›)
    (fail)
  all_goals
    clear hS18
    obtain ⟨uf31, c25, c26, c27, c28, c29, c30⟩ := (‹Dn W1 _ ∧ _› : _ ∧ _)
    have l32 := Nat.lt_of_lt_of_le l5 uf31.size
    clear l5
    have l33 := Nat.lt_of_lt_of_le l9 uf31.size
    clear l9
    have l34 := Nat.lt_of_lt_of_le l13 uf31.size
    clear l13
    have l35 := Nat.lt_of_lt_of_le l17 uf31.size
    clear l17
    have c36 := uf31.cell k19.out
    have c37 := uf31.cell k20.out
    have c38 := uf31.cell k21.out
    clear k19 k20 k21
    have c39 := uf31.cell k22.out
    have c40 := uf31.cell k23.out
    have c41 := uf31.cell k24.out
    clear k22 k23 k24
    have vuf31 := uW1.trans uf31
    clear uf31 uW1 HShS18
    go_wp2_with fail
    have hS42 := kdVf_6 (W := W1.drew) (Dn.refl _) ⟨Dn.refl _, c25, c26, c27, c28, c29, c30⟩
    have k43 := Lib.hid c36
    have k44 := Lib.hid c37
    have k45 := Lib.hid c38
    have k46 := Lib.hid c39
    have k47 := Lib.hid c40
    have k48 := Lib.hid c41
    have HShS42 := Lib.hid hS42
    clear c36 c37 c38 c39 c40 c41 c25 c26 c27 c28 c29 c30
    go_region_held3 (fun w' => Dn W1.drew w' ∧ w'.cell? ⟨w.heap.size + 1 + 1, 0, none⟩ = some (.int .i64 y) ∧ w'.cell? ⟨w.heap.size + 1 + 1, 1, none⟩ = some (.int .i64 m) ∧ w'.cell? ⟨w.heap.size + 1 + 1, 2, none⟩ = some (.int .i64 d) ∧ w'.cell? ⟨w.heap.size + 1 + 1 + 1, 0, none⟩ = some (.int .i64 y) ∧ w'.cell? ⟨w.heap.size + 1 + 1 + 1, 1, none⟩ = some (.int .i64 m) ∧ w'.cell? ⟨w.heap.size + 1 + 1 + 1, 2, none⟩ = some (.int .i64 f))
      (first | exact kdVf_6 ((Dn.refl _).drew) hS42 | exact kdVf_6 ‹Dn _ _› ‹_› | exact kdVf_6 (Up.dn ‹Up _ _›) ‹_› | assumption | exact kdVf_6 ((Dn.refl _).alloc _) ‹_›)
      (fail)
    all_goals
      clear hS42
      obtain ⟨uf55, c49, c50, c51, c52, c53, c54⟩ := (‹Dn W1.drew _ ∧ _› : _ ∧ _)
      have l56 := Nat.lt_of_lt_of_le l32 uf55.size
      clear l32
      have l57 := Nat.lt_of_lt_of_le l33 uf55.size
      clear l33
      have l58 := Nat.lt_of_lt_of_le l34 uf55.size
      clear l34
      have l59 := Nat.lt_of_lt_of_le l35 uf55.size
      clear l35
      have c60 := uf55.cell k43.out
      have c61 := uf55.cell k44.out
      have c62 := uf55.cell k45.out
      clear k43 k44 k45
      have c63 := uf55.cell k46.out
      have c64 := uf55.cell k47.out
      have c65 := uf55.cell k48.out
      clear k46 k47 k48
      have vuf55 := vuf31.trans uf55
      clear uf55 vuf31 HShS42
      go_wp2_with fail
      rw [rounds_succ]
      go_wp2_with fail
      have hS66 := kdVf_6 (W := W1.drew.drew) (Dn.refl _) ⟨Dn.refl _, c49, c50, c51, c52, c53, c54⟩
      have k67 := Lib.hid c60
      have k68 := Lib.hid c61
      have k69 := Lib.hid c62
      have k70 := Lib.hid c63
      have k71 := Lib.hid c64
      have k72 := Lib.hid c65
      have HShS66 := Lib.hid hS66
      clear c60 c61 c62 c63 c64 c65 c49 c50 c51 c52 c53 c54
      go_region_held3 (fun w' => Dn W1.drew.drew w' ∧ w'.cell? ⟨w.heap.size + 1 + 1, 0, none⟩ = some (.int .i64 y) ∧ w'.cell? ⟨w.heap.size + 1 + 1, 1, none⟩ = some (.int .i64 m) ∧ w'.cell? ⟨w.heap.size + 1 + 1, 2, none⟩ = some (.int .i64 d) ∧ w'.cell? ⟨w.heap.size + 1 + 1 + 1, 0, none⟩ = some (.int .i64 y) ∧ w'.cell? ⟨w.heap.size + 1 + 1 + 1, 1, none⟩ = some (.int .i64 m) ∧ w'.cell? ⟨w.heap.size + 1 + 1 + 1, 2, none⟩ = some (.int .i64 f))
        (first | exact kdVf_6 ((Dn.refl _).drew) hS66 | exact kdVf_6 ‹Dn _ _› ‹_› | exact kdVf_6 (Up.dn ‹Up _ _›) ‹_› | assumption | exact kdVf_6 ((Dn.refl _).alloc _) ‹_›)
        (fail)
      all_goals
        clear hS66
        obtain ⟨uf79, c73, c74, c75, c76, c77, c78⟩ := (‹Dn W1.drew.drew _ ∧ _› : _ ∧ _)
        have l80 := Nat.lt_of_lt_of_le l56 uf79.size
        clear l56
        have l81 := Nat.lt_of_lt_of_le l57 uf79.size
        clear l57
        have l82 := Nat.lt_of_lt_of_le l58 uf79.size
        clear l58
        have l83 := Nat.lt_of_lt_of_le l59 uf79.size
        clear l59
        have c84 := uf79.cell k67.out
        have c85 := uf79.cell k68.out
        have c86 := uf79.cell k69.out
        clear k67 k68 k69
        have c87 := uf79.cell k70.out
        have c88 := uf79.cell k71.out
        have c89 := uf79.cell k72.out
        clear k70 k71 k72
        have vuf79 := vuf55.trans uf79
        clear uf79 vuf55 HShS66
        go_wp2_with fail
        have hS90 := kdVf_6 (W := W1.drew.drew.drew) (Dn.refl _) ⟨Dn.refl _, c73, c74, c75, c76, c77, c78⟩
        have k91 := Lib.hid c84
        have k92 := Lib.hid c85
        have k93 := Lib.hid c86
        have k94 := Lib.hid c87
        have k95 := Lib.hid c88
        have k96 := Lib.hid c89
        have HShS90 := Lib.hid hS90
        clear c84 c85 c86 c87 c88 c89 c73 c74 c75 c76 c77 c78
        go_region_held3 (fun w' => Dn W1.drew.drew.drew w' ∧ w'.cell? ⟨w.heap.size + 1 + 1, 0, none⟩ = some (.int .i64 y) ∧ w'.cell? ⟨w.heap.size + 1 + 1, 1, none⟩ = some (.int .i64 m) ∧ w'.cell? ⟨w.heap.size + 1 + 1, 2, none⟩ = some (.int .i64 d) ∧ w'.cell? ⟨w.heap.size + 1 + 1 + 1, 0, none⟩ = some (.int .i64 y) ∧ w'.cell? ⟨w.heap.size + 1 + 1 + 1, 1, none⟩ = some (.int .i64 m) ∧ w'.cell? ⟨w.heap.size + 1 + 1 + 1, 2, none⟩ = some (.int .i64 f))
          (first | exact kdVf_6 ((Dn.refl _).drew) hS90 | exact kdVf_6 ‹Dn _ _› ‹_› | exact kdVf_6 (Up.dn ‹Up _ _›) ‹_› | assumption | exact kdVf_6 ((Dn.refl _).alloc _) ‹_›)
          (fail)
        all_goals
          clear hS90
          obtain ⟨uf103, c97, c98, c99, c100, c101, c102⟩ := (‹Dn W1.drew.drew.drew _ ∧ _› : _ ∧ _)
          have l104 := Nat.lt_of_lt_of_le l80 uf103.size
          clear l80
          have l105 := Nat.lt_of_lt_of_le l81 uf103.size
          clear l81
          have l106 := Nat.lt_of_lt_of_le l82 uf103.size
          clear l82
          have l107 := Nat.lt_of_lt_of_le l83 uf103.size
          clear l83
          have c108 := uf103.cell k91.out
          have c109 := uf103.cell k92.out
          have c110 := uf103.cell k93.out
          clear k91 k92 k93
          have c111 := uf103.cell k94.out
          have c112 := uf103.cell k95.out
          have c113 := uf103.cell k96.out
          clear k94 k95 k96
          have vuf103 := vuf79.trans uf103
          clear uf103 vuf79 HShS90
          go_wp2_with fail
          rw [rounds_succ]
          go_wp2_with fail
          have hS114 := kdVf_6 (W := W1.drew.drew.drew.drew) (Dn.refl _) ⟨Dn.refl _, c97, c98, c99, c100, c101, c102⟩
          have k115 := Lib.hid c108
          have k116 := Lib.hid c109
          have k117 := Lib.hid c110
          have k118 := Lib.hid c111
          have k119 := Lib.hid c112
          have k120 := Lib.hid c113
          have HShS114 := Lib.hid hS114
          clear c108 c109 c110 c111 c112 c113 c97 c98 c99 c100 c101 c102
          go_region_held3 (fun w' => Dn W1.drew.drew.drew.drew w' ∧ w'.cell? ⟨w.heap.size + 1 + 1, 0, none⟩ = some (.int .i64 y) ∧ w'.cell? ⟨w.heap.size + 1 + 1, 1, none⟩ = some (.int .i64 m) ∧ w'.cell? ⟨w.heap.size + 1 + 1, 2, none⟩ = some (.int .i64 d) ∧ w'.cell? ⟨w.heap.size + 1 + 1 + 1, 0, none⟩ = some (.int .i64 y) ∧ w'.cell? ⟨w.heap.size + 1 + 1 + 1, 1, none⟩ = some (.int .i64 m) ∧ w'.cell? ⟨w.heap.size + 1 + 1 + 1, 2, none⟩ = some (.int .i64 f))
            (first | exact kdVf_6 ((Dn.refl _).drew) hS114 | exact kdVf_6 ‹Dn _ _› ‹_› | exact kdVf_6 (Up.dn ‹Up _ _›) ‹_› | assumption | exact kdVf_6 ((Dn.refl _).alloc _) ‹_›)
            (fail)
          all_goals
            clear hS114
            obtain ⟨uf127, c121, c122, c123, c124, c125, c126⟩ := (‹Dn W1.drew.drew.drew.drew _ ∧ _› : _ ∧ _)
            have l128 := Nat.lt_of_lt_of_le l104 uf127.size
            clear l104
            have l129 := Nat.lt_of_lt_of_le l105 uf127.size
            clear l105
            have l130 := Nat.lt_of_lt_of_le l106 uf127.size
            clear l106
            have l131 := Nat.lt_of_lt_of_le l107 uf127.size
            clear l107
            have c132 := uf127.cell k115.out
            have c133 := uf127.cell k116.out
            have c134 := uf127.cell k117.out
            clear k115 k116 k117
            have c135 := uf127.cell k118.out
            have c136 := uf127.cell k119.out
            have c137 := uf127.cell k120.out
            clear k118 k119 k120
            have vuf127 := vuf103.trans uf127
            clear uf127 vuf103 HShS114
            go_wp2_with fail
            go_ret
            exact ⟨rfl, vuf127⟩
set_option maxHeartbeats 4000000 in
set_option maxRecDepth 100000 in
theorem rc6Cmp_2g (y m d f : Int) (h : f < d) (w : World) :
    Calls Tryz.prog 33 #[.agg #[.int .i64 y, .int .i64 m, .int .i64 d], .agg #[.int .i64 y, .int .i64 m, .int .i64 f]] w fun ro w' => ro = .returned (.int .i64 (1)) ∧ Dn w w' := by
  have a0 : decide (y < y) = false := by simp
  have a1 : decide (m < m) = false := by simp
  have t1 : decide (d < f) = false := by simp; omega
  have t2 : decide (f < d) = true := by simpa using h
  clear h
  go_enter Tryz.func33, Tryz.ntmps33
  go_wp2_with fail
  obtain ⟨W1, hW1⟩ : ∃ W1, W1 = (((w.alloc (.cells #[.int .i64 y, .int .i64 m, .int .i64 d] 23)).alloc (.cells #[.int .i64 y, .int .i64 m, .int .i64 f] 23)).alloc (.cells #[.int .i64 y, .int .i64 m, .int .i64 d] 2)).alloc (.cells #[.int .i64 y, .int .i64 m, .int .i64 f] 2) := ⟨_, rfl⟩
  have uW1 : Dn w W1 := by rw [hW1]; exact ((((Dn.refl _).alloc _).alloc _).alloc _).alloc _
  have c2 : W1.cell? ⟨w.heap.size, 0, none⟩ = some (.int .i64 y) := by rw [hW1]; simp [go_sem]
  have c3 : W1.cell? ⟨w.heap.size, 1, none⟩ = some (.int .i64 m) := by rw [hW1]; simp [go_sem]
  have c4 : W1.cell? ⟨w.heap.size, 2, none⟩ = some (.int .i64 d) := by rw [hW1]; simp [go_sem]
  have l5 : w.heap.size < W1.heap.size := by rw [hW1]; simp <;> omega
  have c6 : W1.cell? ⟨w.heap.size + 1, 0, none⟩ = some (.int .i64 y) := by rw [hW1]; simp [go_sem]
  have c7 : W1.cell? ⟨w.heap.size + 1, 1, none⟩ = some (.int .i64 m) := by rw [hW1]; simp [go_sem]
  have c8 : W1.cell? ⟨w.heap.size + 1, 2, none⟩ = some (.int .i64 f) := by rw [hW1]; simp [go_sem]
  have l9 : w.heap.size + 1 < W1.heap.size := by rw [hW1]; simp <;> omega
  have c10 : W1.cell? ⟨w.heap.size + 1 + 1, 0, none⟩ = some (.int .i64 y) := by rw [hW1]; simp [go_sem]
  have c11 : W1.cell? ⟨w.heap.size + 1 + 1, 1, none⟩ = some (.int .i64 m) := by rw [hW1]; simp [go_sem]
  have c12 : W1.cell? ⟨w.heap.size + 1 + 1, 2, none⟩ = some (.int .i64 d) := by rw [hW1]; simp [go_sem]
  have l13 : w.heap.size + 1 + 1 < W1.heap.size := by rw [hW1]; simp <;> omega
  have c14 : W1.cell? ⟨w.heap.size + 1 + 1 + 1, 0, none⟩ = some (.int .i64 y) := by rw [hW1]; simp [go_sem]
  have c15 : W1.cell? ⟨w.heap.size + 1 + 1 + 1, 1, none⟩ = some (.int .i64 m) := by rw [hW1]; simp [go_sem]
  have c16 : W1.cell? ⟨w.heap.size + 1 + 1 + 1, 2, none⟩ = some (.int .i64 f) := by rw [hW1]; simp [go_sem]
  have l17 : w.heap.size + 1 + 1 + 1 < W1.heap.size := by rw [hW1]; simp <;> omega
  rw [← hW1]
  clear hW1
  refine wp_loop_rounds 3 ?_
  rw [rounds_succ]
  go_wp2_with fail
  have hS18 := kdVf_6 (W := W1) (Dn.refl _) ⟨Dn.refl _, c10, c11, c12, c14, c15, c16⟩
  have k19 := Lib.hid c2
  have k20 := Lib.hid c3
  have k21 := Lib.hid c4
  have k22 := Lib.hid c6
  have k23 := Lib.hid c7
  have k24 := Lib.hid c8
  have HShS18 := Lib.hid hS18
  clear c2 c3 c4 c6 c7 c8 c10 c11 c12 c14 c15 c16
  go_region_held3 (fun w' => Dn W1 w' ∧ w'.cell? ⟨w.heap.size + 1 + 1, 0, none⟩ = some (.int .i64 y) ∧ w'.cell? ⟨w.heap.size + 1 + 1, 1, none⟩ = some (.int .i64 m) ∧ w'.cell? ⟨w.heap.size + 1 + 1, 2, none⟩ = some (.int .i64 d) ∧ w'.cell? ⟨w.heap.size + 1 + 1 + 1, 0, none⟩ = some (.int .i64 y) ∧ w'.cell? ⟨w.heap.size + 1 + 1 + 1, 1, none⟩ = some (.int .i64 m) ∧ w'.cell? ⟨w.heap.size + 1 + 1 + 1, 2, none⟩ = some (.int .i64 f))
    (first | exact kdVf_6 ((Dn.refl _).drew) hS18 | exact kdVf_6 ‹Dn _ _› ‹_› | exact kdVf_6 (Up.dn ‹Up _ _›) ‹_› | assumption | exact kdVf_6 ((Dn.refl _).alloc _) ‹_›)
    (fail)
  all_goals
    clear hS18
    obtain ⟨uf31, c25, c26, c27, c28, c29, c30⟩ := (‹Dn W1 _ ∧ _› : _ ∧ _)
    have l32 := Nat.lt_of_lt_of_le l5 uf31.size
    clear l5
    have l33 := Nat.lt_of_lt_of_le l9 uf31.size
    clear l9
    have l34 := Nat.lt_of_lt_of_le l13 uf31.size
    clear l13
    have l35 := Nat.lt_of_lt_of_le l17 uf31.size
    clear l17
    have c36 := uf31.cell k19.out
    have c37 := uf31.cell k20.out
    have c38 := uf31.cell k21.out
    clear k19 k20 k21
    have c39 := uf31.cell k22.out
    have c40 := uf31.cell k23.out
    have c41 := uf31.cell k24.out
    clear k22 k23 k24
    have vuf31 := uW1.trans uf31
    clear uf31 uW1 HShS18
    go_wp2_with fail
    have hS42 := kdVf_6 (W := W1.drew) (Dn.refl _) ⟨Dn.refl _, c25, c26, c27, c28, c29, c30⟩
    have k43 := Lib.hid c36
    have k44 := Lib.hid c37
    have k45 := Lib.hid c38
    have k46 := Lib.hid c39
    have k47 := Lib.hid c40
    have k48 := Lib.hid c41
    have HShS42 := Lib.hid hS42
    clear c36 c37 c38 c39 c40 c41 c25 c26 c27 c28 c29 c30
    go_region_held3 (fun w' => Dn W1.drew w' ∧ w'.cell? ⟨w.heap.size + 1 + 1, 0, none⟩ = some (.int .i64 y) ∧ w'.cell? ⟨w.heap.size + 1 + 1, 1, none⟩ = some (.int .i64 m) ∧ w'.cell? ⟨w.heap.size + 1 + 1, 2, none⟩ = some (.int .i64 d) ∧ w'.cell? ⟨w.heap.size + 1 + 1 + 1, 0, none⟩ = some (.int .i64 y) ∧ w'.cell? ⟨w.heap.size + 1 + 1 + 1, 1, none⟩ = some (.int .i64 m) ∧ w'.cell? ⟨w.heap.size + 1 + 1 + 1, 2, none⟩ = some (.int .i64 f))
      (first | exact kdVf_6 ((Dn.refl _).drew) hS42 | exact kdVf_6 ‹Dn _ _› ‹_› | exact kdVf_6 (Up.dn ‹Up _ _›) ‹_› | assumption | exact kdVf_6 ((Dn.refl _).alloc _) ‹_›)
      (fail)
    all_goals
      clear hS42
      obtain ⟨uf55, c49, c50, c51, c52, c53, c54⟩ := (‹Dn W1.drew _ ∧ _› : _ ∧ _)
      have l56 := Nat.lt_of_lt_of_le l32 uf55.size
      clear l32
      have l57 := Nat.lt_of_lt_of_le l33 uf55.size
      clear l33
      have l58 := Nat.lt_of_lt_of_le l34 uf55.size
      clear l34
      have l59 := Nat.lt_of_lt_of_le l35 uf55.size
      clear l35
      have c60 := uf55.cell k43.out
      have c61 := uf55.cell k44.out
      have c62 := uf55.cell k45.out
      clear k43 k44 k45
      have c63 := uf55.cell k46.out
      have c64 := uf55.cell k47.out
      have c65 := uf55.cell k48.out
      clear k46 k47 k48
      have vuf55 := vuf31.trans uf55
      clear uf55 vuf31 HShS42
      go_wp2_with fail
      rw [rounds_succ]
      go_wp2_with fail
      have hS66 := kdVf_6 (W := W1.drew.drew) (Dn.refl _) ⟨Dn.refl _, c49, c50, c51, c52, c53, c54⟩
      have k67 := Lib.hid c60
      have k68 := Lib.hid c61
      have k69 := Lib.hid c62
      have k70 := Lib.hid c63
      have k71 := Lib.hid c64
      have k72 := Lib.hid c65
      have HShS66 := Lib.hid hS66
      clear c60 c61 c62 c63 c64 c65 c49 c50 c51 c52 c53 c54
      go_region_held3 (fun w' => Dn W1.drew.drew w' ∧ w'.cell? ⟨w.heap.size + 1 + 1, 0, none⟩ = some (.int .i64 y) ∧ w'.cell? ⟨w.heap.size + 1 + 1, 1, none⟩ = some (.int .i64 m) ∧ w'.cell? ⟨w.heap.size + 1 + 1, 2, none⟩ = some (.int .i64 d) ∧ w'.cell? ⟨w.heap.size + 1 + 1 + 1, 0, none⟩ = some (.int .i64 y) ∧ w'.cell? ⟨w.heap.size + 1 + 1 + 1, 1, none⟩ = some (.int .i64 m) ∧ w'.cell? ⟨w.heap.size + 1 + 1 + 1, 2, none⟩ = some (.int .i64 f))
        (first | exact kdVf_6 ((Dn.refl _).drew) hS66 | exact kdVf_6 ‹Dn _ _› ‹_› | exact kdVf_6 (Up.dn ‹Up _ _›) ‹_› | assumption | exact kdVf_6 ((Dn.refl _).alloc _) ‹_›)
        (fail)
      all_goals
        clear hS66
        obtain ⟨uf79, c73, c74, c75, c76, c77, c78⟩ := (‹Dn W1.drew.drew _ ∧ _› : _ ∧ _)
        have l80 := Nat.lt_of_lt_of_le l56 uf79.size
        clear l56
        have l81 := Nat.lt_of_lt_of_le l57 uf79.size
        clear l57
        have l82 := Nat.lt_of_lt_of_le l58 uf79.size
        clear l58
        have l83 := Nat.lt_of_lt_of_le l59 uf79.size
        clear l59
        have c84 := uf79.cell k67.out
        have c85 := uf79.cell k68.out
        have c86 := uf79.cell k69.out
        clear k67 k68 k69
        have c87 := uf79.cell k70.out
        have c88 := uf79.cell k71.out
        have c89 := uf79.cell k72.out
        clear k70 k71 k72
        have vuf79 := vuf55.trans uf79
        clear uf79 vuf55 HShS66
        go_wp2_with fail
        have hS90 := kdVf_6 (W := W1.drew.drew.drew) (Dn.refl _) ⟨Dn.refl _, c73, c74, c75, c76, c77, c78⟩
        have k91 := Lib.hid c84
        have k92 := Lib.hid c85
        have k93 := Lib.hid c86
        have k94 := Lib.hid c87
        have k95 := Lib.hid c88
        have k96 := Lib.hid c89
        have HShS90 := Lib.hid hS90
        clear c84 c85 c86 c87 c88 c89 c73 c74 c75 c76 c77 c78
        go_region_held3 (fun w' => Dn W1.drew.drew.drew w' ∧ w'.cell? ⟨w.heap.size + 1 + 1, 0, none⟩ = some (.int .i64 y) ∧ w'.cell? ⟨w.heap.size + 1 + 1, 1, none⟩ = some (.int .i64 m) ∧ w'.cell? ⟨w.heap.size + 1 + 1, 2, none⟩ = some (.int .i64 d) ∧ w'.cell? ⟨w.heap.size + 1 + 1 + 1, 0, none⟩ = some (.int .i64 y) ∧ w'.cell? ⟨w.heap.size + 1 + 1 + 1, 1, none⟩ = some (.int .i64 m) ∧ w'.cell? ⟨w.heap.size + 1 + 1 + 1, 2, none⟩ = some (.int .i64 f))
          (first | exact kdVf_6 ((Dn.refl _).drew) hS90 | exact kdVf_6 ‹Dn _ _› ‹_› | exact kdVf_6 (Up.dn ‹Up _ _›) ‹_› | assumption | exact kdVf_6 ((Dn.refl _).alloc _) ‹_›)
          (fail)
        all_goals
          clear hS90
          obtain ⟨uf103, c97, c98, c99, c100, c101, c102⟩ := (‹Dn W1.drew.drew.drew _ ∧ _› : _ ∧ _)
          have l104 := Nat.lt_of_lt_of_le l80 uf103.size
          clear l80
          have l105 := Nat.lt_of_lt_of_le l81 uf103.size
          clear l81
          have l106 := Nat.lt_of_lt_of_le l82 uf103.size
          clear l82
          have l107 := Nat.lt_of_lt_of_le l83 uf103.size
          clear l83
          have c108 := uf103.cell k91.out
          have c109 := uf103.cell k92.out
          have c110 := uf103.cell k93.out
          clear k91 k92 k93
          have c111 := uf103.cell k94.out
          have c112 := uf103.cell k95.out
          have c113 := uf103.cell k96.out
          clear k94 k95 k96
          have vuf103 := vuf79.trans uf103
          clear uf103 vuf79 HShS90
          go_wp2_with fail
          rw [rounds_succ]
          go_wp2_with fail
          have hS114 := kdVf_6 (W := W1.drew.drew.drew.drew) (Dn.refl _) ⟨Dn.refl _, c97, c98, c99, c100, c101, c102⟩
          have k115 := Lib.hid c108
          have k116 := Lib.hid c109
          have k117 := Lib.hid c110
          have k118 := Lib.hid c111
          have k119 := Lib.hid c112
          have k120 := Lib.hid c113
          have HShS114 := Lib.hid hS114
          clear c108 c109 c110 c111 c112 c113 c97 c98 c99 c100 c101 c102
          go_region_held3 (fun w' => Dn W1.drew.drew.drew.drew w' ∧ w'.cell? ⟨w.heap.size + 1 + 1, 0, none⟩ = some (.int .i64 y) ∧ w'.cell? ⟨w.heap.size + 1 + 1, 1, none⟩ = some (.int .i64 m) ∧ w'.cell? ⟨w.heap.size + 1 + 1, 2, none⟩ = some (.int .i64 d) ∧ w'.cell? ⟨w.heap.size + 1 + 1 + 1, 0, none⟩ = some (.int .i64 y) ∧ w'.cell? ⟨w.heap.size + 1 + 1 + 1, 1, none⟩ = some (.int .i64 m) ∧ w'.cell? ⟨w.heap.size + 1 + 1 + 1, 2, none⟩ = some (.int .i64 f))
            (first | exact kdVf_6 ((Dn.refl _).drew) hS114 | exact kdVf_6 ‹Dn _ _› ‹_› | exact kdVf_6 (Up.dn ‹Up _ _›) ‹_› | assumption | exact kdVf_6 ((Dn.refl _).alloc _) ‹_›)
            (fail)
          all_goals
            clear hS114
            obtain ⟨uf127, c121, c122, c123, c124, c125, c126⟩ := (‹Dn W1.drew.drew.drew.drew _ ∧ _› : _ ∧ _)
            have l128 := Nat.lt_of_lt_of_le l104 uf127.size
            clear l104
            have l129 := Nat.lt_of_lt_of_le l105 uf127.size
            clear l105
            have l130 := Nat.lt_of_lt_of_le l106 uf127.size
            clear l106
            have l131 := Nat.lt_of_lt_of_le l107 uf127.size
            clear l107
            have c132 := uf127.cell k115.out
            have c133 := uf127.cell k116.out
            have c134 := uf127.cell k117.out
            clear k115 k116 k117
            have c135 := uf127.cell k118.out
            have c136 := uf127.cell k119.out
            have c137 := uf127.cell k120.out
            clear k118 k119 k120
            have vuf127 := vuf103.trans uf127
            clear uf127 vuf103 HShS114
            go_wp2_with fail
            have hS138 := kdVf_6 (W := W1.drew.drew.drew.drew.drew) (Dn.refl _) ⟨Dn.refl _, c121, c122, c123, c124, c125, c126⟩
            have k139 := Lib.hid c132
            have k140 := Lib.hid c133
            have k141 := Lib.hid c134
            have k142 := Lib.hid c135
            have k143 := Lib.hid c136
            have k144 := Lib.hid c137
            have HShS138 := Lib.hid hS138
            clear c132 c133 c134 c135 c136 c137 c121 c122 c123 c124 c125 c126
            go_region_held3 (fun w' => Dn W1.drew.drew.drew.drew.drew w' ∧ w'.cell? ⟨w.heap.size + 1 + 1, 0, none⟩ = some (.int .i64 y) ∧ w'.cell? ⟨w.heap.size + 1 + 1, 1, none⟩ = some (.int .i64 m) ∧ w'.cell? ⟨w.heap.size + 1 + 1, 2, none⟩ = some (.int .i64 d) ∧ w'.cell? ⟨w.heap.size + 1 + 1 + 1, 0, none⟩ = some (.int .i64 y) ∧ w'.cell? ⟨w.heap.size + 1 + 1 + 1, 1, none⟩ = some (.int .i64 m) ∧ w'.cell? ⟨w.heap.size + 1 + 1 + 1, 2, none⟩ = some (.int .i64 f))
              (first | exact kdVf_6 ((Dn.refl _).drew) hS138 | exact kdVf_6 ‹Dn _ _› ‹_› | exact kdVf_6 (Up.dn ‹Up _ _›) ‹_› | assumption | exact kdVf_6 ((Dn.refl _).alloc _) ‹_›)
              (fail)
            all_goals
              clear hS138
              obtain ⟨uf151, c145, c146, c147, c148, c149, c150⟩ := (‹Dn W1.drew.drew.drew.drew.drew _ ∧ _› : _ ∧ _)
              have l152 := Nat.lt_of_lt_of_le l128 uf151.size
              clear l128
              have l153 := Nat.lt_of_lt_of_le l129 uf151.size
              clear l129
              have l154 := Nat.lt_of_lt_of_le l130 uf151.size
              clear l130
              have l155 := Nat.lt_of_lt_of_le l131 uf151.size
              clear l131
              have c156 := uf151.cell k139.out
              have c157 := uf151.cell k140.out
              have c158 := uf151.cell k141.out
              clear k139 k140 k141
              have c159 := uf151.cell k142.out
              have c160 := uf151.cell k143.out
              have c161 := uf151.cell k144.out
              clear k142 k143 k144
              have vuf151 := vuf127.trans uf151
              clear uf151 vuf127 HShS138
              go_wp2_with fail
              go_ret
              exact ⟨rfl, vuf151⟩
set_option maxHeartbeats 4000000 in
set_option maxRecDepth 100000 in
theorem rc6Cmp_3e (y m d : Int)  (w : World) :
    Calls Tryz.prog 33 #[.agg #[.int .i64 y, .int .i64 m, .int .i64 d], .agg #[.int .i64 y, .int .i64 m, .int .i64 d]] w fun ro w' => ro = .returned (.int .i64 (0)) ∧ Dn w w' := by
  have a0 : decide (y < y) = false := by simp
  have a1 : decide (m < m) = false := by simp
  have a2 : decide (d < d) = false := by simp
  go_enter Tryz.func33, Tryz.ntmps33
  go_wp2_with fail
  obtain ⟨W1, hW1⟩ : ∃ W1, W1 = (((w.alloc (.cells #[.int .i64 y, .int .i64 m, .int .i64 d] 23)).alloc (.cells #[.int .i64 y, .int .i64 m, .int .i64 d] 23)).alloc (.cells #[.int .i64 y, .int .i64 m, .int .i64 d] 2)).alloc (.cells #[.int .i64 y, .int .i64 m, .int .i64 d] 2) := ⟨_, rfl⟩
  have uW1 : Dn w W1 := by rw [hW1]; exact ((((Dn.refl _).alloc _).alloc _).alloc _).alloc _
  have c2 : W1.cell? ⟨w.heap.size, 0, none⟩ = some (.int .i64 y) := by rw [hW1]; simp [go_sem]
  have c3 : W1.cell? ⟨w.heap.size, 1, none⟩ = some (.int .i64 m) := by rw [hW1]; simp [go_sem]
  have c4 : W1.cell? ⟨w.heap.size, 2, none⟩ = some (.int .i64 d) := by rw [hW1]; simp [go_sem]
  have l5 : w.heap.size < W1.heap.size := by rw [hW1]; simp <;> omega
  have c6 : W1.cell? ⟨w.heap.size + 1, 0, none⟩ = some (.int .i64 y) := by rw [hW1]; simp [go_sem]
  have c7 : W1.cell? ⟨w.heap.size + 1, 1, none⟩ = some (.int .i64 m) := by rw [hW1]; simp [go_sem]
  have c8 : W1.cell? ⟨w.heap.size + 1, 2, none⟩ = some (.int .i64 d) := by rw [hW1]; simp [go_sem]
  have l9 : w.heap.size + 1 < W1.heap.size := by rw [hW1]; simp <;> omega
  have c10 : W1.cell? ⟨w.heap.size + 1 + 1, 0, none⟩ = some (.int .i64 y) := by rw [hW1]; simp [go_sem]
  have c11 : W1.cell? ⟨w.heap.size + 1 + 1, 1, none⟩ = some (.int .i64 m) := by rw [hW1]; simp [go_sem]
  have c12 : W1.cell? ⟨w.heap.size + 1 + 1, 2, none⟩ = some (.int .i64 d) := by rw [hW1]; simp [go_sem]
  have l13 : w.heap.size + 1 + 1 < W1.heap.size := by rw [hW1]; simp <;> omega
  have c14 : W1.cell? ⟨w.heap.size + 1 + 1 + 1, 0, none⟩ = some (.int .i64 y) := by rw [hW1]; simp [go_sem]
  have c15 : W1.cell? ⟨w.heap.size + 1 + 1 + 1, 1, none⟩ = some (.int .i64 m) := by rw [hW1]; simp [go_sem]
  have c16 : W1.cell? ⟨w.heap.size + 1 + 1 + 1, 2, none⟩ = some (.int .i64 d) := by rw [hW1]; simp [go_sem]
  have l17 : w.heap.size + 1 + 1 + 1 < W1.heap.size := by rw [hW1]; simp <;> omega
  rw [← hW1]
  clear hW1
  refine wp_loop_rounds 4 ?_
  rw [rounds_succ]
  go_wp2_with fail
  have hS18 := kdVf_6 (W := W1) (Dn.refl _) ⟨Dn.refl _, c10, c11, c12, c14, c15, c16⟩
  have k19 := Lib.hid c2
  have k20 := Lib.hid c3
  have k21 := Lib.hid c4
  have k22 := Lib.hid c6
  have k23 := Lib.hid c7
  have k24 := Lib.hid c8
  have HShS18 := Lib.hid hS18
  clear c2 c3 c4 c6 c7 c8 c10 c11 c12 c14 c15 c16
  go_region_held3 (fun w' => Dn W1 w' ∧ w'.cell? ⟨w.heap.size + 1 + 1, 0, none⟩ = some (.int .i64 y) ∧ w'.cell? ⟨w.heap.size + 1 + 1, 1, none⟩ = some (.int .i64 m) ∧ w'.cell? ⟨w.heap.size + 1 + 1, 2, none⟩ = some (.int .i64 d) ∧ w'.cell? ⟨w.heap.size + 1 + 1 + 1, 0, none⟩ = some (.int .i64 y) ∧ w'.cell? ⟨w.heap.size + 1 + 1 + 1, 1, none⟩ = some (.int .i64 m) ∧ w'.cell? ⟨w.heap.size + 1 + 1 + 1, 2, none⟩ = some (.int .i64 d))
    (first | exact kdVf_6 ((Dn.refl _).drew) hS18 | exact kdVf_6 ‹Dn _ _› ‹_› | exact kdVf_6 (Up.dn ‹Up _ _›) ‹_› | assumption | exact kdVf_6 ((Dn.refl _).alloc _) ‹_›)
    (fail)
  all_goals
    clear hS18
    obtain ⟨uf31, c25, c26, c27, c28, c29, c30⟩ := (‹Dn W1 _ ∧ _› : _ ∧ _)
    have l32 := Nat.lt_of_lt_of_le l5 uf31.size
    clear l5
    have l33 := Nat.lt_of_lt_of_le l9 uf31.size
    clear l9
    have l34 := Nat.lt_of_lt_of_le l13 uf31.size
    clear l13
    have l35 := Nat.lt_of_lt_of_le l17 uf31.size
    clear l17
    have c36 := uf31.cell k19.out
    have c37 := uf31.cell k20.out
    have c38 := uf31.cell k21.out
    clear k19 k20 k21
    have c39 := uf31.cell k22.out
    have c40 := uf31.cell k23.out
    have c41 := uf31.cell k24.out
    clear k22 k23 k24
    have vuf31 := uW1.trans uf31
    clear uf31 uW1 HShS18
    go_wp2_with fail
    have hS42 := kdVf_6 (W := W1.drew) (Dn.refl _) ⟨Dn.refl _, c25, c26, c27, c28, c29, c30⟩
    have k43 := Lib.hid c36
    have k44 := Lib.hid c37
    have k45 := Lib.hid c38
    have k46 := Lib.hid c39
    have k47 := Lib.hid c40
    have k48 := Lib.hid c41
    have HShS42 := Lib.hid hS42
    clear c36 c37 c38 c39 c40 c41 c25 c26 c27 c28 c29 c30
    go_region_held3 (fun w' => Dn W1.drew w' ∧ w'.cell? ⟨w.heap.size + 1 + 1, 0, none⟩ = some (.int .i64 y) ∧ w'.cell? ⟨w.heap.size + 1 + 1, 1, none⟩ = some (.int .i64 m) ∧ w'.cell? ⟨w.heap.size + 1 + 1, 2, none⟩ = some (.int .i64 d) ∧ w'.cell? ⟨w.heap.size + 1 + 1 + 1, 0, none⟩ = some (.int .i64 y) ∧ w'.cell? ⟨w.heap.size + 1 + 1 + 1, 1, none⟩ = some (.int .i64 m) ∧ w'.cell? ⟨w.heap.size + 1 + 1 + 1, 2, none⟩ = some (.int .i64 d))
      (first | exact kdVf_6 ((Dn.refl _).drew) hS42 | exact kdVf_6 ‹Dn _ _› ‹_› | exact kdVf_6 (Up.dn ‹Up _ _›) ‹_› | assumption | exact kdVf_6 ((Dn.refl _).alloc _) ‹_›)
      (fail)
    all_goals
      clear hS42
      obtain ⟨uf55, c49, c50, c51, c52, c53, c54⟩ := (‹Dn W1.drew _ ∧ _› : _ ∧ _)
      have l56 := Nat.lt_of_lt_of_le l32 uf55.size
      clear l32
      have l57 := Nat.lt_of_lt_of_le l33 uf55.size
      clear l33
      have l58 := Nat.lt_of_lt_of_le l34 uf55.size
      clear l34
      have l59 := Nat.lt_of_lt_of_le l35 uf55.size
      clear l35
      have c60 := uf55.cell k43.out
      have c61 := uf55.cell k44.out
      have c62 := uf55.cell k45.out
      clear k43 k44 k45
      have c63 := uf55.cell k46.out
      have c64 := uf55.cell k47.out
      have c65 := uf55.cell k48.out
      clear k46 k47 k48
      have vuf55 := vuf31.trans uf55
      clear uf55 vuf31 HShS42
      go_wp2_with fail
      rw [rounds_succ]
      go_wp2_with fail
      have hS66 := kdVf_6 (W := W1.drew.drew) (Dn.refl _) ⟨Dn.refl _, c49, c50, c51, c52, c53, c54⟩
      have k67 := Lib.hid c60
      have k68 := Lib.hid c61
      have k69 := Lib.hid c62
      have k70 := Lib.hid c63
      have k71 := Lib.hid c64
      have k72 := Lib.hid c65
      have HShS66 := Lib.hid hS66
      clear c60 c61 c62 c63 c64 c65 c49 c50 c51 c52 c53 c54
      go_region_held3 (fun w' => Dn W1.drew.drew w' ∧ w'.cell? ⟨w.heap.size + 1 + 1, 0, none⟩ = some (.int .i64 y) ∧ w'.cell? ⟨w.heap.size + 1 + 1, 1, none⟩ = some (.int .i64 m) ∧ w'.cell? ⟨w.heap.size + 1 + 1, 2, none⟩ = some (.int .i64 d) ∧ w'.cell? ⟨w.heap.size + 1 + 1 + 1, 0, none⟩ = some (.int .i64 y) ∧ w'.cell? ⟨w.heap.size + 1 + 1 + 1, 1, none⟩ = some (.int .i64 m) ∧ w'.cell? ⟨w.heap.size + 1 + 1 + 1, 2, none⟩ = some (.int .i64 d))
        (first | exact kdVf_6 ((Dn.refl _).drew) hS66 | exact kdVf_6 ‹Dn _ _› ‹_› | exact kdVf_6 (Up.dn ‹Up _ _›) ‹_› | assumption | exact kdVf_6 ((Dn.refl _).alloc _) ‹_›)
        (fail)
      all_goals
        clear hS66
        obtain ⟨uf79, c73, c74, c75, c76, c77, c78⟩ := (‹Dn W1.drew.drew _ ∧ _› : _ ∧ _)
        have l80 := Nat.lt_of_lt_of_le l56 uf79.size
        clear l56
        have l81 := Nat.lt_of_lt_of_le l57 uf79.size
        clear l57
        have l82 := Nat.lt_of_lt_of_le l58 uf79.size
        clear l58
        have l83 := Nat.lt_of_lt_of_le l59 uf79.size
        clear l59
        have c84 := uf79.cell k67.out
        have c85 := uf79.cell k68.out
        have c86 := uf79.cell k69.out
        clear k67 k68 k69
        have c87 := uf79.cell k70.out
        have c88 := uf79.cell k71.out
        have c89 := uf79.cell k72.out
        clear k70 k71 k72
        have vuf79 := vuf55.trans uf79
        clear uf79 vuf55 HShS66
        go_wp2_with fail
        have hS90 := kdVf_6 (W := W1.drew.drew.drew) (Dn.refl _) ⟨Dn.refl _, c73, c74, c75, c76, c77, c78⟩
        have k91 := Lib.hid c84
        have k92 := Lib.hid c85
        have k93 := Lib.hid c86
        have k94 := Lib.hid c87
        have k95 := Lib.hid c88
        have k96 := Lib.hid c89
        have HShS90 := Lib.hid hS90
        clear c84 c85 c86 c87 c88 c89 c73 c74 c75 c76 c77 c78
        go_region_held3 (fun w' => Dn W1.drew.drew.drew w' ∧ w'.cell? ⟨w.heap.size + 1 + 1, 0, none⟩ = some (.int .i64 y) ∧ w'.cell? ⟨w.heap.size + 1 + 1, 1, none⟩ = some (.int .i64 m) ∧ w'.cell? ⟨w.heap.size + 1 + 1, 2, none⟩ = some (.int .i64 d) ∧ w'.cell? ⟨w.heap.size + 1 + 1 + 1, 0, none⟩ = some (.int .i64 y) ∧ w'.cell? ⟨w.heap.size + 1 + 1 + 1, 1, none⟩ = some (.int .i64 m) ∧ w'.cell? ⟨w.heap.size + 1 + 1 + 1, 2, none⟩ = some (.int .i64 d))
          (first | exact kdVf_6 ((Dn.refl _).drew) hS90 | exact kdVf_6 ‹Dn _ _› ‹_› | exact kdVf_6 (Up.dn ‹Up _ _›) ‹_› | assumption | exact kdVf_6 ((Dn.refl _).alloc _) ‹_›)
          (fail)
        all_goals
          clear hS90
          obtain ⟨uf103, c97, c98, c99, c100, c101, c102⟩ := (‹Dn W1.drew.drew.drew _ ∧ _› : _ ∧ _)
          have l104 := Nat.lt_of_lt_of_le l80 uf103.size
          clear l80
          have l105 := Nat.lt_of_lt_of_le l81 uf103.size
          clear l81
          have l106 := Nat.lt_of_lt_of_le l82 uf103.size
          clear l82
          have l107 := Nat.lt_of_lt_of_le l83 uf103.size
          clear l83
          have c108 := uf103.cell k91.out
          have c109 := uf103.cell k92.out
          have c110 := uf103.cell k93.out
          clear k91 k92 k93
          have c111 := uf103.cell k94.out
          have c112 := uf103.cell k95.out
          have c113 := uf103.cell k96.out
          clear k94 k95 k96
          have vuf103 := vuf79.trans uf103
          clear uf103 vuf79 HShS90
          go_wp2_with fail
          rw [rounds_succ]
          go_wp2_with fail
          have hS114 := kdVf_6 (W := W1.drew.drew.drew.drew) (Dn.refl _) ⟨Dn.refl _, c97, c98, c99, c100, c101, c102⟩
          have k115 := Lib.hid c108
          have k116 := Lib.hid c109
          have k117 := Lib.hid c110
          have k118 := Lib.hid c111
          have k119 := Lib.hid c112
          have k120 := Lib.hid c113
          have HShS114 := Lib.hid hS114
          clear c108 c109 c110 c111 c112 c113 c97 c98 c99 c100 c101 c102
          go_region_held3 (fun w' => Dn W1.drew.drew.drew.drew w' ∧ w'.cell? ⟨w.heap.size + 1 + 1, 0, none⟩ = some (.int .i64 y) ∧ w'.cell? ⟨w.heap.size + 1 + 1, 1, none⟩ = some (.int .i64 m) ∧ w'.cell? ⟨w.heap.size + 1 + 1, 2, none⟩ = some (.int .i64 d) ∧ w'.cell? ⟨w.heap.size + 1 + 1 + 1, 0, none⟩ = some (.int .i64 y) ∧ w'.cell? ⟨w.heap.size + 1 + 1 + 1, 1, none⟩ = some (.int .i64 m) ∧ w'.cell? ⟨w.heap.size + 1 + 1 + 1, 2, none⟩ = some (.int .i64 d))
            (first | exact kdVf_6 ((Dn.refl _).drew) hS114 | exact kdVf_6 ‹Dn _ _› ‹_› | exact kdVf_6 (Up.dn ‹Up _ _›) ‹_› | assumption | exact kdVf_6 ((Dn.refl _).alloc _) ‹_›)
            (fail)
          all_goals
            clear hS114
            obtain ⟨uf127, c121, c122, c123, c124, c125, c126⟩ := (‹Dn W1.drew.drew.drew.drew _ ∧ _› : _ ∧ _)
            have l128 := Nat.lt_of_lt_of_le l104 uf127.size
            clear l104
            have l129 := Nat.lt_of_lt_of_le l105 uf127.size
            clear l105
            have l130 := Nat.lt_of_lt_of_le l106 uf127.size
            clear l106
            have l131 := Nat.lt_of_lt_of_le l107 uf127.size
            clear l107
            have c132 := uf127.cell k115.out
            have c133 := uf127.cell k116.out
            have c134 := uf127.cell k117.out
            clear k115 k116 k117
            have c135 := uf127.cell k118.out
            have c136 := uf127.cell k119.out
            have c137 := uf127.cell k120.out
            clear k118 k119 k120
            have vuf127 := vuf103.trans uf127
            clear uf127 vuf103 HShS114
            go_wp2_with fail
            have hS138 := kdVf_6 (W := W1.drew.drew.drew.drew.drew) (Dn.refl _) ⟨Dn.refl _, c121, c122, c123, c124, c125, c126⟩
            have k139 := Lib.hid c132
            have k140 := Lib.hid c133
            have k141 := Lib.hid c134
            have k142 := Lib.hid c135
            have k143 := Lib.hid c136
            have k144 := Lib.hid c137
            have HShS138 := Lib.hid hS138
            clear c132 c133 c134 c135 c136 c137 c121 c122 c123 c124 c125 c126
            go_region_held3 (fun w' => Dn W1.drew.drew.drew.drew.drew w' ∧ w'.cell? ⟨w.heap.size + 1 + 1, 0, none⟩ = some (.int .i64 y) ∧ w'.cell? ⟨w.heap.size + 1 + 1, 1, none⟩ = some (.int .i64 m) ∧ w'.cell? ⟨w.heap.size + 1 + 1, 2, none⟩ = some (.int .i64 d) ∧ w'.cell? ⟨w.heap.size + 1 + 1 + 1, 0, none⟩ = some (.int .i64 y) ∧ w'.cell? ⟨w.heap.size + 1 + 1 + 1, 1, none⟩ = some (.int .i64 m) ∧ w'.cell? ⟨w.heap.size + 1 + 1 + 1, 2, none⟩ = some (.int .i64 d))
              (first | exact kdVf_6 ((Dn.refl _).drew) hS138 | exact kdVf_6 ‹Dn _ _› ‹_› | exact kdVf_6 (Up.dn ‹Up _ _›) ‹_› | assumption | exact kdVf_6 ((Dn.refl _).alloc _) ‹_›)
              (fail)
            all_goals
              clear hS138
              obtain ⟨uf151, c145, c146, c147, c148, c149, c150⟩ := (‹Dn W1.drew.drew.drew.drew.drew _ ∧ _› : _ ∧ _)
              have l152 := Nat.lt_of_lt_of_le l128 uf151.size
              clear l128
              have l153 := Nat.lt_of_lt_of_le l129 uf151.size
              clear l129
              have l154 := Nat.lt_of_lt_of_le l130 uf151.size
              clear l130
              have l155 := Nat.lt_of_lt_of_le l131 uf151.size
              clear l131
              have c156 := uf151.cell k139.out
              have c157 := uf151.cell k140.out
              have c158 := uf151.cell k141.out
              clear k139 k140 k141
              have c159 := uf151.cell k142.out
              have c160 := uf151.cell k143.out
              have c161 := uf151.cell k144.out
              clear k142 k143 k144
              have vuf151 := vuf127.trans uf151
              clear uf151 vuf127 HShS138
              go_wp2_with fail
              rw [rounds_succ]
              go_wp2_with fail
              go_ret
              exact ⟨rfl, vuf151⟩
theorem rc6Cmp (y m d z n f : Int) (w : World) :
    Calls Tryz.prog 33 #[.agg #[.int .i64 y, .int .i64 m, .int .i64 d], .agg #[.int .i64 z, .int .i64 n, .int .i64 f]] w fun ro w' => ro = .returned (.int .i64 (oq (cq y z) (cq m n) (cq d f))) ∧ Dn w w' := by
  rcases Int.lt_trichotomy y z with h | h | h
  · rw [show oq (cq y z) (cq m n) (cq d f) = -1 by rw [cq_lt h]; simp [oq]]; exact rc6Cmp_0l y m d z n f h w
  · subst h
    rcases Int.lt_trichotomy m n with h | h | h
    · rw [show oq (cq y y) (cq m n) (cq d f) = -1 by rw [cq_eq, cq_lt h]; simp [oq]]; exact rc6Cmp_1l y m d n f h w
    · subst h
      rcases Int.lt_trichotomy d f with h | h | h
      · rw [show oq (cq y y) (cq m m) (cq d f) = -1 by rw [cq_eq, cq_eq, cq_lt h]; simp [oq]]; exact rc6Cmp_2l y m d f h w
      · subst h
        rw [show oq (cq y y) (cq m m) (cq d d) = 0 by rw [cq_eq, cq_eq, cq_eq]; simp [oq]]; exact rc6Cmp_3e y m d w
      · rw [show oq (cq y y) (cq m m) (cq d f) = 1 by rw [cq_eq, cq_eq, cq_gt h]; simp [oq]]; exact rc6Cmp_2g y m d f h w
    · rw [show oq (cq y y) (cq m n) (cq d f) = 1 by rw [cq_eq, cq_gt h]; simp [oq]]; exact rc6Cmp_1g y m d n f h w
  · rw [show oq (cq y z) (cq m n) (cq d f) = 1 by rw [cq_gt h]; simp [oq]]; exact rc6Cmp_0g y m d z n f h w
end Go.Proofs.YtopbbcbpanfigaaGreatDoor
