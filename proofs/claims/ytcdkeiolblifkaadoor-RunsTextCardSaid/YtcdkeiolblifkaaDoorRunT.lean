/-
  WALKS OF runs.Text AND circaref09.Text. (Printed by wip/gen/run9h.py.)
-/
import Derived.Test.YtcdkeiolblifkaaDoorRunH
namespace Go.Proofs.YtcdkeiolblifkaaDoor
open Go.RowKit
set_option linter.unusedVariables false
set_option linter.unusedSimpArgs false
theorem kdRt_4 {W w1 w2 : World} {a0 a1 a2 a3 : Addr} {v0 v1 v2 v3 : Value} (k : Dn w1 w2) (h : Dn W w1 ∧ w1.cell? a0 = some v0 ∧ w1.cell? a1 = some v1 ∧ w1.cell? a2 = some v2 ∧ w1.cell? a3 = some v3) :
    Dn W w2 ∧ w2.cell? a0 = some v0 ∧ w2.cell? a1 = some v1 ∧ w2.cell? a2 = some v2 ∧ w2.cell? a3 = some v3 := by
  obtain ⟨h1, c0, c1, c2, c3⟩ := h
  exact ⟨h1.trans k, k.cell c0, k.cell c1, k.cell c2, k.cell c3⟩
set_option maxHeartbeats 4000000 in
set_option maxRecDepth 100000 in
theorem rnBT (a b c d : Int) (s t : ByteArray) (HA : Hid (∀ W, EnvR W → Calls Tryd.prog 63 #[.agg #[.int .i8 a, .int .i64 b]] W fun o w' => o = .returned (.tuple #[.string s, .int .i64 0]) ∧ Dn W w')) (HB : Hid (∀ W, EnvR W → Calls Tryd.prog 63 #[.agg #[.int .i8 c, .int .i64 d]] W fun o w' => o = .returned (.tuple #[.string t, .int .i64 0]) ∧ Dn W w')) (w : World) (hE : EnvR w) :
    Calls Tryd.prog 62 #[.agg #[.int .i8 a, .int .i64 b], .agg #[.int .i8 c, .int .i64 d], .func (.func 63) #[] #[]] w fun ro w' => ro = .returned (.tuple #[.agg #[.string s, .string t], .int .i64 0]) ∧ Dn w w' := by
  go_enter Tryd.func62, Tryd.ntmps62
  go_wp2_with fail
  obtain ⟨W1, hW1⟩ : ∃ W1, W1 = ((w.alloc (.cells #[.int .i8 a, .int .i64 b] 27)).alloc (.cells #[.int .i8 c, .int .i64 d] 27)).alloc (.cells #[.string ⟨#[]⟩, .string ⟨#[]⟩] 96) := ⟨_, rfl⟩
  have uW1 : Dn w W1 := by rw [hW1]; exact (((Dn.refl _).alloc _).alloc _).alloc _
  have n2 : w.heap.size ≠ w.heap.size + 1 + 1 := by omega
  have n3 : w.heap.size + 1 ≠ w.heap.size + 1 + 1 := by omega
  have c4 : W1.cell? ⟨w.heap.size, 0, none⟩ = some (.int .i8 a) := by rw [hW1]; simp [go_sem]
  have c5 : W1.cell? ⟨w.heap.size, 1, none⟩ = some (.int .i64 b) := by rw [hW1]; simp [go_sem]
  have l6 : w.heap.size < W1.heap.size := by rw [hW1]; simp <;> omega
  have c7 : W1.cell? ⟨w.heap.size + 1, 0, none⟩ = some (.int .i8 c) := by rw [hW1]; simp [go_sem]
  have c8 : W1.cell? ⟨w.heap.size + 1, 1, none⟩ = some (.int .i64 d) := by rw [hW1]; simp [go_sem]
  have l9 : w.heap.size + 1 < W1.heap.size := by rw [hW1]; simp <;> omega
  have c10 : W1.cell? ⟨w.heap.size + 1 + 1, 0, none⟩ = some (.string ⟨#[]⟩) := by rw [hW1]; simp [go_sem]
  have c11 : W1.cell? ⟨w.heap.size + 1 + 1, 1, none⟩ = some (.string ⟨#[]⟩) := by rw [hW1]; simp [go_sem]
  have l12 : w.heap.size + 1 + 1 < W1.heap.size := by rw [hW1]; simp <;> omega
  have f13 : W1.frozen? ⟨w.heap.size + 1 + 1, 0, none⟩ = false := by rw [hW1]; simp [go_sem]
  have f14 : W1.frozen? ⟨w.heap.size + 1 + 1, 1, none⟩ = false := by rw [hW1]; simp [go_sem]
  rw [← hW1]
  clear hW1
  refine (HA.out _ (hE.dn uW1)).mono ?_
  rintro e w1 ⟨rfl, qw1⟩
  have l15 := Nat.lt_of_lt_of_le l6 qw1.size
  have c16 := qw1.cell c4
  have c17 := qw1.cell c5
  have l18 := Nat.lt_of_lt_of_le l9 qw1.size
  have c19 := qw1.cell c7
  have c20 := qw1.cell c8
  have f21 := (qw1.frozen (a := ⟨w.heap.size + 1 + 1, 0, none⟩) l12).trans f13
  have f22 := (qw1.frozen (a := ⟨w.heap.size + 1 + 1, 1, none⟩) l12).trans f14
  have l23 := Nat.lt_of_lt_of_le l12 qw1.size
  have c24 := qw1.cell c10
  have c25 := qw1.cell c11
  clear l6 c4 c5 l9 c7 c8 f13 f14 l12 c10 c11
  have uw1 := uW1.trans qw1
  clear qw1 uW1
  go_wp2_with fail
  refine (HB.out _ (hE.dn uw1)).mono ?_
  rintro e w2 ⟨rfl, qw2⟩
  have l26 := Nat.lt_of_lt_of_le l15 qw2.size
  have c27 := qw2.cell c16
  have c28 := qw2.cell c17
  have l29 := Nat.lt_of_lt_of_le l18 qw2.size
  have c30 := qw2.cell c19
  have c31 := qw2.cell c20
  have f32 := (qw2.frozen (a := ⟨w.heap.size + 1 + 1, 0, none⟩) l23).trans f21
  have f33 := (qw2.frozen (a := ⟨w.heap.size + 1 + 1, 1, none⟩) l23).trans f22
  have l34 := Nat.lt_of_lt_of_le l23 qw2.size
  have c35 := qw2.cell c24
  have c36 := qw2.cell c25
  clear l15 c16 c17 l18 c19 c20 f21 f22 l23 c24 c25
  have uw2 := uw1.trans qw2
  clear qw2 uw1
  go_wp2_with fail
  exact bodyPost_ret (v := .tuple #[.agg #[.string s, .string t], .int .i64 0]) (by simp [results, Tryd.results62, go_sem, c27, c28, c30, c31, c35, c36, f32, f33] <;> omega) rfl ⟨rfl, ((uw2.setCell (by simp <;> omega) _).setCell (by simp <;> omega) _)⟩
set_option maxHeartbeats 4000000 in
set_option maxRecDepth 100000 in
theorem rnTx_bad (a b c d m : Int) (HC : Hid (ChkIs a b c d m)) (h1 : m ≠ 0) (w : World) :
    Calls Tryd.prog 35 #[.agg #[.int .i8 a, .int .i64 b, .int .i8 c, .int .i64 d]] w fun ro w' => ro = .returned (.tuple #[.string ⟨#[]⟩, .int .i64 m]) ∧ Dn w w' := by
  have t1 : (m != 0) = true := by simpa using h1
  clear h1
  go_enter Tryd.func35, Tryd.ntmps35
  go_wp2_with fail
  obtain ⟨W1, hW1⟩ : ∃ W1, W1 = w.alloc (.cells #[.int .i8 a, .int .i64 b, .int .i8 c, .int .i64 d] 29) := ⟨_, rfl⟩
  have uW1 : Dn w W1 := by rw [hW1]; exact (Dn.refl _).alloc _
  have c2 : W1.cell? ⟨w.heap.size, 0, none⟩ = some (.int .i8 a) := by rw [hW1]; simp [go_sem]
  have c3 : W1.cell? ⟨w.heap.size, 1, none⟩ = some (.int .i64 b) := by rw [hW1]; simp [go_sem]
  have c4 : W1.cell? ⟨w.heap.size, 2, none⟩ = some (.int .i8 c) := by rw [hW1]; simp [go_sem]
  have c5 : W1.cell? ⟨w.heap.size, 3, none⟩ = some (.int .i64 d) := by rw [hW1]; simp [go_sem]
  have l6 : w.heap.size < W1.heap.size := by rw [hW1]; simp <;> omega
  rw [← hW1]
  clear hW1
  refine (HC.out _).mono ?_
  rintro e w1 ⟨rfl, qw1⟩
  have l7 := Nat.lt_of_lt_of_le l6 qw1.size
  have c8 := qw1.cell c2
  have c9 := qw1.cell c3
  have c10 := qw1.cell c4
  have c11 := qw1.cell c5
  clear l6 c2 c3 c4 c5
  have uw1 := uW1.trans qw1
  clear qw1 uW1
  go_wp2_with fail
  go_ret2
  exact ⟨rfl, uw1⟩
set_option maxHeartbeats 4000000 in
set_option maxRecDepth 100000 in
theorem rnTx_ok (a b c d : Int) (s t : ByteArray) (hs : s.size ≤ 1000) (ht : t.size ≤ 1000) (HC : Hid (ChkIs a b c d 0)) (HB : Hid (∀ W, EnvR W → Calls Tryd.prog 62 #[.agg #[.int .i8 a, .int .i64 b], .agg #[.int .i8 c, .int .i64 d], .func (.func 63) #[] #[]] W fun o w' => o = .returned (.tuple #[.agg #[.string s, .string t], .int .i64 0]) ∧ Dn W w')) (w : World) (hE : EnvR w) :
    Calls Tryd.prog 35 #[.agg #[.int .i8 a, .int .i64 b, .int .i8 c, .int .i64 d]] w fun ro w' => ro = .returned (.tuple #[.string (s ++ ⟨#[46, 46]⟩ ++ t), .int .i64 0]) ∧ Dn w w' := by
  have z1 : ¬ (9223372036854775807 < s.size + 2) := by omega
  have z2 : ¬ (9223372036854775807 < s.size + 2 + t.size) := by omega
  go_enter Tryd.func35, Tryd.ntmps35
  go_wp2_with fail
  obtain ⟨W1, hW1⟩ : ∃ W1, W1 = w.alloc (.cells #[.int .i8 a, .int .i64 b, .int .i8 c, .int .i64 d] 29) := ⟨_, rfl⟩
  have uW1 : Dn w W1 := by rw [hW1]; exact (Dn.refl _).alloc _
  have c2 : W1.cell? ⟨w.heap.size, 0, none⟩ = some (.int .i8 a) := by rw [hW1]; simp [go_sem]
  have c3 : W1.cell? ⟨w.heap.size, 1, none⟩ = some (.int .i64 b) := by rw [hW1]; simp [go_sem]
  have c4 : W1.cell? ⟨w.heap.size, 2, none⟩ = some (.int .i8 c) := by rw [hW1]; simp [go_sem]
  have c5 : W1.cell? ⟨w.heap.size, 3, none⟩ = some (.int .i64 d) := by rw [hW1]; simp [go_sem]
  have l6 : w.heap.size < W1.heap.size := by rw [hW1]; simp <;> omega
  rw [← hW1]
  clear hW1
  refine (HC.out _).mono ?_
  rintro e w1 ⟨rfl, qw1⟩
  have l7 := Nat.lt_of_lt_of_le l6 qw1.size
  have c8 := qw1.cell c2
  have c9 := qw1.cell c3
  have c10 := qw1.cell c4
  have c11 := qw1.cell c5
  clear l6 c2 c3 c4 c5
  have uw1 := uW1.trans qw1
  clear qw1 uW1
  go_wp2_with fail
  refine (HB.out _ (hE.dn uw1)).mono ?_
  rintro e w2 ⟨rfl, qw2⟩
  have l12 := Nat.lt_of_lt_of_le l7 qw2.size
  have c13 := qw2.cell c8
  have c14 := qw2.cell c9
  have c15 := qw2.cell c10
  have c16 := qw2.cell c11
  clear l7 c8 c9 c10 c11
  have uw2 := uw1.trans qw2
  clear qw2 uw1
  go_wp2_with fail
  go_ret2
  exact ⟨rfl, uw2.alloc _⟩
set_option maxHeartbeats 4000000 in
set_option maxRecDepth 100000 in
theorem rfTx (a b c d : Int) (s t : ByteArray) (hs : s.size ≤ 1000) (ht : t.size ≤ 1000) (HA : Hid (∀ W, Calls Tryd.prog 64 #[.agg #[.int .i8 a, .int .i64 b]] W fun o w' => o = .returned (.string s) ∧ Dn W w')) (HB : Hid (∀ W, Calls Tryd.prog 64 #[.agg #[.int .i8 c, .int .i64 d]] W fun o w' => o = .returned (.string t) ∧ Dn W w')) (w : World) :
    Calls Tryd.prog 36 #[.agg #[.int .i8 a, .int .i64 b, .int .i8 c, .int .i64 d]] w fun ro w' => ro = .returned (.string (s ++ ⟨#[46, 46]⟩ ++ t)) ∧ Dn w w' := by
  have z1 : ¬ (9223372036854775807 < s.size + 2) := by omega
  have z2 : ¬ (9223372036854775807 < s.size + 2 + t.size) := by omega
  go_enter Tryd.func36, Tryd.ntmps36
  go_wp2_with fail
  obtain ⟨W1, hW1⟩ : ∃ W1, W1 = w.alloc (.cells #[.int .i8 a, .int .i64 b, .int .i8 c, .int .i64 d] 29) := ⟨_, rfl⟩
  have uW1 : Dn w W1 := by rw [hW1]; exact (Dn.refl _).alloc _
  have c2 : W1.cell? ⟨w.heap.size, 0, none⟩ = some (.int .i8 a) := by rw [hW1]; simp [go_sem]
  have c3 : W1.cell? ⟨w.heap.size, 1, none⟩ = some (.int .i64 b) := by rw [hW1]; simp [go_sem]
  have c4 : W1.cell? ⟨w.heap.size, 2, none⟩ = some (.int .i8 c) := by rw [hW1]; simp [go_sem]
  have c5 : W1.cell? ⟨w.heap.size, 3, none⟩ = some (.int .i64 d) := by rw [hW1]; simp [go_sem]
  have l6 : w.heap.size < W1.heap.size := by rw [hW1]; simp <;> omega
  rw [← hW1]
  clear hW1
  have hS := kdRt_4 (W := w) (Dn.refl W1) ⟨uW1, c2, c3, c4, c5⟩
  refine wp_region_held_drew (S := fun w' => Dn w w' ∧ w'.cell? ⟨w.heap.size, 0, none⟩ = some (.int .i8 a) ∧ w'.cell? ⟨w.heap.size, 1, none⟩ = some (.int .i64 b) ∧ w'.cell? ⟨w.heap.size, 2, none⟩ = some (.int .i8 c) ∧ w'.cell? ⟨w.heap.size, 3, none⟩ = some (.int .i64 d)) (by kernel_rfl) ?_ (fun hHeld => ?_)
  · (try dsimp only); exact kdRt_4 ((Dn.refl _).drew) hS
  refine wpAnyH_take (i := 0) (v := ?_) rfl (by kernel_rfl) (by kernel_rfl) (by kernel_rfl) (fun _ _ _ h => h) (Or.inl ⟨by rfl, ?_⟩) (by assumption) ?_
  rotate_left
  · (intro w hSw; (try dsimp only at hSw); go_simp)
    all_goals with_reducible rfl
  try simp only [Act.put, List.getElem_toArray, List.getElem_cons_succ, List.getElem_cons_zero, List.setIfInBounds_toArray, List.set_cons_zero, List.set_cons_succ]
  refine wpAnyH_take (i := 1) (v := ?_) rfl (by kernel_rfl) (by kernel_rfl) (by kernel_rfl) (fun _ _ _ h => h) (Or.inl ⟨by rfl, ?_⟩) (by assumption) ?_
  rotate_left
  · (intro w hSw; (try dsimp only at hSw); go_simp)
    all_goals with_reducible rfl
  try simp only [Act.put, List.getElem_toArray, List.getElem_cons_succ, List.getElem_cons_zero, List.setIfInBounds_toArray, List.set_cons_zero, List.set_cons_succ]
  refine wpAnyH_take (i := 4) (v := ?_) rfl (by kernel_rfl) (by kernel_rfl) (by kernel_rfl) (fun _ _ _ h => h) (Or.inl ⟨by rfl, ?_⟩) (by assumption) ?_
  rotate_left
  · (intro w hSw; (try dsimp only at hSw); go_simp)
    all_goals with_reducible rfl
  try simp only [Act.put, List.getElem_toArray, List.getElem_cons_succ, List.getElem_cons_zero, List.setIfInBounds_toArray, List.set_cons_zero, List.set_cons_succ]
  refine wpAnyH_take (i := 5) (v := ?_) rfl (by kernel_rfl) (by kernel_rfl) (by kernel_rfl) (fun _ _ _ h => h) (Or.inl ⟨by rfl, ?_⟩) (by assumption) ?_
  rotate_left
  · (intro w hSw; (try dsimp only at hSw); go_simp)
    all_goals with_reducible rfl
  try simp only [Act.put, List.getElem_toArray, List.getElem_cons_succ, List.getElem_cons_zero, List.setIfInBounds_toArray, List.set_cons_zero, List.set_cons_succ]
  refine wpAnyH_ready (rs := [2]) (by kernel_rfl) (by simp) ?_
  refine AllReadyH.cons rfl (fun K hK => ?_) AllReadyH.nil
  ·
    go_simp
    go_at_call 64
    refine (HA.out _).mono ?_
    rintro e wa1 ⟨rfl, q1⟩
    have g1 := kdRt_4 q1 hHeld
    try go_wp2_with fail
    refine hK.out _ _ ?_ (fun hHeld => ?_)
    · (try dsimp only); exact g1
    clear hK K
    try simp only [Act.put, List.getElem_toArray, List.getElem_cons_succ, List.getElem_cons_zero, List.setIfInBounds_toArray, List.set_cons_zero, List.set_cons_succ]
    refine wpAnyH_take (i := 3) (v := ?_) rfl (by kernel_rfl) (by kernel_rfl) (by kernel_rfl) (fun _ _ _ h => h) (Or.inl ⟨by rfl, ?_⟩) (by assumption) ?_
    rotate_left
    · (intro w hSw; (try dsimp only at hSw); go_simp)
      all_goals with_reducible rfl
    try simp only [Act.put, List.getElem_toArray, List.getElem_cons_succ, List.getElem_cons_zero, List.setIfInBounds_toArray, List.set_cons_zero, List.set_cons_succ]
    refine wpAnyH_ready (rs := [6]) (by kernel_rfl) (by simp) ?_
    refine AllReadyH.cons rfl (fun K hK => ?_) AllReadyH.nil
    ·
      go_simp
      go_at_call 64
      refine (HB.out _).mono ?_
      rintro e wa2 ⟨rfl, q2⟩
      have g2 := kdRt_4 q2 g1
      try go_wp2_with fail
      refine hK.out _ _ ?_ (fun hHeld => ?_)
      · (try dsimp only); exact g2
      clear hK K
      try simp only [Act.put, List.getElem_toArray, List.getElem_cons_succ, List.getElem_cons_zero, List.setIfInBounds_toArray, List.set_cons_zero, List.set_cons_succ]
      refine wpAnyH_take (i := 7) (v := ?_) rfl (by kernel_rfl) (by kernel_rfl) (by kernel_rfl) (fun _ _ _ h => h) (Or.inl ⟨by rfl, ?_⟩) (by assumption) ?_
      rotate_left
      · (intro w hSw; (try dsimp only at hSw); go_simp)
        all_goals with_reducible rfl
      try simp only [Act.put, List.getElem_toArray, List.getElem_cons_succ, List.getElem_cons_zero, List.setIfInBounds_toArray, List.set_cons_zero, List.set_cons_succ]
      refine wpAnyH_take (i := 8) (v := ?_) rfl (by kernel_rfl) (by kernel_rfl) (by kernel_rfl) (fun _ _ _ h => h) (Or.inl ⟨by rfl, ?_⟩) (by assumption) ?_
      rotate_left
      · (intro w hSw; (try dsimp only at hSw); go_simp)
        all_goals with_reducible rfl
      try simp only [Act.put, List.getElem_toArray, List.getElem_cons_succ, List.getElem_cons_zero, List.setIfInBounds_toArray, List.set_cons_zero, List.set_cons_succ]
      refine wpAnyH_done (by kernel_rfl) ?_ _
      have hf : Dn w _ := g2.1
      go_wp2_with fail
      go_ret
      exact ⟨rfl, hf⟩
def rStr (a b c d : Int) : ByteArray := eStr a b ++ ⟨#[46, 46]⟩ ++ eStr c d
theorem eStr_sz (i d : Int) (hd : I64 d) : (eStr i d).size ≤ 1000 := by
  unfold eStr
  split
  · exact size_itoa d hd
  · split <;> decide
theorem rnText (a b c d : Int) (w : World) (hb : I64 b) (hd : I64 d) (h : RnOk a b c d) (hE : EnvR w) :
    Calls Tryd.prog 35 #[.agg #[.int .i8 a, .int .i64 b, .int .i8 c, .int .i64 d]] w fun ro w' => ro = .returned (.tuple #[.string (rStr a b c d), .int .i64 0]) ∧ Dn w w' := by
  have HC : Hid (ChkIs a b c d (rnErr a b c d)) := Lib.hid (rnChk a b c d)
  rw [(rnErr_ok hb hd).2 h] at HC
  have HA : Hid (∀ W, EnvR W → Calls Tryd.prog 63 #[.agg #[.int .i8 a, .int .i64 b]] W fun o w' => o = .returned (.tuple #[.string (eStr a b), .int .i64 0]) ∧ Dn W w') := Lib.hid (fun W hW => (eText_ok a b W h.1 hb hW.i).mono fun _ _ ⟨h1, h2⟩ => ⟨h1, h2.dn⟩)
  have HB : Hid (∀ W, EnvR W → Calls Tryd.prog 63 #[.agg #[.int .i8 c, .int .i64 d]] W fun o w' => o = .returned (.tuple #[.string (eStr c d), .int .i64 0]) ∧ Dn W w') := Lib.hid (fun W hW => (eText_ok c d W h.2.1 hd hW.i).mono fun _ _ ⟨h1, h2⟩ => ⟨h1, h2.dn⟩)
  exact rnTx_ok a b c d _ _ (eStr_sz a b hb) (eStr_sz c d hd) HC (Lib.hid fun W hW => rnBT a b c d _ _ HA HB W hW) w hE
theorem rnText_bad (a b c d : Int) (w : World) (h : rnErr a b c d ≠ 0) :
    Calls Tryd.prog 35 #[.agg #[.int .i8 a, .int .i64 b, .int .i8 c, .int .i64 d]] w fun ro w' => ro = .returned (.tuple #[.string ⟨#[]⟩, .int .i64 (rnErr a b c d)]) ∧ Dn w w' :=
  rnTx_bad a b c d _ (Lib.hid (rnChk a b c d)) h w
theorem rfText (a b c d : Int) (w : World) (hb : I64 b) (hd : I64 d) (h : RnOk a b c d) :
    Calls Tryd.prog 36 #[.agg #[.int .i8 a, .int .i64 b, .int .i8 c, .int .i64 d]] w fun ro w' => ro = .returned (.string (rStr a b c d)) ∧ Dn w w' :=
  rfTx a b c d _ _ (eStr_sz a b hb) (eStr_sz c d hd) (Lib.hid fun W => rText8 a b W h.1 hb) (Lib.hid fun W => rText8 c d W h.2.1 hd) w
end Go.Proofs.YtcdkeiolblifkaaDoor
