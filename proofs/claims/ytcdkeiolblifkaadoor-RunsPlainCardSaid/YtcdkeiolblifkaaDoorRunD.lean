/-
  WALKS OF circa/runs: Join. (Printed by wip/gen/run9.py.)
-/
import Derived.Test.YtcdkeiolblifkaaDoorRunC
namespace Go.Proofs.YtcdkeiolblifkaaDoor
open Go.RowKit
set_option linter.unusedVariables false
set_option linter.unusedSimpArgs false
theorem kdJ_8 {W w1 w2 : World} {a0 a1 a2 a3 a4 a5 a6 a7 : Addr} {v0 v1 v2 v3 v4 v5 v6 v7 : Value} (k : Dn w1 w2) (h : Dn W w1 ∧ w1.cell? a0 = some v0 ∧ w1.cell? a1 = some v1 ∧ w1.cell? a2 = some v2 ∧ w1.cell? a3 = some v3 ∧ w1.cell? a4 = some v4 ∧ w1.cell? a5 = some v5 ∧ w1.cell? a6 = some v6 ∧ w1.cell? a7 = some v7) :
    Dn W w2 ∧ w2.cell? a0 = some v0 ∧ w2.cell? a1 = some v1 ∧ w2.cell? a2 = some v2 ∧ w2.cell? a3 = some v3 ∧ w2.cell? a4 = some v4 ∧ w2.cell? a5 = some v5 ∧ w2.cell? a6 = some v6 ∧ w2.cell? a7 = some v7 := by
  obtain ⟨h1, c0, c1, c2, c3, c4, c5, c6, c7⟩ := h
  exact ⟨h1.trans k, k.cell c0, k.cell c1, k.cell c2, k.cell c3, k.cell c4, k.cell c5, k.cell c6, k.cell c7⟩
theorem kdS {W w1 : World} {a0 a1 a2 a3 a4 a5 a6 a7 p : Addr} {v0 v1 v2 v3 v4 v5 v6 v7 : Value} (v : Value) (hp : W.heap.size ≤ p.block) (hn : ∀ a ∈ [a0, a1, a2, a3, a4, a5, a6, a7], p.block ≠ a.block)
    (h : Dn W w1 ∧ w1.cell? a0 = some v0 ∧ w1.cell? a1 = some v1 ∧ w1.cell? a2 = some v2 ∧ w1.cell? a3 = some v3 ∧ w1.cell? a4 = some v4 ∧ w1.cell? a5 = some v5 ∧ w1.cell? a6 = some v6 ∧ w1.cell? a7 = some v7) : Dn W (w1.setCell p v) ∧ (w1.setCell p v).cell? a0 = some v0 ∧ (w1.setCell p v).cell? a1 = some v1 ∧ (w1.setCell p v).cell? a2 = some v2 ∧ (w1.setCell p v).cell? a3 = some v3 ∧ (w1.setCell p v).cell? a4 = some v4 ∧ (w1.setCell p v).cell? a5 = some v5 ∧ (w1.setCell p v).cell? a6 = some v6 ∧ (w1.setCell p v).cell? a7 = some v7 := by
  obtain ⟨h1, c0, c1, c2, c3, c4, c5, c6, c7⟩ := h
  have hx : ∀ a, p.block ≠ a.block → ∀ u, w1.cell? a = some u → (w1.setCell p v).cell? a = some u := fun a ha u hu => by
    rw [World.cell?_setCell_other _ _ _ _ (fun e => ha (by rw [e]))]; exact hu
  exact ⟨h1.setCell hp v, hx _ (hn _ (by simp)) _ c0, hx _ (hn _ (by simp)) _ c1, hx _ (hn _ (by simp)) _ c2, hx _ (hn _ (by simp)) _ c3, hx _ (hn _ (by simp)) _ c4, hx _ (hn _ (by simp)) _ c5, hx _ (hn _ (by simp)) _ c6, hx _ (hn _ (by simp)) _ c7⟩
set_option maxHeartbeats 4000000 in
set_option maxRecDepth 100000 in
theorem rnJoin_no (a b c d e f g h : Int) (HT : Hid (∀ W, Calls Tryd.prog 12 #[.agg #[.int .i8 a, .int .i64 b, .int .i8 c, .int .i64 d], .agg #[.int .i8 e, .int .i64 f, .int .i8 g, .int .i64 h]] W fun r w' => r = .returned (.bool false) ∧ Dn W w')) (w : World) :
    Calls Tryd.prog 10 #[.agg #[.int .i8 a, .int .i64 b, .int .i8 c, .int .i64 d], .agg #[.int .i8 e, .int .i64 f, .int .i8 g, .int .i64 h]] w fun ro w' => ro = .returned (.tuple #[.agg #[.int .i8 0, .int .i64 0, .int .i8 0, .int .i64 0], .bool false]) ∧ Dn w w' := by
  go_enter Tryd.func10, Tryd.ntmps10
  go_wp2_with fail
  obtain ⟨W1, hW1⟩ : ∃ W1, W1 = ((w.alloc (.cells #[.int .i8 a, .int .i64 b, .int .i8 c, .int .i64 d] 29)).alloc (.cells #[.int .i8 e, .int .i64 f, .int .i8 g, .int .i64 h] 29)).alloc (.cells #[.int .i8 0, .int .i64 0, .int .i8 0, .int .i64 0] 29) := ⟨_, rfl⟩
  have uW1 : Dn w W1 := by rw [hW1]; exact (((Dn.refl _).alloc _).alloc _).alloc _
  have c2 : W1.cell? ⟨w.heap.size, 0, none⟩ = some (.int .i8 a) := by rw [hW1]; simp [go_sem]
  have c3 : W1.cell? ⟨w.heap.size, 1, none⟩ = some (.int .i64 b) := by rw [hW1]; simp [go_sem]
  have c4 : W1.cell? ⟨w.heap.size, 2, none⟩ = some (.int .i8 c) := by rw [hW1]; simp [go_sem]
  have c5 : W1.cell? ⟨w.heap.size, 3, none⟩ = some (.int .i64 d) := by rw [hW1]; simp [go_sem]
  have l6 : w.heap.size < W1.heap.size := by rw [hW1]; simp <;> omega
  have c7 : W1.cell? ⟨w.heap.size + 1, 0, none⟩ = some (.int .i8 e) := by rw [hW1]; simp [go_sem]
  have c8 : W1.cell? ⟨w.heap.size + 1, 1, none⟩ = some (.int .i64 f) := by rw [hW1]; simp [go_sem]
  have c9 : W1.cell? ⟨w.heap.size + 1, 2, none⟩ = some (.int .i8 g) := by rw [hW1]; simp [go_sem]
  have c10 : W1.cell? ⟨w.heap.size + 1, 3, none⟩ = some (.int .i64 h) := by rw [hW1]; simp [go_sem]
  have l11 : w.heap.size + 1 < W1.heap.size := by rw [hW1]; simp <;> omega
  have c12 : W1.cell? ⟨w.heap.size + 1 + 1, 0, none⟩ = some (.int .i8 0) := by rw [hW1]; simp [go_sem]
  have c13 : W1.cell? ⟨w.heap.size + 1 + 1, 1, none⟩ = some (.int .i64 0) := by rw [hW1]; simp [go_sem]
  have c14 : W1.cell? ⟨w.heap.size + 1 + 1, 2, none⟩ = some (.int .i8 0) := by rw [hW1]; simp [go_sem]
  have c15 : W1.cell? ⟨w.heap.size + 1 + 1, 3, none⟩ = some (.int .i64 0) := by rw [hW1]; simp [go_sem]
  have l16 : w.heap.size + 1 + 1 < W1.heap.size := by rw [hW1]; simp <;> omega
  have f17 : W1.frozen? ⟨w.heap.size + 1 + 1, 0, none⟩ = false := by rw [hW1]; simp [go_sem]
  have f18 : W1.frozen? ⟨w.heap.size + 1 + 1, 1, none⟩ = false := by rw [hW1]; simp [go_sem]
  have f19 : W1.frozen? ⟨w.heap.size + 1 + 1, 2, none⟩ = false := by rw [hW1]; simp [go_sem]
  have f20 : W1.frozen? ⟨w.heap.size + 1 + 1, 3, none⟩ = false := by rw [hW1]; simp [go_sem]
  rw [← hW1]
  clear hW1
  refine (HT.out _).mono ?_
  rintro e w1 ⟨rfl, qw1⟩
  have l21 := Nat.lt_of_lt_of_le l6 qw1.size
  have c22 := qw1.cell c2
  have c23 := qw1.cell c3
  have c24 := qw1.cell c4
  have c25 := qw1.cell c5
  have l26 := Nat.lt_of_lt_of_le l11 qw1.size
  have c27 := qw1.cell c7
  have c28 := qw1.cell c8
  have c29 := qw1.cell c9
  have c30 := qw1.cell c10
  have f31 := (qw1.frozen (a := ⟨w.heap.size + 1 + 1, 0, none⟩) l16).trans f17
  have f32 := (qw1.frozen (a := ⟨w.heap.size + 1 + 1, 1, none⟩) l16).trans f18
  have f33 := (qw1.frozen (a := ⟨w.heap.size + 1 + 1, 2, none⟩) l16).trans f19
  have f34 := (qw1.frozen (a := ⟨w.heap.size + 1 + 1, 3, none⟩) l16).trans f20
  have l35 := Nat.lt_of_lt_of_le l16 qw1.size
  have c36 := qw1.cell c12
  have c37 := qw1.cell c13
  have c38 := qw1.cell c14
  have c39 := qw1.cell c15
  clear l6 c2 c3 c4 c5 l11 c7 c8 c9 c10 f17 f18 f19 f20 l16 c12 c13 c14 c15
  have uw1 := uW1.trans qw1
  clear qw1 uW1
  go_wp2_with fail
  exact bodyPost_ret (v := .tuple #[.agg #[.int .i8 0, .int .i64 0, .int .i8 0, .int .i64 0], .bool false]) (by simp [results, Tryd.results10, go_sem, c22, c23, c24, c25, c27, c28, c29, c30, c36, c37, c38, c39, f31, f32, f33, f34] <;> omega) rfl ⟨rfl, ((((uw1.setCell (by simp <;> omega) _).setCell (by simp <;> omega) _).setCell (by simp <;> omega) _).setCell (by simp <;> omega) _)⟩
set_option maxHeartbeats 4000000 in
set_option maxRecDepth 100000 in
theorem rnJoin_yes (a b c d e f g h i1 d1 i2 d2 : Int) (HT : Hid (∀ W, Calls Tryd.prog 12 #[.agg #[.int .i8 a, .int .i64 b, .int .i8 c, .int .i64 d], .agg #[.int .i8 e, .int .i64 f, .int .i8 g, .int .i64 h]] W fun r w' => r = .returned (.bool true) ∧ Dn W w')) (HM : Hid (∀ W, Calls Tryd.prog 38 #[.agg #[.int .i8 a, .int .i64 b], .agg #[.int .i8 e, .int .i64 f]] W fun r w' => r = .returned (.agg #[.int .i8 i1, .int .i64 d1]) ∧ Up W w')) (HX : Hid (∀ W, Calls Tryd.prog 39 #[.agg #[.int .i8 c, .int .i64 d], .agg #[.int .i8 g, .int .i64 h]] W fun r w' => r = .returned (.agg #[.int .i8 i2, .int .i64 d2]) ∧ Up W w')) (w : World) :
    Calls Tryd.prog 10 #[.agg #[.int .i8 a, .int .i64 b, .int .i8 c, .int .i64 d], .agg #[.int .i8 e, .int .i64 f, .int .i8 g, .int .i64 h]] w fun ro w' => ro = .returned (.tuple #[.agg #[.int .i8 i1, .int .i64 d1, .int .i8 i2, .int .i64 d2], .bool true]) ∧ Dn w w' := by
  go_enter Tryd.func10, Tryd.ntmps10
  go_wp2_with fail
  obtain ⟨W1, hW1⟩ : ∃ W1, W1 = ((w.alloc (.cells #[.int .i8 a, .int .i64 b, .int .i8 c, .int .i64 d] 29)).alloc (.cells #[.int .i8 e, .int .i64 f, .int .i8 g, .int .i64 h] 29)).alloc (.cells #[.int .i8 0, .int .i64 0, .int .i8 0, .int .i64 0] 29) := ⟨_, rfl⟩
  have uW1 : Dn w W1 := by rw [hW1]; exact (((Dn.refl _).alloc _).alloc _).alloc _
  have c2 : W1.cell? ⟨w.heap.size, 0, none⟩ = some (.int .i8 a) := by rw [hW1]; simp [go_sem]
  have c3 : W1.cell? ⟨w.heap.size, 1, none⟩ = some (.int .i64 b) := by rw [hW1]; simp [go_sem]
  have c4 : W1.cell? ⟨w.heap.size, 2, none⟩ = some (.int .i8 c) := by rw [hW1]; simp [go_sem]
  have c5 : W1.cell? ⟨w.heap.size, 3, none⟩ = some (.int .i64 d) := by rw [hW1]; simp [go_sem]
  have l6 : w.heap.size < W1.heap.size := by rw [hW1]; simp <;> omega
  have c7 : W1.cell? ⟨w.heap.size + 1, 0, none⟩ = some (.int .i8 e) := by rw [hW1]; simp [go_sem]
  have c8 : W1.cell? ⟨w.heap.size + 1, 1, none⟩ = some (.int .i64 f) := by rw [hW1]; simp [go_sem]
  have c9 : W1.cell? ⟨w.heap.size + 1, 2, none⟩ = some (.int .i8 g) := by rw [hW1]; simp [go_sem]
  have c10 : W1.cell? ⟨w.heap.size + 1, 3, none⟩ = some (.int .i64 h) := by rw [hW1]; simp [go_sem]
  have l11 : w.heap.size + 1 < W1.heap.size := by rw [hW1]; simp <;> omega
  have c12 : W1.cell? ⟨w.heap.size + 1 + 1, 0, none⟩ = some (.int .i8 0) := by rw [hW1]; simp [go_sem]
  have c13 : W1.cell? ⟨w.heap.size + 1 + 1, 1, none⟩ = some (.int .i64 0) := by rw [hW1]; simp [go_sem]
  have c14 : W1.cell? ⟨w.heap.size + 1 + 1, 2, none⟩ = some (.int .i8 0) := by rw [hW1]; simp [go_sem]
  have c15 : W1.cell? ⟨w.heap.size + 1 + 1, 3, none⟩ = some (.int .i64 0) := by rw [hW1]; simp [go_sem]
  have l16 : w.heap.size + 1 + 1 < W1.heap.size := by rw [hW1]; simp <;> omega
  have f17 : W1.frozen? ⟨w.heap.size + 1 + 1, 0, none⟩ = false := by rw [hW1]; simp [go_sem]
  have f18 : W1.frozen? ⟨w.heap.size + 1 + 1, 1, none⟩ = false := by rw [hW1]; simp [go_sem]
  have f19 : W1.frozen? ⟨w.heap.size + 1 + 1, 2, none⟩ = false := by rw [hW1]; simp [go_sem]
  have f20 : W1.frozen? ⟨w.heap.size + 1 + 1, 3, none⟩ = false := by rw [hW1]; simp [go_sem]
  rw [← hW1]
  clear hW1
  refine (HT.out _).mono ?_
  rintro e w1 ⟨rfl, qw1⟩
  have l21 := Nat.lt_of_lt_of_le l6 qw1.size
  have c22 := qw1.cell c2
  have c23 := qw1.cell c3
  have c24 := qw1.cell c4
  have c25 := qw1.cell c5
  have l26 := Nat.lt_of_lt_of_le l11 qw1.size
  have c27 := qw1.cell c7
  have c28 := qw1.cell c8
  have c29 := qw1.cell c9
  have c30 := qw1.cell c10
  have f31 := (qw1.frozen (a := ⟨w.heap.size + 1 + 1, 0, none⟩) l16).trans f17
  have f32 := (qw1.frozen (a := ⟨w.heap.size + 1 + 1, 1, none⟩) l16).trans f18
  have f33 := (qw1.frozen (a := ⟨w.heap.size + 1 + 1, 2, none⟩) l16).trans f19
  have f34 := (qw1.frozen (a := ⟨w.heap.size + 1 + 1, 3, none⟩) l16).trans f20
  have l35 := Nat.lt_of_lt_of_le l16 qw1.size
  have c36 := qw1.cell c12
  have c37 := qw1.cell c13
  have c38 := qw1.cell c14
  have c39 := qw1.cell c15
  clear l6 c2 c3 c4 c5 l11 c7 c8 c9 c10 f17 f18 f19 f20 l16 c12 c13 c14 c15
  have uw1 := uW1.trans qw1
  clear qw1 uW1
  go_wp2_with fail
  have hS := kdJ_8 (W := w) (Dn.refl w1) ⟨uw1, c22, c23, c24, c25, c27, c28, c29, c30⟩
  have z0 := c36
  have f0 := f31
  have z1 := c37
  have f1 := f32
  have z2 := c38
  have f2 := f33
  have z3 := c39
  have f3 := f34
  have lz := l35
  clear c22 c23 c24 c25 c27 c28 c29 c30 c36 c37 c38 c39 f31 f32 f33 f34 l35
  go_region_held3 (fun w' => Dn w w' ∧ w'.cell? ⟨w.heap.size, 0, none⟩ = some (.int .i8 a) ∧ w'.cell? ⟨w.heap.size, 1, none⟩ = some (.int .i64 b) ∧ w'.cell? ⟨w.heap.size, 2, none⟩ = some (.int .i8 c) ∧ w'.cell? ⟨w.heap.size, 3, none⟩ = some (.int .i64 d) ∧ w'.cell? ⟨w.heap.size + 1, 0, none⟩ = some (.int .i8 e) ∧ w'.cell? ⟨w.heap.size + 1, 1, none⟩ = some (.int .i64 f) ∧ w'.cell? ⟨w.heap.size + 1, 2, none⟩ = some (.int .i8 g) ∧ w'.cell? ⟨w.heap.size + 1, 3, none⟩ = some (.int .i64 h))
    (first | exact kdJ_8 ((Dn.refl _).drew) hS | exact kdJ_8 ‹Dn _ _› ‹_› | exact kdJ_8 (Up.dn ‹Up _ _›) ‹_› | exact kdS _ (by simp <;> omega) (by simp <;> omega) (kdS _ (by simp <;> omega) (by simp <;> omega) (kdS _ (by simp <;> omega) (by simp <;> omega) (kdS _ (by simp <;> omega) (by simp <;> omega) ‹Dn w _ ∧ _›))) | assumption)
    (first
      | (go_at_call 38; refine (HM.out _).mono ?_; rintro e wa ⟨rfl, qa⟩; replace qa := Up.dn qa; have z0 := qa.cell (a := ⟨w.heap.size + 1 + 1, 0, none⟩) (by assumption); have z1 := qa.cell (a := ⟨w.heap.size + 1 + 1, 1, none⟩) (by assumption); have z2 := qa.cell (a := ⟨w.heap.size + 1 + 1, 2, none⟩) (by assumption); have z3 := qa.cell (a := ⟨w.heap.size + 1 + 1, 3, none⟩) (by assumption); have f0 := (qa.frozen (a := ⟨w.heap.size + 1 + 1, 0, none⟩) (by assumption)).trans (by assumption); have f1 := (qa.frozen (a := ⟨w.heap.size + 1 + 1, 1, none⟩) (by assumption)).trans (by assumption); have f2 := (qa.frozen (a := ⟨w.heap.size + 1 + 1, 2, none⟩) (by assumption)).trans (by assumption); have f3 := (qa.frozen (a := ⟨w.heap.size + 1 + 1, 3, none⟩) (by assumption)).trans (by assumption); have lz : w.heap.size + 1 + 1 < wa.heap.size := Nat.lt_of_lt_of_le (by assumption) qa.size)
      | (go_at_call 39; refine (HX.out _).mono ?_; rintro e wa ⟨rfl, qa⟩; replace qa := Up.dn qa; have z0 := qa.cell (a := ⟨w.heap.size + 1 + 1, 0, none⟩) (by assumption); have z1 := qa.cell (a := ⟨w.heap.size + 1 + 1, 1, none⟩) (by assumption); have z2 := qa.cell (a := ⟨w.heap.size + 1 + 1, 2, none⟩) (by assumption); have z3 := qa.cell (a := ⟨w.heap.size + 1 + 1, 3, none⟩) (by assumption); have f0 := (qa.frozen (a := ⟨w.heap.size + 1 + 1, 0, none⟩) (by assumption)).trans (by assumption); have f1 := (qa.frozen (a := ⟨w.heap.size + 1 + 1, 1, none⟩) (by assumption)).trans (by assumption); have f2 := (qa.frozen (a := ⟨w.heap.size + 1 + 1, 2, none⟩) (by assumption)).trans (by assumption); have f3 := (qa.frozen (a := ⟨w.heap.size + 1 + 1, 3, none⟩) (by assumption)).trans (by assumption); have lz : w.heap.size + 1 + 1 < wa.heap.size := Nat.lt_of_lt_of_le (by assumption) qa.size))
  all_goals
    have hf : Dn w _ := (‹Dn w _ ∧ _› : _ ∧ _).1
    go_wp2_with fail
    exact bodyPost_ret (v := .tuple #[.agg #[.int .i8 i1, .int .i64 d1, .int .i8 i2, .int .i64 d2], .bool true]) (by simp [results, Tryd.results10, go_sem, z0, z1, z2, z3, f0, f1, f2, f3] <;> omega) rfl ⟨rfl, hf⟩
end Go.Proofs.YtcdkeiolblifkaaDoor
