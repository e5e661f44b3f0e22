/-
  WALKS OF circalaw09: lives. (Printed by wip/gen/law9.py.)
-/
import Derived.Test.YtcdkeiolblifkaaDoorRunH
import Derived.Test.YtcdkeiolblifkaaDoorRegInv
import Derived.Deep.DeepCutAuto
namespace Go.Proofs.YtcdkeiolblifkaaDoor
open Go.RowKit
set_option linter.unusedVariables false
set_option linter.unusedSimpArgs false
theorem kdN_10 {W w1 w2 : World} {a0 a1 a2 a3 a4 a5 a6 a7 a8 a9 : Addr} {v0 v1 v2 v3 v4 v5 v6 v7 v8 v9 : Value} (k : Dn w1 w2) (h : Dn W w1 ∧ w1.cell? a0 = some v0 ∧ w1.cell? a1 = some v1 ∧ w1.cell? a2 = some v2 ∧ w1.cell? a3 = some v3 ∧ w1.cell? a4 = some v4 ∧ w1.cell? a5 = some v5 ∧ w1.cell? a6 = some v6 ∧ w1.cell? a7 = some v7 ∧ w1.cell? a8 = some v8 ∧ w1.cell? a9 = some v9) :
    Dn W w2 ∧ w2.cell? a0 = some v0 ∧ w2.cell? a1 = some v1 ∧ w2.cell? a2 = some v2 ∧ w2.cell? a3 = some v3 ∧ w2.cell? a4 = some v4 ∧ w2.cell? a5 = some v5 ∧ w2.cell? a6 = some v6 ∧ w2.cell? a7 = some v7 ∧ w2.cell? a8 = some v8 ∧ w2.cell? a9 = some v9 := by
  obtain ⟨h1, c0, c1, c2, c3, c4, c5, c6, c7, c8, c9⟩ := h
  exact ⟨h1.trans k, k.cell c0, k.cell c1, k.cell c2, k.cell c3, k.cell c4, k.cell c5, k.cell c6, k.cell c7, k.cell c8, k.cell c9⟩
theorem kdN_14 {W w1 w2 : World} {a0 a1 a2 a3 a4 a5 a6 a7 a8 a9 a10 a11 a12 a13 : Addr} {v0 v1 v2 v3 v4 v5 v6 v7 v8 v9 v10 v11 v12 v13 : Value} (k : Dn w1 w2) (h : Dn W w1 ∧ w1.cell? a0 = some v0 ∧ w1.cell? a1 = some v1 ∧ w1.cell? a2 = some v2 ∧ w1.cell? a3 = some v3 ∧ w1.cell? a4 = some v4 ∧ w1.cell? a5 = some v5 ∧ w1.cell? a6 = some v6 ∧ w1.cell? a7 = some v7 ∧ w1.cell? a8 = some v8 ∧ w1.cell? a9 = some v9 ∧ w1.cell? a10 = some v10 ∧ w1.cell? a11 = some v11 ∧ w1.cell? a12 = some v12 ∧ w1.cell? a13 = some v13) :
    Dn W w2 ∧ w2.cell? a0 = some v0 ∧ w2.cell? a1 = some v1 ∧ w2.cell? a2 = some v2 ∧ w2.cell? a3 = some v3 ∧ w2.cell? a4 = some v4 ∧ w2.cell? a5 = some v5 ∧ w2.cell? a6 = some v6 ∧ w2.cell? a7 = some v7 ∧ w2.cell? a8 = some v8 ∧ w2.cell? a9 = some v9 ∧ w2.cell? a10 = some v10 ∧ w2.cell? a11 = some v11 ∧ w2.cell? a12 = some v12 ∧ w2.cell? a13 = some v13 := by
  obtain ⟨h1, c0, c1, c2, c3, c4, c5, c6, c7, c8, c9, c10, c11, c12, c13⟩ := h
  exact ⟨h1.trans k, k.cell c0, k.cell c1, k.cell c2, k.cell c3, k.cell c4, k.cell c5, k.cell c6, k.cell c7, k.cell c8, k.cell c9, k.cell c10, k.cell c11, k.cell c12, k.cell c13⟩
theorem kdN_16 {W w1 w2 : World} {a0 a1 a2 a3 a4 a5 a6 a7 a8 a9 a10 a11 a12 a13 a14 a15 : Addr} {v0 v1 v2 v3 v4 v5 v6 v7 v8 v9 v10 v11 v12 v13 v14 v15 : Value} (k : Dn w1 w2) (h : Dn W w1 ∧ w1.cell? a0 = some v0 ∧ w1.cell? a1 = some v1 ∧ w1.cell? a2 = some v2 ∧ w1.cell? a3 = some v3 ∧ w1.cell? a4 = some v4 ∧ w1.cell? a5 = some v5 ∧ w1.cell? a6 = some v6 ∧ w1.cell? a7 = some v7 ∧ w1.cell? a8 = some v8 ∧ w1.cell? a9 = some v9 ∧ w1.cell? a10 = some v10 ∧ w1.cell? a11 = some v11 ∧ w1.cell? a12 = some v12 ∧ w1.cell? a13 = some v13 ∧ w1.cell? a14 = some v14 ∧ w1.cell? a15 = some v15) :
    Dn W w2 ∧ w2.cell? a0 = some v0 ∧ w2.cell? a1 = some v1 ∧ w2.cell? a2 = some v2 ∧ w2.cell? a3 = some v3 ∧ w2.cell? a4 = some v4 ∧ w2.cell? a5 = some v5 ∧ w2.cell? a6 = some v6 ∧ w2.cell? a7 = some v7 ∧ w2.cell? a8 = some v8 ∧ w2.cell? a9 = some v9 ∧ w2.cell? a10 = some v10 ∧ w2.cell? a11 = some v11 ∧ w2.cell? a12 = some v12 ∧ w2.cell? a13 = some v13 ∧ w2.cell? a14 = some v14 ∧ w2.cell? a15 = some v15 := by
  obtain ⟨h1, c0, c1, c2, c3, c4, c5, c6, c7, c8, c9, c10, c11, c12, c13, c14, c15⟩ := h
  exact ⟨h1.trans k, k.cell c0, k.cell c1, k.cell c2, k.cell c3, k.cell c4, k.cell c5, k.cell c6, k.cell c7, k.cell c8, k.cell c9, k.cell c10, k.cell c11, k.cell c12, k.cell c13, k.cell c14, k.cell c15⟩
theorem rnT_at (a b c d e f g h : Int) (t : Bool) (w : World) (hb : I64 b) (hd : I64 d) (hf : I64 f) (hh : I64 h) (ht : decide (Tch a b c d e f g h) = t) :
    Calls Tryd.prog 12 #[.agg #[.int .i8 a, .int .i64 b, .int .i8 c, .int .i64 d], .agg #[.int .i8 e, .int .i64 f, .int .i8 g, .int .i64 h]] w fun r w' => r = .returned (.bool t) ∧ Dn w w' := by
  subst ht; exact rnTouch a b c d e f g h w hb hd hf hh
theorem rnHas_at (a b c d day : Int) (t : Bool) (w : World) (hb : I64 b) (hd : I64 d) (hy : I64 day) (ht : decide (Wi 0 day 0 day a b c d) = t) :
    Calls Tryd.prog 9 #[.agg #[.int .i8 a, .int .i64 b, .int .i8 c, .int .i64 d], .int .i64 day] w fun e w' => e = .returned (.bool t) ∧ Dn w w' := by
  subst ht; exact rnHas a b c d day w hb hd hy
theorem rp_of {s lo hi : ByteArray} {q0 q1 q2 q3 r i1 d1 r1 i2 d2 r2 : Int} (hc : Lib.cut s.data.toList [46, 46] = (lo.data.toList, hi.data.toList, true)) (h1 : EP lo i1 d1 r1) (h2 : EP hi i2 d2 r2)
    (hx : ((r1 = 5 ∨ r2 = 5) ∧ q0 = 0 ∧ q1 = 0 ∧ q2 = 0 ∧ q3 = 0 ∧ r = 5) ∨ (r1 ≠ 5 ∧ r2 ≠ 5 ∧ (r1 ≠ 0 ∨ r2 ≠ 0) ∧ q0 = 0 ∧ q1 = 0 ∧ q2 = 0 ∧ q3 = 0 ∧ r = 15) ∨
     (r1 = 0 ∧ r2 = 0 ∧ rnErr i1 d1 i2 d2 ≠ 0 ∧ q0 = 0 ∧ q1 = 0 ∧ q2 = 0 ∧ q3 = 0 ∧ r = rnErr i1 d1 i2 d2) ∨ (r1 = 0 ∧ r2 = 0 ∧ rnErr i1 d1 i2 d2 = 0 ∧ q0 = i1 ∧ q1 = d1 ∧ q2 = i2 ∧ q3 = d2 ∧ r = 0)) : RP s q0 q1 q2 q3 r := by
  refine Or.inr ⟨by rw [hc], i1, d1, r1, i2, d2, r2, ?_, ?_, hx⟩
  · rw [hc]; exact h1
  · rw [hc]; exact h2
theorem rp9_0 : RP ⟨#[45, 105, 110, 102, 46, 46, 45, 51]⟩ (-1) 0 0 (-3) 0 := (rp_of (lo := ⟨#[45, 105, 110, 102]⟩) (hi := ⟨#[45, 51]⟩) (i1 := (-1)) (d1 := 0) (r1 := 0) (i2 := 0) (d2 := (-3)) (r2 := 0) (by decide +kernel) (Or.inr (Or.inl ⟨rfl, rfl, rfl, rfl⟩)) (Or.inr (Or.inr ⟨by decide, by decide, rfl, Or.inl ⟨by decide +kernel, Or.inl ⟨by decide +kernel, by decide +kernel, rfl⟩⟩⟩)) (Or.inr (Or.inr (Or.inr ⟨rfl, rfl, by decide +kernel, rfl, rfl, rfl, rfl, rfl⟩))))
theorem rp9_1 : RP ⟨#[53, 46, 46, 51]⟩ 0 0 0 0 12 := (rp_of (lo := ⟨#[53]⟩) (hi := ⟨#[51]⟩) (i1 := 0) (d1 := 5) (r1 := 0) (i2 := 0) (d2 := 3) (r2 := 0) (by decide +kernel) (Or.inr (Or.inr ⟨by decide, by decide, rfl, Or.inl ⟨by decide +kernel, Or.inl ⟨by decide +kernel, by decide +kernel, rfl⟩⟩⟩)) (Or.inr (Or.inr ⟨by decide, by decide, rfl, Or.inl ⟨by decide +kernel, Or.inl ⟨by decide +kernel, by decide +kernel, rfl⟩⟩⟩)) (Or.inr (Or.inr (Or.inl ⟨rfl, rfl, by decide +kernel, rfl, rfl, rfl, rfl, by decide +kernel⟩))))
theorem rp9_2 : RP ⟨#[105, 110, 102, 46, 46, 105, 110, 102]⟩ 0 0 0 0 4 := (rp_of (lo := ⟨#[105, 110, 102]⟩) (hi := ⟨#[105, 110, 102]⟩) (i1 := 1) (d1 := 0) (r1 := 0) (i2 := 1) (d2 := 0) (r2 := 0) (by decide +kernel) (Or.inl ⟨rfl, rfl, rfl, rfl⟩) (Or.inl ⟨rfl, rfl, rfl, rfl⟩) (Or.inr (Or.inr (Or.inl ⟨rfl, rfl, by decide +kernel, rfl, rfl, rfl, rfl, by decide +kernel⟩))))
theorem rp9_3 : RP ⟨#[49, 46, 46, 46, 51]⟩ 0 0 0 0 5 := (rp_of (lo := ⟨#[49]⟩) (hi := ⟨#[46, 51]⟩) (i1 := 0) (d1 := 1) (r1 := 0) (i2 := 0) (d2 := 0) (r2 := 5) (by decide +kernel) (Or.inr (Or.inr ⟨by decide, by decide, rfl, Or.inl ⟨by decide +kernel, Or.inl ⟨by decide +kernel, by decide +kernel, rfl⟩⟩⟩)) (Or.inr (Or.inr ⟨by decide, by decide, rfl, Or.inr ⟨by decide +kernel, rfl, rfl⟩⟩)) (Or.inl ⟨by decide, rfl, rfl, rfl, rfl, rfl⟩))
set_option maxHeartbeats 16000000 in
set_option maxRecDepth 100000 in
theorem lives9 (w : World) (hE : EnvR w) :
    Calls Tryd.prog 14 #[] w fun e w' => e = .returned (.bool true) ∧ Dn w w' := by
  go_enter Tryd.func14, Tryd.ntmps14
  go_wp2_with fail
  obtain ⟨W1, hW1⟩ : ∃ W1, W1 = (w.alloc (.cells #[.int .i8 (-1), .int .i64 0] 27)).alloc (.cells #[.int .i8 1, .int .i64 0] 27) := ⟨_, rfl⟩
  have uW1 : Dn w W1 := by rw [hW1]; exact ((Dn.refl _).alloc _).alloc _
  have c2 : W1.cell? ⟨w.heap.size, 0, none⟩ = some (.int .i8 (-1)) := by rw [hW1]; simp [go_sem]
  have c3 : W1.cell? ⟨w.heap.size, 1, none⟩ = some (.int .i64 0) := by rw [hW1]; simp [go_sem]
  have l4 : w.heap.size < W1.heap.size := by rw [hW1]; simp <;> omega
  have c5 : W1.cell? ⟨w.heap.size + 1, 0, none⟩ = some (.int .i8 1) := by rw [hW1]; simp [go_sem]
  have c6 : W1.cell? ⟨w.heap.size + 1, 1, none⟩ = some (.int .i64 0) := by rw [hW1]; simp [go_sem]
  have l7 : w.heap.size + 1 < W1.heap.size := by rw [hW1]; simp <;> omega
  rw [← hW1]
  clear hW1
  refine region_inv (fun A l a' w' => ∃ (b0 b1 b2 b3 b4 b5 b6 b7 b8 b9 b10 : Bool) (x23 x24 x25 x26 x27 x3 x4 x5 : Value), l = #[b0, b1, b2, b3, b4, b5, b6, b7, b8, b9, b10] ∧ a' = ((((((((A.put (some 23) x23).put (some 24) x24).put (some 25) x25).put (some 26) x26).put (some 27) x27).put (some 3) x3).put (some 4) x4).put (some 5) x5) ∧ Dn W1 w' ∧ (b0 = true → x23 = .agg #[.int .i8 0, .int .i64 1, .int .i8 0, .int .i64 3]) ∧ (b1 = true → x24 = .agg #[.int .i8 0, .int .i64 4, .int .i8 0, .int .i64 5]) ∧ (b2 = true → x25 = .agg #[.int .i8 (-1), .int .i64 0]) ∧ (b3 = true → x26 = .agg #[.int .i8 0, .int .i64 3]) ∧ (b4 = true → x27 = .agg #[.int .i8 (-1), .int .i64 0, .int .i8 0, .int .i64 3]) ∧ (b8 = true → b5 = true) ∧ (b9 = true → b6 = true) ∧ (b10 = true → b7 = true) ∧ Bl W1.heap.size w' b5 b8 x3 (.int .i8 0) (.int .i64 1) (.int .i8 0) (.int .i64 3) ∧ Bl W1.heap.size w' b6 b9 x4 (.int .i8 0) (.int .i64 4) (.int .i8 0) (.int .i64 5) ∧ Bl W1.heap.size w' b7 b10 x5 (.int .i8 (-1)) (.int .i64 0) (.int .i8 0) (.int .i64 3) ∧ Ap b5 b6 x3 x4 ∧ Ap b5 b7 x3 x5 ∧ Ap b6 b7 x4 x5) (by kernel_rfl) ?_ ?_ ?_
  · exact ⟨false, false, false, false, false, false, false, false, false, false, false, undef, undef, undef, undef, undef, undef, undef, undef, rfl, by simp only [Act.put, List.getElem_toArray, List.getElem_cons_succ, List.getElem_cons_zero, List.setIfInBounds_toArray, List.set_cons_zero, List.set_cons_succ], (Dn.refl _).drew, (fun h => by cases h), (fun h => by cases h), (fun h => by cases h), (fun h => by cases h), (fun h => by cases h), (fun h => by cases h), (fun h => by cases h), (fun h => by cases h), Bl.no, Bl.no, Bl.no, Ap.nol, Ap.nol, Ap.nol⟩
  · rintro l a' w' i ⟨b0, b1, b2, b3, b4, b5, b6, b7, b8, b9, b10, x23, x24, x25, x26, x27, x3, x4, x5, rfl, rfl, q, hv0, hv1, hv2, hv3, hv4, hs5, hs6, hs7, hk5, hk6, hk7, hp5_6, hp5_7, hp6_7⟩ hun hdep hi
    simp only [Act.put, List.getElem_toArray, List.getElem_cons_succ, List.getElem_cons_zero, List.setIfInBounds_toArray, List.set_cons_zero, List.set_cons_succ]
    have hi' : i < 11 := hi
    rcases (show i = 0 ∨ i = 1 ∨ i = 2 ∨ i = 3 ∨ i = 4 ∨ i = 5 ∨ i = 6 ∨ i = 7 ∨ i = 8 ∨ i = 9 ∨ i = 10 by omega) with rfl | rfl | rfl | rfl | rfl | rfl | rfl | rfl | rfl | rfl | rfl
    ·
      have f0 : b0 = false := by simpa using hun
      subst f0
      refine wpOp_step rfl (fun K hK => ?_)
      replace hK := Lib.hid hK
      go_simp
      go_at_call 32
      refine (dy9 1 3 _).mono ?_
      rintro e wa ⟨rfl, qa⟩
      try go_wp2_with fail
      exact hK.out _ _ ⟨true, b1, b2, b3, b4, b5, b6, b7, b8, b9, b10, .agg #[.int .i8 0, .int .i64 1, .int .i8 0, .int .i64 3], x24, x25, x26, x27, x3, x4, x5, rfl, by simp only [Act.put, List.getElem_toArray, List.getElem_cons_succ, List.getElem_cons_zero, List.setIfInBounds_toArray, List.set_cons_zero, List.set_cons_succ], q.trans qa, fun _ => rfl, hv1, hv2, hv3, hv4, hs5, hs6, hs7, hk5.dn qa, hk6.dn qa, hk7.dn qa, hp5_6, hp5_7, hp6_7⟩
    ·
      have f1 : b1 = false := by simpa using hun
      subst f1
      refine wpOp_step rfl (fun K hK => ?_)
      replace hK := Lib.hid hK
      go_simp
      go_at_call 32
      refine (dy9 4 5 _).mono ?_
      rintro e wa ⟨rfl, qa⟩
      try go_wp2_with fail
      exact hK.out _ _ ⟨b0, true, b2, b3, b4, b5, b6, b7, b8, b9, b10, x23, .agg #[.int .i8 0, .int .i64 4, .int .i8 0, .int .i64 5], x25, x26, x27, x3, x4, x5, rfl, by simp only [Act.put, List.getElem_toArray, List.getElem_cons_succ, List.getElem_cons_zero, List.setIfInBounds_toArray, List.set_cons_zero, List.set_cons_succ], q.trans qa, hv0, fun _ => rfl, hv2, hv3, hv4, hs5, hs6, hs7, hk5.dn qa, hk6.dn qa, hk7.dn qa, hp5_6, hp5_7, hp6_7⟩
    ·
      have f2 : b2 = false := by simpa using hun
      subst f2
      have g9 := q.cell c2
      have g10 := q.cell c3
      refine wpOp_step rfl (fun K hK => ?_)
      replace hK := Lib.hid hK
      go_simp
      exact hK.out _ _ ⟨b0, b1, true, b3, b4, b5, b6, b7, b8, b9, b10, x23, x24, .agg #[.int .i8 (-1), .int .i64 0], x26, x27, x3, x4, x5, rfl, by simp only [Act.put, List.getElem_toArray, List.getElem_cons_succ, List.getElem_cons_zero, List.setIfInBounds_toArray, List.set_cons_zero, List.set_cons_succ], q, hv0, hv1, fun _ => rfl, hv3, hv4, hs5, hs6, hs7, hk5, hk6, hk7, hp5_6, hp5_7, hp6_7⟩
    ·
      have f3 : b3 = false := by simpa using hun
      subst f3
      refine wpOp_step rfl (fun K hK => ?_)
      replace hK := Lib.hid hK
      go_simp
      exact hK.out _ _ ⟨b0, b1, b2, true, b4, b5, b6, b7, b8, b9, b10, x23, x24, x25, .agg #[.int .i8 0, .int .i64 3], x27, x3, x4, x5, rfl, by simp only [Act.put, List.getElem_toArray, List.getElem_cons_succ, List.getElem_cons_zero, List.setIfInBounds_toArray, List.set_cons_zero, List.set_cons_succ], q, hv0, hv1, hv2, fun _ => rfl, hv4, hs5, hs6, hs7, hk5, hk6, hk7, hp5_6, hp5_7, hp6_7⟩
    ·
      have e2 : b2 = true := hdep _ rfl ⟨2, .data⟩ (by simp) rfl
      have e3 : b3 = true := hdep _ rfl ⟨3, .data⟩ (by simp) rfl
      have f4 : b4 = false := by simpa using hun
      subst f4 e2 e3
      obtain rfl := hv2 rfl
      obtain rfl := hv3 rfl
      refine wpOp_step rfl (fun K hK => ?_)
      replace hK := Lib.hid hK
      go_simp
      exact hK.out _ _ ⟨b0, b1, true, true, true, b5, b6, b7, b8, b9, b10, x23, x24, .agg #[.int .i8 (-1), .int .i64 0], .agg #[.int .i8 0, .int .i64 3], .agg #[.int .i8 (-1), .int .i64 0, .int .i8 0, .int .i64 3], x3, x4, x5, rfl, by simp only [Act.put, List.getElem_toArray, List.getElem_cons_succ, List.getElem_cons_zero, List.setIfInBounds_toArray, List.set_cons_zero, List.set_cons_succ], q, hv0, hv1, fun _ => rfl, fun _ => rfl, fun _ => rfl, hs5, hs6, hs7, hk5, hk6, hk7, hp5_6, hp5_7, hp6_7⟩
    ·
      have f5 : b5 = false := by simpa using hun
      subst f5
      obtain rfl : b8 = false := by
        cases b8 with
        | false => rfl
        | true => exact absurd (hs5 rfl) (by simp)
      refine wpOp_step rfl (fun K hK => ?_)
      replace hK := Lib.hid hK
      go_simp
      exact hK.out _ _ ⟨b0, b1, b2, b3, b4, true, b6, b7, false, b9, b10, x23, x24, x25, x26, x27, .pointer (some ⟨w'.heap.size, 0, none⟩), x4, x5, rfl, by simp only [Act.put, List.getElem_toArray, List.getElem_cons_succ, List.getElem_cons_zero, List.setIfInBounds_toArray, List.set_cons_zero, List.set_cons_succ], q.alloc _, hv0, hv1, hv2, hv3, hv4, fun _ => rfl, hs6, hs7, Bl.new q.size _, hk6.dn ((Dn.refl _).alloc _), hk7.dn ((Dn.refl _).alloc _), (hk6.ap).symm, (hk7.ap).symm, hp6_7⟩
    ·
      have f6 : b6 = false := by simpa using hun
      subst f6
      obtain rfl : b9 = false := by
        cases b9 with
        | false => rfl
        | true => exact absurd (hs6 rfl) (by simp)
      refine wpOp_step rfl (fun K hK => ?_)
      replace hK := Lib.hid hK
      go_simp
      exact hK.out _ _ ⟨b0, b1, b2, b3, b4, b5, true, b7, b8, false, b10, x23, x24, x25, x26, x27, x3, .pointer (some ⟨w'.heap.size, 0, none⟩), x5, rfl, by simp only [Act.put, List.getElem_toArray, List.getElem_cons_succ, List.getElem_cons_zero, List.setIfInBounds_toArray, List.set_cons_zero, List.set_cons_succ], q.alloc _, hv0, hv1, hv2, hv3, hv4, hs5, fun _ => rfl, hs7, hk5.dn ((Dn.refl _).alloc _), Bl.new q.size _, hk7.dn ((Dn.refl _).alloc _), hk5.ap, hp5_7, (hk7.ap).symm⟩
    ·
      have f7 : b7 = false := by simpa using hun
      subst f7
      obtain rfl : b10 = false := by
        cases b10 with
        | false => rfl
        | true => exact absurd (hs7 rfl) (by simp)
      refine wpOp_step rfl (fun K hK => ?_)
      replace hK := Lib.hid hK
      go_simp
      exact hK.out _ _ ⟨b0, b1, b2, b3, b4, b5, b6, true, b8, b9, false, x23, x24, x25, x26, x27, x3, x4, .pointer (some ⟨w'.heap.size, 0, none⟩), rfl, by simp only [Act.put, List.getElem_toArray, List.getElem_cons_succ, List.getElem_cons_zero, List.setIfInBounds_toArray, List.set_cons_zero, List.set_cons_succ], q.alloc _, hv0, hv1, hv2, hv3, hv4, hs5, hs6, fun _ => rfl, hk5.dn ((Dn.refl _).alloc _), hk6.dn ((Dn.refl _).alloc _), Bl.new q.size _, hp5_6, hk5.ap, hk6.ap⟩
    ·
      have e5 : b5 = true := hdep _ rfl ⟨5, .data⟩ (by simp) rfl
      have e0 : b0 = true := hdep _ rfl ⟨0, .data⟩ (by simp) rfl
      have f8 : b8 = false := by simpa using hun
      subst f8 e5 e0
      obtain rfl := hv0 rfl
      obtain ⟨B, rfl, hL, hz, _⟩ := hk5 rfl
      have hB := hz rfl
      have z0 := hB.c0
      have y0 := hB.f0
      have z1 := hB.c1
      have y1 := hB.f1
      have z2 := hB.c2
      have y2 := hB.f2
      have z3 := hB.c3
      have y3 := hB.f3
      have zl := hB.lt
      refine wpOp_step rfl (fun K hK => ?_)
      replace hK := Lib.hid hK
      go_simp
      exact hK.out _ _ ⟨true, b1, b2, b3, b4, true, b6, b7, true, b9, b10, .agg #[.int .i8 0, .int .i64 1, .int .i8 0, .int .i64 3], x24, x25, x26, x27, .pointer (some ⟨B, 0, none⟩), x4, x5, rfl, by simp only [Act.put, List.getElem_toArray, List.getElem_cons_succ, List.getElem_cons_zero, List.setIfInBounds_toArray, List.set_cons_zero, List.set_cons_succ], (Dn.setCell (Dn.setCell (Dn.setCell (Dn.setCell q (by simpa using hL) _) (by simpa using hL) _) (by simpa using hL) _) (by simpa using hL) _), fun _ => rfl, hv1, hv2, hv3, hv4, fun _ => rfl, hs6, hs7, fun _ => ⟨B, rfl, hL, (fun k => by cases k), fun _ => hB.fill _ _ _ _⟩, hk6.far hp5_6 _ _ _ _, hk7.far hp5_7 _ _ _ _, hp5_6, hp5_7, hp6_7⟩
    ·
      have e6 : b6 = true := hdep _ rfl ⟨6, .data⟩ (by simp) rfl
      have e1 : b1 = true := hdep _ rfl ⟨1, .data⟩ (by simp) rfl
      have f9 : b9 = false := by simpa using hun
      subst f9 e6 e1
      obtain rfl := hv1 rfl
      obtain ⟨B, rfl, hL, hz, _⟩ := hk6 rfl
      have hB := hz rfl
      have z0 := hB.c0
      have y0 := hB.f0
      have z1 := hB.c1
      have y1 := hB.f1
      have z2 := hB.c2
      have y2 := hB.f2
      have z3 := hB.c3
      have y3 := hB.f3
      have zl := hB.lt
      refine wpOp_step rfl (fun K hK => ?_)
      replace hK := Lib.hid hK
      go_simp
      exact hK.out _ _ ⟨b0, true, b2, b3, b4, b5, true, b7, b8, true, b10, x23, .agg #[.int .i8 0, .int .i64 4, .int .i8 0, .int .i64 5], x25, x26, x27, x3, .pointer (some ⟨B, 0, none⟩), x5, rfl, by simp only [Act.put, List.getElem_toArray, List.getElem_cons_succ, List.getElem_cons_zero, List.setIfInBounds_toArray, List.set_cons_zero, List.set_cons_succ], (Dn.setCell (Dn.setCell (Dn.setCell (Dn.setCell q (by simpa using hL) _) (by simpa using hL) _) (by simpa using hL) _) (by simpa using hL) _), hv0, fun _ => rfl, hv2, hv3, hv4, hs5, fun _ => rfl, hs7, hk5.far hp5_6.symm _ _ _ _, fun _ => ⟨B, rfl, hL, (fun k => by cases k), fun _ => hB.fill _ _ _ _⟩, hk7.far hp6_7 _ _ _ _, hp5_6, hp5_7, hp6_7⟩
    ·
      have e7 : b7 = true := hdep _ rfl ⟨7, .data⟩ (by simp) rfl
      have e4 : b4 = true := hdep _ rfl ⟨4, .data⟩ (by simp) rfl
      have f10 : b10 = false := by simpa using hun
      subst f10 e7 e4
      obtain rfl := hv4 rfl
      obtain ⟨B, rfl, hL, hz, _⟩ := hk7 rfl
      have hB := hz rfl
      have z0 := hB.c0
      have y0 := hB.f0
      have z1 := hB.c1
      have y1 := hB.f1
      have z2 := hB.c2
      have y2 := hB.f2
      have z3 := hB.c3
      have y3 := hB.f3
      have zl := hB.lt
      refine wpOp_step rfl (fun K hK => ?_)
      replace hK := Lib.hid hK
      go_simp
      exact hK.out _ _ ⟨b0, b1, b2, b3, true, b5, b6, true, b8, b9, true, x23, x24, x25, x26, .agg #[.int .i8 (-1), .int .i64 0, .int .i8 0, .int .i64 3], x3, x4, .pointer (some ⟨B, 0, none⟩), rfl, by simp only [Act.put, List.getElem_toArray, List.getElem_cons_succ, List.getElem_cons_zero, List.setIfInBounds_toArray, List.set_cons_zero, List.set_cons_succ], (Dn.setCell (Dn.setCell (Dn.setCell (Dn.setCell q (by simpa using hL) _) (by simpa using hL) _) (by simpa using hL) _) (by simpa using hL) _), hv0, hv1, hv2, hv3, fun _ => rfl, hs5, hs6, fun _ => rfl, hk5.far hp5_7.symm _ _ _ _, hk6.far hp6_7.symm _ _ _ _, fun _ => ⟨B, rfl, hL, (fun k => by cases k), fun _ => hB.fill _ _ _ _⟩, hp5_6, hp5_7, hp6_7⟩
  · rintro l a' W11 ⟨b0, b1, b2, b3, b4, b5, b6, b7, b8, b9, b10, x23, x24, x25, x26, x27, x3, x4, x5, rfl, rfl, qW11, hv0, hv1, hv2, hv3, hv4, hs5, hs6, hs7, hk5, hk6, hk7, hp5_6, hp5_7, hp6_7⟩ hall
    obtain rfl : b0 = true := by
      cases b0 with
      | true => rfl
      | false => exact absurd (by intro e he hb; simp at he <;> (repeat' (rcases he with rfl | he)) <;> first | rfl | exact absurd hb (by decide)) (hall 0 _ rfl rfl)
    obtain rfl : b1 = true := by
      cases b1 with
      | true => rfl
      | false => exact absurd (by intro e he hb; simp at he <;> (repeat' (rcases he with rfl | he)) <;> first | rfl | exact absurd hb (by decide)) (hall 1 _ rfl rfl)
    obtain rfl : b2 = true := by
      cases b2 with
      | true => rfl
      | false => exact absurd (by intro e he hb; simp at he <;> (repeat' (rcases he with rfl | he)) <;> first | rfl | exact absurd hb (by decide)) (hall 2 _ rfl rfl)
    obtain rfl : b3 = true := by
      cases b3 with
      | true => rfl
      | false => exact absurd (by intro e he hb; simp at he <;> (repeat' (rcases he with rfl | he)) <;> first | rfl | exact absurd hb (by decide)) (hall 3 _ rfl rfl)
    obtain rfl : b4 = true := by
      cases b4 with
      | true => rfl
      | false => exact absurd (by intro e he hb; simp at he <;> (repeat' (rcases he with rfl | he)) <;> first | rfl | exact absurd hb (by decide)) (hall 4 _ rfl rfl)
    obtain rfl : b5 = true := by
      cases b5 with
      | true => rfl
      | false => exact absurd (by intro e he hb; simp at he <;> (repeat' (rcases he with rfl | he)) <;> first | rfl | exact absurd hb (by decide)) (hall 5 _ rfl rfl)
    obtain rfl : b6 = true := by
      cases b6 with
      | true => rfl
      | false => exact absurd (by intro e he hb; simp at he <;> (repeat' (rcases he with rfl | he)) <;> first | rfl | exact absurd hb (by decide)) (hall 6 _ rfl rfl)
    obtain rfl : b7 = true := by
      cases b7 with
      | true => rfl
      | false => exact absurd (by intro e he hb; simp at he <;> (repeat' (rcases he with rfl | he)) <;> first | rfl | exact absurd hb (by decide)) (hall 7 _ rfl rfl)
    obtain rfl : b8 = true := by
      cases b8 with
      | true => rfl
      | false => exact absurd (by intro e he hb; simp at he <;> (repeat' (rcases he with rfl | he)) <;> first | rfl | exact absurd hb (by decide)) (hall 8 _ rfl rfl)
    obtain rfl : b9 = true := by
      cases b9 with
      | true => rfl
      | false => exact absurd (by intro e he hb; simp at he <;> (repeat' (rcases he with rfl | he)) <;> first | rfl | exact absurd hb (by decide)) (hall 9 _ rfl rfl)
    obtain rfl : b10 = true := by
      cases b10 with
      | true => rfl
      | false => exact absurd (by intro e he hb; simp at he <;> (repeat' (rcases he with rfl | he)) <;> first | rfl | exact absurd hb (by decide)) (hall 10 _ rfl rfl)
    obtain rfl := hv0 rfl
    obtain rfl := hv1 rfl
    obtain rfl := hv2 rfl
    obtain rfl := hv3 rfl
    obtain rfl := hv4 rfl
    obtain ⟨Bt3, rfl, ot3, _, gt3⟩ := hk5 rfl
    obtain ⟨t3c0, t3c1, t3c2, t3c3, t3f0, t3f1, t3f2, t3f3, lt3⟩ := gt3 rfl
    clear gt3
    obtain ⟨Bt4, rfl, ot4, _, gt4⟩ := hk6 rfl
    obtain ⟨t4c0, t4c1, t4c2, t4c3, t4f0, t4f1, t4f2, t4f3, lt4⟩ := gt4 rfl
    clear gt4
    obtain ⟨Bt5, rfl, ot5, _, gt5⟩ := hk7 rfl
    obtain ⟨t5c0, t5c1, t5c2, t5c3, t5f0, t5f1, t5f2, t5f3, lt5⟩ := gt5 rfl
    clear gt5
    have l12 := Nat.lt_of_lt_of_le l4 qW11.size
    have c13 := qW11.cell c2
    have c14 := qW11.cell c3
    have l15 := Nat.lt_of_lt_of_le l7 qW11.size
    have c16 := qW11.cell c5
    have c17 := qW11.cell c6
    clear l4 c2 c3 l7 c5 c6
    clear t3f0 t3f1 t3f2 t3f3
    clear t4f0 t4f1 t4f2 t4f3
    clear t5f0 t5f1 t5f2 t5f3
    have vW11 := uW1.trans qW11
    clear hp5_6 hp5_7 hp6_7 hv0 hv1 hv2 hv3 hv4 hs5 hs6 hs7 hk5 ot3 hk6 ot4 hk7 ot5 hall
    simp only [Act.put, List.getElem_toArray, List.getElem_cons_succ, List.getElem_cons_zero, List.setIfInBounds_toArray, List.set_cons_zero, List.set_cons_succ]
    go_wp2_with fail
    have hS18 := kdN_14 (W := W11) (Dn.refl _) ⟨Dn.refl _, c16, c17, t3c0, t3c1, t3c2, t3c3, t4c0, t4c1, t4c2, t4c3, t5c0, t5c1, t5c2, t5c3⟩
    have k19 := Lib.hid c13
    have k20 := Lib.hid c14
    have HShS18 := Lib.hid hS18
    clear c13 c14 c16 c17 t3c0 t3c1 t3c2 t3c3 t4c0 t4c1 t4c2 t4c3 t5c0 t5c1 t5c2 t5c3
    go_region_held3 (fun w' => Dn W11 w' ∧ w'.cell? ⟨w.heap.size + 1, 0, none⟩ = some (.int .i8 1) ∧ w'.cell? ⟨w.heap.size + 1, 1, none⟩ = some (.int .i64 0) ∧ w'.cell? ⟨Bt3, 0, none⟩ = some (.int .i8 0) ∧ w'.cell? ⟨Bt3, 1, none⟩ = some (.int .i64 1) ∧ w'.cell? ⟨Bt3, 2, none⟩ = some (.int .i8 0) ∧ w'.cell? ⟨Bt3, 3, none⟩ = some (.int .i64 3) ∧ w'.cell? ⟨Bt4, 0, none⟩ = some (.int .i8 0) ∧ w'.cell? ⟨Bt4, 1, none⟩ = some (.int .i64 4) ∧ w'.cell? ⟨Bt4, 2, none⟩ = some (.int .i8 0) ∧ w'.cell? ⟨Bt4, 3, none⟩ = some (.int .i64 5) ∧ w'.cell? ⟨Bt5, 0, none⟩ = some (.int .i8 (-1)) ∧ w'.cell? ⟨Bt5, 1, none⟩ = some (.int .i64 0) ∧ w'.cell? ⟨Bt5, 2, none⟩ = some (.int .i8 0) ∧ w'.cell? ⟨Bt5, 3, none⟩ = some (.int .i64 3))
      (first | exact kdN_14 ((Dn.refl _).drew) hS18 | exact kdN_14 ‹Dn _ _› ‹_› | exact kdN_14 (Up.dn ‹Up _ _›) ‹_› | assumption | exact kdN_14 ((Dn.refl _).alloc _) ‹_›)
      (first
        | (go_at_call 12; (with_reducible refine (rnT_at 0 1 0 3 0 4 0 5 true _ (by decide) (by decide) (by decide) (by decide) (by decide +kernel)).mono ?_); rintro e wa ⟨rfl, qa⟩)
        | (go_at_call 12; (with_reducible refine (rnT_at 0 1 0 3 0 5 0 6 false _ (by decide) (by decide) (by decide) (by decide) (by decide +kernel)).mono ?_); rintro e wa ⟨rfl, qa⟩)
        | (go_at_call 12; (with_reducible refine (rnT_at (-1) 0 0 3 0 2 1 0 true _ (by decide) (by decide) (by decide) (by decide) (by decide +kernel)).mono ?_); rintro e wa ⟨rfl, qa⟩)
        | (go_at_call 32; refine (dy9 _ _ _).mono ?_; rintro e wa ⟨rfl, qa⟩))
    all_goals
      clear hS18
      obtain ⟨uf35, c21, c22, c23, c24, c25, c26, c27, c28, c29, c30, c31, c32, c33, c34⟩ := (‹Dn W11 _ ∧ _› : _ ∧ _)
      obtain ⟨w36, rfl⟩ : ∃ w36 : World, w36 = wa := ⟨_, rfl⟩
      have l37 := Nat.lt_of_lt_of_le l12 uf35.size
      clear l12
      have l38 := Nat.lt_of_lt_of_le l15 uf35.size
      clear l15
      have l39 := Nat.lt_of_lt_of_le lt3 uf35.size
      clear lt3
      have l40 := Nat.lt_of_lt_of_le lt4 uf35.size
      clear lt4
      have l41 := Nat.lt_of_lt_of_le lt5 uf35.size
      clear lt5
      have c42 := uf35.cell k19.out
      have c43 := uf35.cell k20.out
      clear k19 k20
      have vuf35 := vW11.trans uf35
      clear uf35 vW11 HShS18
      go_wp2_with fail
      refine (rnJoin 0 1 0 3 0 4 0 5 0 1 0 5 true _ (by decide) (by decide) (by decide) (by decide) (by decide +kernel)).mono ?_
      rintro e w1 ⟨rfl, qw1⟩
      have l44 := Nat.lt_of_lt_of_le l37 qw1.size
      have c45 := qw1.cell c42
      have c46 := qw1.cell c43
      have l47 := Nat.lt_of_lt_of_le l38 qw1.size
      have c48 := qw1.cell c21
      have c49 := qw1.cell c22
      have l50 := Nat.lt_of_lt_of_le l39 qw1.size
      have c51 := qw1.cell c23
      have c52 := qw1.cell c24
      have c53 := qw1.cell c25
      have c54 := qw1.cell c26
      have l55 := Nat.lt_of_lt_of_le l40 qw1.size
      have c56 := qw1.cell c27
      have c57 := qw1.cell c28
      have c58 := qw1.cell c29
      have c59 := qw1.cell c30
      have l60 := Nat.lt_of_lt_of_le l41 qw1.size
      have c61 := qw1.cell c31
      have c62 := qw1.cell c32
      have c63 := qw1.cell c33
      have c64 := qw1.cell c34
      clear l37 c42 c43 l38 c21 c22 l39 c23 c24 c25 c26 l40 c27 c28 c29 c30 l41 c31 c32 c33 c34
      have uw1 := vuf35.trans qw1
      clear qw1 vuf35
      go_wp2_with fail
      obtain ⟨W65, hW65⟩ : ∃ W65, W65 = w1.alloc (.cells #[.int .i8 0, .int .i64 1, .int .i8 0, .int .i64 5] 29) := ⟨_, rfl⟩
      have uW65 : Dn w1 W65 := by rw [hW65]; exact (Dn.refl _).alloc _
      have o66 : w.heap.size ≤ w1.heap.size := by have := uw1.size; omega
      have n67 : w.heap.size ≠ w1.heap.size := by have := l44; omega
      have n68 : w.heap.size + 1 ≠ w1.heap.size := by have := l47; omega
      have n69 : Bt3 ≠ w1.heap.size := by have := l50; omega
      have n70 : Bt4 ≠ w1.heap.size := by have := l55; omega
      have n71 : Bt5 ≠ w1.heap.size := by have := l60; omega
      have l72 := Nat.lt_of_lt_of_le l44 uW65.size
      have c73 := uW65.cell c45
      have c74 := uW65.cell c46
      have l75 := Nat.lt_of_lt_of_le l47 uW65.size
      have c76 := uW65.cell c48
      have c77 := uW65.cell c49
      have l78 := Nat.lt_of_lt_of_le l50 uW65.size
      have c79 := uW65.cell c51
      have c80 := uW65.cell c52
      have c81 := uW65.cell c53
      have c82 := uW65.cell c54
      have l83 := Nat.lt_of_lt_of_le l55 uW65.size
      have c84 := uW65.cell c56
      have c85 := uW65.cell c57
      have c86 := uW65.cell c58
      have c87 := uW65.cell c59
      have l88 := Nat.lt_of_lt_of_le l60 uW65.size
      have c89 := uW65.cell c61
      have c90 := uW65.cell c62
      have c91 := uW65.cell c63
      have c92 := uW65.cell c64
      clear l44 c45 c46 l47 c48 c49 l50 c51 c52 c53 c54 l55 c56 c57 c58 c59 l60 c61 c62 c63 c64
      have c93 : W65.cell? ⟨w1.heap.size, 0, none⟩ = some (.int .i8 0) := by rw [hW65]; simp [go_sem]
      have c94 : W65.cell? ⟨w1.heap.size, 1, none⟩ = some (.int .i64 1) := by rw [hW65]; simp [go_sem]
      have c95 : W65.cell? ⟨w1.heap.size, 2, none⟩ = some (.int .i8 0) := by rw [hW65]; simp [go_sem]
      have c96 : W65.cell? ⟨w1.heap.size, 3, none⟩ = some (.int .i64 5) := by rw [hW65]; simp [go_sem]
      have l97 : w1.heap.size < W65.heap.size := by rw [hW65]; simp <;> omega
      have f98 : W65.frozen? ⟨w1.heap.size, 0, none⟩ = false := by rw [hW65]; simp [go_sem]
      have f99 : W65.frozen? ⟨w1.heap.size, 1, none⟩ = false := by rw [hW65]; simp [go_sem]
      have f100 : W65.frozen? ⟨w1.heap.size, 2, none⟩ = false := by rw [hW65]; simp [go_sem]
      have f101 : W65.frozen? ⟨w1.heap.size, 3, none⟩ = false := by rw [hW65]; simp [go_sem]
      rw [← hW65]
      clear hW65
      have vW65 := uw1.trans uW65
      clear uW65 uw1
      refine region_inv (fun A l a' w' => ∃ (b0 b1 b2 b3 b4 b5 b6 b7 b8 : Bool) (x52 x53 x54 x51 x55 x56 x8 x9 : Value), l = #[b0, b1, b2, b3, b4, b5, b6, b7, b8] ∧ a' = ((((((((A.put (some 52) x52).put (some 53) x53).put (some 54) x54).put (some 51) x51).put (some 55) x55).put (some 56) x56).put (some 8) x8).put (some 9) x9) ∧ Dn W65 w' ∧ (b0 = true → x52 = .agg #[.int .i8 0, .int .i64 1, .int .i8 0, .int .i64 3]) ∧ (b1 = true → x53 = .agg #[.int .i8 0, .int .i64 3, .int .i8 0, .int .i64 9]) ∧ (b2 = true → x54 = .tuple #[.agg #[.int .i8 0, .int .i64 3, .int .i8 0, .int .i64 3], .bool true]) ∧ (b3 = true → x51 = .tuple #[.agg #[.int .i8 0, .int .i64 3, .int .i8 0, .int .i64 3], .bool true]) ∧ (b4 = true → x55 = .agg #[.int .i8 0, .int .i64 3, .int .i8 0, .int .i64 3]) ∧ (b5 = true → x56 = .bool true) ∧ (b8 = true → x9 = .bool true) ∧ (b7 = true → b6 = true) ∧ Bl W65.heap.size w' b6 b7 x8 (.int .i8 0) (.int .i64 3) (.int .i8 0) (.int .i64 3)) (by kernel_rfl) ?_ ?_ ?_
      · exact ⟨false, false, false, false, false, false, false, false, false, undef, undef, undef, undef, undef, undef, undef, undef, rfl, by simp only [Act.put, List.getElem_toArray, List.getElem_cons_succ, List.getElem_cons_zero, List.setIfInBounds_toArray, List.set_cons_zero, List.set_cons_succ], (Dn.refl _).drew, (fun h => by cases h), (fun h => by cases h), (fun h => by cases h), (fun h => by cases h), (fun h => by cases h), (fun h => by cases h), (fun h => by cases h), (fun h => by cases h), Bl.no⟩
      · rintro l a' w' i ⟨b0, b1, b2, b3, b4, b5, b6, b7, b8, x52, x53, x54, x51, x55, x56, x8, x9, rfl, rfl, q, hv0, hv1, hv2, hv3, hv4, hv5, hv8, hs6, hk6⟩ hun hdep hi
        simp only [Act.put, List.getElem_toArray, List.getElem_cons_succ, List.getElem_cons_zero, List.setIfInBounds_toArray, List.set_cons_zero, List.set_cons_succ]
        have hi' : i < 9 := hi
        rcases (show i = 0 ∨ i = 1 ∨ i = 2 ∨ i = 3 ∨ i = 4 ∨ i = 5 ∨ i = 6 ∨ i = 7 ∨ i = 8 by omega) with rfl | rfl | rfl | rfl | rfl | rfl | rfl | rfl | rfl
        ·
          have f0 : b0 = false := by simpa using hun
          subst f0
          have g103 := q.cell c79
          have g104 := q.cell c80
          have g105 := q.cell c81
          have g106 := q.cell c82
          refine wpOp_step rfl (fun K hK => ?_)
          replace hK := Lib.hid hK
          go_simp
          exact hK.out _ _ ⟨true, b1, b2, b3, b4, b5, b6, b7, b8, .agg #[.int .i8 0, .int .i64 1, .int .i8 0, .int .i64 3], x53, x54, x51, x55, x56, x8, x9, rfl, by simp only [Act.put, List.getElem_toArray, List.getElem_cons_succ, List.getElem_cons_zero, List.setIfInBounds_toArray, List.set_cons_zero, List.set_cons_succ], q, fun _ => rfl, hv1, hv2, hv3, hv4, hv5, hv8, hs6, hk6⟩
        ·
          have f1 : b1 = false := by simpa using hun
          subst f1
          refine wpOp_step rfl (fun K hK => ?_)
          replace hK := Lib.hid hK
          go_simp
          go_at_call 32
          refine (dy9 3 9 _).mono ?_
          rintro e wa ⟨rfl, qa⟩
          try go_wp2_with fail
          exact hK.out _ _ ⟨b0, true, b2, b3, b4, b5, b6, b7, b8, x52, .agg #[.int .i8 0, .int .i64 3, .int .i8 0, .int .i64 9], x54, x51, x55, x56, x8, x9, rfl, by simp only [Act.put, List.getElem_toArray, List.getElem_cons_succ, List.getElem_cons_zero, List.setIfInBounds_toArray, List.set_cons_zero, List.set_cons_succ], q.trans qa, hv0, fun _ => rfl, hv2, hv3, hv4, hv5, hv8, hs6, hk6.dn qa⟩
        ·
          have e0 : b0 = true := hdep _ rfl ⟨0, .data⟩ (by simp) rfl
          have e1 : b1 = true := hdep _ rfl ⟨1, .data⟩ (by simp) rfl
          have f2 : b2 = false := by simpa using hun
          subst f2 e0 e1
          obtain rfl := hv0 rfl
          obtain rfl := hv1 rfl
          refine wpOp_step rfl (fun K hK => ?_)
          replace hK := Lib.hid hK
          go_simp
          go_at_call 11
          refine (rnCommon 0 1 0 3 0 3 0 9 0 3 0 3 true _ (by decide) (by decide) (by decide) (by decide) (by decide +kernel)).mono ?_
          rintro e wa ⟨rfl, qa⟩
          try go_wp2_with fail
          exact hK.out _ _ ⟨true, true, true, b3, b4, b5, b6, b7, b8, .agg #[.int .i8 0, .int .i64 1, .int .i8 0, .int .i64 3], .agg #[.int .i8 0, .int .i64 3, .int .i8 0, .int .i64 9], .tuple #[.agg #[.int .i8 0, .int .i64 3, .int .i8 0, .int .i64 3], .bool true], x51, x55, x56, x8, x9, rfl, by simp only [Act.put, List.getElem_toArray, List.getElem_cons_succ, List.getElem_cons_zero, List.setIfInBounds_toArray, List.set_cons_zero, List.set_cons_succ], q.trans qa, fun _ => rfl, fun _ => rfl, fun _ => rfl, hv3, hv4, hv5, hv8, hs6, hk6.dn qa⟩
        ·
          have e2 : b2 = true := hdep _ rfl ⟨2, .data⟩ (by simp) rfl
          have f3 : b3 = false := by simpa using hun
          subst f3 e2
          obtain rfl := hv2 rfl
          refine wpOp_step rfl (fun K hK => ?_)
          replace hK := Lib.hid hK
          go_simp
          exact hK.out _ _ ⟨b0, b1, true, true, b4, b5, b6, b7, b8, x52, x53, .tuple #[.agg #[.int .i8 0, .int .i64 3, .int .i8 0, .int .i64 3], .bool true], .tuple #[.agg #[.int .i8 0, .int .i64 3, .int .i8 0, .int .i64 3], .bool true], x55, x56, x8, x9, rfl, by simp only [Act.put, List.getElem_toArray, List.getElem_cons_succ, List.getElem_cons_zero, List.setIfInBounds_toArray, List.set_cons_zero, List.set_cons_succ], q, hv0, hv1, fun _ => rfl, fun _ => rfl, hv4, hv5, hv8, hs6, hk6⟩
        ·
          have e3 : b3 = true := hdep _ rfl ⟨3, .data⟩ (by simp) rfl
          have f4 : b4 = false := by simpa using hun
          subst f4 e3
          obtain rfl := hv3 rfl
          refine wpOp_step rfl (fun K hK => ?_)
          replace hK := Lib.hid hK
          go_simp
          exact hK.out _ _ ⟨b0, b1, b2, true, true, b5, b6, b7, b8, x52, x53, x54, .tuple #[.agg #[.int .i8 0, .int .i64 3, .int .i8 0, .int .i64 3], .bool true], .agg #[.int .i8 0, .int .i64 3, .int .i8 0, .int .i64 3], x56, x8, x9, rfl, by simp only [Act.put, List.getElem_toArray, List.getElem_cons_succ, List.getElem_cons_zero, List.setIfInBounds_toArray, List.set_cons_zero, List.set_cons_succ], q, hv0, hv1, hv2, fun _ => rfl, fun _ => rfl, hv5, hv8, hs6, hk6⟩
        ·
          have e3 : b3 = true := hdep _ rfl ⟨3, .data⟩ (by simp) rfl
          have f5 : b5 = false := by simpa using hun
          subst f5 e3
          obtain rfl := hv3 rfl
          refine wpOp_step rfl (fun K hK => ?_)
          replace hK := Lib.hid hK
          go_simp
          exact hK.out _ _ ⟨b0, b1, b2, true, b4, true, b6, b7, b8, x52, x53, x54, .tuple #[.agg #[.int .i8 0, .int .i64 3, .int .i8 0, .int .i64 3], .bool true], x55, .bool true, x8, x9, rfl, by simp only [Act.put, List.getElem_toArray, List.getElem_cons_succ, List.getElem_cons_zero, List.setIfInBounds_toArray, List.set_cons_zero, List.set_cons_succ], q, hv0, hv1, hv2, fun _ => rfl, hv4, fun _ => rfl, hv8, hs6, hk6⟩
        ·
          have f6 : b6 = false := by simpa using hun
          subst f6
          obtain rfl : b7 = false := by
            cases b7 with
            | false => rfl
            | true => exact absurd (hs6 rfl) (by simp)
          refine wpOp_step rfl (fun K hK => ?_)
          replace hK := Lib.hid hK
          go_simp
          exact hK.out _ _ ⟨b0, b1, b2, b3, b4, b5, true, false, b8, x52, x53, x54, x51, x55, x56, .pointer (some ⟨w'.heap.size, 0, none⟩), x9, rfl, by simp only [Act.put, List.getElem_toArray, List.getElem_cons_succ, List.getElem_cons_zero, List.setIfInBounds_toArray, List.set_cons_zero, List.set_cons_succ], q.alloc _, hv0, hv1, hv2, hv3, hv4, hv5, hv8, fun _ => rfl, Bl.new q.size _⟩
        ·
          have e6 : b6 = true := hdep _ rfl ⟨6, .data⟩ (by simp) rfl
          have e4 : b4 = true := hdep _ rfl ⟨4, .data⟩ (by simp) rfl
          have f7 : b7 = false := by simpa using hun
          subst f7 e6 e4
          obtain rfl := hv4 rfl
          obtain ⟨B, rfl, hL, hz, _⟩ := hk6 rfl
          have hB := hz rfl
          have z0 := hB.c0
          have y0 := hB.f0
          have z1 := hB.c1
          have y1 := hB.f1
          have z2 := hB.c2
          have y2 := hB.f2
          have z3 := hB.c3
          have y3 := hB.f3
          have zl := hB.lt
          refine wpOp_step rfl (fun K hK => ?_)
          replace hK := Lib.hid hK
          go_simp
          exact hK.out _ _ ⟨b0, b1, b2, b3, true, b5, true, true, b8, x52, x53, x54, x51, .agg #[.int .i8 0, .int .i64 3, .int .i8 0, .int .i64 3], x56, .pointer (some ⟨B, 0, none⟩), x9, rfl, by simp only [Act.put, List.getElem_toArray, List.getElem_cons_succ, List.getElem_cons_zero, List.setIfInBounds_toArray, List.set_cons_zero, List.set_cons_succ], (Dn.setCell (Dn.setCell (Dn.setCell (Dn.setCell q (by simpa using hL) _) (by simpa using hL) _) (by simpa using hL) _) (by simpa using hL) _), hv0, hv1, hv2, hv3, fun _ => rfl, hv5, hv8, fun _ => rfl, fun _ => ⟨B, rfl, hL, (fun k => by cases k), fun _ => hB.fill _ _ _ _⟩⟩
        ·
          have e5 : b5 = true := hdep _ rfl ⟨5, .data⟩ (by simp) rfl
          have f8 : b8 = false := by simpa using hun
          subst f8 e5
          obtain rfl := hv5 rfl
          refine wpOp_step rfl (fun K hK => ?_)
          replace hK := Lib.hid hK
          go_simp
          exact hK.out _ _ ⟨b0, b1, b2, b3, b4, true, b6, b7, true, x52, x53, x54, x51, x55, .bool true, x8, .bool true, rfl, by simp only [Act.put, List.getElem_toArray, List.getElem_cons_succ, List.getElem_cons_zero, List.setIfInBounds_toArray, List.set_cons_zero, List.set_cons_succ], q, hv0, hv1, hv2, hv3, hv4, fun _ => rfl, fun _ => rfl, hs6, hk6⟩
      · rintro l a' W107 ⟨b0, b1, b2, b3, b4, b5, b6, b7, b8, x52, x53, x54, x51, x55, x56, x8, x9, rfl, rfl, qW107, hv0, hv1, hv2, hv3, hv4, hv5, hv8, hs6, hk6⟩ hall
        obtain rfl : b0 = true := by
          cases b0 with
          | true => rfl
          | false => exact absurd (by intro e he hb; simp at he <;> (repeat' (rcases he with rfl | he)) <;> first | rfl | exact absurd hb (by decide)) (hall 0 _ rfl rfl)
        obtain rfl : b1 = true := by
          cases b1 with
          | true => rfl
          | false => exact absurd (by intro e he hb; simp at he <;> (repeat' (rcases he with rfl | he)) <;> first | rfl | exact absurd hb (by decide)) (hall 1 _ rfl rfl)
        obtain rfl : b2 = true := by
          cases b2 with
          | true => rfl
          | false => exact absurd (by intro e he hb; simp at he <;> (repeat' (rcases he with rfl | he)) <;> first | rfl | exact absurd hb (by decide)) (hall 2 _ rfl rfl)
        obtain rfl : b3 = true := by
          cases b3 with
          | true => rfl
          | false => exact absurd (by intro e he hb; simp at he <;> (repeat' (rcases he with rfl | he)) <;> first | rfl | exact absurd hb (by decide)) (hall 3 _ rfl rfl)
        obtain rfl : b4 = true := by
          cases b4 with
          | true => rfl
          | false => exact absurd (by intro e he hb; simp at he <;> (repeat' (rcases he with rfl | he)) <;> first | rfl | exact absurd hb (by decide)) (hall 4 _ rfl rfl)
        obtain rfl : b5 = true := by
          cases b5 with
          | true => rfl
          | false => exact absurd (by intro e he hb; simp at he <;> (repeat' (rcases he with rfl | he)) <;> first | rfl | exact absurd hb (by decide)) (hall 5 _ rfl rfl)
        obtain rfl : b6 = true := by
          cases b6 with
          | true => rfl
          | false => exact absurd (by intro e he hb; simp at he <;> (repeat' (rcases he with rfl | he)) <;> first | rfl | exact absurd hb (by decide)) (hall 6 _ rfl rfl)
        obtain rfl : b7 = true := by
          cases b7 with
          | true => rfl
          | false => exact absurd (by intro e he hb; simp at he <;> (repeat' (rcases he with rfl | he)) <;> first | rfl | exact absurd hb (by decide)) (hall 7 _ rfl rfl)
        obtain rfl : b8 = true := by
          cases b8 with
          | true => rfl
          | false => exact absurd (by intro e he hb; simp at he <;> (repeat' (rcases he with rfl | he)) <;> first | rfl | exact absurd hb (by decide)) (hall 8 _ rfl rfl)
        obtain rfl := hv0 rfl
        obtain rfl := hv1 rfl
        obtain rfl := hv2 rfl
        obtain rfl := hv3 rfl
        obtain rfl := hv4 rfl
        obtain rfl := hv5 rfl
        obtain rfl := hv8 rfl
        obtain ⟨Bt8, rfl, ot8, _, gt8⟩ := hk6 rfl
        obtain ⟨t8c0, t8c1, t8c2, t8c3, t8f0, t8f1, t8f2, t8f3, lt8⟩ := gt8 rfl
        have n108 : w.heap.size ≠ Bt8 := by have := l72; omega
        have n109 : w.heap.size + 1 ≠ Bt8 := by have := l75; omega
        have n110 : Bt3 ≠ Bt8 := by have := l78; omega
        have n111 : Bt4 ≠ Bt8 := by have := l83; omega
        have n112 : Bt5 ≠ Bt8 := by have := l88; omega
        have n113 : w1.heap.size ≠ Bt8 := by have := l97; omega
        clear gt8
        have o114 : w.heap.size ≤ Bt8 := Nat.le_trans vW65.size ot8
        have l115 := Nat.lt_of_lt_of_le l72 qW107.size
        have c116 := qW107.cell c73
        have c117 := qW107.cell c74
        have l118 := Nat.lt_of_lt_of_le l75 qW107.size
        have c119 := qW107.cell c76
        have c120 := qW107.cell c77
        have l121 := Nat.lt_of_lt_of_le l78 qW107.size
        have c122 := qW107.cell c79
        have c123 := qW107.cell c80
        have c124 := qW107.cell c81
        have c125 := qW107.cell c82
        have l126 := Nat.lt_of_lt_of_le l83 qW107.size
        have c127 := qW107.cell c84
        have c128 := qW107.cell c85
        have c129 := qW107.cell c86
        have c130 := qW107.cell c87
        have l131 := Nat.lt_of_lt_of_le l88 qW107.size
        have c132 := qW107.cell c89
        have c133 := qW107.cell c90
        have c134 := qW107.cell c91
        have c135 := qW107.cell c92
        have f136 := (qW107.frozen (a := ⟨w1.heap.size, 0, none⟩) l97).trans f98
        have f137 := (qW107.frozen (a := ⟨w1.heap.size, 1, none⟩) l97).trans f99
        have f138 := (qW107.frozen (a := ⟨w1.heap.size, 2, none⟩) l97).trans f100
        have f139 := (qW107.frozen (a := ⟨w1.heap.size, 3, none⟩) l97).trans f101
        have l140 := Nat.lt_of_lt_of_le l97 qW107.size
        have c141 := qW107.cell c93
        have c142 := qW107.cell c94
        have c143 := qW107.cell c95
        have c144 := qW107.cell c96
        clear l72 c73 c74 l75 c76 c77 l78 c79 c80 c81 c82 l83 c84 c85 c86 c87 l88 c89 c90 c91 c92 f98 f99 f100 f101 l97 c93 c94 c95 c96
        have vW107 := vW65.trans qW107
        clear hv0 hv1 hv2 hv3 hv4 hv5 hv8 hs6 hk6 ot8 hall
        simp only [Act.put, List.getElem_toArray, List.getElem_cons_succ, List.getElem_cons_zero, List.setIfInBounds_toArray, List.set_cons_zero, List.set_cons_succ]
        go_wp2_with fail
        refine (rnCommon 0 1 0 3 0 4 0 5 0 0 0 0 false _ (by decide) (by decide) (by decide) (by decide) (by decide +kernel)).mono ?_
        rintro e w2 ⟨rfl, qw2⟩
        have l145 := Nat.lt_of_lt_of_le l115 qw2.size
        have c146 := qw2.cell c116
        have c147 := qw2.cell c117
        have l148 := Nat.lt_of_lt_of_le l118 qw2.size
        have c149 := qw2.cell c119
        have c150 := qw2.cell c120
        have l151 := Nat.lt_of_lt_of_le l121 qw2.size
        have c152 := qw2.cell c122
        have c153 := qw2.cell c123
        have c154 := qw2.cell c124
        have c155 := qw2.cell c125
        have l156 := Nat.lt_of_lt_of_le l126 qw2.size
        have c157 := qw2.cell c127
        have c158 := qw2.cell c128
        have c159 := qw2.cell c129
        have c160 := qw2.cell c130
        have l161 := Nat.lt_of_lt_of_le l131 qw2.size
        have c162 := qw2.cell c132
        have c163 := qw2.cell c133
        have c164 := qw2.cell c134
        have c165 := qw2.cell c135
        have f166 := (qw2.frozen (a := ⟨w1.heap.size, 0, none⟩) l140).trans f136
        have f167 := (qw2.frozen (a := ⟨w1.heap.size, 1, none⟩) l140).trans f137
        have f168 := (qw2.frozen (a := ⟨w1.heap.size, 2, none⟩) l140).trans f138
        have f169 := (qw2.frozen (a := ⟨w1.heap.size, 3, none⟩) l140).trans f139
        have l170 := Nat.lt_of_lt_of_le l140 qw2.size
        have c171 := qw2.cell c141
        have c172 := qw2.cell c142
        have c173 := qw2.cell c143
        have c174 := qw2.cell c144
        have f175 := (qw2.frozen (a := ⟨Bt8, 0, none⟩) lt8).trans t8f0
        have f176 := (qw2.frozen (a := ⟨Bt8, 1, none⟩) lt8).trans t8f1
        have f177 := (qw2.frozen (a := ⟨Bt8, 2, none⟩) lt8).trans t8f2
        have f178 := (qw2.frozen (a := ⟨Bt8, 3, none⟩) lt8).trans t8f3
        have l179 := Nat.lt_of_lt_of_le lt8 qw2.size
        have c180 := qw2.cell t8c0
        have c181 := qw2.cell t8c1
        have c182 := qw2.cell t8c2
        have c183 := qw2.cell t8c3
        clear l115 c116 c117 l118 c119 c120 l121 c122 c123 c124 c125 l126 c127 c128 c129 c130 l131 c132 c133 c134 c135 f136 f137 f138 f139 l140 c141 c142 c143 c144 t8f0 t8f1 t8f2 t8f3 lt8 t8c0 t8c1 t8c2 t8c3
        have uw2 := vW107.trans qw2
        clear qw2 vW107
        go_wp2_with fail
        obtain ⟨W184, hW184⟩ : ∃ W184, W184 = w2.alloc (.cells #[.int .i8 0, .int .i64 0, .int .i8 0, .int .i64 0] 29) := ⟨_, rfl⟩
        have uW184 : Dn w2 W184 := by rw [hW184]; exact (Dn.refl _).alloc _
        have n185 : w1.heap.size ≠ w2.heap.size := by have := l170; omega
        have n186 : Bt8 ≠ w2.heap.size := by have := l179; omega
        have l187 := Nat.lt_of_lt_of_le l145 uW184.size
        have c188 := uW184.cell c146
        have c189 := uW184.cell c147
        have l190 := Nat.lt_of_lt_of_le l148 uW184.size
        have c191 := uW184.cell c149
        have c192 := uW184.cell c150
        have l193 := Nat.lt_of_lt_of_le l151 uW184.size
        have c194 := uW184.cell c152
        have c195 := uW184.cell c153
        have c196 := uW184.cell c154
        have c197 := uW184.cell c155
        have l198 := Nat.lt_of_lt_of_le l156 uW184.size
        have c199 := uW184.cell c157
        have c200 := uW184.cell c158
        have c201 := uW184.cell c159
        have c202 := uW184.cell c160
        have l203 := Nat.lt_of_lt_of_le l161 uW184.size
        have c204 := uW184.cell c162
        have c205 := uW184.cell c163
        have c206 := uW184.cell c164
        have c207 := uW184.cell c165
        have f208 := (uW184.frozen (a := ⟨w1.heap.size, 0, none⟩) l170).trans f166
        have f209 := (uW184.frozen (a := ⟨w1.heap.size, 1, none⟩) l170).trans f167
        have f210 := (uW184.frozen (a := ⟨w1.heap.size, 2, none⟩) l170).trans f168
        have f211 := (uW184.frozen (a := ⟨w1.heap.size, 3, none⟩) l170).trans f169
        have l212 := Nat.lt_of_lt_of_le l170 uW184.size
        have c213 := uW184.cell c171
        have c214 := uW184.cell c172
        have c215 := uW184.cell c173
        have c216 := uW184.cell c174
        have f217 := (uW184.frozen (a := ⟨Bt8, 0, none⟩) l179).trans f175
        have f218 := (uW184.frozen (a := ⟨Bt8, 1, none⟩) l179).trans f176
        have f219 := (uW184.frozen (a := ⟨Bt8, 2, none⟩) l179).trans f177
        have f220 := (uW184.frozen (a := ⟨Bt8, 3, none⟩) l179).trans f178
        have l221 := Nat.lt_of_lt_of_le l179 uW184.size
        have c222 := uW184.cell c180
        have c223 := uW184.cell c181
        have c224 := uW184.cell c182
        have c225 := uW184.cell c183
        clear l145 c146 c147 l148 c149 c150 l151 c152 c153 c154 c155 l156 c157 c158 c159 c160 l161 c162 c163 c164 c165 f166 f167 f168 f169 l170 c171 c172 c173 c174 f175 f176 f177 f178 l179 c180 c181 c182 c183
        have c226 : W184.cell? ⟨w2.heap.size, 0, none⟩ = some (.int .i8 0) := by rw [hW184]; simp [go_sem]
        have c227 : W184.cell? ⟨w2.heap.size, 1, none⟩ = some (.int .i64 0) := by rw [hW184]; simp [go_sem]
        have c228 : W184.cell? ⟨w2.heap.size, 2, none⟩ = some (.int .i8 0) := by rw [hW184]; simp [go_sem]
        have c229 : W184.cell? ⟨w2.heap.size, 3, none⟩ = some (.int .i64 0) := by rw [hW184]; simp [go_sem]
        have l230 : w2.heap.size < W184.heap.size := by rw [hW184]; simp <;> omega
        rw [← hW184]
        clear hW184
        have vW184 := uw2.trans uW184
        clear uW184 uw2
        clear c199 c200 c201 c202 l198 n70 n111
        have hS231 := kdN_16 (W := W184) (Dn.refl _) ⟨Dn.refl _, c194, c195, c196, c197, c213, c214, c215, c216, c222, c223, c224, c225, c226, c227, c228, c229⟩
        have k232 := Lib.hid c188
        have k233 := Lib.hid c189
        have k234 := Lib.hid c191
        have k235 := Lib.hid c192
        have k236 := Lib.hid c204
        have k237 := Lib.hid c205
        have k238 := Lib.hid c206
        have k239 := Lib.hid c207
        have HShS231 := Lib.hid hS231
        clear c188 c189 c191 c192 c194 c195 c196 c197 c204 c205 c206 c207 c213 c214 c215 c216 c222 c223 c224 c225 c226 c227 c228 c229
        go_region_held3 (fun w' => Dn W184 w' ∧ w'.cell? ⟨Bt3, 0, none⟩ = some (.int .i8 0) ∧ w'.cell? ⟨Bt3, 1, none⟩ = some (.int .i64 1) ∧ w'.cell? ⟨Bt3, 2, none⟩ = some (.int .i8 0) ∧ w'.cell? ⟨Bt3, 3, none⟩ = some (.int .i64 3) ∧ w'.cell? ⟨w1.heap.size, 0, none⟩ = some (.int .i8 0) ∧ w'.cell? ⟨w1.heap.size, 1, none⟩ = some (.int .i64 1) ∧ w'.cell? ⟨w1.heap.size, 2, none⟩ = some (.int .i8 0) ∧ w'.cell? ⟨w1.heap.size, 3, none⟩ = some (.int .i64 5) ∧ w'.cell? ⟨Bt8, 0, none⟩ = some (.int .i8 0) ∧ w'.cell? ⟨Bt8, 1, none⟩ = some (.int .i64 3) ∧ w'.cell? ⟨Bt8, 2, none⟩ = some (.int .i8 0) ∧ w'.cell? ⟨Bt8, 3, none⟩ = some (.int .i64 3) ∧ w'.cell? ⟨w2.heap.size, 0, none⟩ = some (.int .i8 0) ∧ w'.cell? ⟨w2.heap.size, 1, none⟩ = some (.int .i64 0) ∧ w'.cell? ⟨w2.heap.size, 2, none⟩ = some (.int .i8 0) ∧ w'.cell? ⟨w2.heap.size, 3, none⟩ = some (.int .i64 0))
          (first | exact kdN_16 ((Dn.refl _).drew) hS231 | exact kdN_16 ‹Dn _ _› ‹_› | exact kdN_16 (Up.dn ‹Up _ _›) ‹_› | assumption | exact kdN_16 ((Dn.refl _).alloc _) ‹_›)
          (first
            | (go_at_call 24; refine (f9_any _ _ _ _ _ _ _ _ _ _ _ ?_).mono ?_; decide; rintro e wa ⟨rfl, qa⟩)
            | (go_at_call 32; refine (dy9 _ _ _).mono ?_; rintro e wa ⟨rfl, qa⟩))
        all_goals
          clear hS231
          obtain ⟨uf256, c240, c241, c242, c243, c244, c245, c246, c247, c248, c249, c250, c251, c252, c253, c254, c255⟩ := (‹Dn W184 _ ∧ _› : _ ∧ _)
          obtain ⟨w257, rfl⟩ : ∃ w257 : World, w257 = wa := ⟨_, rfl⟩
          have f258 := (uf256.frozen (a := ⟨w1.heap.size, 0, none⟩) l212).trans f208
          clear f208
          have f259 := (uf256.frozen (a := ⟨w1.heap.size, 1, none⟩) l212).trans f209
          clear f209
          have f260 := (uf256.frozen (a := ⟨w1.heap.size, 2, none⟩) l212).trans f210
          clear f210
          have f261 := (uf256.frozen (a := ⟨w1.heap.size, 3, none⟩) l212).trans f211
          clear f211
          have f262 := (uf256.frozen (a := ⟨Bt8, 0, none⟩) l221).trans f217
          clear f217
          have f263 := (uf256.frozen (a := ⟨Bt8, 1, none⟩) l221).trans f218
          clear f218
          have f264 := (uf256.frozen (a := ⟨Bt8, 2, none⟩) l221).trans f219
          clear f219
          have f265 := (uf256.frozen (a := ⟨Bt8, 3, none⟩) l221).trans f220
          clear f220
          have l266 := Nat.lt_of_lt_of_le l187 uf256.size
          clear l187
          have l267 := Nat.lt_of_lt_of_le l190 uf256.size
          clear l190
          have l268 := Nat.lt_of_lt_of_le l193 uf256.size
          clear l193
          have l269 := Nat.lt_of_lt_of_le l203 uf256.size
          clear l203
          have l270 := Nat.lt_of_lt_of_le l212 uf256.size
          clear l212
          have l271 := Nat.lt_of_lt_of_le l221 uf256.size
          clear l221
          have l272 := Nat.lt_of_lt_of_le l230 uf256.size
          clear l230
          have c273 := uf256.cell k232.out
          have c274 := uf256.cell k233.out
          clear k232 k233
          have c275 := uf256.cell k234.out
          have c276 := uf256.cell k235.out
          clear k234 k235
          have c277 := uf256.cell k236.out
          have c278 := uf256.cell k237.out
          have c279 := uf256.cell k238.out
          have c280 := uf256.cell k239.out
          clear k236 k237 k238 k239
          have vuf256 := vW184.trans uf256
          clear uf256 vW184 HShS231
          clear c252 c253 c254 c255 l272 n185 n186
          go_wp2_with fail
          refine (dy9 3 5 _).mono ?_
          rintro e w3 ⟨rfl, qw3⟩
          have l281 := Nat.lt_of_lt_of_le l266 qw3.size
          have c282 := qw3.cell c273
          have c283 := qw3.cell c274
          have l284 := Nat.lt_of_lt_of_le l267 qw3.size
          have c285 := qw3.cell c275
          have c286 := qw3.cell c276
          have l287 := Nat.lt_of_lt_of_le l268 qw3.size
          have c288 := qw3.cell c240
          have c289 := qw3.cell c241
          have c290 := qw3.cell c242
          have c291 := qw3.cell c243
          have l292 := Nat.lt_of_lt_of_le l269 qw3.size
          have c293 := qw3.cell c277
          have c294 := qw3.cell c278
          have c295 := qw3.cell c279
          have c296 := qw3.cell c280
          have f297 := (qw3.frozen (a := ⟨w1.heap.size, 0, none⟩) l270).trans f258
          have f298 := (qw3.frozen (a := ⟨w1.heap.size, 1, none⟩) l270).trans f259
          have f299 := (qw3.frozen (a := ⟨w1.heap.size, 2, none⟩) l270).trans f260
          have f300 := (qw3.frozen (a := ⟨w1.heap.size, 3, none⟩) l270).trans f261
          have l301 := Nat.lt_of_lt_of_le l270 qw3.size
          have c302 := qw3.cell c244
          have c303 := qw3.cell c245
          have c304 := qw3.cell c246
          have c305 := qw3.cell c247
          have f306 := (qw3.frozen (a := ⟨Bt8, 0, none⟩) l271).trans f262
          have f307 := (qw3.frozen (a := ⟨Bt8, 1, none⟩) l271).trans f263
          have f308 := (qw3.frozen (a := ⟨Bt8, 2, none⟩) l271).trans f264
          have f309 := (qw3.frozen (a := ⟨Bt8, 3, none⟩) l271).trans f265
          have l310 := Nat.lt_of_lt_of_le l271 qw3.size
          have c311 := qw3.cell c248
          have c312 := qw3.cell c249
          have c313 := qw3.cell c250
          have c314 := qw3.cell c251
          clear l266 c273 c274 l267 c275 c276 l268 c240 c241 c242 c243 l269 c277 c278 c279 c280 f258 f259 f260 f261 l270 c244 c245 c246 c247 f262 f263 f264 f265 l271 c248 c249 c250 c251
          have uw3 := vuf256.trans qw3
          clear qw3 vuf256
          go_wp2_with fail
          refine (rnLen 0 3 0 5 3 0 _ (by decide) (by decide) (Or.inr (Or.inr ⟨by decide +kernel, rfl, rfl, Or.inl ⟨by decide, by decide, rfl⟩⟩))).mono ?_
          rintro e w4 ⟨rfl, qw4⟩
          have l315 := Nat.lt_of_lt_of_le l281 qw4.size
          have c316 := qw4.cell c282
          have c317 := qw4.cell c283
          have l318 := Nat.lt_of_lt_of_le l284 qw4.size
          have c319 := qw4.cell c285
          have c320 := qw4.cell c286
          have l321 := Nat.lt_of_lt_of_le l287 qw4.size
          have c322 := qw4.cell c288
          have c323 := qw4.cell c289
          have c324 := qw4.cell c290
          have c325 := qw4.cell c291
          have l326 := Nat.lt_of_lt_of_le l292 qw4.size
          have c327 := qw4.cell c293
          have c328 := qw4.cell c294
          have c329 := qw4.cell c295
          have c330 := qw4.cell c296
          have f331 := (qw4.frozen (a := ⟨w1.heap.size, 0, none⟩) l301).trans f297
          have f332 := (qw4.frozen (a := ⟨w1.heap.size, 1, none⟩) l301).trans f298
          have f333 := (qw4.frozen (a := ⟨w1.heap.size, 2, none⟩) l301).trans f299
          have f334 := (qw4.frozen (a := ⟨w1.heap.size, 3, none⟩) l301).trans f300
          have l335 := Nat.lt_of_lt_of_le l301 qw4.size
          have c336 := qw4.cell c302
          have c337 := qw4.cell c303
          have c338 := qw4.cell c304
          have c339 := qw4.cell c305
          have f340 := (qw4.frozen (a := ⟨Bt8, 0, none⟩) l310).trans f306
          have f341 := (qw4.frozen (a := ⟨Bt8, 1, none⟩) l310).trans f307
          have f342 := (qw4.frozen (a := ⟨Bt8, 2, none⟩) l310).trans f308
          have f343 := (qw4.frozen (a := ⟨Bt8, 3, none⟩) l310).trans f309
          have l344 := Nat.lt_of_lt_of_le l310 qw4.size
          have c345 := qw4.cell c311
          have c346 := qw4.cell c312
          have c347 := qw4.cell c313
          have c348 := qw4.cell c314
          clear l281 c282 c283 l284 c285 c286 l287 c288 c289 c290 c291 l292 c293 c294 c295 c296 f297 f298 f299 f300 l301 c302 c303 c304 c305 f306 f307 f308 f309 l310 c311 c312 c313 c314
          have uw4 := uw3.trans qw4
          clear qw4 uw3
          go_wp2_with fail
          refine (rnLen (-1) 0 0 3 0 16 _ (by decide) (by decide) (Or.inr (Or.inl ⟨by decide +kernel, by decide, rfl, rfl⟩))).mono ?_
          rintro e w5 ⟨rfl, qw5⟩
          have l349 := Nat.lt_of_lt_of_le l315 qw5.size
          have c350 := qw5.cell c316
          have c351 := qw5.cell c317
          have l352 := Nat.lt_of_lt_of_le l318 qw5.size
          have c353 := qw5.cell c319
          have c354 := qw5.cell c320
          have l355 := Nat.lt_of_lt_of_le l321 qw5.size
          have c356 := qw5.cell c322
          have c357 := qw5.cell c323
          have c358 := qw5.cell c324
          have c359 := qw5.cell c325
          have l360 := Nat.lt_of_lt_of_le l326 qw5.size
          have c361 := qw5.cell c327
          have c362 := qw5.cell c328
          have c363 := qw5.cell c329
          have c364 := qw5.cell c330
          have f365 := (qw5.frozen (a := ⟨w1.heap.size, 0, none⟩) l335).trans f331
          have f366 := (qw5.frozen (a := ⟨w1.heap.size, 1, none⟩) l335).trans f332
          have f367 := (qw5.frozen (a := ⟨w1.heap.size, 2, none⟩) l335).trans f333
          have f368 := (qw5.frozen (a := ⟨w1.heap.size, 3, none⟩) l335).trans f334
          have l369 := Nat.lt_of_lt_of_le l335 qw5.size
          have c370 := qw5.cell c336
          have c371 := qw5.cell c337
          have c372 := qw5.cell c338
          have c373 := qw5.cell c339
          have f374 := (qw5.frozen (a := ⟨Bt8, 0, none⟩) l344).trans f340
          have f375 := (qw5.frozen (a := ⟨Bt8, 1, none⟩) l344).trans f341
          have f376 := (qw5.frozen (a := ⟨Bt8, 2, none⟩) l344).trans f342
          have f377 := (qw5.frozen (a := ⟨Bt8, 3, none⟩) l344).trans f343
          have l378 := Nat.lt_of_lt_of_le l344 qw5.size
          have c379 := qw5.cell c345
          have c380 := qw5.cell c346
          have c381 := qw5.cell c347
          have c382 := qw5.cell c348
          clear l315 c316 c317 l318 c319 c320 l321 c322 c323 c324 c325 l326 c327 c328 c329 c330 f331 f332 f333 f334 l335 c336 c337 c338 c339 f340 f341 f342 f343 l344 c345 c346 c347 c348
          have uw5 := uw4.trans qw5
          clear qw5 uw4
          go_wp2_with fail
          refine (dy9 (-1) 9223372036854775807 _).mono ?_
          rintro e w6 ⟨rfl, qw6⟩
          have l383 := Nat.lt_of_lt_of_le l349 qw6.size
          have c384 := qw6.cell c350
          have c385 := qw6.cell c351
          have l386 := Nat.lt_of_lt_of_le l352 qw6.size
          have c387 := qw6.cell c353
          have c388 := qw6.cell c354
          have l389 := Nat.lt_of_lt_of_le l355 qw6.size
          have c390 := qw6.cell c356
          have c391 := qw6.cell c357
          have c392 := qw6.cell c358
          have c393 := qw6.cell c359
          have l394 := Nat.lt_of_lt_of_le l360 qw6.size
          have c395 := qw6.cell c361
          have c396 := qw6.cell c362
          have c397 := qw6.cell c363
          have c398 := qw6.cell c364
          have f399 := (qw6.frozen (a := ⟨w1.heap.size, 0, none⟩) l369).trans f365
          have f400 := (qw6.frozen (a := ⟨w1.heap.size, 1, none⟩) l369).trans f366
          have f401 := (qw6.frozen (a := ⟨w1.heap.size, 2, none⟩) l369).trans f367
          have f402 := (qw6.frozen (a := ⟨w1.heap.size, 3, none⟩) l369).trans f368
          have l403 := Nat.lt_of_lt_of_le l369 qw6.size
          have c404 := qw6.cell c370
          have c405 := qw6.cell c371
          have c406 := qw6.cell c372
          have c407 := qw6.cell c373
          have f408 := (qw6.frozen (a := ⟨Bt8, 0, none⟩) l378).trans f374
          have f409 := (qw6.frozen (a := ⟨Bt8, 1, none⟩) l378).trans f375
          have f410 := (qw6.frozen (a := ⟨Bt8, 2, none⟩) l378).trans f376
          have f411 := (qw6.frozen (a := ⟨Bt8, 3, none⟩) l378).trans f377
          have l412 := Nat.lt_of_lt_of_le l378 qw6.size
          have c413 := qw6.cell c379
          have c414 := qw6.cell c380
          have c415 := qw6.cell c381
          have c416 := qw6.cell c382
          clear l349 c350 c351 l352 c353 c354 l355 c356 c357 c358 c359 l360 c361 c362 c363 c364 f365 f366 f367 f368 l369 c370 c371 c372 c373 f374 f375 f376 f377 l378 c379 c380 c381 c382
          have uw6 := uw5.trans qw6
          clear qw6 uw5
          go_wp2_with fail
          refine (rnLen 0 (-1) 0 9223372036854775807 0 15 _ (by decide) (by decide) (Or.inr (Or.inr ⟨by decide +kernel, rfl, rfl, Or.inr ⟨by decide, rfl, rfl⟩⟩))).mono ?_
          rintro e w7 ⟨rfl, qw7⟩
          have l417 := Nat.lt_of_lt_of_le l383 qw7.size
          have c418 := qw7.cell c384
          have c419 := qw7.cell c385
          have l420 := Nat.lt_of_lt_of_le l386 qw7.size
          have c421 := qw7.cell c387
          have c422 := qw7.cell c388
          have l423 := Nat.lt_of_lt_of_le l389 qw7.size
          have c424 := qw7.cell c390
          have c425 := qw7.cell c391
          have c426 := qw7.cell c392
          have c427 := qw7.cell c393
          have l428 := Nat.lt_of_lt_of_le l394 qw7.size
          have c429 := qw7.cell c395
          have c430 := qw7.cell c396
          have c431 := qw7.cell c397
          have c432 := qw7.cell c398
          have f433 := (qw7.frozen (a := ⟨w1.heap.size, 0, none⟩) l403).trans f399
          have f434 := (qw7.frozen (a := ⟨w1.heap.size, 1, none⟩) l403).trans f400
          have f435 := (qw7.frozen (a := ⟨w1.heap.size, 2, none⟩) l403).trans f401
          have f436 := (qw7.frozen (a := ⟨w1.heap.size, 3, none⟩) l403).trans f402
          have l437 := Nat.lt_of_lt_of_le l403 qw7.size
          have c438 := qw7.cell c404
          have c439 := qw7.cell c405
          have c440 := qw7.cell c406
          have c441 := qw7.cell c407
          have f442 := (qw7.frozen (a := ⟨Bt8, 0, none⟩) l412).trans f408
          have f443 := (qw7.frozen (a := ⟨Bt8, 1, none⟩) l412).trans f409
          have f444 := (qw7.frozen (a := ⟨Bt8, 2, none⟩) l412).trans f410
          have f445 := (qw7.frozen (a := ⟨Bt8, 3, none⟩) l412).trans f411
          have l446 := Nat.lt_of_lt_of_le l412 qw7.size
          have c447 := qw7.cell c413
          have c448 := qw7.cell c414
          have c449 := qw7.cell c415
          have c450 := qw7.cell c416
          clear l383 c384 c385 l386 c387 c388 l389 c390 c391 c392 c393 l394 c395 c396 c397 c398 f399 f400 f401 f402 l403 c404 c405 c406 c407 f408 f409 f410 f411 l412 c413 c414 c415 c416
          have uw7 := uw6.trans qw7
          clear qw7 uw6
          go_wp2_with fail
          refine (rnHas_at (-1) 0 0 3 (-9223372036854775808) true _ (by decide) (by decide) (by decide) (by decide +kernel)).mono ?_
          rintro e w8 ⟨rfl, qw8⟩
          have l451 := Nat.lt_of_lt_of_le l417 qw8.size
          have c452 := qw8.cell c418
          have c453 := qw8.cell c419
          have l454 := Nat.lt_of_lt_of_le l420 qw8.size
          have c455 := qw8.cell c421
          have c456 := qw8.cell c422
          have l457 := Nat.lt_of_lt_of_le l423 qw8.size
          have c458 := qw8.cell c424
          have c459 := qw8.cell c425
          have c460 := qw8.cell c426
          have c461 := qw8.cell c427
          have l462 := Nat.lt_of_lt_of_le l428 qw8.size
          have c463 := qw8.cell c429
          have c464 := qw8.cell c430
          have c465 := qw8.cell c431
          have c466 := qw8.cell c432
          have f467 := (qw8.frozen (a := ⟨w1.heap.size, 0, none⟩) l437).trans f433
          have f468 := (qw8.frozen (a := ⟨w1.heap.size, 1, none⟩) l437).trans f434
          have f469 := (qw8.frozen (a := ⟨w1.heap.size, 2, none⟩) l437).trans f435
          have f470 := (qw8.frozen (a := ⟨w1.heap.size, 3, none⟩) l437).trans f436
          have l471 := Nat.lt_of_lt_of_le l437 qw8.size
          have c472 := qw8.cell c438
          have c473 := qw8.cell c439
          have c474 := qw8.cell c440
          have c475 := qw8.cell c441
          have f476 := (qw8.frozen (a := ⟨Bt8, 0, none⟩) l446).trans f442
          have f477 := (qw8.frozen (a := ⟨Bt8, 1, none⟩) l446).trans f443
          have f478 := (qw8.frozen (a := ⟨Bt8, 2, none⟩) l446).trans f444
          have f479 := (qw8.frozen (a := ⟨Bt8, 3, none⟩) l446).trans f445
          have l480 := Nat.lt_of_lt_of_le l446 qw8.size
          have c481 := qw8.cell c447
          have c482 := qw8.cell c448
          have c483 := qw8.cell c449
          have c484 := qw8.cell c450
          clear l417 c418 c419 l420 c421 c422 l423 c424 c425 c426 c427 l428 c429 c430 c431 c432 f433 f434 f435 f436 l437 c438 c439 c440 c441 f442 f443 f444 f445 l446 c447 c448 c449 c450
          have uw8 := uw7.trans qw8
          clear qw8 uw7
          clear c463 c464 c465 c466 l462 n71 n112
          go_wp2_with fail
          refine (rnShift 0 3 1 0 (-4) 0 (-1) 1 0 0 _ (by decide) (by decide) (by decide) (Or.inr ⟨by decide +kernel, 0, -1, 0, 1, 0, 0, Or.inr ⟨rfl, rfl, Or.inl ⟨by decide, by decide, rfl⟩⟩, Or.inl ⟨by decide, rfl, rfl, rfl⟩, Or.inr (Or.inr ⟨rfl, rfl, rfl, rfl, rfl, rfl, rfl⟩)⟩)).mono ?_
          rintro e w9 ⟨rfl, qw9⟩
          have l485 := Nat.lt_of_lt_of_le l451 qw9.size
          have c486 := qw9.cell c452
          have c487 := qw9.cell c453
          have l488 := Nat.lt_of_lt_of_le l454 qw9.size
          have c489 := qw9.cell c455
          have c490 := qw9.cell c456
          have l491 := Nat.lt_of_lt_of_le l457 qw9.size
          have c492 := qw9.cell c458
          have c493 := qw9.cell c459
          have c494 := qw9.cell c460
          have c495 := qw9.cell c461
          have f496 := (qw9.frozen (a := ⟨w1.heap.size, 0, none⟩) l471).trans f467
          have f497 := (qw9.frozen (a := ⟨w1.heap.size, 1, none⟩) l471).trans f468
          have f498 := (qw9.frozen (a := ⟨w1.heap.size, 2, none⟩) l471).trans f469
          have f499 := (qw9.frozen (a := ⟨w1.heap.size, 3, none⟩) l471).trans f470
          have l500 := Nat.lt_of_lt_of_le l471 qw9.size
          have c501 := qw9.cell c472
          have c502 := qw9.cell c473
          have c503 := qw9.cell c474
          have c504 := qw9.cell c475
          have f505 := (qw9.frozen (a := ⟨Bt8, 0, none⟩) l480).trans f476
          have f506 := (qw9.frozen (a := ⟨Bt8, 1, none⟩) l480).trans f477
          have f507 := (qw9.frozen (a := ⟨Bt8, 2, none⟩) l480).trans f478
          have f508 := (qw9.frozen (a := ⟨Bt8, 3, none⟩) l480).trans f479
          have l509 := Nat.lt_of_lt_of_le l480 qw9.size
          have c510 := qw9.cell c481
          have c511 := qw9.cell c482
          have c512 := qw9.cell c483
          have c513 := qw9.cell c484
          clear l451 c452 c453 l454 c455 c456 l457 c458 c459 c460 c461 f467 f468 f469 f470 l471 c472 c473 c474 c475 f476 f477 f478 f479 l480 c481 c482 c483 c484
          have uw9 := uw8.trans qw9
          clear qw9 uw8
          go_wp2_with fail
          obtain ⟨W514, hW514⟩ : ∃ W514, W514 = (((w9.setCell ⟨w1.heap.size, 0, none⟩ (.int .i8 0)).setCell ⟨w1.heap.size, 1, none⟩ (.int .i64 (-1))).setCell ⟨w1.heap.size, 2, none⟩ (.int .i8 1)).setCell ⟨w1.heap.size, 3, none⟩ (.int .i64 0) := ⟨_, rfl⟩
          have hC : C4 w9 (w1.heap.size) (.int .i8 0) (.int .i64 1) (.int .i8 0) (.int .i64 5) := ⟨c501, c502, c503, c504, f496, f497, f498, f499, l500⟩
          have hN : C4 W514 (w1.heap.size) (.int .i8 0) (.int .i64 (-1)) (.int .i8 1) (.int .i64 0) := by rw [hW514]; exact hC.fill (.int .i8 0) (.int .i64 (-1)) (.int .i8 1) (.int .i64 0)
          have uW514 : Dn w W514 := by rw [hW514]; exact (Dn.setCell (Dn.setCell (Dn.setCell (Dn.setCell uw9 o66 _) o66 _) o66 _) o66 _)
          have c515 : W514.cell? ⟨w.heap.size, 0, none⟩ = some (.int .i8 (-1)) := by rw [hW514]; exact cell_far4 (n67) c486
          have c516 : W514.cell? ⟨w.heap.size, 1, none⟩ = some (.int .i64 0) := by rw [hW514]; exact cell_far4 (n67) c487
          have l517 : w.heap.size < W514.heap.size := by rw [hW514]; simpa using l485
          have c518 : W514.cell? ⟨w.heap.size + 1, 0, none⟩ = some (.int .i8 1) := by rw [hW514]; exact cell_far4 (n68) c489
          have c519 : W514.cell? ⟨w.heap.size + 1, 1, none⟩ = some (.int .i64 0) := by rw [hW514]; exact cell_far4 (n68) c490
          have l520 : w.heap.size + 1 < W514.heap.size := by rw [hW514]; simpa using l488
          have c521 : W514.cell? ⟨Bt3, 0, none⟩ = some (.int .i8 0) := by rw [hW514]; exact cell_far4 (n69) c492
          have c522 : W514.cell? ⟨Bt3, 1, none⟩ = some (.int .i64 1) := by rw [hW514]; exact cell_far4 (n69) c493
          have c523 : W514.cell? ⟨Bt3, 2, none⟩ = some (.int .i8 0) := by rw [hW514]; exact cell_far4 (n69) c494
          have c524 : W514.cell? ⟨Bt3, 3, none⟩ = some (.int .i64 3) := by rw [hW514]; exact cell_far4 (n69) c495
          have l525 : Bt3 < W514.heap.size := by rw [hW514]; simpa using l491
          have c526 : W514.cell? ⟨Bt8, 0, none⟩ = some (.int .i8 0) := by rw [hW514]; exact cell_far4 (fun e => n113 e.symm) c510
          have c527 : W514.cell? ⟨Bt8, 1, none⟩ = some (.int .i64 3) := by rw [hW514]; exact cell_far4 (fun e => n113 e.symm) c511
          have c528 : W514.cell? ⟨Bt8, 2, none⟩ = some (.int .i8 0) := by rw [hW514]; exact cell_far4 (fun e => n113 e.symm) c512
          have c529 : W514.cell? ⟨Bt8, 3, none⟩ = some (.int .i64 3) := by rw [hW514]; exact cell_far4 (fun e => n113 e.symm) c513
          have l530 : Bt8 < W514.heap.size := by rw [hW514]; simpa using l509
          have f531 : W514.frozen? ⟨Bt8, 0, none⟩ = false := by rw [hW514]; simpa using f505
          have f532 : W514.frozen? ⟨Bt8, 1, none⟩ = false := by rw [hW514]; simpa using f506
          have f533 : W514.frozen? ⟨Bt8, 2, none⟩ = false := by rw [hW514]; simpa using f507
          have f534 : W514.frozen? ⟨Bt8, 3, none⟩ = false := by rw [hW514]; simpa using f508
          obtain ⟨c535, c536, c537, c538, f539, f540, f541, f542, l543⟩ := hN
          rw [← hW514]
          clear hW514
          clear hC uw9 c501 c502 c503 c504 f496 f497 f498 f499 l500 c486 c487 l485 c489 c490 l488 c492 c493 c494 c495 l491 c510 c511 c512 c513 l509 f505 f506 f507 f508
          refine (dy9 0 9223372036854775807 _).mono ?_
          rintro e w10 ⟨rfl, qw10⟩
          have l544 := Nat.lt_of_lt_of_le l517 qw10.size
          have c545 := qw10.cell c515
          have c546 := qw10.cell c516
          have l547 := Nat.lt_of_lt_of_le l520 qw10.size
          have c548 := qw10.cell c518
          have c549 := qw10.cell c519
          have l550 := Nat.lt_of_lt_of_le l525 qw10.size
          have c551 := qw10.cell c521
          have c552 := qw10.cell c522
          have c553 := qw10.cell c523
          have c554 := qw10.cell c524
          have f555 := (qw10.frozen (a := ⟨w1.heap.size, 0, none⟩) l543).trans f539
          have f556 := (qw10.frozen (a := ⟨w1.heap.size, 1, none⟩) l543).trans f540
          have f557 := (qw10.frozen (a := ⟨w1.heap.size, 2, none⟩) l543).trans f541
          have f558 := (qw10.frozen (a := ⟨w1.heap.size, 3, none⟩) l543).trans f542
          have l559 := Nat.lt_of_lt_of_le l543 qw10.size
          have c560 := qw10.cell c535
          have c561 := qw10.cell c536
          have c562 := qw10.cell c537
          have c563 := qw10.cell c538
          have f564 := (qw10.frozen (a := ⟨Bt8, 0, none⟩) l530).trans f531
          have f565 := (qw10.frozen (a := ⟨Bt8, 1, none⟩) l530).trans f532
          have f566 := (qw10.frozen (a := ⟨Bt8, 2, none⟩) l530).trans f533
          have f567 := (qw10.frozen (a := ⟨Bt8, 3, none⟩) l530).trans f534
          have l568 := Nat.lt_of_lt_of_le l530 qw10.size
          have c569 := qw10.cell c526
          have c570 := qw10.cell c527
          have c571 := qw10.cell c528
          have c572 := qw10.cell c529
          clear l517 c515 c516 l520 c518 c519 l525 c521 c522 c523 c524 f539 f540 f541 f542 l543 c535 c536 c537 c538 f531 f532 f533 f534 l530 c526 c527 c528 c529
          have uw10 := uW514.trans qw10
          clear qw10 uW514
          go_wp2_with fail
          refine (rnShift 0 0 0 9223372036854775807 1 0 0 0 0 15 _ (by decide) (by decide) (by decide) (Or.inr ⟨by decide +kernel, 0, 1, 0, 0, 0, 15, Or.inr ⟨rfl, rfl, Or.inl ⟨by decide, by decide, rfl⟩⟩, Or.inr ⟨rfl, rfl, Or.inr ⟨by decide, rfl, rfl⟩⟩, Or.inr (Or.inl ⟨rfl, by decide, rfl, rfl, rfl, rfl, rfl⟩)⟩)).mono ?_
          rintro e w11 ⟨rfl, qw11⟩
          have l573 := Nat.lt_of_lt_of_le l544 qw11.size
          have c574 := qw11.cell c545
          have c575 := qw11.cell c546
          have l576 := Nat.lt_of_lt_of_le l547 qw11.size
          have c577 := qw11.cell c548
          have c578 := qw11.cell c549
          have l579 := Nat.lt_of_lt_of_le l550 qw11.size
          have c580 := qw11.cell c551
          have c581 := qw11.cell c552
          have c582 := qw11.cell c553
          have c583 := qw11.cell c554
          have f584 := (qw11.frozen (a := ⟨w1.heap.size, 0, none⟩) l559).trans f555
          have f585 := (qw11.frozen (a := ⟨w1.heap.size, 1, none⟩) l559).trans f556
          have f586 := (qw11.frozen (a := ⟨w1.heap.size, 2, none⟩) l559).trans f557
          have f587 := (qw11.frozen (a := ⟨w1.heap.size, 3, none⟩) l559).trans f558
          have l588 := Nat.lt_of_lt_of_le l559 qw11.size
          have c589 := qw11.cell c560
          have c590 := qw11.cell c561
          have c591 := qw11.cell c562
          have c592 := qw11.cell c563
          have f593 := (qw11.frozen (a := ⟨Bt8, 0, none⟩) l568).trans f564
          have f594 := (qw11.frozen (a := ⟨Bt8, 1, none⟩) l568).trans f565
          have f595 := (qw11.frozen (a := ⟨Bt8, 2, none⟩) l568).trans f566
          have f596 := (qw11.frozen (a := ⟨Bt8, 3, none⟩) l568).trans f567
          have l597 := Nat.lt_of_lt_of_le l568 qw11.size
          have c598 := qw11.cell c569
          have c599 := qw11.cell c570
          have c600 := qw11.cell c571
          have c601 := qw11.cell c572
          clear l544 c545 c546 l547 c548 c549 l550 c551 c552 c553 c554 f555 f556 f557 f558 l559 c560 c561 c562 c563 f564 f565 f566 f567 l568 c569 c570 c571 c572
          have uw11 := uw10.trans qw11
          clear qw11 uw10
          go_wp2_with fail
          obtain ⟨W602, hW602⟩ : ∃ W602, W602 = (((w11.setCell ⟨Bt8, 0, none⟩ (.int .i8 0)).setCell ⟨Bt8, 1, none⟩ (.int .i64 0)).setCell ⟨Bt8, 2, none⟩ (.int .i8 0)).setCell ⟨Bt8, 3, none⟩ (.int .i64 0) := ⟨_, rfl⟩
          have hC : C4 w11 (Bt8) (.int .i8 0) (.int .i64 3) (.int .i8 0) (.int .i64 3) := ⟨c598, c599, c600, c601, f593, f594, f595, f596, l597⟩
          have hN : C4 W602 (Bt8) (.int .i8 0) (.int .i64 0) (.int .i8 0) (.int .i64 0) := by rw [hW602]; exact hC.fill (.int .i8 0) (.int .i64 0) (.int .i8 0) (.int .i64 0)
          have uW602 : Dn w W602 := by rw [hW602]; exact (Dn.setCell (Dn.setCell (Dn.setCell (Dn.setCell uw11 o114 _) o114 _) o114 _) o114 _)
          have c603 : W602.cell? ⟨w.heap.size, 0, none⟩ = some (.int .i8 (-1)) := by rw [hW602]; exact cell_far4 (n108) c574
          have c604 : W602.cell? ⟨w.heap.size, 1, none⟩ = some (.int .i64 0) := by rw [hW602]; exact cell_far4 (n108) c575
          have l605 : w.heap.size < W602.heap.size := by rw [hW602]; simpa using l573
          have c606 : W602.cell? ⟨w.heap.size + 1, 0, none⟩ = some (.int .i8 1) := by rw [hW602]; exact cell_far4 (n109) c577
          have c607 : W602.cell? ⟨w.heap.size + 1, 1, none⟩ = some (.int .i64 0) := by rw [hW602]; exact cell_far4 (n109) c578
          have l608 : w.heap.size + 1 < W602.heap.size := by rw [hW602]; simpa using l576
          have c609 : W602.cell? ⟨Bt3, 0, none⟩ = some (.int .i8 0) := by rw [hW602]; exact cell_far4 (n110) c580
          have c610 : W602.cell? ⟨Bt3, 1, none⟩ = some (.int .i64 1) := by rw [hW602]; exact cell_far4 (n110) c581
          have c611 : W602.cell? ⟨Bt3, 2, none⟩ = some (.int .i8 0) := by rw [hW602]; exact cell_far4 (n110) c582
          have c612 : W602.cell? ⟨Bt3, 3, none⟩ = some (.int .i64 3) := by rw [hW602]; exact cell_far4 (n110) c583
          have l613 : Bt3 < W602.heap.size := by rw [hW602]; simpa using l579
          have c614 : W602.cell? ⟨w1.heap.size, 0, none⟩ = some (.int .i8 0) := by rw [hW602]; exact cell_far4 (n113) c589
          have c615 : W602.cell? ⟨w1.heap.size, 1, none⟩ = some (.int .i64 (-1)) := by rw [hW602]; exact cell_far4 (n113) c590
          have c616 : W602.cell? ⟨w1.heap.size, 2, none⟩ = some (.int .i8 1) := by rw [hW602]; exact cell_far4 (n113) c591
          have c617 : W602.cell? ⟨w1.heap.size, 3, none⟩ = some (.int .i64 0) := by rw [hW602]; exact cell_far4 (n113) c592
          have l618 : w1.heap.size < W602.heap.size := by rw [hW602]; simpa using l588
          have f619 : W602.frozen? ⟨w1.heap.size, 0, none⟩ = false := by rw [hW602]; simpa using f584
          have f620 : W602.frozen? ⟨w1.heap.size, 1, none⟩ = false := by rw [hW602]; simpa using f585
          have f621 : W602.frozen? ⟨w1.heap.size, 2, none⟩ = false := by rw [hW602]; simpa using f586
          have f622 : W602.frozen? ⟨w1.heap.size, 3, none⟩ = false := by rw [hW602]; simpa using f587
          obtain ⟨c623, c624, c625, c626, f627, f628, f629, f630, l631⟩ := hN
          rw [← hW602]
          clear hW602
          clear hC uw11 c598 c599 c600 c601 f593 f594 f595 f596 l597 c574 c575 l573 c577 c578 l576 c580 c581 c582 c583 l579 c589 c590 c591 c592 l588 f584 f585 f586 f587
          refine (g9_any 0 (-1) 1 0 0 0 (-1) 1 0 0 _ (by decide)).mono ?_
          rintro e w12 ⟨rfl, qw12⟩
          have l632 := Nat.lt_of_lt_of_le l605 qw12.size
          have c633 := qw12.cell c603
          have c634 := qw12.cell c604
          have l635 := Nat.lt_of_lt_of_le l608 qw12.size
          have c636 := qw12.cell c606
          have c637 := qw12.cell c607
          have l638 := Nat.lt_of_lt_of_le l613 qw12.size
          have c639 := qw12.cell c609
          have c640 := qw12.cell c610
          have c641 := qw12.cell c611
          have c642 := qw12.cell c612
          have f643 := (qw12.frozen (a := ⟨w1.heap.size, 0, none⟩) l618).trans f619
          have f644 := (qw12.frozen (a := ⟨w1.heap.size, 1, none⟩) l618).trans f620
          have f645 := (qw12.frozen (a := ⟨w1.heap.size, 2, none⟩) l618).trans f621
          have f646 := (qw12.frozen (a := ⟨w1.heap.size, 3, none⟩) l618).trans f622
          have l647 := Nat.lt_of_lt_of_le l618 qw12.size
          have c648 := qw12.cell c614
          have c649 := qw12.cell c615
          have c650 := qw12.cell c616
          have c651 := qw12.cell c617
          have f652 := (qw12.frozen (a := ⟨Bt8, 0, none⟩) l631).trans f627
          have f653 := (qw12.frozen (a := ⟨Bt8, 1, none⟩) l631).trans f628
          have f654 := (qw12.frozen (a := ⟨Bt8, 2, none⟩) l631).trans f629
          have f655 := (qw12.frozen (a := ⟨Bt8, 3, none⟩) l631).trans f630
          have l656 := Nat.lt_of_lt_of_le l631 qw12.size
          have c657 := qw12.cell c623
          have c658 := qw12.cell c624
          have c659 := qw12.cell c625
          have c660 := qw12.cell c626
          clear l605 c603 c604 l608 c606 c607 l613 c609 c610 c611 c612 f619 f620 f621 f622 l618 c614 c615 c616 c617 f627 f628 f629 f630 l631 c623 c624 c625 c626
          have uw12 := uW602.trans qw12
          clear qw12 uW602
          go_wp2_with fail
          refine (g9_any 0 0 0 0 15 0 1 0 3 15 _ (by decide)).mono ?_
          rintro e w13 ⟨rfl, qw13⟩
          have l661 := Nat.lt_of_lt_of_le l632 qw13.size
          have c662 := qw13.cell c633
          have c663 := qw13.cell c634
          have l664 := Nat.lt_of_lt_of_le l635 qw13.size
          have c665 := qw13.cell c636
          have c666 := qw13.cell c637
          have l667 := Nat.lt_of_lt_of_le l638 qw13.size
          have c668 := qw13.cell c639
          have c669 := qw13.cell c640
          have c670 := qw13.cell c641
          have c671 := qw13.cell c642
          have f672 := (qw13.frozen (a := ⟨w1.heap.size, 0, none⟩) l647).trans f643
          have f673 := (qw13.frozen (a := ⟨w1.heap.size, 1, none⟩) l647).trans f644
          have f674 := (qw13.frozen (a := ⟨w1.heap.size, 2, none⟩) l647).trans f645
          have f675 := (qw13.frozen (a := ⟨w1.heap.size, 3, none⟩) l647).trans f646
          have l676 := Nat.lt_of_lt_of_le l647 qw13.size
          have c677 := qw13.cell c648
          have c678 := qw13.cell c649
          have c679 := qw13.cell c650
          have c680 := qw13.cell c651
          have f681 := (qw13.frozen (a := ⟨Bt8, 0, none⟩) l656).trans f652
          have f682 := (qw13.frozen (a := ⟨Bt8, 1, none⟩) l656).trans f653
          have f683 := (qw13.frozen (a := ⟨Bt8, 2, none⟩) l656).trans f654
          have f684 := (qw13.frozen (a := ⟨Bt8, 3, none⟩) l656).trans f655
          have l685 := Nat.lt_of_lt_of_le l656 qw13.size
          have c686 := qw13.cell c657
          have c687 := qw13.cell c658
          have c688 := qw13.cell c659
          have c689 := qw13.cell c660
          clear l632 c633 c634 l635 c636 c637 l638 c639 c640 c641 c642 f643 f644 f645 f646 l647 c648 c649 c650 c651 f652 f653 f654 f655 l656 c657 c658 c659 c660
          have uw13 := uw12.trans qw13
          clear qw13 uw12
          clear c665 c666 l664 n68 n109
          clear c668 c669 c670 c671 l667 n69 n110
          clear c686 c687 c688 c689 l685 f681 f682 f683 f684 n108 n113 o114
          go_upto_region 19 with fail
          go_cut [18, 19] (fun s18 s19 wx => s18 = .slice (some ⟨w13.heap.size, 0, none⟩) 4 4 ∧ s19 = .slice (some ⟨w13.heap.size + 1, 0, none⟩) 4 4 ∧ wx = (w13.alloc (.cells #[.string ⟨#[45, 105, 110, 102, 46, 46, 45, 51]⟩, .string ⟨#[53, 46, 46, 51]⟩, .string ⟨#[105, 110, 102, 46, 46, 105, 110, 102]⟩, .string ⟨#[49, 46, 46, 46, 51]⟩] 9)).alloc (.cells #[.int .i64 0, .int .i64 12, .int .i64 4, .int .i64 5] 3))
          case first =>
            go_wp2_with fail
            go_meet
            case rel => exact ⟨rfl, rfl, rfl⟩
          case rest =>
            obtain ⟨rfl, rfl, rfl⟩ := hcut
            go_wp2_with fail
            obtain ⟨W690, hW690⟩ : ∃ W690, W690 = (w13.alloc (.cells #[.string ⟨#[45, 105, 110, 102, 46, 46, 45, 51]⟩, .string ⟨#[53, 46, 46, 51]⟩, .string ⟨#[105, 110, 102, 46, 46, 105, 110, 102]⟩, .string ⟨#[49, 46, 46, 46, 51]⟩] 9)).alloc (.cells #[.int .i64 0, .int .i64 12, .int .i64 4, .int .i64 5] 3) := ⟨_, rfl⟩
            have uW690 : Dn w13 W690 := by rw [hW690]; exact ((Dn.refl _).alloc _).alloc _
            have n691 : w1.heap.size ≠ w13.heap.size := by have := l676; omega
            have n692 : w1.heap.size ≠ w13.heap.size + 1 := by have := l676; omega
            have l693 := Nat.lt_of_lt_of_le l661 uW690.size
            have c694 := uW690.cell c662
            have c695 := uW690.cell c663
            have f696 := (uW690.frozen (a := ⟨w1.heap.size, 0, none⟩) l676).trans f672
            have f697 := (uW690.frozen (a := ⟨w1.heap.size, 1, none⟩) l676).trans f673
            have f698 := (uW690.frozen (a := ⟨w1.heap.size, 2, none⟩) l676).trans f674
            have f699 := (uW690.frozen (a := ⟨w1.heap.size, 3, none⟩) l676).trans f675
            have l700 := Nat.lt_of_lt_of_le l676 uW690.size
            have c701 := uW690.cell c677
            have c702 := uW690.cell c678
            have c703 := uW690.cell c679
            have c704 := uW690.cell c680
            clear l661 c662 c663 f672 f673 f674 f675 l676 c677 c678 c679 c680
            have c705 : W690.cell? ⟨w13.heap.size, 0, none⟩ = some (.string ⟨#[45, 105, 110, 102, 46, 46, 45, 51]⟩) := by rw [hW690]; simp [go_sem]
            have c706 : W690.cell? ⟨w13.heap.size, 1, none⟩ = some (.string ⟨#[53, 46, 46, 51]⟩) := by rw [hW690]; simp [go_sem]
            have c707 : W690.cell? ⟨w13.heap.size, 2, none⟩ = some (.string ⟨#[105, 110, 102, 46, 46, 105, 110, 102]⟩) := by rw [hW690]; simp [go_sem]
            have c708 : W690.cell? ⟨w13.heap.size, 3, none⟩ = some (.string ⟨#[49, 46, 46, 46, 51]⟩) := by rw [hW690]; simp [go_sem]
            have l709 : w13.heap.size < W690.heap.size := by rw [hW690]; simp <;> omega
            have c710 : W690.cell? ⟨w13.heap.size + 1, 0, none⟩ = some (.int .i64 0) := by rw [hW690]; simp [go_sem]
            have c711 : W690.cell? ⟨w13.heap.size + 1, 1, none⟩ = some (.int .i64 12) := by rw [hW690]; simp [go_sem]
            have c712 : W690.cell? ⟨w13.heap.size + 1, 2, none⟩ = some (.int .i64 4) := by rw [hW690]; simp [go_sem]
            have c713 : W690.cell? ⟨w13.heap.size + 1, 3, none⟩ = some (.int .i64 5) := by rw [hW690]; simp [go_sem]
            have l714 : w13.heap.size + 1 < W690.heap.size := by rw [hW690]; simp <;> omega
            rw [← hW690]
            clear hW690
            have vW690 := uw13.trans uW690
            clear uW690 uw13
            refine wp_loop_rounds 5 ?_
            rw [rounds_succ]
            go_wp2_with fail
            refine (rnParse ⟨#[45, 105, 110, 102, 46, 46, 45, 51]⟩ (-1) 0 0 (-3) 0 _ (by decide) rp9_0 (hE.dn vW690)).mono ?_
            rintro e w14 ⟨rfl, qw14⟩
            have l715 := Nat.lt_of_lt_of_le l693 qw14.size
            have c716 := qw14.cell c694
            have c717 := qw14.cell c695
            have f718 := (qw14.frozen (a := ⟨w1.heap.size, 0, none⟩) l700).trans f696
            have f719 := (qw14.frozen (a := ⟨w1.heap.size, 1, none⟩) l700).trans f697
            have f720 := (qw14.frozen (a := ⟨w1.heap.size, 2, none⟩) l700).trans f698
            have f721 := (qw14.frozen (a := ⟨w1.heap.size, 3, none⟩) l700).trans f699
            have l722 := Nat.lt_of_lt_of_le l700 qw14.size
            have c723 := qw14.cell c701
            have c724 := qw14.cell c702
            have c725 := qw14.cell c703
            have c726 := qw14.cell c704
            have l727 := Nat.lt_of_lt_of_le l709 qw14.size
            have c728 := qw14.cell c705
            have c729 := qw14.cell c706
            have c730 := qw14.cell c707
            have c731 := qw14.cell c708
            have l732 := Nat.lt_of_lt_of_le l714 qw14.size
            have c733 := qw14.cell c710
            have c734 := qw14.cell c711
            have c735 := qw14.cell c712
            have c736 := qw14.cell c713
            clear l693 c694 c695 f696 f697 f698 f699 l700 c701 c702 c703 c704 l709 c705 c706 c707 c708 l714 c710 c711 c712 c713
            have uw14 := vW690.trans qw14
            clear qw14 vW690
            go_wp2_with fail
            obtain ⟨W737, hW737⟩ : ∃ W737, W737 = (((w14.setCell ⟨w1.heap.size, 0, none⟩ (.int .i8 (-1))).setCell ⟨w1.heap.size, 1, none⟩ (.int .i64 0)).setCell ⟨w1.heap.size, 2, none⟩ (.int .i8 0)).setCell ⟨w1.heap.size, 3, none⟩ (.int .i64 (-3)) := ⟨_, rfl⟩
            have hC : C4 w14 (w1.heap.size) (.int .i8 0) (.int .i64 (-1)) (.int .i8 1) (.int .i64 0) := ⟨c723, c724, c725, c726, f718, f719, f720, f721, l722⟩
            have hN : C4 W737 (w1.heap.size) (.int .i8 (-1)) (.int .i64 0) (.int .i8 0) (.int .i64 (-3)) := by rw [hW737]; exact hC.fill (.int .i8 (-1)) (.int .i64 0) (.int .i8 0) (.int .i64 (-3))
            have uW737 : Dn w W737 := by rw [hW737]; exact (Dn.setCell (Dn.setCell (Dn.setCell (Dn.setCell uw14 o66 _) o66 _) o66 _) o66 _)
            have c738 : W737.cell? ⟨w.heap.size, 0, none⟩ = some (.int .i8 (-1)) := by rw [hW737]; exact cell_far4 (n67) c716
            have c739 : W737.cell? ⟨w.heap.size, 1, none⟩ = some (.int .i64 0) := by rw [hW737]; exact cell_far4 (n67) c717
            have l740 : w.heap.size < W737.heap.size := by rw [hW737]; simpa using l715
            have c741 : W737.cell? ⟨w13.heap.size, 0, none⟩ = some (.string ⟨#[45, 105, 110, 102, 46, 46, 45, 51]⟩) := by rw [hW737]; exact cell_far4 (fun e => n691 e.symm) c728
            have c742 : W737.cell? ⟨w13.heap.size, 1, none⟩ = some (.string ⟨#[53, 46, 46, 51]⟩) := by rw [hW737]; exact cell_far4 (fun e => n691 e.symm) c729
            have c743 : W737.cell? ⟨w13.heap.size, 2, none⟩ = some (.string ⟨#[105, 110, 102, 46, 46, 105, 110, 102]⟩) := by rw [hW737]; exact cell_far4 (fun e => n691 e.symm) c730
            have c744 : W737.cell? ⟨w13.heap.size, 3, none⟩ = some (.string ⟨#[49, 46, 46, 46, 51]⟩) := by rw [hW737]; exact cell_far4 (fun e => n691 e.symm) c731
            have l745 : w13.heap.size < W737.heap.size := by rw [hW737]; simpa using l727
            have c746 : W737.cell? ⟨w13.heap.size + 1, 0, none⟩ = some (.int .i64 0) := by rw [hW737]; exact cell_far4 (fun e => n692 e.symm) c733
            have c747 : W737.cell? ⟨w13.heap.size + 1, 1, none⟩ = some (.int .i64 12) := by rw [hW737]; exact cell_far4 (fun e => n692 e.symm) c734
            have c748 : W737.cell? ⟨w13.heap.size + 1, 2, none⟩ = some (.int .i64 4) := by rw [hW737]; exact cell_far4 (fun e => n692 e.symm) c735
            have c749 : W737.cell? ⟨w13.heap.size + 1, 3, none⟩ = some (.int .i64 5) := by rw [hW737]; exact cell_far4 (fun e => n692 e.symm) c736
            have l750 : w13.heap.size + 1 < W737.heap.size := by rw [hW737]; simpa using l732
            obtain ⟨c751, c752, c753, c754, f755, f756, f757, f758, l759⟩ := hN
            rw [← hW737]
            clear hW737
            clear hC uw14 c723 c724 c725 c726 f718 f719 f720 f721 l722 c716 c717 l715 c728 c729 c730 c731 l727 c733 c734 c735 c736 l732
            have hS760 := kdN_10 (W := W737) (Dn.refl _) ⟨Dn.refl _, c738, c739, c751, c752, c753, c754, c746, c747, c748, c749⟩
            have k761 := Lib.hid c741
            have k762 := Lib.hid c742
            have k763 := Lib.hid c743
            have k764 := Lib.hid c744
            have HShS760 := Lib.hid hS760
            clear c738 c739 c751 c752 c753 c754 c741 c742 c743 c744 c746 c747 c748 c749
            go_region_held3 (fun w' => Dn W737 w' ∧ w'.cell? ⟨w.heap.size, 0, none⟩ = some (.int .i8 (-1)) ∧ w'.cell? ⟨w.heap.size, 1, none⟩ = some (.int .i64 0) ∧ w'.cell? ⟨w1.heap.size, 0, none⟩ = some (.int .i8 (-1)) ∧ w'.cell? ⟨w1.heap.size, 1, none⟩ = some (.int .i64 0) ∧ w'.cell? ⟨w1.heap.size, 2, none⟩ = some (.int .i8 0) ∧ w'.cell? ⟨w1.heap.size, 3, none⟩ = some (.int .i64 (-3)) ∧ w'.cell? ⟨w13.heap.size + 1, 0, none⟩ = some (.int .i64 0) ∧ w'.cell? ⟨w13.heap.size + 1, 1, none⟩ = some (.int .i64 12) ∧ w'.cell? ⟨w13.heap.size + 1, 2, none⟩ = some (.int .i64 4) ∧ w'.cell? ⟨w13.heap.size + 1, 3, none⟩ = some (.int .i64 5))
              (first | exact kdN_10 ((Dn.refl _).drew) hS760 | exact kdN_10 ‹Dn _ _› ‹_› | exact kdN_10 (Up.dn ‹Up _ _›) ‹_› | assumption | exact kdN_10 ((Dn.refl _).alloc _) ‹_›)
              (first
                | (go_at_call 17; refine (g9_any _ _ _ _ _ _ _ _ _ _ _ ?_).mono ?_; decide; rintro e wa ⟨rfl, qa⟩))
            all_goals
              clear hS760
              obtain ⟨uf775, c765, c766, c767, c768, c769, c770, c771, c772, c773, c774⟩ := (‹Dn W737 _ ∧ _› : _ ∧ _)
              obtain ⟨w776, rfl⟩ : ∃ w776 : World, w776 = wa := ⟨_, rfl⟩
              have f777 := (uf775.frozen (a := ⟨w1.heap.size, 0, none⟩) l759).trans f755
              clear f755
              have f778 := (uf775.frozen (a := ⟨w1.heap.size, 1, none⟩) l759).trans f756
              clear f756
              have f779 := (uf775.frozen (a := ⟨w1.heap.size, 2, none⟩) l759).trans f757
              clear f757
              have f780 := (uf775.frozen (a := ⟨w1.heap.size, 3, none⟩) l759).trans f758
              clear f758
              have l781 := Nat.lt_of_lt_of_le l740 uf775.size
              clear l740
              have l782 := Nat.lt_of_lt_of_le l759 uf775.size
              clear l759
              have l783 := Nat.lt_of_lt_of_le l745 uf775.size
              clear l745
              have l784 := Nat.lt_of_lt_of_le l750 uf775.size
              clear l750
              have c785 := uf775.cell k761.out
              have c786 := uf775.cell k762.out
              have c787 := uf775.cell k763.out
              have c788 := uf775.cell k764.out
              clear k761 k762 k763 k764
              have vuf775 := uW737.trans uf775
              clear uf775 uW737 HShS760
              go_wp2_with fail
              rw [rounds_succ]
              go_wp2_with fail
              refine (rnParse ⟨#[53, 46, 46, 51]⟩ 0 0 0 0 12 _ (by decide) rp9_1 (hE.dn vuf775)).mono ?_
              rintro e w15 ⟨rfl, qw15⟩
              have l789 := Nat.lt_of_lt_of_le l781 qw15.size
              have c790 := qw15.cell c765
              have c791 := qw15.cell c766
              have f792 := (qw15.frozen (a := ⟨w1.heap.size, 0, none⟩) l782).trans f777
              have f793 := (qw15.frozen (a := ⟨w1.heap.size, 1, none⟩) l782).trans f778
              have f794 := (qw15.frozen (a := ⟨w1.heap.size, 2, none⟩) l782).trans f779
              have f795 := (qw15.frozen (a := ⟨w1.heap.size, 3, none⟩) l782).trans f780
              have l796 := Nat.lt_of_lt_of_le l782 qw15.size
              have c797 := qw15.cell c767
              have c798 := qw15.cell c768
              have c799 := qw15.cell c769
              have c800 := qw15.cell c770
              have l801 := Nat.lt_of_lt_of_le l783 qw15.size
              have c802 := qw15.cell c785
              have c803 := qw15.cell c786
              have c804 := qw15.cell c787
              have c805 := qw15.cell c788
              have l806 := Nat.lt_of_lt_of_le l784 qw15.size
              have c807 := qw15.cell c771
              have c808 := qw15.cell c772
              have c809 := qw15.cell c773
              have c810 := qw15.cell c774
              clear l781 c765 c766 f777 f778 f779 f780 l782 c767 c768 c769 c770 l783 c785 c786 c787 c788 l784 c771 c772 c773 c774
              have uw15 := vuf775.trans qw15
              clear qw15 vuf775
              go_wp2_with fail
              obtain ⟨W811, hW811⟩ : ∃ W811, W811 = (((w15.setCell ⟨w1.heap.size, 0, none⟩ (.int .i8 0)).setCell ⟨w1.heap.size, 1, none⟩ (.int .i64 0)).setCell ⟨w1.heap.size, 2, none⟩ (.int .i8 0)).setCell ⟨w1.heap.size, 3, none⟩ (.int .i64 0) := ⟨_, rfl⟩
              have hC : C4 w15 (w1.heap.size) (.int .i8 (-1)) (.int .i64 0) (.int .i8 0) (.int .i64 (-3)) := ⟨c797, c798, c799, c800, f792, f793, f794, f795, l796⟩
              have hN : C4 W811 (w1.heap.size) (.int .i8 0) (.int .i64 0) (.int .i8 0) (.int .i64 0) := by rw [hW811]; exact hC.fill (.int .i8 0) (.int .i64 0) (.int .i8 0) (.int .i64 0)
              have uW811 : Dn w W811 := by rw [hW811]; exact (Dn.setCell (Dn.setCell (Dn.setCell (Dn.setCell uw15 o66 _) o66 _) o66 _) o66 _)
              have c812 : W811.cell? ⟨w.heap.size, 0, none⟩ = some (.int .i8 (-1)) := by rw [hW811]; exact cell_far4 (n67) c790
              have c813 : W811.cell? ⟨w.heap.size, 1, none⟩ = some (.int .i64 0) := by rw [hW811]; exact cell_far4 (n67) c791
              have l814 : w.heap.size < W811.heap.size := by rw [hW811]; simpa using l789
              have c815 : W811.cell? ⟨w13.heap.size, 0, none⟩ = some (.string ⟨#[45, 105, 110, 102, 46, 46, 45, 51]⟩) := by rw [hW811]; exact cell_far4 (fun e => n691 e.symm) c802
              have c816 : W811.cell? ⟨w13.heap.size, 1, none⟩ = some (.string ⟨#[53, 46, 46, 51]⟩) := by rw [hW811]; exact cell_far4 (fun e => n691 e.symm) c803
              have c817 : W811.cell? ⟨w13.heap.size, 2, none⟩ = some (.string ⟨#[105, 110, 102, 46, 46, 105, 110, 102]⟩) := by rw [hW811]; exact cell_far4 (fun e => n691 e.symm) c804
              have c818 : W811.cell? ⟨w13.heap.size, 3, none⟩ = some (.string ⟨#[49, 46, 46, 46, 51]⟩) := by rw [hW811]; exact cell_far4 (fun e => n691 e.symm) c805
              have l819 : w13.heap.size < W811.heap.size := by rw [hW811]; simpa using l801
              have c820 : W811.cell? ⟨w13.heap.size + 1, 0, none⟩ = some (.int .i64 0) := by rw [hW811]; exact cell_far4 (fun e => n692 e.symm) c807
              have c821 : W811.cell? ⟨w13.heap.size + 1, 1, none⟩ = some (.int .i64 12) := by rw [hW811]; exact cell_far4 (fun e => n692 e.symm) c808
              have c822 : W811.cell? ⟨w13.heap.size + 1, 2, none⟩ = some (.int .i64 4) := by rw [hW811]; exact cell_far4 (fun e => n692 e.symm) c809
              have c823 : W811.cell? ⟨w13.heap.size + 1, 3, none⟩ = some (.int .i64 5) := by rw [hW811]; exact cell_far4 (fun e => n692 e.symm) c810
              have l824 : w13.heap.size + 1 < W811.heap.size := by rw [hW811]; simpa using l806
              obtain ⟨c825, c826, c827, c828, f829, f830, f831, f832, l833⟩ := hN
              rw [← hW811]
              clear hW811
              clear hC uw15 c797 c798 c799 c800 f792 f793 f794 f795 l796 c790 c791 l789 c802 c803 c804 c805 l801 c807 c808 c809 c810 l806
              have hS834 := kdN_10 (W := W811) (Dn.refl _) ⟨Dn.refl _, c812, c813, c825, c826, c827, c828, c820, c821, c822, c823⟩
              have k835 := Lib.hid c815
              have k836 := Lib.hid c816
              have k837 := Lib.hid c817
              have k838 := Lib.hid c818
              have HShS834 := Lib.hid hS834
              clear c812 c813 c825 c826 c827 c828 c815 c816 c817 c818 c820 c821 c822 c823
              go_region_held3 (fun w' => Dn W811 w' ∧ w'.cell? ⟨w.heap.size, 0, none⟩ = some (.int .i8 (-1)) ∧ w'.cell? ⟨w.heap.size, 1, none⟩ = some (.int .i64 0) ∧ w'.cell? ⟨w1.heap.size, 0, none⟩ = some (.int .i8 0) ∧ w'.cell? ⟨w1.heap.size, 1, none⟩ = some (.int .i64 0) ∧ w'.cell? ⟨w1.heap.size, 2, none⟩ = some (.int .i8 0) ∧ w'.cell? ⟨w1.heap.size, 3, none⟩ = some (.int .i64 0) ∧ w'.cell? ⟨w13.heap.size + 1, 0, none⟩ = some (.int .i64 0) ∧ w'.cell? ⟨w13.heap.size + 1, 1, none⟩ = some (.int .i64 12) ∧ w'.cell? ⟨w13.heap.size + 1, 2, none⟩ = some (.int .i64 4) ∧ w'.cell? ⟨w13.heap.size + 1, 3, none⟩ = some (.int .i64 5))
                (first | exact kdN_10 ((Dn.refl _).drew) hS834 | exact kdN_10 ‹Dn _ _› ‹_› | exact kdN_10 (Up.dn ‹Up _ _›) ‹_› | assumption | exact kdN_10 ((Dn.refl _).alloc _) ‹_›)
                (first
                  | (go_at_call 17; refine (g9_any _ _ _ _ _ _ _ _ _ _ _ ?_).mono ?_; decide; rintro e wa ⟨rfl, qa⟩))
              all_goals
                clear hS834
                obtain ⟨uf849, c839, c840, c841, c842, c843, c844, c845, c846, c847, c848⟩ := (‹Dn W811 _ ∧ _› : _ ∧ _)
                obtain ⟨w850, rfl⟩ : ∃ w850 : World, w850 = wa := ⟨_, rfl⟩
                have f851 := (uf849.frozen (a := ⟨w1.heap.size, 0, none⟩) l833).trans f829
                clear f829
                have f852 := (uf849.frozen (a := ⟨w1.heap.size, 1, none⟩) l833).trans f830
                clear f830
                have f853 := (uf849.frozen (a := ⟨w1.heap.size, 2, none⟩) l833).trans f831
                clear f831
                have f854 := (uf849.frozen (a := ⟨w1.heap.size, 3, none⟩) l833).trans f832
                clear f832
                have l855 := Nat.lt_of_lt_of_le l814 uf849.size
                clear l814
                have l856 := Nat.lt_of_lt_of_le l833 uf849.size
                clear l833
                have l857 := Nat.lt_of_lt_of_le l819 uf849.size
                clear l819
                have l858 := Nat.lt_of_lt_of_le l824 uf849.size
                clear l824
                have c859 := uf849.cell k835.out
                have c860 := uf849.cell k836.out
                have c861 := uf849.cell k837.out
                have c862 := uf849.cell k838.out
                clear k835 k836 k837 k838
                have vuf849 := uW811.trans uf849
                clear uf849 uW811 HShS834
                go_wp2_with fail
                rw [rounds_succ]
                go_wp2_with fail
                refine (rnParse ⟨#[105, 110, 102, 46, 46, 105, 110, 102]⟩ 0 0 0 0 4 _ (by decide) rp9_2 (hE.dn vuf849)).mono ?_
                rintro e w16 ⟨rfl, qw16⟩
                have l863 := Nat.lt_of_lt_of_le l855 qw16.size
                have c864 := qw16.cell c839
                have c865 := qw16.cell c840
                have f866 := (qw16.frozen (a := ⟨w1.heap.size, 0, none⟩) l856).trans f851
                have f867 := (qw16.frozen (a := ⟨w1.heap.size, 1, none⟩) l856).trans f852
                have f868 := (qw16.frozen (a := ⟨w1.heap.size, 2, none⟩) l856).trans f853
                have f869 := (qw16.frozen (a := ⟨w1.heap.size, 3, none⟩) l856).trans f854
                have l870 := Nat.lt_of_lt_of_le l856 qw16.size
                have c871 := qw16.cell c841
                have c872 := qw16.cell c842
                have c873 := qw16.cell c843
                have c874 := qw16.cell c844
                have l875 := Nat.lt_of_lt_of_le l857 qw16.size
                have c876 := qw16.cell c859
                have c877 := qw16.cell c860
                have c878 := qw16.cell c861
                have c879 := qw16.cell c862
                have l880 := Nat.lt_of_lt_of_le l858 qw16.size
                have c881 := qw16.cell c845
                have c882 := qw16.cell c846
                have c883 := qw16.cell c847
                have c884 := qw16.cell c848
                clear l855 c839 c840 f851 f852 f853 f854 l856 c841 c842 c843 c844 l857 c859 c860 c861 c862 l858 c845 c846 c847 c848
                have uw16 := vuf849.trans qw16
                clear qw16 vuf849
                go_wp2_with fail
                obtain ⟨W885, hW885⟩ : ∃ W885, W885 = (((w16.setCell ⟨w1.heap.size, 0, none⟩ (.int .i8 0)).setCell ⟨w1.heap.size, 1, none⟩ (.int .i64 0)).setCell ⟨w1.heap.size, 2, none⟩ (.int .i8 0)).setCell ⟨w1.heap.size, 3, none⟩ (.int .i64 0) := ⟨_, rfl⟩
                have hC : C4 w16 (w1.heap.size) (.int .i8 0) (.int .i64 0) (.int .i8 0) (.int .i64 0) := ⟨c871, c872, c873, c874, f866, f867, f868, f869, l870⟩
                have hN : C4 W885 (w1.heap.size) (.int .i8 0) (.int .i64 0) (.int .i8 0) (.int .i64 0) := by rw [hW885]; exact hC.fill (.int .i8 0) (.int .i64 0) (.int .i8 0) (.int .i64 0)
                have uW885 : Dn w W885 := by rw [hW885]; exact (Dn.setCell (Dn.setCell (Dn.setCell (Dn.setCell uw16 o66 _) o66 _) o66 _) o66 _)
                have c886 : W885.cell? ⟨w.heap.size, 0, none⟩ = some (.int .i8 (-1)) := by rw [hW885]; exact cell_far4 (n67) c864
                have c887 : W885.cell? ⟨w.heap.size, 1, none⟩ = some (.int .i64 0) := by rw [hW885]; exact cell_far4 (n67) c865
                have l888 : w.heap.size < W885.heap.size := by rw [hW885]; simpa using l863
                have c889 : W885.cell? ⟨w13.heap.size, 0, none⟩ = some (.string ⟨#[45, 105, 110, 102, 46, 46, 45, 51]⟩) := by rw [hW885]; exact cell_far4 (fun e => n691 e.symm) c876
                have c890 : W885.cell? ⟨w13.heap.size, 1, none⟩ = some (.string ⟨#[53, 46, 46, 51]⟩) := by rw [hW885]; exact cell_far4 (fun e => n691 e.symm) c877
                have c891 : W885.cell? ⟨w13.heap.size, 2, none⟩ = some (.string ⟨#[105, 110, 102, 46, 46, 105, 110, 102]⟩) := by rw [hW885]; exact cell_far4 (fun e => n691 e.symm) c878
                have c892 : W885.cell? ⟨w13.heap.size, 3, none⟩ = some (.string ⟨#[49, 46, 46, 46, 51]⟩) := by rw [hW885]; exact cell_far4 (fun e => n691 e.symm) c879
                have l893 : w13.heap.size < W885.heap.size := by rw [hW885]; simpa using l875
                have c894 : W885.cell? ⟨w13.heap.size + 1, 0, none⟩ = some (.int .i64 0) := by rw [hW885]; exact cell_far4 (fun e => n692 e.symm) c881
                have c895 : W885.cell? ⟨w13.heap.size + 1, 1, none⟩ = some (.int .i64 12) := by rw [hW885]; exact cell_far4 (fun e => n692 e.symm) c882
                have c896 : W885.cell? ⟨w13.heap.size + 1, 2, none⟩ = some (.int .i64 4) := by rw [hW885]; exact cell_far4 (fun e => n692 e.symm) c883
                have c897 : W885.cell? ⟨w13.heap.size + 1, 3, none⟩ = some (.int .i64 5) := by rw [hW885]; exact cell_far4 (fun e => n692 e.symm) c884
                have l898 : w13.heap.size + 1 < W885.heap.size := by rw [hW885]; simpa using l880
                obtain ⟨c899, c900, c901, c902, f903, f904, f905, f906, l907⟩ := hN
                rw [← hW885]
                clear hW885
                clear hC uw16 c871 c872 c873 c874 f866 f867 f868 f869 l870 c864 c865 l863 c876 c877 c878 c879 l875 c881 c882 c883 c884 l880
                have hS908 := kdN_10 (W := W885) (Dn.refl _) ⟨Dn.refl _, c886, c887, c899, c900, c901, c902, c894, c895, c896, c897⟩
                have k909 := Lib.hid c889
                have k910 := Lib.hid c890
                have k911 := Lib.hid c891
                have k912 := Lib.hid c892
                have HShS908 := Lib.hid hS908
                clear c886 c887 c899 c900 c901 c902 c889 c890 c891 c892 c894 c895 c896 c897
                go_region_held3 (fun w' => Dn W885 w' ∧ w'.cell? ⟨w.heap.size, 0, none⟩ = some (.int .i8 (-1)) ∧ w'.cell? ⟨w.heap.size, 1, none⟩ = some (.int .i64 0) ∧ w'.cell? ⟨w1.heap.size, 0, none⟩ = some (.int .i8 0) ∧ w'.cell? ⟨w1.heap.size, 1, none⟩ = some (.int .i64 0) ∧ w'.cell? ⟨w1.heap.size, 2, none⟩ = some (.int .i8 0) ∧ w'.cell? ⟨w1.heap.size, 3, none⟩ = some (.int .i64 0) ∧ w'.cell? ⟨w13.heap.size + 1, 0, none⟩ = some (.int .i64 0) ∧ w'.cell? ⟨w13.heap.size + 1, 1, none⟩ = some (.int .i64 12) ∧ w'.cell? ⟨w13.heap.size + 1, 2, none⟩ = some (.int .i64 4) ∧ w'.cell? ⟨w13.heap.size + 1, 3, none⟩ = some (.int .i64 5))
                  (first | exact kdN_10 ((Dn.refl _).drew) hS908 | exact kdN_10 ‹Dn _ _› ‹_› | exact kdN_10 (Up.dn ‹Up _ _›) ‹_› | assumption | exact kdN_10 ((Dn.refl _).alloc _) ‹_›)
                  (first
                    | (go_at_call 17; refine (g9_any _ _ _ _ _ _ _ _ _ _ _ ?_).mono ?_; decide; rintro e wa ⟨rfl, qa⟩))
                all_goals
                  clear hS908
                  obtain ⟨uf923, c913, c914, c915, c916, c917, c918, c919, c920, c921, c922⟩ := (‹Dn W885 _ ∧ _› : _ ∧ _)
                  obtain ⟨w924, rfl⟩ : ∃ w924 : World, w924 = wa := ⟨_, rfl⟩
                  have f925 := (uf923.frozen (a := ⟨w1.heap.size, 0, none⟩) l907).trans f903
                  clear f903
                  have f926 := (uf923.frozen (a := ⟨w1.heap.size, 1, none⟩) l907).trans f904
                  clear f904
                  have f927 := (uf923.frozen (a := ⟨w1.heap.size, 2, none⟩) l907).trans f905
                  clear f905
                  have f928 := (uf923.frozen (a := ⟨w1.heap.size, 3, none⟩) l907).trans f906
                  clear f906
                  have l929 := Nat.lt_of_lt_of_le l888 uf923.size
                  clear l888
                  have l930 := Nat.lt_of_lt_of_le l907 uf923.size
                  clear l907
                  have l931 := Nat.lt_of_lt_of_le l893 uf923.size
                  clear l893
                  have l932 := Nat.lt_of_lt_of_le l898 uf923.size
                  clear l898
                  have c933 := uf923.cell k909.out
                  have c934 := uf923.cell k910.out
                  have c935 := uf923.cell k911.out
                  have c936 := uf923.cell k912.out
                  clear k909 k910 k911 k912
                  have vuf923 := uW885.trans uf923
                  clear uf923 uW885 HShS908
                  go_wp2_with fail
                  rw [rounds_succ]
                  go_wp2_with fail
                  refine (rnParse ⟨#[49, 46, 46, 46, 51]⟩ 0 0 0 0 5 _ (by decide) rp9_3 (hE.dn vuf923)).mono ?_
                  rintro e w17 ⟨rfl, qw17⟩
                  have l937 := Nat.lt_of_lt_of_le l929 qw17.size
                  have c938 := qw17.cell c913
                  have c939 := qw17.cell c914
                  have f940 := (qw17.frozen (a := ⟨w1.heap.size, 0, none⟩) l930).trans f925
                  have f941 := (qw17.frozen (a := ⟨w1.heap.size, 1, none⟩) l930).trans f926
                  have f942 := (qw17.frozen (a := ⟨w1.heap.size, 2, none⟩) l930).trans f927
                  have f943 := (qw17.frozen (a := ⟨w1.heap.size, 3, none⟩) l930).trans f928
                  have l944 := Nat.lt_of_lt_of_le l930 qw17.size
                  have c945 := qw17.cell c915
                  have c946 := qw17.cell c916
                  have c947 := qw17.cell c917
                  have c948 := qw17.cell c918
                  have l949 := Nat.lt_of_lt_of_le l931 qw17.size
                  have c950 := qw17.cell c933
                  have c951 := qw17.cell c934
                  have c952 := qw17.cell c935
                  have c953 := qw17.cell c936
                  have l954 := Nat.lt_of_lt_of_le l932 qw17.size
                  have c955 := qw17.cell c919
                  have c956 := qw17.cell c920
                  have c957 := qw17.cell c921
                  have c958 := qw17.cell c922
                  clear l929 c913 c914 f925 f926 f927 f928 l930 c915 c916 c917 c918 l931 c933 c934 c935 c936 l932 c919 c920 c921 c922
                  have uw17 := vuf923.trans qw17
                  clear qw17 vuf923
                  go_wp2_with fail
                  obtain ⟨W959, hW959⟩ : ∃ W959, W959 = (((w17.setCell ⟨w1.heap.size, 0, none⟩ (.int .i8 0)).setCell ⟨w1.heap.size, 1, none⟩ (.int .i64 0)).setCell ⟨w1.heap.size, 2, none⟩ (.int .i8 0)).setCell ⟨w1.heap.size, 3, none⟩ (.int .i64 0) := ⟨_, rfl⟩
                  have hC : C4 w17 (w1.heap.size) (.int .i8 0) (.int .i64 0) (.int .i8 0) (.int .i64 0) := ⟨c945, c946, c947, c948, f940, f941, f942, f943, l944⟩
                  have hN : C4 W959 (w1.heap.size) (.int .i8 0) (.int .i64 0) (.int .i8 0) (.int .i64 0) := by rw [hW959]; exact hC.fill (.int .i8 0) (.int .i64 0) (.int .i8 0) (.int .i64 0)
                  have uW959 : Dn w W959 := by rw [hW959]; exact (Dn.setCell (Dn.setCell (Dn.setCell (Dn.setCell uw17 o66 _) o66 _) o66 _) o66 _)
                  have c960 : W959.cell? ⟨w.heap.size, 0, none⟩ = some (.int .i8 (-1)) := by rw [hW959]; exact cell_far4 (n67) c938
                  have c961 : W959.cell? ⟨w.heap.size, 1, none⟩ = some (.int .i64 0) := by rw [hW959]; exact cell_far4 (n67) c939
                  have l962 : w.heap.size < W959.heap.size := by rw [hW959]; simpa using l937
                  have c963 : W959.cell? ⟨w13.heap.size, 0, none⟩ = some (.string ⟨#[45, 105, 110, 102, 46, 46, 45, 51]⟩) := by rw [hW959]; exact cell_far4 (fun e => n691 e.symm) c950
                  have c964 : W959.cell? ⟨w13.heap.size, 1, none⟩ = some (.string ⟨#[53, 46, 46, 51]⟩) := by rw [hW959]; exact cell_far4 (fun e => n691 e.symm) c951
                  have c965 : W959.cell? ⟨w13.heap.size, 2, none⟩ = some (.string ⟨#[105, 110, 102, 46, 46, 105, 110, 102]⟩) := by rw [hW959]; exact cell_far4 (fun e => n691 e.symm) c952
                  have c966 : W959.cell? ⟨w13.heap.size, 3, none⟩ = some (.string ⟨#[49, 46, 46, 46, 51]⟩) := by rw [hW959]; exact cell_far4 (fun e => n691 e.symm) c953
                  have l967 : w13.heap.size < W959.heap.size := by rw [hW959]; simpa using l949
                  have c968 : W959.cell? ⟨w13.heap.size + 1, 0, none⟩ = some (.int .i64 0) := by rw [hW959]; exact cell_far4 (fun e => n692 e.symm) c955
                  have c969 : W959.cell? ⟨w13.heap.size + 1, 1, none⟩ = some (.int .i64 12) := by rw [hW959]; exact cell_far4 (fun e => n692 e.symm) c956
                  have c970 : W959.cell? ⟨w13.heap.size + 1, 2, none⟩ = some (.int .i64 4) := by rw [hW959]; exact cell_far4 (fun e => n692 e.symm) c957
                  have c971 : W959.cell? ⟨w13.heap.size + 1, 3, none⟩ = some (.int .i64 5) := by rw [hW959]; exact cell_far4 (fun e => n692 e.symm) c958
                  have l972 : w13.heap.size + 1 < W959.heap.size := by rw [hW959]; simpa using l954
                  obtain ⟨c973, c974, c975, c976, f977, f978, f979, f980, l981⟩ := hN
                  rw [← hW959]
                  clear hW959
                  clear hC uw17 c945 c946 c947 c948 f940 f941 f942 f943 l944 c938 c939 l937 c950 c951 c952 c953 l949 c955 c956 c957 c958 l954
                  have hS982 := kdN_10 (W := W959) (Dn.refl _) ⟨Dn.refl _, c960, c961, c973, c974, c975, c976, c968, c969, c970, c971⟩
                  have k983 := Lib.hid c963
                  have k984 := Lib.hid c964
                  have k985 := Lib.hid c965
                  have k986 := Lib.hid c966
                  have HShS982 := Lib.hid hS982
                  clear c960 c961 c973 c974 c975 c976 c963 c964 c965 c966 c968 c969 c970 c971
                  go_region_held3 (fun w' => Dn W959 w' ∧ w'.cell? ⟨w.heap.size, 0, none⟩ = some (.int .i8 (-1)) ∧ w'.cell? ⟨w.heap.size, 1, none⟩ = some (.int .i64 0) ∧ w'.cell? ⟨w1.heap.size, 0, none⟩ = some (.int .i8 0) ∧ w'.cell? ⟨w1.heap.size, 1, none⟩ = some (.int .i64 0) ∧ w'.cell? ⟨w1.heap.size, 2, none⟩ = some (.int .i8 0) ∧ w'.cell? ⟨w1.heap.size, 3, none⟩ = some (.int .i64 0) ∧ w'.cell? ⟨w13.heap.size + 1, 0, none⟩ = some (.int .i64 0) ∧ w'.cell? ⟨w13.heap.size + 1, 1, none⟩ = some (.int .i64 12) ∧ w'.cell? ⟨w13.heap.size + 1, 2, none⟩ = some (.int .i64 4) ∧ w'.cell? ⟨w13.heap.size + 1, 3, none⟩ = some (.int .i64 5))
                    (first | exact kdN_10 ((Dn.refl _).drew) hS982 | exact kdN_10 ‹Dn _ _› ‹_› | exact kdN_10 (Up.dn ‹Up _ _›) ‹_› | assumption | exact kdN_10 ((Dn.refl _).alloc _) ‹_›)
                    (first
                      | (go_at_call 17; refine (g9_any _ _ _ _ _ _ _ _ _ _ _ ?_).mono ?_; decide; rintro e wa ⟨rfl, qa⟩))
                  all_goals
                    clear hS982
                    obtain ⟨uf997, c987, c988, c989, c990, c991, c992, c993, c994, c995, c996⟩ := (‹Dn W959 _ ∧ _› : _ ∧ _)
                    obtain ⟨w998, rfl⟩ : ∃ w998 : World, w998 = wa := ⟨_, rfl⟩
                    have f999 := (uf997.frozen (a := ⟨w1.heap.size, 0, none⟩) l981).trans f977
                    clear f977
                    have f1000 := (uf997.frozen (a := ⟨w1.heap.size, 1, none⟩) l981).trans f978
                    clear f978
                    have f1001 := (uf997.frozen (a := ⟨w1.heap.size, 2, none⟩) l981).trans f979
                    clear f979
                    have f1002 := (uf997.frozen (a := ⟨w1.heap.size, 3, none⟩) l981).trans f980
                    clear f980
                    have l1003 := Nat.lt_of_lt_of_le l962 uf997.size
                    clear l962
                    have l1004 := Nat.lt_of_lt_of_le l981 uf997.size
                    clear l981
                    have l1005 := Nat.lt_of_lt_of_le l967 uf997.size
                    clear l967
                    have l1006 := Nat.lt_of_lt_of_le l972 uf997.size
                    clear l972
                    have c1007 := uf997.cell k983.out
                    have c1008 := uf997.cell k984.out
                    have c1009 := uf997.cell k985.out
                    have c1010 := uf997.cell k986.out
                    clear k983 k984 k985 k986
                    have vuf997 := uW959.trans uf997
                    clear uf997 uW959 HShS982
                    go_wp2_with fail
                    rw [rounds_succ]
                    go_wp2_with fail
                    go_ret
                    exact ⟨rfl, vuf997⟩
end Go.Proofs.YtcdkeiolblifkaaDoor
