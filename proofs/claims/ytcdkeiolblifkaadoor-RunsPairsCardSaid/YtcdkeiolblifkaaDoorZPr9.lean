/- Walks and laws that the claim's theorem leans on: part 9. -/
import Derived.Test.YtcdkeiolblifkaaDoorZPr1
import Derived.Test.YtcdkeiolblifkaaDoorZPr8
import Derived.Deep.DeepCutAuto
namespace Go.Proofs.YtcdkeiolblifkaaDoor
set_option maxHeartbeats 16000000
set_option maxRecDepth 100000
open Go.RowKit
set_option linter.unusedVariables false
set_option linter.unusedSimpArgs false
theorem kdN_10 {W w1 w2 : World} {a0 a1 a2 a3 a4 a5 a6 a7 a8 a9 : Addr} {v0 v1 v2 v3 v4 v5 v6 v7 v8 v9 : Value} (k : Dn w1 w2) (h : Dn W w1 ∧ w1.cell? a0 = some v0 ∧ w1.cell? a1 = some v1 ∧ w1.cell? a2 = some v2 ∧ w1.cell? a3 = some v3 ∧ w1.cell? a4 = some v4 ∧ w1.cell? a5 = some v5 ∧ w1.cell? a6 = some v6 ∧ w1.cell? a7 = some v7 ∧ w1.cell? a8 = some v8 ∧ w1.cell? a9 = some v9) :
  Dn W w2 ∧ w2.cell? a0 = some v0 ∧ w2.cell? a1 = some v1 ∧ w2.cell? a2 = some v2 ∧ w2.cell? a3 = some v3 ∧ w2.cell? a4 = some v4 ∧ w2.cell? a5 = some v5 ∧ w2.cell? a6 = some v6 ∧ w2.cell? a7 = some v7 ∧ w2.cell? a8 = some v8 ∧ w2.cell? a9 = some v9 := by
 obtain ⟨h1, c0, c1, c2, c3, c4, c5, c6, c7, c8, c9⟩ := h
 exact ⟨h1.trans k, k.cell c0, k.cell c1, k.cell c2, k.cell c3, k.cell c4, k.cell c5, k.cell c6, k.cell c7, k.cell c8, k.cell c9⟩
theorem kdN_14 {W w1 w2 : World} {a0 a1 a2 a3 a4 a5 a6 a7 a8 a9 a10 a11 a12 a13 : Addr} {v0 v1 v2 v3 v4 v5 v6 v7 v8 v9 v10 v11 v12 v13 : Value} (k : Dn w1 w2) (h : Dn W w1 ∧ w1.cell? a0 = some v0 ∧ w1.cell? a1 = some v1 ∧ w1.cell? a2 = some v2 ∧ w1.cell? a3 = some v3 ∧ w1.cell? a4 = some v4 ∧ w1.cell? a5 = some v5 ∧ w1.cell? a6 = some v6 ∧ w1.cell? a7 = some v7 ∧ w1.cell? a8 = some v8 ∧ w1.cell? a9 = some v9 ∧ w1.cell? a10 = some v10 ∧ w1.cell? a11 = some v11 ∧ w1.cell? a12 = some v12 ∧ w1.cell? a13 = some v13) :
  Dn W w2 ∧ w2.cell? a0 = some v0 ∧ w2.cell? a1 = some v1 ∧ w2.cell? a2 = some v2 ∧ w2.cell? a3 = some v3 ∧ w2.cell? a4 = some v4 ∧ w2.cell? a5 = some v5 ∧ w2.cell? a6 = some v6 ∧ w2.cell? a7 = some v7 ∧ w2.cell? a8 = some v8 ∧ w2.cell? a9 = some v9 ∧ w2.cell? a10 = some v10 ∧ w2.cell? a11 = some v11 ∧ w2.cell? a12 = some v12 ∧ w2.cell? a13 = some v13 := by
 obtain ⟨h1, c0, c1, c2, c3, c4, c5, c6, c7, c8, c9, c10, c11, c12, c13⟩ := h
 exact ⟨h1.trans k, k.cell c0, k.cell c1, k.cell c2, k.cell c3, k.cell c4, k.cell c5, k.cell c6, k.cell c7, k.cell c8, k.cell c9, k.cell c10, k.cell c11, k.cell c12, k.cell c13⟩
theorem kdN_16 {W w1 w2 : World} {a0 a1 a2 a3 a4 a5 a6 a7 a8 a9 a10 a11 a12 a13 a14 a15 : Addr} {v0 v1 v2 v3 v4 v5 v6 v7 v8 v9 v10 v11 v12 v13 v14 v15 : Value} (k : Dn w1 w2) (h : Dn W w1 ∧ w1.cell? a0 = some v0 ∧ w1.cell? a1 = some v1 ∧ w1.cell? a2 = some v2 ∧ w1.cell? a3 = some v3 ∧ w1.cell? a4 = some v4 ∧ w1.cell? a5 = some v5 ∧ w1.cell? a6 = some v6 ∧ w1.cell? a7 = some v7 ∧ w1.cell? a8 = some v8 ∧ w1.cell? a9 = some v9 ∧ w1.cell? a10 = some v10 ∧ w1.cell? a11 = some v11 ∧ w1.cell? a12 = some v12 ∧ w1.cell? a13 = some v13 ∧ w1.cell? a14 = some v14 ∧ w1.cell? a15 = some v15) :
  Dn W w2 ∧ w2.cell? a0 = some v0 ∧ w2.cell? a1 = some v1 ∧ w2.cell? a2 = some v2 ∧ w2.cell? a3 = some v3 ∧ w2.cell? a4 = some v4 ∧ w2.cell? a5 = some v5 ∧ w2.cell? a6 = some v6 ∧ w2.cell? a7 = some v7 ∧ w2.cell? a8 = some v8 ∧ w2.cell? a9 = some v9 ∧ w2.cell? a10 = some v10 ∧ w2.cell? a11 = some v11 ∧ w2.cell? a12 = some v12 ∧ w2.cell? a13 = some v13 ∧ w2.cell? a14 = some v14 ∧ w2.cell? a15 = some v15 := by
 obtain ⟨h1, c0, c1, c2, c3, c4, c5, c6, c7, c8, c9, aA, aB, aC, aD, aE, aF⟩ := h
 exact ⟨h1.trans k, k.cell c0, k.cell c1, k.cell c2, k.cell c3, k.cell c4, k.cell c5, k.cell c6, k.cell c7, k.cell c8, k.cell c9, k.cell aA, k.cell aB, k.cell aC, k.cell aD, k.cell aE, k.cell aF⟩
theorem rnT_at (a b c d e f g h : Int) (t : Bool) (w : World) (hb : I64 b) (hd : I64 d) (hf : I64 f) (hh : I64 h) (ht : decide (Tch a b c d e f g h) = t) :
  Calls Tryd.prog 12 #[.agg #[.int .i8 a, .int .i64 b, .int .i8 c, .int .i64 d], .agg #[.int .i8 e, .int .i64 f, .int .i8 g, .int .i64 h]] w fun r w' => r = .returned (.bool t) ∧ Dn w w' := by
 subst ht; exact rnTouch a b c d e f g h w hb hd hf hh
theorem rnHas_at (a b c d day : Int) (t : Bool) (w : World) (hb : I64 b) (hd : I64 d) (hy : I64 day) (ht : decide (Wi 0 day 0 day a b c d) = t) :
  Calls Tryd.prog 9 #[.agg #[.int .i8 a, .int .i64 b, .int .i8 c, .int .i64 d], .int .i64 day] w fun e w' => e = .returned (.bool t) ∧ Dn w w' := by
 subst ht; exact rnHas a b c d day w hb hd hy
theorem rp_of {s lo hi : ByteArray} {q0 q1 q2 q3 r i1 d1 r1 i2 d2 r2 : Int} (hc : Lib.cut s.data.toList [46, 46] = (lo.data.toList, hi.data.toList, true)) (h1 : EP lo i1 d1 r1) (h2 : EP hi i2 d2 r2)
   (hx : ((r1 = 5 ∨ r2 = 5) ∧ q0 = 0 ∧ q1 = 0 ∧ q2 = 0 ∧ q3 = 0 ∧ r = 5) ∨ (r1 ≠ 5 ∧ r2 ≠ 5 ∧ (r1 ≠ 0 ∨ r2 ≠ 0) ∧ q0 = 0 ∧ q1 = 0 ∧ q2 = 0 ∧ q3 = 0 ∧ r = 15) ∨
    (r1 = 0 ∧ r2 = 0 ∧ rnErr i1 d1 i2 d2 ≠ 0 ∧ q0 = 0 ∧ q1 = 0 ∧ q2 = 0 ∧ q3 = 0 ∧ r = rnErr i1 d1 i2 d2) ∨ (r1 = 0 ∧ r2 = 0 ∧ rnErr i1 d1 i2 d2 = 0 ∧ q0 = i1 ∧ q1 = d1 ∧ q2 = i2 ∧ q3 = d2 ∧ r = 0)) : RP s q0 q1 q2 q3 r := by
 refine Or.inr ⟨by rw [hc], i1, d1, r1, i2, d2, r2, ?_, ?_, hx⟩
 · rw [hc]; exact h1
 · rw [hc]; exact h2
theorem rp9_0 : RP ⟨#[45, 105, 110, 102, 46, 46, 45, 51]⟩ (-1) 0 0 (-3) 0 := (rp_of (lo := ⟨#[45, 105, 110, 102]⟩) (hi := ⟨#[45, 51]⟩) (i1 := (-1)) (d1 := 0) (r1 := 0) (i2 := 0) (d2 := (-3)) (r2 := 0) (by decide +kernel) (Or.inr (Or.inl ⟨rfl, rfl, rfl, rfl⟩)) (Or.inr (Or.inr ⟨by decide, by decide, rfl, Or.inl ⟨by decide +kernel, Or.inl ⟨by decide +kernel, by decide +kernel, rfl⟩⟩⟩)) (Or.inr (Or.inr (Or.inr ⟨rfl, rfl, by decide +kernel, rfl, rfl, rfl, rfl, rfl⟩))))
theorem rp9_1 : RP ⟨#[53, 46, 46, 51]⟩ 0 0 0 0 12 := (rp_of (lo := ⟨#[53]⟩) (hi := ⟨#[51]⟩) (i1 := 0) (d1 := 5) (r1 := 0) (i2 := 0) (d2 := 3) (r2 := 0) (by decide +kernel) (Or.inr (Or.inr ⟨by decide, by decide, rfl, Or.inl ⟨by decide +kernel, Or.inl ⟨by decide +kernel, by decide +kernel, rfl⟩⟩⟩)) (Or.inr (Or.inr ⟨by decide, by decide, rfl, Or.inl ⟨by decide +kernel, Or.inl ⟨by decide +kernel, by decide +kernel, rfl⟩⟩⟩)) (Or.inr (Or.inr (Or.inl ⟨rfl, rfl, by decide +kernel, rfl, rfl, rfl, rfl, by decide +kernel⟩))))
theorem rp9_2 : RP ⟨#[105, 110, 102, 46, 46, 105, 110, 102]⟩ 0 0 0 0 4 := (rp_of (lo := ⟨#[105, 110, 102]⟩) (hi := ⟨#[105, 110, 102]⟩) (i1 := 1) (d1 := 0) (r1 := 0) (i2 := 1) (d2 := 0) (r2 := 0) (by decide +kernel) (Or.inl ⟨rfl, rfl, rfl, rfl⟩) (Or.inl ⟨rfl, rfl, rfl, rfl⟩) (Or.inr (Or.inr (Or.inl ⟨rfl, rfl, by decide +kernel, rfl, rfl, rfl, rfl, by decide +kernel⟩))))
theorem rp9_3 : RP ⟨#[49, 46, 46, 46, 51]⟩ 0 0 0 0 5 := (rp_of (lo := ⟨#[49]⟩) (hi := ⟨#[46, 51]⟩) (i1 := 0) (d1 := 1) (r1 := 0) (i2 := 0) (d2 := 0) (r2 := 5) (by decide +kernel) (Or.inr (Or.inr ⟨by decide, by decide, rfl, Or.inl ⟨by decide +kernel, Or.inl ⟨by decide +kernel, by decide +kernel, rfl⟩⟩⟩)) (Or.inr (Or.inr ⟨by decide, by decide, rfl, Or.inr ⟨by decide +kernel, rfl, rfl⟩⟩)) (Or.inl ⟨by decide, rfl, rfl, rfl, rfl, rfl⟩))
theorem prePr40x1 (w : World) : ∃ W1, W1 = (w.alloc (.cells #[.int .i8 (-1), .int .i64 0] 27)).alloc (.cells #[.int .i8 1, .int .i64 0] 27) ∧ (Dn w W1) ∧ (W1.cell? ⟨w.heap.size, 0, none⟩ = some (.int .i8 (-1))) ∧ (W1.cell? ⟨w.heap.size, 1, none⟩ = some (.int .i64 0)) ∧ (w.heap.size < W1.heap.size) ∧ (W1.cell? ⟨w.heap.size + 1, 0, none⟩ = some (.int .i8 1)) ∧ (W1.cell? ⟨w.heap.size + 1, 1, none⟩ = some (.int .i64 0)) ∧ (w.heap.size + 1 < W1.heap.size) := by
  obtain ⟨W1, hW1⟩ : ∃ W1, W1 = (w.alloc (.cells #[.int .i8 (-1), .int .i64 0] 27)).alloc (.cells #[.int .i8 1, .int .i64 0] 27) := ⟨_, rfl⟩
  exact ⟨W1, hW1, (by rw [hW1]; exact ((Dn.refl _).alloc _).alloc _), (by rw [hW1]; simp [go_sem]), (by rw [hW1]; simp [go_sem]), (by rw [hW1]; simp <;> omega), (by rw [hW1]; simp [go_sem]), (by rw [hW1]; simp [go_sem]), (by rw [hW1]; simp <;> omega)⟩
theorem lives9 (w : World) (hE : EnvR w) :
   Calls Tryd.prog 14 #[] w fun e w' => e = .returned (.bool true) ∧ Dn w w' := by
 go_enter Tryd.func14, Tryd.ntmps14
 go_wp2_with fail
 obtain ⟨W1, hW1, uW1, c2, c3, l4, c5, c6, l7⟩ := prePr40x1 w 
 rw [← hW1]
 clear hW1
 refine region_inv (fun A l a' w' => ∃ (b0 b1 b2 b3 b4 b5 b6 b7 b8 b9 b10 : Bool) (x23 x24 x25 x26 x27 x3 x4 x5 : Value), l = #[b0, b1, b2, b3, b4, b5, b6, b7, b8, b9, b10] ∧ a' = ((((((((A.put (some 23) x23).put (some 24) x24).put (some 25) x25).put (some 26) x26).put (some 27) x27).put (some 3) x3).put (some 4) x4).put (some 5) x5) ∧ Dn W1 w' ∧ (b0 = true → x23 = .agg #[.int .i8 0, .int .i64 1, .int .i8 0, .int .i64 3]) ∧ (b1 = true → x24 = .agg #[.int .i8 0, .int .i64 4, .int .i8 0, .int .i64 5]) ∧ (b2 = true → x25 = .agg #[.int .i8 (-1), .int .i64 0]) ∧ (b3 = true → x26 = .agg #[.int .i8 0, .int .i64 3]) ∧ (b4 = true → x27 = .agg #[.int .i8 (-1), .int .i64 0, .int .i8 0, .int .i64 3]) ∧ (b8 = true → b5 = true) ∧ (b9 = true → b6 = true) ∧ (b10 = true → b7 = true) ∧ Bl W1.heap.size w' b5 b8 x3 (.int .i8 0) (.int .i64 1) (.int .i8 0) (.int .i64 3) ∧ Bl W1.heap.size w' b6 b9 x4 (.int .i8 0) (.int .i64 4) (.int .i8 0) (.int .i64 5) ∧ Bl W1.heap.size w' b7 b10 x5 (.int .i8 (-1)) (.int .i64 0) (.int .i8 0) (.int .i64 3) ∧ Ap b5 b6 x3 x4 ∧ Ap b5 b7 x3 x5 ∧ Ap b6 b7 x4 x5) (by kernel_rfl) ?_ ?_ ?_
 · exact ⟨false, false, false, false, false, false, false, false, false, false, false, undef, undef, undef, undef, undef, undef, undef, undef, rfl, by simp only [Act.put, pL], (Dn.refl _).drew, (fun h => by cases h), (fun h => by cases h), (fun h => by cases h), (fun h => by cases h), (fun h => by cases h), (fun h => by cases h), (fun h => by cases h), (fun h => by cases h), Bl.no, Bl.no, Bl.no, Ap.nol, Ap.nol, Ap.nol⟩
 · rintro l a' w' i ⟨b0, b1, b2, b3, b4, b5, b6, b7, b8, b9, b10, x23, x24, x25, x26, x27, x3, x4, x5, rfl, rfl, q, hv0, hv1, hv2, hv3, hv4, hs5, hs6, hs7, hk5, hk6, hk7, hp5_6, hp5_7, hp6_7⟩ hun hdep hi
   simp only [Act.put, pL]
   have hi' : i < 11 := hi
   rcases (show i = 0 ∨ i = 1 ∨ i = 2 ∨ i = 3 ∨ i = 4 ∨ i = 5 ∨ i = 6 ∨ i = 7 ∨ i = 8 ∨ i = 9 ∨ i = 10 by omega) with rfl | rfl | rfl | rfl | rfl | rfl | rfl | rfl | rfl | rfl | rfl
   ·
    have f0 : b0 = false := by simpa using hun
    subst f0
    refine wpOp_step rfl (fun K hK => ?_)
    replace hK := Lib.hid hK
    go_simp
    go_at_call 32
    refine (dy9 1 3 _).mono ?_
    rintro e wa ⟨rfl, qa⟩
    try go_wp2_with fail
    exact hK.out _ _ ⟨true, b1, b2, b3, b4, b5, b6, b7, b8, b9, b10, .agg #[.int .i8 0, .int .i64 1, .int .i8 0, .int .i64 3], x24, x25, x26, x27, x3, x4, x5, rfl, by simp only [Act.put, pL], q.trans qa, fun _ => rfl, hv1, hv2, hv3, hv4, hs5, hs6, hs7, hk5.dn qa, hk6.dn qa, hk7.dn qa, hp5_6, hp5_7, hp6_7⟩
   ·
    have f1 : b1 = false := by simpa using hun
    subst f1
    refine wpOp_step rfl (fun K hK => ?_)
    replace hK := Lib.hid hK
    go_simp
    go_at_call 32
    refine (dy9 4 5 _).mono ?_
    rintro e wa ⟨rfl, qa⟩
    try go_wp2_with fail
    exact hK.out _ _ ⟨b0, true, b2, b3, b4, b5, b6, b7, b8, b9, b10, x23, .agg #[.int .i8 0, .int .i64 4, .int .i8 0, .int .i64 5], x25, x26, x27, x3, x4, x5, rfl, by simp only [Act.put, pL], q.trans qa, hv0, fun _ => rfl, hv2, hv3, hv4, hs5, hs6, hs7, hk5.dn qa, hk6.dn qa, hk7.dn qa, hp5_6, hp5_7, hp6_7⟩
   ·
    have f2 : b2 = false := by simpa using hun
    subst f2
    have g9 := q.cell c2
    have g10 := q.cell c3
    refine wpOp_step rfl (fun K hK => ?_)
    replace hK := Lib.hid hK
    go_simp
    exact hK.out _ _ ⟨b0, b1, true, b3, b4, b5, b6, b7, b8, b9, b10, x23, x24, .agg #[.int .i8 (-1), .int .i64 0], x26, x27, x3, x4, x5, rfl, by simp only [Act.put, pL], q, hv0, hv1, fun _ => rfl, hv3, hv4, hs5, hs6, hs7, hk5, hk6, hk7, hp5_6, hp5_7, hp6_7⟩
   ·
    have f3 : b3 = false := by simpa using hun
    subst f3
    refine wpOp_step rfl (fun K hK => ?_)
    replace hK := Lib.hid hK
    go_simp
    exact hK.out _ _ ⟨b0, b1, b2, true, b4, b5, b6, b7, b8, b9, b10, x23, x24, x25, .agg #[.int .i8 0, .int .i64 3], x27, x3, x4, x5, rfl, by simp only [Act.put, pL], q, hv0, hv1, hv2, fun _ => rfl, hv4, hs5, hs6, hs7, hk5, hk6, hk7, hp5_6, hp5_7, hp6_7⟩
   ·
    have e2 : b2 = true := hdep _ rfl ⟨2, .data⟩ (by simp) rfl
    have e3 : b3 = true := hdep _ rfl ⟨3, .data⟩ (by simp) rfl
    have f4 : b4 = false := by simpa using hun
    subst f4 e2 e3
    obtain rfl := hv2 rfl
    obtain rfl := hv3 rfl
    refine wpOp_step rfl (fun K hK => ?_)
    replace hK := Lib.hid hK
    go_simp
    exact hK.out _ _ ⟨b0, b1, true, true, true, b5, b6, b7, b8, b9, b10, x23, x24, .agg #[.int .i8 (-1), .int .i64 0], .agg #[.int .i8 0, .int .i64 3], .agg #[.int .i8 (-1), .int .i64 0, .int .i8 0, .int .i64 3], x3, x4, x5, rfl, by simp only [Act.put, pL], q, hv0, hv1, fun _ => rfl, fun _ => rfl, fun _ => rfl, hs5, hs6, hs7, hk5, hk6, hk7, hp5_6, hp5_7, hp6_7⟩
   ·
    have f5 : b5 = false := by simpa using hun
    subst f5
    obtain rfl : b8 = false := by
      cases b8 with
      | false => rfl
      | true => exact absurd (hs5 rfl) (by simp)
    refine wpOp_step rfl (fun K hK => ?_)
    replace hK := Lib.hid hK
    go_simp
    exact hK.out _ _ ⟨b0, b1, b2, b3, b4, true, b6, b7, false, b9, b10, x23, x24, x25, x26, x27, .pointer (some ⟨w'.heap.size, 0, none⟩), x4, x5, rfl, by simp only [Act.put, pL], q.alloc _, hv0, hv1, hv2, hv3, hv4, fun _ => rfl, hs6, hs7, Bl.new q.size _, hk6.dn ((Dn.refl _).alloc _), hk7.dn ((Dn.refl _).alloc _), (hk6.ap).symm, (hk7.ap).symm, hp6_7⟩
   ·
    have f6 : b6 = false := by simpa using hun
    subst f6
    obtain rfl : b9 = false := by
      cases b9 with
      | false => rfl
      | true => exact absurd (hs6 rfl) (by simp)
    refine wpOp_step rfl (fun K hK => ?_)
    replace hK := Lib.hid hK
    go_simp
    exact hK.out _ _ ⟨b0, b1, b2, b3, b4, b5, true, b7, b8, false, b10, x23, x24, x25, x26, x27, x3, .pointer (some ⟨w'.heap.size, 0, none⟩), x5, rfl, by simp only [Act.put, pL], q.alloc _, hv0, hv1, hv2, hv3, hv4, hs5, fun _ => rfl, hs7, hk5.dn ((Dn.refl _).alloc _), Bl.new q.size _, hk7.dn ((Dn.refl _).alloc _), hk5.ap, hp5_7, (hk7.ap).symm⟩
   ·
    have f7 : b7 = false := by simpa using hun
    subst f7
    obtain rfl : b10 = false := by
      cases b10 with
      | false => rfl
      | true => exact absurd (hs7 rfl) (by simp)
    refine wpOp_step rfl (fun K hK => ?_)
    replace hK := Lib.hid hK
    go_simp
    exact hK.out _ _ ⟨b0, b1, b2, b3, b4, b5, b6, true, b8, b9, false, x23, x24, x25, x26, x27, x3, x4, .pointer (some ⟨w'.heap.size, 0, none⟩), rfl, by simp only [Act.put, pL], q.alloc _, hv0, hv1, hv2, hv3, hv4, hs5, hs6, fun _ => rfl, hk5.dn ((Dn.refl _).alloc _), hk6.dn ((Dn.refl _).alloc _), Bl.new q.size _, hp5_6, hk5.ap, hk6.ap⟩
   ·
    have e5 : b5 = true := hdep _ rfl ⟨5, .data⟩ (by simp) rfl
    have e0 : b0 = true := hdep _ rfl ⟨0, .data⟩ (by simp) rfl
    have f8 : b8 = false := by simpa using hun
    subst f8 e5 e0
    obtain rfl := hv0 rfl
    obtain ⟨B, rfl, hL, hz, _⟩ := hk5 rfl
    have hB := hz rfl
    have z0 := hB.c0
    have y0 := hB.f0
    have z1 := hB.c1
    have y1 := hB.f1
    have z2 := hB.c2
    have y2 := hB.f2
    have z3 := hB.c3
    have y3 := hB.f3
    have zl := hB.lt
    refine wpOp_step rfl (fun K hK => ?_)
    replace hK := Lib.hid hK
    go_simp
    exact hK.out _ _ ⟨true, b1, b2, b3, b4, true, b6, b7, true, b9, b10, .agg #[.int .i8 0, .int .i64 1, .int .i8 0, .int .i64 3], x24, x25, x26, x27, .pointer (some ⟨B, 0, none⟩), x4, x5, rfl, by simp only [Act.put, pL], (Dn.setCell (Dn.setCell (Dn.setCell (Dn.setCell q (by simpa using hL) _) (by simpa using hL) _) (by simpa using hL) _) (by simpa using hL) _), fun _ => rfl, hv1, hv2, hv3, hv4, fun _ => rfl, hs6, hs7, fun _ => ⟨B, rfl, hL, (fun k => by cases k), fun _ => hB.fill _ _ _ _⟩, hk6.far hp5_6 _ _ _ _, hk7.far hp5_7 _ _ _ _, hp5_6, hp5_7, hp6_7⟩
   ·
    have e6 : b6 = true := hdep _ rfl ⟨6, .data⟩ (by simp) rfl
    have e1 : b1 = true := hdep _ rfl ⟨1, .data⟩ (by simp) rfl
    have f9 : b9 = false := by simpa using hun
    subst f9 e6 e1
    obtain rfl := hv1 rfl
    obtain ⟨B, rfl, hL, hz, _⟩ := hk6 rfl
    have hB := hz rfl
    have z0 := hB.c0
    have y0 := hB.f0
    have z1 := hB.c1
    have y1 := hB.f1
    have z2 := hB.c2
    have y2 := hB.f2
    have z3 := hB.c3
    have y3 := hB.f3
    have zl := hB.lt
    refine wpOp_step rfl (fun K hK => ?_)
    replace hK := Lib.hid hK
    go_simp
    exact hK.out _ _ ⟨b0, true, b2, b3, b4, b5, true, b7, b8, true, b10, x23, .agg #[.int .i8 0, .int .i64 4, .int .i8 0, .int .i64 5], x25, x26, x27, x3, .pointer (some ⟨B, 0, none⟩), x5, rfl, by simp only [Act.put, pL], (Dn.setCell (Dn.setCell (Dn.setCell (Dn.setCell q (by simpa using hL) _) (by simpa using hL) _) (by simpa using hL) _) (by simpa using hL) _), hv0, fun _ => rfl, hv2, hv3, hv4, hs5, fun _ => rfl, hs7, hk5.far hp5_6.symm _ _ _ _, fun _ => ⟨B, rfl, hL, (fun k => by cases k), fun _ => hB.fill _ _ _ _⟩, hk7.far hp6_7 _ _ _ _, hp5_6, hp5_7, hp6_7⟩
   ·
    have e7 : b7 = true := hdep _ rfl ⟨7, .data⟩ (by simp) rfl
    have e4 : b4 = true := hdep _ rfl ⟨4, .data⟩ (by simp) rfl
    have f10 : b10 = false := by simpa using hun
    subst f10 e7 e4
    obtain rfl := hv4 rfl
    obtain ⟨B, rfl, hL, hz, _⟩ := hk7 rfl
    have hB := hz rfl
    have z0 := hB.c0
    have y0 := hB.f0
    have z1 := hB.c1
    have y1 := hB.f1
    have z2 := hB.c2
    have y2 := hB.f2
    have z3 := hB.c3
    have y3 := hB.f3
    have zl := hB.lt
    refine wpOp_step rfl (fun K hK => ?_)
    replace hK := Lib.hid hK
    go_simp
    exact hK.out _ _ ⟨b0, b1, b2, b3, true, b5, b6, true, b8, b9, true, x23, x24, x25, x26, .agg #[.int .i8 (-1), .int .i64 0, .int .i8 0, .int .i64 3], x3, x4, .pointer (some ⟨B, 0, none⟩), rfl, by simp only [Act.put, pL], (Dn.setCell (Dn.setCell (Dn.setCell (Dn.setCell q (by simpa using hL) _) (by simpa using hL) _) (by simpa using hL) _) (by simpa using hL) _), hv0, hv1, hv2, hv3, fun _ => rfl, hs5, hs6, fun _ => rfl, hk5.far hp5_7.symm _ _ _ _, hk6.far hp6_7.symm _ _ _ _, fun _ => ⟨B, rfl, hL, (fun k => by cases k), fun _ => hB.fill _ _ _ _⟩, hp5_6, hp5_7, hp6_7⟩
 · rintro l a' W11 ⟨b0, b1, b2, b3, b4, b5, b6, b7, b8, b9, b10, x23, x24, x25, x26, x27, x3, x4, x5, rfl, rfl, qW11, hv0, hv1, hv2, hv3, hv4, hs5, hs6, hs7, hk5, hk6, hk7, hp5_6, hp5_7, hp6_7⟩ hall
   obtain rfl : b0 = true := by
    cases b0 with
    | true => rfl
    | false => exact absurd (by intro e he hb; simp at he <;> (repeat' (rcases he with rfl | he)) <;> first | rfl | exact absurd hb (by decide)) (hall 0 _ rfl rfl)
   obtain rfl : b1 = true := by
    cases b1 with
    | true => rfl
    | false => exact absurd (by intro e he hb; simp at he <;> (repeat' (rcases he with rfl | he)) <;> first | rfl | exact absurd hb (by decide)) (hall 1 _ rfl rfl)
   obtain rfl : b2 = true := by
    cases b2 with
    | true => rfl
    | false => exact absurd (by intro e he hb; simp at he <;> (repeat' (rcases he with rfl | he)) <;> first | rfl | exact absurd hb (by decide)) (hall 2 _ rfl rfl)
   obtain rfl : b3 = true := by
    cases b3 with
    | true => rfl
    | false => exact absurd (by intro e he hb; simp at he <;> (repeat' (rcases he with rfl | he)) <;> first | rfl | exact absurd hb (by decide)) (hall 3 _ rfl rfl)
   obtain rfl : b4 = true := by
    cases b4 with
    | true => rfl
    | false => exact absurd (by intro e he hb; simp at he <;> (repeat' (rcases he with rfl | he)) <;> first | rfl | exact absurd hb (by decide)) (hall 4 _ rfl rfl)
   obtain rfl : b5 = true := by
    cases b5 with
    | true => rfl
    | false => exact absurd (by intro e he hb; simp at he <;> (repeat' (rcases he with rfl | he)) <;> first | rfl | exact absurd hb (by decide)) (hall 5 _ rfl rfl)
   obtain rfl : b6 = true := by
    cases b6 with
    | true => rfl
    | false => exact absurd (by intro e he hb; simp at he <;> (repeat' (rcases he with rfl | he)) <;> first | rfl | exact absurd hb (by decide)) (hall 6 _ rfl rfl)
   obtain rfl : b7 = true := by
    cases b7 with
    | true => rfl
    | false => exact absurd (by intro e he hb; simp at he <;> (repeat' (rcases he with rfl | he)) <;> first | rfl | exact absurd hb (by decide)) (hall 7 _ rfl rfl)
   obtain rfl : b8 = true := by
    cases b8 with
    | true => rfl
    | false => exact absurd (by intro e he hb; simp at he <;> (repeat' (rcases he with rfl | he)) <;> first | rfl | exact absurd hb (by decide)) (hall 8 _ rfl rfl)
   obtain rfl : b9 = true := by
    cases b9 with
    | true => rfl
    | false => exact absurd (by intro e he hb; simp at he <;> (repeat' (rcases he with rfl | he)) <;> first | rfl | exact absurd hb (by decide)) (hall 9 _ rfl rfl)
   obtain rfl : b10 = true := by
    cases b10 with
    | true => rfl
    | false => exact absurd (by intro e he hb; simp at he <;> (repeat' (rcases he with rfl | he)) <;> first | rfl | exact absurd hb (by decide)) (hall 10 _ rfl rfl)
   obtain rfl := hv0 rfl
   obtain rfl := hv1 rfl
   obtain rfl := hv2 rfl
   obtain rfl := hv3 rfl
   obtain rfl := hv4 rfl
   obtain ⟨Bt3, rfl, ot3, _, gt3⟩ := hk5 rfl
   obtain ⟨t3c0, t3c1, t3c2, t3c3, t3f0, t3f1, t3f2, t3f3, lt3⟩ := gt3 rfl
   clear gt3
   obtain ⟨Bt4, rfl, ot4, _, gt4⟩ := hk6 rfl
   obtain ⟨t4c0, t4c1, t4c2, t4c3, t4f0, t4f1, t4f2, t4f3, lt4⟩ := gt4 rfl
   clear gt4
   obtain ⟨Bt5, rfl, ot5, _, gt5⟩ := hk7 rfl
   obtain ⟨t5c0, t5c1, t5c2, t5c3, t5f0, t5f1, t5f2, t5f3, lt5⟩ := gt5 rfl
   clear gt5
   have bP := nlt l4 qW11.size
   have bS := nlt l7 qW11.size
   obtain ⟨bQ, bR, bT, bU⟩ := mv4 qW11.cell c2 c3 c5 c6
   clear l4 c2 c3 l7 c5 c6
   clear t3f0 t3f1 t3f2 t3f3
   clear t4f0 t4f1 t4f2 t4f3
   clear t5f0 t5f1 t5f2 t5f3
   have vW11 := uW1.trans qW11
   clear hp5_6 hp5_7 hp6_7 hv0 hv1 hv2 hv3 hv4 hs5 hs6 hs7 hk5 ot3 hk6 ot4 hk7 ot5 hall
   simp only [Act.put, pL]
   go_wp2_with fail
   have hS18 := kdN_14 (W := W11) (Dn.refl _) ⟨Dn.refl _, bT, bU, t3c0, t3c1, t3c2, t3c3, t4c0, t4c1, t4c2, t4c3, t5c0, t5c1, t5c2, t5c3⟩
   have bV := Lib.hid bQ
   have bW := Lib.hid bR
   have HShS18 := Lib.hid hS18
   clear bQ bR bT bU t3c0 t3c1 t3c2 t3c3 t4c0 t4c1 t4c2 t4c3 t5c0 t5c1 t5c2 t5c3
   go_region_held3 (fun w' => Dn W11 w' ∧ w'.cell? ⟨w.heap.size + 1, 0, none⟩ = some (.int .i8 1) ∧ w'.cell? ⟨w.heap.size + 1, 1, none⟩ = some (.int .i64 0) ∧ w'.cell? ⟨Bt3, 0, none⟩ = some (.int .i8 0) ∧ w'.cell? ⟨Bt3, 1, none⟩ = some (.int .i64 1) ∧ w'.cell? ⟨Bt3, 2, none⟩ = some (.int .i8 0) ∧ w'.cell? ⟨Bt3, 3, none⟩ = some (.int .i64 3) ∧ w'.cell? ⟨Bt4, 0, none⟩ = some (.int .i8 0) ∧ w'.cell? ⟨Bt4, 1, none⟩ = some (.int .i64 4) ∧ w'.cell? ⟨Bt4, 2, none⟩ = some (.int .i8 0) ∧ w'.cell? ⟨Bt4, 3, none⟩ = some (.int .i64 5) ∧ w'.cell? ⟨Bt5, 0, none⟩ = some (.int .i8 (-1)) ∧ w'.cell? ⟨Bt5, 1, none⟩ = some (.int .i64 0) ∧ w'.cell? ⟨Bt5, 2, none⟩ = some (.int .i8 0) ∧ w'.cell? ⟨Bt5, 3, none⟩ = some (.int .i64 3))
    (first | exact kdN_14 ((Dn.refl _).drew) hS18 | exact kdN_14 ‹Dn _ _› ‹_› | exact kdN_14 (Up.dn ‹Up _ _›) ‹_› | assumption | exact kdN_14 ((Dn.refl _).alloc _) ‹_›)
    (first
      | (go_at_call 12; (with_reducible refine (rnT_at 0 1 0 3 0 4 0 5 true _ (by decide) (by decide) (by decide) (by decide) (by decide +kernel)).mono ?_); rintro e wa ⟨rfl, qa⟩)
      | (go_at_call 12; (with_reducible refine (rnT_at 0 1 0 3 0 5 0 6 false _ (by decide) (by decide) (by decide) (by decide) (by decide +kernel)).mono ?_); rintro e wa ⟨rfl, qa⟩)
      | (go_at_call 12; (with_reducible refine (rnT_at (-1) 0 0 3 0 2 1 0 true _ (by decide) (by decide) (by decide) (by decide) (by decide +kernel)).mono ?_); rintro e wa ⟨rfl, qa⟩)
      | (go_at_call 32; refine (dy9 _ _ _).mono ?_; rintro e wa ⟨rfl, qa⟩))
   all_goals
    clear hS18
    obtain ⟨uf35, bX, bY, bZ, c4, c7, c8, c9, cA, cB, cC, cD, cE, cF, cG⟩ := (‹Dn W11 _ ∧ _› : _ ∧ _)
    obtain ⟨w36, rfl⟩ : ∃ w36 : World, w36 = wa := ⟨_, rfl⟩
    have cH := nlt bP uf35.size
    clear bP
    have cI := nlt bS uf35.size
    clear bS
    have cJ := nlt lt3 uf35.size
    clear lt3
    have cK := nlt lt4 uf35.size
    clear lt4
    have cL := nlt lt5 uf35.size
    clear lt5
    have cM := uf35.cell bV.out
    have cN := uf35.cell bW.out
    clear bV bW
    have vuf35 := vW11.trans uf35
    clear uf35 vW11 HShS18
    go_wp2_with fail
    refine (rnJoin 0 1 0 3 0 4 0 5 0 1 0 5 true _ (by decide) (by decide) (by decide) (by decide) (by decide +kernel)).mono ?_
    rintro e w1 ⟨rfl, qw1⟩
    have bB := nlt cH qw1.size
    have bC := nlt cI qw1.size
    have bD := nlt cJ qw1.size
    have bE := nlt cK qw1.size
    have bF := nlt cL qw1.size
    obtain ⟨cO, cP, cQ, cR, cS, cT, cU, cV, cW, cX, cY, cZ, d0, d1, d2, d3⟩ := mv16 qw1.cell cM cN bX bY bZ c4 c7 c8 c9 cA cB cC cD cE cF cG
    clear cH cM cN cI bX bY cJ bZ c4 c7 c8 cK c9 cA cB cC cL cD cE cF cG
    have uw1 := vuf35.trans qw1
    clear qw1 vuf35
    go_wp2_with fail
    obtain ⟨W65, hW65⟩ : ∃ W65, W65 = w1.alloc (.cells #[.int .i8 0, .int .i64 1, .int .i8 0, .int .i64 5] 29) := ⟨_, rfl⟩
    have uW65 : Dn w1 W65 := by rw [hW65]; exact (Dn.refl _).alloc _
    have o66 : w.heap.size ≤ w1.heap.size := by have := uw1.size; omega
    have n67 : w.heap.size ≠ w1.heap.size := by have := bB; omega
    have n68 : w.heap.size + 1 ≠ w1.heap.size := by have := bC; omega
    have n69 : Bt3 ≠ w1.heap.size := by have := bD; omega
    have n70 : Bt4 ≠ w1.heap.size := by have := bE; omega
    have n71 : Bt5 ≠ w1.heap.size := by have := bF; omega
    have bG := nlt bB uW65.size
    have bH := nlt bC uW65.size
    have bI := nlt bD uW65.size
    have bN := nlt bE uW65.size
    have bO := nlt bF uW65.size
    obtain ⟨d4, d5, d6, d7, bJ, bK, bL, bM, d8, d9, dA, dB, dC, dD, dE, dF⟩ := mv16 uW65.cell cO cP cQ cR cS cT cU cV cW cX cY cZ d0 d1 d2 d3
    clear bB cO cP bC cQ cR bD cS cT cU cV bE cW cX cY cZ bF d0 d1 d2 d3
    have dG : W65.cell? ⟨w1.heap.size, 0, none⟩ = some (.int .i8 0) := by rw [hW65]; simp [go_sem]
    have dH : W65.cell? ⟨w1.heap.size, 1, none⟩ = some (.int .i64 1) := by rw [hW65]; simp [go_sem]
    have dI : W65.cell? ⟨w1.heap.size, 2, none⟩ = some (.int .i8 0) := by rw [hW65]; simp [go_sem]
    have dJ : W65.cell? ⟨w1.heap.size, 3, none⟩ = some (.int .i64 5) := by rw [hW65]; simp [go_sem]
    have a1 : w1.heap.size < W65.heap.size := by rw [hW65]; simp <;> omega
    have f98 : W65.frozen? ⟨w1.heap.size, 0, none⟩ = false := by rw [hW65]; simp [go_sem]
    have f99 : W65.frozen? ⟨w1.heap.size, 1, none⟩ = false := by rw [hW65]; simp [go_sem]
    have f100 : W65.frozen? ⟨w1.heap.size, 2, none⟩ = false := by rw [hW65]; simp [go_sem]
    have f101 : W65.frozen? ⟨w1.heap.size, 3, none⟩ = false := by rw [hW65]; simp [go_sem]
    rw [← hW65]
    clear hW65
    have vW65 := uw1.trans uW65
    clear uW65 uw1
    refine region_inv (fun A l a' w' => ∃ (b0 b1 b2 b3 b4 b5 b6 b7 b8 : Bool) (x52 x53 x54 x51 x55 x56 x8 x9 : Value), l = #[b0, b1, b2, b3, b4, b5, b6, b7, b8] ∧ a' = ((((((((A.put (some 52) x52).put (some 53) x53).put (some 54) x54).put (some 51) x51).put (some 55) x55).put (some 56) x56).put (some 8) x8).put (some 9) x9) ∧ Dn W65 w' ∧ (b0 = true → x52 = .agg #[.int .i8 0, .int .i64 1, .int .i8 0, .int .i64 3]) ∧ (b1 = true → x53 = .agg #[.int .i8 0, .int .i64 3, .int .i8 0, .int .i64 9]) ∧ (b2 = true → x54 = .tuple #[.agg #[.int .i8 0, .int .i64 3, .int .i8 0, .int .i64 3], .bool true]) ∧ (b3 = true → x51 = .tuple #[.agg #[.int .i8 0, .int .i64 3, .int .i8 0, .int .i64 3], .bool true]) ∧ (b4 = true → x55 = .agg #[.int .i8 0, .int .i64 3, .int .i8 0, .int .i64 3]) ∧ (b5 = true → x56 = .bool true) ∧ (b8 = true → x9 = .bool true) ∧ (b7 = true → b6 = true) ∧ Bl W65.heap.size w' b6 b7 x8 (.int .i8 0) (.int .i64 3) (.int .i8 0) (.int .i64 3)) (by kernel_rfl) ?_ ?_ ?_
    · exact ⟨false, false, false, false, false, false, false, false, false, undef, undef, undef, undef, undef, undef, undef, undef, rfl, by simp only [Act.put, pL], (Dn.refl _).drew, (fun h => by cases h), (fun h => by cases h), (fun h => by cases h), (fun h => by cases h), (fun h => by cases h), (fun h => by cases h), (fun h => by cases h), (fun h => by cases h), Bl.no⟩
    · rintro l a' w' i ⟨b0, b1, b2, b3, b4, b5, b6, b7, b8, x52, x53, x54, x51, x55, x56, x8, x9, rfl, rfl, q, hv0, hv1, hv2, hv3, hv4, hv5, hv8, hs6, hk6⟩ hun hdep hi
      simp only [Act.put, pL]
      have hi' : i < 9 := hi
      rcases (show i = 0 ∨ i = 1 ∨ i = 2 ∨ i = 3 ∨ i = 4 ∨ i = 5 ∨ i = 6 ∨ i = 7 ∨ i = 8 by omega) with rfl | rfl | rfl | rfl | rfl | rfl | rfl | rfl | rfl
      ·
        have f0 : b0 = false := by simpa using hun
        subst f0
        obtain ⟨g103, g104, g105, g106⟩ := mv4 q.cell bJ bK bL bM
        refine wpOp_step rfl (fun K hK => ?_)
        replace hK := Lib.hid hK
        go_simp
        exact hK.out _ _ ⟨true, b1, b2, b3, b4, b5, b6, b7, b8, .agg #[.int .i8 0, .int .i64 1, .int .i8 0, .int .i64 3], x53, x54, x51, x55, x56, x8, x9, rfl, by simp only [Act.put, pL], q, fun _ => rfl, hv1, hv2, hv3, hv4, hv5, hv8, hs6, hk6⟩
      ·
        have f1 : b1 = false := by simpa using hun
        subst f1
        refine wpOp_step rfl (fun K hK => ?_)
        replace hK := Lib.hid hK
        go_simp
        go_at_call 32
        refine (dy9 3 9 _).mono ?_
        rintro e wa ⟨rfl, qa⟩
        try go_wp2_with fail
        exact hK.out _ _ ⟨b0, true, b2, b3, b4, b5, b6, b7, b8, x52, .agg #[.int .i8 0, .int .i64 3, .int .i8 0, .int .i64 9], x54, x51, x55, x56, x8, x9, rfl, by simp only [Act.put, pL], q.trans qa, hv0, fun _ => rfl, hv2, hv3, hv4, hv5, hv8, hs6, hk6.dn qa⟩
      ·
        have e0 : b0 = true := hdep _ rfl ⟨0, .data⟩ (by simp) rfl
        have e1 : b1 = true := hdep _ rfl ⟨1, .data⟩ (by simp) rfl
        have f2 : b2 = false := by simpa using hun
        subst f2 e0 e1
        obtain rfl := hv0 rfl
        obtain rfl := hv1 rfl
        refine wpOp_step rfl (fun K hK => ?_)
        replace hK := Lib.hid hK
        go_simp
        go_at_call 11
        refine (rnCommon 0 1 0 3 0 3 0 9 0 3 0 3 true _ (by decide) (by decide) (by decide) (by decide) (by decide +kernel)).mono ?_
        rintro e wa ⟨rfl, qa⟩
        try go_wp2_with fail
        exact hK.out _ _ ⟨true, true, true, b3, b4, b5, b6, b7, b8, .agg #[.int .i8 0, .int .i64 1, .int .i8 0, .int .i64 3], .agg #[.int .i8 0, .int .i64 3, .int .i8 0, .int .i64 9], .tuple #[.agg #[.int .i8 0, .int .i64 3, .int .i8 0, .int .i64 3], .bool true], x51, x55, x56, x8, x9, rfl, by simp only [Act.put, pL], q.trans qa, fun _ => rfl, fun _ => rfl, fun _ => rfl, hv3, hv4, hv5, hv8, hs6, hk6.dn qa⟩
      ·
        have e2 : b2 = true := hdep _ rfl ⟨2, .data⟩ (by simp) rfl
        have f3 : b3 = false := by simpa using hun
        subst f3 e2
        obtain rfl := hv2 rfl
        refine wpOp_step rfl (fun K hK => ?_)
        replace hK := Lib.hid hK
        go_simp
        exact hK.out _ _ ⟨b0, b1, true, true, b4, b5, b6, b7, b8, x52, x53, .tuple #[.agg #[.int .i8 0, .int .i64 3, .int .i8 0, .int .i64 3], .bool true], .tuple #[.agg #[.int .i8 0, .int .i64 3, .int .i8 0, .int .i64 3], .bool true], x55, x56, x8, x9, rfl, by simp only [Act.put, pL], q, hv0, hv1, fun _ => rfl, fun _ => rfl, hv4, hv5, hv8, hs6, hk6⟩
      ·
        have e3 : b3 = true := hdep _ rfl ⟨3, .data⟩ (by simp) rfl
        have f4 : b4 = false := by simpa using hun
        subst f4 e3
        obtain rfl := hv3 rfl
        refine wpOp_step rfl (fun K hK => ?_)
        replace hK := Lib.hid hK
        go_simp
        exact hK.out _ _ ⟨b0, b1, b2, true, true, b5, b6, b7, b8, x52, x53, x54, .tuple #[.agg #[.int .i8 0, .int .i64 3, .int .i8 0, .int .i64 3], .bool true], .agg #[.int .i8 0, .int .i64 3, .int .i8 0, .int .i64 3], x56, x8, x9, rfl, by simp only [Act.put, pL], q, hv0, hv1, hv2, fun _ => rfl, fun _ => rfl, hv5, hv8, hs6, hk6⟩
      ·
        have e3 : b3 = true := hdep _ rfl ⟨3, .data⟩ (by simp) rfl
        have f5 : b5 = false := by simpa using hun
        subst f5 e3
        obtain rfl := hv3 rfl
        refine wpOp_step rfl (fun K hK => ?_)
        replace hK := Lib.hid hK
        go_simp
        exact hK.out _ _ ⟨b0, b1, b2, true, b4, true, b6, b7, b8, x52, x53, x54, .tuple #[.agg #[.int .i8 0, .int .i64 3, .int .i8 0, .int .i64 3], .bool true], x55, .bool true, x8, x9, rfl, by simp only [Act.put, pL], q, hv0, hv1, hv2, fun _ => rfl, hv4, fun _ => rfl, hv8, hs6, hk6⟩
      ·
        have f6 : b6 = false := by simpa using hun
        subst f6
        obtain rfl : b7 = false := by
          cases b7 with
          | false => rfl
          | true => exact absurd (hs6 rfl) (by simp)
        refine wpOp_step rfl (fun K hK => ?_)
        replace hK := Lib.hid hK
        go_simp
        exact hK.out _ _ ⟨b0, b1, b2, b3, b4, b5, true, false, b8, x52, x53, x54, x51, x55, x56, .pointer (some ⟨w'.heap.size, 0, none⟩), x9, rfl, by simp only [Act.put, pL], q.alloc _, hv0, hv1, hv2, hv3, hv4, hv5, hv8, fun _ => rfl, Bl.new q.size _⟩
      ·
        have e6 : b6 = true := hdep _ rfl ⟨6, .data⟩ (by simp) rfl
        have e4 : b4 = true := hdep _ rfl ⟨4, .data⟩ (by simp) rfl
        have f7 : b7 = false := by simpa using hun
        subst f7 e6 e4
        obtain rfl := hv4 rfl
        obtain ⟨B, rfl, hL, hz, _⟩ := hk6 rfl
        have hB := hz rfl
        have z0 := hB.c0
        have y0 := hB.f0
        have z1 := hB.c1
        have y1 := hB.f1
        have z2 := hB.c2
        have y2 := hB.f2
        have z3 := hB.c3
        have y3 := hB.f3
        have zl := hB.lt
        refine wpOp_step rfl (fun K hK => ?_)
        replace hK := Lib.hid hK
        go_simp
        exact hK.out _ _ ⟨b0, b1, b2, b3, true, b5, true, true, b8, x52, x53, x54, x51, .agg #[.int .i8 0, .int .i64 3, .int .i8 0, .int .i64 3], x56, .pointer (some ⟨B, 0, none⟩), x9, rfl, by simp only [Act.put, pL], (Dn.setCell (Dn.setCell (Dn.setCell (Dn.setCell q (by simpa using hL) _) (by simpa using hL) _) (by simpa using hL) _) (by simpa using hL) _), hv0, hv1, hv2, hv3, fun _ => rfl, hv5, hv8, fun _ => rfl, fun _ => ⟨B, rfl, hL, (fun k => by cases k), fun _ => hB.fill _ _ _ _⟩⟩
      ·
        have e5 : b5 = true := hdep _ rfl ⟨5, .data⟩ (by simp) rfl
        have f8 : b8 = false := by simpa using hun
        subst f8 e5
        obtain rfl := hv5 rfl
        refine wpOp_step rfl (fun K hK => ?_)
        replace hK := Lib.hid hK
        go_simp
        exact hK.out _ _ ⟨b0, b1, b2, b3, b4, true, b6, b7, true, x52, x53, x54, x51, x55, .bool true, x8, .bool true, rfl, by simp only [Act.put, pL], q, hv0, hv1, hv2, hv3, hv4, fun _ => rfl, fun _ => rfl, hs6, hk6⟩
    · rintro l a' W107 ⟨b0, b1, b2, b3, b4, b5, b6, b7, b8, x52, x53, x54, x51, x55, x56, x8, x9, rfl, rfl, qW107, hv0, hv1, hv2, hv3, hv4, hv5, hv8, hs6, hk6⟩ hall
      obtain rfl : b0 = true := by
        cases b0 with
        | true => rfl
        | false => exact absurd (by intro e he hb; simp at he <;> (repeat' (rcases he with rfl | he)) <;> first | rfl | exact absurd hb (by decide)) (hall 0 _ rfl rfl)
      obtain rfl : b1 = true := by
        cases b1 with
        | true => rfl
        | false => exact absurd (by intro e he hb; simp at he <;> (repeat' (rcases he with rfl | he)) <;> first | rfl | exact absurd hb (by decide)) (hall 1 _ rfl rfl)
      obtain rfl : b2 = true := by
        cases b2 with
        | true => rfl
        | false => exact absurd (by intro e he hb; simp at he <;> (repeat' (rcases he with rfl | he)) <;> first | rfl | exact absurd hb (by decide)) (hall 2 _ rfl rfl)
      obtain rfl : b3 = true := by
        cases b3 with
        | true => rfl
        | false => exact absurd (by intro e he hb; simp at he <;> (repeat' (rcases he with rfl | he)) <;> first | rfl | exact absurd hb (by decide)) (hall 3 _ rfl rfl)
      obtain rfl : b4 = true := by
        cases b4 with
        | true => rfl
        | false => exact absurd (by intro e he hb; simp at he <;> (repeat' (rcases he with rfl | he)) <;> first | rfl | exact absurd hb (by decide)) (hall 4 _ rfl rfl)
      obtain rfl : b5 = true := by
        cases b5 with
        | true => rfl
        | false => exact absurd (by intro e he hb; simp at he <;> (repeat' (rcases he with rfl | he)) <;> first | rfl | exact absurd hb (by decide)) (hall 5 _ rfl rfl)
      obtain rfl : b6 = true := by
        cases b6 with
        | true => rfl
        | false => exact absurd (by intro e he hb; simp at he <;> (repeat' (rcases he with rfl | he)) <;> first | rfl | exact absurd hb (by decide)) (hall 6 _ rfl rfl)
      obtain rfl : b7 = true := by
        cases b7 with
        | true => rfl
        | false => exact absurd (by intro e he hb; simp at he <;> (repeat' (rcases he with rfl | he)) <;> first | rfl | exact absurd hb (by decide)) (hall 7 _ rfl rfl)
      obtain rfl : b8 = true := by
        cases b8 with
        | true => rfl
        | false => exact absurd (by intro e he hb; simp at he <;> (repeat' (rcases he with rfl | he)) <;> first | rfl | exact absurd hb (by decide)) (hall 8 _ rfl rfl)
      obtain rfl := hv0 rfl
      obtain rfl := hv1 rfl
      obtain rfl := hv2 rfl
      obtain rfl := hv3 rfl
      obtain rfl := hv4 rfl
      obtain rfl := hv5 rfl
      obtain rfl := hv8 rfl
      obtain ⟨Bt8, rfl, ot8, _, gt8⟩ := hk6 rfl
      obtain ⟨t8c0, t8c1, t8c2, t8c3, t8f0, t8f1, t8f2, t8f3, lt8⟩ := gt8 rfl
      have n108 : w.heap.size ≠ Bt8 := by have := bG; omega
      have n109 : w.heap.size + 1 ≠ Bt8 := by have := bH; omega
      have n110 : Bt3 ≠ Bt8 := by have := bI; omega
      have n111 : Bt4 ≠ Bt8 := by have := bN; omega
      have n112 : Bt5 ≠ Bt8 := by have := bO; omega
      have n113 : w1.heap.size ≠ Bt8 := by have := a1; omega
      clear gt8
      have o114 : w.heap.size ≤ Bt8 := Nat.le_trans vW65.size ot8
      have dK := nlt bG qW107.size
      have dN := nlt bH qW107.size
      have dQ := nlt bI qW107.size
      have dV := nlt bN qW107.size
      have e8 := nlt bO qW107.size
      obtain ⟨dL, dM, dO, dP, dR, dS, dT, dU, dW, dX, dY, dZ, e9, eD, eE, eF⟩ := mv16 qW107.cell d4 d5 d6 d7 bJ bK bL bM d8 d9 dA dB dC dD dE dF
      have f136 := (qW107.frozen (a := ⟨w1.heap.size, 0, none⟩) a1).trans f98
      have f137 := (qW107.frozen (a := ⟨w1.heap.size, 1, none⟩) a1).trans f99
      have f138 := (qW107.frozen (a := ⟨w1.heap.size, 2, none⟩) a1).trans f100
      have f139 := (qW107.frozen (a := ⟨w1.heap.size, 3, none⟩) a1).trans f101
      have a4 := nlt a1 qW107.size
      obtain ⟨eG, eH, eI, eJ⟩ := mv4 qW107.cell dG dH dI dJ
      clear bG d4 d5 bH d6 d7 bI bJ bK bL bM bN d8 d9 dA dB bO dC dD dE dF f98 f99 f100 f101 a1 dG dH dI dJ
      have vW107 := vW65.trans qW107
      clear hv0 hv1 hv2 hv3 hv4 hv5 hv8 hs6 hk6 ot8 hall
      simp only [Act.put, pL]
      go_wp2_with fail
      refine (rnCommon 0 1 0 3 0 4 0 5 0 0 0 0 false _ (by decide) (by decide) (by decide) (by decide) (by decide +kernel)).mono ?_
      rintro e w2 ⟨rfl, qw2⟩
      have eK := nlt dK qw2.size
      have eN := nlt dN qw2.size
      have eQ := nlt dQ qw2.size
      have eV := nlt dV qw2.size
      have fA := nlt e8 qw2.size
      obtain ⟨eL, eM, eO, eP, eR, eS, eT, eU, eW, eX, eY, eZ, fB, fC, fD, fE⟩ := mv16 qw2.cell dL dM dO dP dR dS dT dU dW dX dY dZ e9 eD eE eF
      have f166 := (qw2.frozen (a := ⟨w1.heap.size, 0, none⟩) a4).trans f136
      have f167 := (qw2.frozen (a := ⟨w1.heap.size, 1, none⟩) a4).trans f137
      have f168 := (qw2.frozen (a := ⟨w1.heap.size, 2, none⟩) a4).trans f138
      have f169 := (qw2.frozen (a := ⟨w1.heap.size, 3, none⟩) a4).trans f139
      have a2 := nlt a4 qw2.size
      obtain ⟨fF, fG, fH, fI⟩ := mv4 qw2.cell eG eH eI eJ
      have f175 := (qw2.frozen (a := ⟨Bt8, 0, none⟩) lt8).trans t8f0
      have f176 := (qw2.frozen (a := ⟨Bt8, 1, none⟩) lt8).trans t8f1
      have f177 := (qw2.frozen (a := ⟨Bt8, 2, none⟩) lt8).trans t8f2
      have f178 := (qw2.frozen (a := ⟨Bt8, 3, none⟩) lt8).trans t8f3
      have a3 := nlt lt8 qw2.size
      obtain ⟨fJ, fK, fL, fM⟩ := mv4 qw2.cell t8c0 t8c1 t8c2 t8c3
      clear dK dL dM dN dO dP dQ dR dS dT dU dV dW dX dY dZ e8 e9 eD eE eF f136 f137 f138 f139 a4 eG eH eI eJ t8f0 t8f1 t8f2 t8f3 lt8 t8c0 t8c1 t8c2 t8c3
      have uw2 := vW107.trans qw2
      clear qw2 vW107
      go_wp2_with fail
      obtain ⟨W184, hW184⟩ : ∃ W184, W184 = w2.alloc (.cells #[.int .i8 0, .int .i64 0, .int .i8 0, .int .i64 0] 29) := ⟨_, rfl⟩
      have uW184 : Dn w2 W184 := by rw [hW184]; exact (Dn.refl _).alloc _
      have n185 : w1.heap.size ≠ w2.heap.size := by have := a2; omega
      have n186 : Bt8 ≠ w2.heap.size := by have := a3; omega
      have fN := nlt eK uW184.size
      have fQ := nlt eN uW184.size
      have fT := nlt eQ uW184.size
      have vB := nlt eV uW184.size
      have fY := nlt fA uW184.size
      obtain ⟨fO, fP, fR, fS, fU, fV, fW, fX, vC, vD, vE, vF, fZ, g0, g1, g2⟩ := mv16 uW184.cell eL eM eO eP eR eS eT eU eW eX eY eZ fB fC fD fE
      have f208 := (uW184.frozen (a := ⟨w1.heap.size, 0, none⟩) a2).trans f166
      have f209 := (uW184.frozen (a := ⟨w1.heap.size, 1, none⟩) a2).trans f167
      have f210 := (uW184.frozen (a := ⟨w1.heap.size, 2, none⟩) a2).trans f168
      have f211 := (uW184.frozen (a := ⟨w1.heap.size, 3, none⟩) a2).trans f169
      have a5 := nlt a2 uW184.size
      obtain ⟨g3, g4, g5, g6⟩ := mv4 uW184.cell fF fG fH fI
      have f217 := (uW184.frozen (a := ⟨Bt8, 0, none⟩) a3).trans f175
      have f218 := (uW184.frozen (a := ⟨Bt8, 1, none⟩) a3).trans f176
      have f219 := (uW184.frozen (a := ⟨Bt8, 2, none⟩) a3).trans f177
      have f220 := (uW184.frozen (a := ⟨Bt8, 3, none⟩) a3).trans f178
      have a6 := nlt a3 uW184.size
      obtain ⟨g7, g8, gA, gB⟩ := mv4 uW184.cell fJ fK fL fM
      clear eK eL eM eN eO eP eQ eR eS eT eU eV eW eX eY eZ fA fB fC fD fE f166 f167 f168 f169 a2 fF fG fH fI f175 f176 f177 f178 a3 fJ fK fL fM
      have gC : W184.cell? ⟨w2.heap.size, 0, none⟩ = some (.int .i8 0) := by rw [hW184]; simp [go_sem]
      have gD : W184.cell? ⟨w2.heap.size, 1, none⟩ = some (.int .i64 0) := by rw [hW184]; simp [go_sem]
      have gE : W184.cell? ⟨w2.heap.size, 2, none⟩ = some (.int .i8 0) := by rw [hW184]; simp [go_sem]
      have gF : W184.cell? ⟨w2.heap.size, 3, none⟩ = some (.int .i64 0) := by rw [hW184]; simp [go_sem]
      have gG : w2.heap.size < W184.heap.size := by rw [hW184]; simp <;> omega
      rw [← hW184]
      clear hW184
      have vW184 := uw2.trans uW184
      clear uW184 uw2
      clear vC vD vE vF vB n70 n111
      have hS231 := kdN_16 (W := W184) (Dn.refl _) ⟨Dn.refl _, fU, fV, fW, fX, g3, g4, g5, g6, g7, g8, gA, gB, gC, gD, gE, gF⟩
      have gH := Lib.hid fO
      have gI := Lib.hid fP
      have gJ := Lib.hid fR
      have gK := Lib.hid fS
      have gL := Lib.hid fZ
      have gM := Lib.hid g0
      have gN := Lib.hid g1
      have gO := Lib.hid g2
      have HShS231 := Lib.hid hS231
      clear fO fP fR fS fU fV fW fX fZ g0 g1 g2 g3 g4 g5 g6 g7 g8 gA gB gC gD gE gF
      go_region_held3 (fun w' => Dn W184 w' ∧ w'.cell? ⟨Bt3, 0, none⟩ = some (.int .i8 0) ∧ w'.cell? ⟨Bt3, 1, none⟩ = some (.int .i64 1) ∧ w'.cell? ⟨Bt3, 2, none⟩ = some (.int .i8 0) ∧ w'.cell? ⟨Bt3, 3, none⟩ = some (.int .i64 3) ∧ w'.cell? ⟨w1.heap.size, 0, none⟩ = some (.int .i8 0) ∧ w'.cell? ⟨w1.heap.size, 1, none⟩ = some (.int .i64 1) ∧ w'.cell? ⟨w1.heap.size, 2, none⟩ = some (.int .i8 0) ∧ w'.cell? ⟨w1.heap.size, 3, none⟩ = some (.int .i64 5) ∧ w'.cell? ⟨Bt8, 0, none⟩ = some (.int .i8 0) ∧ w'.cell? ⟨Bt8, 1, none⟩ = some (.int .i64 3) ∧ w'.cell? ⟨Bt8, 2, none⟩ = some (.int .i8 0) ∧ w'.cell? ⟨Bt8, 3, none⟩ = some (.int .i64 3) ∧ w'.cell? ⟨w2.heap.size, 0, none⟩ = some (.int .i8 0) ∧ w'.cell? ⟨w2.heap.size, 1, none⟩ = some (.int .i64 0) ∧ w'.cell? ⟨w2.heap.size, 2, none⟩ = some (.int .i8 0) ∧ w'.cell? ⟨w2.heap.size, 3, none⟩ = some (.int .i64 0))
        (first | exact kdN_16 ((Dn.refl _).drew) hS231 | exact kdN_16 ‹Dn _ _› ‹_› | exact kdN_16 (Up.dn ‹Up _ _›) ‹_› | assumption | exact kdN_16 ((Dn.refl _).alloc _) ‹_›)
        (first
          | (go_at_call 24; refine (f9_any _ _ _ _ _ _ _ _ _ _ _ ?_).mono ?_; decide; rintro e wa ⟨rfl, qa⟩)
          | (go_at_call 32; refine (dy9 _ _ _).mono ?_; rintro e wa ⟨rfl, qa⟩))
      all_goals
        clear hS231
        obtain ⟨uf256, gP, gQ, gR, gS, gT, gU, gV, gW, gX, gY, gZ, h0, vG, vH, vI, vJ⟩ := (‹Dn W184 _ ∧ _› : _ ∧ _)
        obtain ⟨w257, rfl⟩ : ∃ w257 : World, w257 = wa := ⟨_, rfl⟩
        have f258 := (uf256.frozen (a := ⟨w1.heap.size, 0, none⟩) a5).trans f208
        clear f208
        have f259 := (uf256.frozen (a := ⟨w1.heap.size, 1, none⟩) a5).trans f209
        clear f209
        have f260 := (uf256.frozen (a := ⟨w1.heap.size, 2, none⟩) a5).trans f210
        clear f210
        have f261 := (uf256.frozen (a := ⟨w1.heap.size, 3, none⟩) a5).trans f211
        clear f211
        have f262 := (uf256.frozen (a := ⟨Bt8, 0, none⟩) a6).trans f217
        clear f217
        have f263 := (uf256.frozen (a := ⟨Bt8, 1, none⟩) a6).trans f218
        clear f218
        have f264 := (uf256.frozen (a := ⟨Bt8, 2, none⟩) a6).trans f219
        clear f219
        have f265 := (uf256.frozen (a := ⟨Bt8, 3, none⟩) a6).trans f220
        clear f220
        have h1 := nlt fN uf256.size
        clear fN
        have h2 := nlt fQ uf256.size
        clear fQ
        have h3 := nlt fT uf256.size
        clear fT
        have h4 := nlt fY uf256.size
        clear fY
        have a7 := nlt a5 uf256.size
        clear a5
        have a8 := nlt a6 uf256.size
        clear a6
        have vK := nlt gG uf256.size
        clear gG
        have h5 := uf256.cell gH.out
        have h6 := uf256.cell gI.out
        clear gH gI
        have h7 := uf256.cell gJ.out
        have h8 := uf256.cell gK.out
        clear gJ gK
        obtain ⟨h9, hA, hD, hF⟩ := mv4 uf256.cell gL.out gM.out gN.out gO.out
        clear gL gM gN gO
        have vuf256 := vW184.trans uf256
        clear uf256 vW184 HShS231
        clear vG vH vI vJ vK n185 n186
        go_wp2_with fail
        refine (dy9 3 5 _).mono ?_
        rintro e w3 ⟨rfl, qw3⟩
        have hG := nlt h1 qw3.size
        have hJ := nlt h2 qw3.size
        have hP := nlt h3 qw3.size
        have hU := nlt h4 qw3.size
        obtain ⟨hH, hI, hM, hO, hQ, hR, hS, hT, hV, hW, hX, hY⟩ := mv12 qw3.cell h5 h6 h7 h8 gP gQ gR gS h9 hA hD hF
        have f297 := (qw3.frozen (a := ⟨w1.heap.size, 0, none⟩) a7).trans f258
        have f298 := (qw3.frozen (a := ⟨w1.heap.size, 1, none⟩) a7).trans f259
        have f299 := (qw3.frozen (a := ⟨w1.heap.size, 2, none⟩) a7).trans f260
        have f300 := (qw3.frozen (a := ⟨w1.heap.size, 3, none⟩) a7).trans f261
        have a9 := nlt a7 qw3.size
        obtain ⟨hZ, i0, i1, i2⟩ := mv4 qw3.cell gT gU gV gW
        have f306 := (qw3.frozen (a := ⟨Bt8, 0, none⟩) a8).trans f262
        have f307 := (qw3.frozen (a := ⟨Bt8, 1, none⟩) a8).trans f263
        have f308 := (qw3.frozen (a := ⟨Bt8, 2, none⟩) a8).trans f264
        have f309 := (qw3.frozen (a := ⟨Bt8, 3, none⟩) a8).trans f265
        have aA := nlt a8 qw3.size
        obtain ⟨i3, i4, i5, i6⟩ := mv4 qw3.cell gX gY gZ h0
        clear h1 h5 h6 h2 h7 h8 h3 gP gQ gR gS h4 h9 hA hD hF f258 f259 f260 f261 a7 gT gU gV gW f262 f263 f264 f265 a8 gX gY gZ h0
        have uw3 := vuf256.trans qw3
        clear qw3 vuf256
        go_wp2_with fail
        refine (rnLen 0 3 0 5 3 0 _ (by decide) (by decide) (Or.inr (Or.inr ⟨by decide +kernel, rfl, rfl, Or.inl ⟨by decide, by decide, rfl⟩⟩))).mono ?_
        rintro e w4 ⟨rfl, qw4⟩
        have i7 := nlt hG qw4.size
        have iB := nlt hJ qw4.size
        have iE := nlt hP qw4.size
        have iJ := nlt hU qw4.size
        obtain ⟨i9, iA, iC, iD, iF, iG, iH, iI, iK, iL, iM, iN⟩ := mv12 qw4.cell hH hI hM hO hQ hR hS hT hV hW hX hY
        have f331 := (qw4.frozen (a := ⟨w1.heap.size, 0, none⟩) a9).trans f297
        have f332 := (qw4.frozen (a := ⟨w1.heap.size, 1, none⟩) a9).trans f298
        have f333 := (qw4.frozen (a := ⟨w1.heap.size, 2, none⟩) a9).trans f299
        have f334 := (qw4.frozen (a := ⟨w1.heap.size, 3, none⟩) a9).trans f300
        have aB := nlt a9 qw4.size
        obtain ⟨iO, iP, iQ, iR⟩ := mv4 qw4.cell hZ i0 i1 i2
        have f340 := (qw4.frozen (a := ⟨Bt8, 0, none⟩) aA).trans f306
        have f341 := (qw4.frozen (a := ⟨Bt8, 1, none⟩) aA).trans f307
        have f342 := (qw4.frozen (a := ⟨Bt8, 2, none⟩) aA).trans f308
        have f343 := (qw4.frozen (a := ⟨Bt8, 3, none⟩) aA).trans f309
        have aC := nlt aA qw4.size
        obtain ⟨iS, iT, iU, iV⟩ := mv4 qw4.cell i3 i4 i5 i6
        clear hG hH hI hJ hM hO hP hQ hR hS hT hU hV hW hX hY f297 f298 f299 f300 a9 hZ i0 i1 i2 f306 f307 f308 f309 aA i3 i4 i5 i6
        have uw4 := uw3.trans qw4
        clear qw4 uw3
        go_wp2_with fail
        refine (rnLen (-1) 0 0 3 0 16 _ (by decide) (by decide) (Or.inr (Or.inl ⟨by decide +kernel, by decide, rfl, rfl⟩))).mono ?_
        rintro e w5 ⟨rfl, qw5⟩
        have iW := nlt i7 qw5.size
        have iZ := nlt iB qw5.size
        have j2 := nlt iE qw5.size
        have j7 := nlt iJ qw5.size
        obtain ⟨iX, iY, j0, j1, j3, j4, j5, j6, j8, j9, jA, jB⟩ := mv12 qw5.cell i9 iA iC iD iF iG iH iI iK iL iM iN
        have f365 := (qw5.frozen (a := ⟨w1.heap.size, 0, none⟩) aB).trans f331
        have f366 := (qw5.frozen (a := ⟨w1.heap.size, 1, none⟩) aB).trans f332
        have f367 := (qw5.frozen (a := ⟨w1.heap.size, 2, none⟩) aB).trans f333
        have f368 := (qw5.frozen (a := ⟨w1.heap.size, 3, none⟩) aB).trans f334
        have aD := nlt aB qw5.size
        obtain ⟨jC, jD, jE, jF⟩ := mv4 qw5.cell iO iP iQ iR
        have f374 := (qw5.frozen (a := ⟨Bt8, 0, none⟩) aC).trans f340
        have f375 := (qw5.frozen (a := ⟨Bt8, 1, none⟩) aC).trans f341
        have f376 := (qw5.frozen (a := ⟨Bt8, 2, none⟩) aC).trans f342
        have f377 := (qw5.frozen (a := ⟨Bt8, 3, none⟩) aC).trans f343
        have aE := nlt aC qw5.size
        obtain ⟨jG, jH, jI, jJ⟩ := mv4 qw5.cell iS iT iU iV
        clear i7 i9 iA iB iC iD iE iF iG iH iI iJ iK iL iM iN f331 f332 f333 f334 aB iO iP iQ iR f340 f341 f342 f343 aC iS iT iU iV
        have uw5 := uw4.trans qw5
        clear qw5 uw4
        go_wp2_with fail
        refine (dy9 (-1) 9223372036854775807 _).mono ?_
        rintro e w6 ⟨rfl, qw6⟩
        have jK := nlt iW qw6.size
        have jN := nlt iZ qw6.size
        have jQ := nlt j2 qw6.size
        have jV := nlt j7 qw6.size
        obtain ⟨jL, jM, jO, jP, jR, jS, jT, jU, jW, jX, jY, jZ⟩ := mv12 qw6.cell iX iY j0 j1 j3 j4 j5 j6 j8 j9 jA jB
        have f399 := (qw6.frozen (a := ⟨w1.heap.size, 0, none⟩) aD).trans f365
        have f400 := (qw6.frozen (a := ⟨w1.heap.size, 1, none⟩) aD).trans f366
        have f401 := (qw6.frozen (a := ⟨w1.heap.size, 2, none⟩) aD).trans f367
        have f402 := (qw6.frozen (a := ⟨w1.heap.size, 3, none⟩) aD).trans f368
        have aF := nlt aD qw6.size
        obtain ⟨k0, k1, k2, k3⟩ := mv4 qw6.cell jC jD jE jF
        have f408 := (qw6.frozen (a := ⟨Bt8, 0, none⟩) aE).trans f374
        have f409 := (qw6.frozen (a := ⟨Bt8, 1, none⟩) aE).trans f375
        have f410 := (qw6.frozen (a := ⟨Bt8, 2, none⟩) aE).trans f376
        have f411 := (qw6.frozen (a := ⟨Bt8, 3, none⟩) aE).trans f377
        have aG := nlt aE qw6.size
        obtain ⟨k4, k5, k6, k7⟩ := mv4 qw6.cell jG jH jI jJ
        clear iW iX iY iZ j0 j1 j2 j3 j4 j5 j6 j7 j8 j9 jA jB f365 f366 f367 f368 aD jC jD jE jF f374 f375 f376 f377 aE jG jH jI jJ
        have uw6 := uw5.trans qw6
        clear qw6 uw5
        go_wp2_with fail
        refine (rnLen 0 (-1) 0 9223372036854775807 0 15 _ (by decide) (by decide) (Or.inr (Or.inr ⟨by decide +kernel, rfl, rfl, Or.inr ⟨by decide, rfl, rfl⟩⟩))).mono ?_
        rintro e w7 ⟨rfl, qw7⟩
        have k8 := nlt jK qw7.size
        have kB := nlt jN qw7.size
        have kE := nlt jQ qw7.size
        have kJ := nlt jV qw7.size
        obtain ⟨k9, kA, kC, kD, kF, kG, kH, kI, kK, kL, kN, kO⟩ := mv12 qw7.cell jL jM jO jP jR jS jT jU jW jX jY jZ
        have f433 := (qw7.frozen (a := ⟨w1.heap.size, 0, none⟩) aF).trans f399
        have f434 := (qw7.frozen (a := ⟨w1.heap.size, 1, none⟩) aF).trans f400
        have f435 := (qw7.frozen (a := ⟨w1.heap.size, 2, none⟩) aF).trans f401
        have f436 := (qw7.frozen (a := ⟨w1.heap.size, 3, none⟩) aF).trans f402
        have aH := nlt aF qw7.size
        obtain ⟨kQ, kR, kS, kT⟩ := mv4 qw7.cell k0 k1 k2 k3
        have f442 := (qw7.frozen (a := ⟨Bt8, 0, none⟩) aG).trans f408
        have f443 := (qw7.frozen (a := ⟨Bt8, 1, none⟩) aG).trans f409
        have f444 := (qw7.frozen (a := ⟨Bt8, 2, none⟩) aG).trans f410
        have f445 := (qw7.frozen (a := ⟨Bt8, 3, none⟩) aG).trans f411
        have aI := nlt aG qw7.size
        obtain ⟨kU, kV, kW, kX⟩ := mv4 qw7.cell k4 k5 k6 k7
        clear jK jL jM jN jO jP jQ jR jS jT jU jV jW jX jY jZ f399 f400 f401 f402 aF k0 k1 k2 k3 f408 f409 f410 f411 aG k4 k5 k6 k7
        have uw7 := uw6.trans qw7
        clear qw7 uw6
        go_wp2_with fail
        refine (rnHas_at (-1) 0 0 3 (-9223372036854775808) true _ (by decide) (by decide) (by decide) (by decide +kernel)).mono ?_
        rintro e w8 ⟨rfl, qw8⟩
        have kY := nlt k8 qw8.size
        have l1 := nlt kB qw8.size
        have l5 := nlt kE qw8.size
        have vL := nlt kJ qw8.size
        obtain ⟨kZ, l0, l2, l3, l6, l8, l9, lA, vM, vN, vO, vP⟩ := mv12 qw8.cell k9 kA kC kD kF kG kH kI kK kL kN kO
        have f467 := (qw8.frozen (a := ⟨w1.heap.size, 0, none⟩) aH).trans f433
        have f468 := (qw8.frozen (a := ⟨w1.heap.size, 1, none⟩) aH).trans f434
        have f469 := (qw8.frozen (a := ⟨w1.heap.size, 2, none⟩) aH).trans f435
        have f470 := (qw8.frozen (a := ⟨w1.heap.size, 3, none⟩) aH).trans f436
        have aJ := nlt aH qw8.size
        obtain ⟨lB, lC, lD, lE⟩ := mv4 qw8.cell kQ kR kS kT
        have f476 := (qw8.frozen (a := ⟨Bt8, 0, none⟩) aI).trans f442
        have f477 := (qw8.frozen (a := ⟨Bt8, 1, none⟩) aI).trans f443
        have f478 := (qw8.frozen (a := ⟨Bt8, 2, none⟩) aI).trans f444
        have f479 := (qw8.frozen (a := ⟨Bt8, 3, none⟩) aI).trans f445
        have aK := nlt aI qw8.size
        obtain ⟨lF, lG, lH, lI⟩ := mv4 qw8.cell kU kV kW kX
        clear k8 k9 kA kB kC kD kE kF kG kH kI kJ kK kL kN kO f433 f434 f435 f436 aH kQ kR kS kT f442 f443 f444 f445 aI kU kV kW kX
        have uw8 := uw7.trans qw8
        clear qw8 uw7
        clear vM vN vO vP vL n71 n112
        go_wp2_with fail
        refine (rnShift 0 3 1 0 (-4) 0 (-1) 1 0 0 _ (by decide) (by decide) (by decide) (Or.inr ⟨by decide +kernel, 0, -1, 0, 1, 0, 0, Or.inr ⟨rfl, rfl, Or.inl ⟨by decide, by decide, rfl⟩⟩, Or.inl ⟨by decide, rfl, rfl, rfl⟩, Or.inr (Or.inr ⟨rfl, rfl, rfl, rfl, rfl, rfl, rfl⟩)⟩)).mono ?_
        rintro e w9 ⟨rfl, qw9⟩
        have lJ := nlt kY qw9.size
        have lM := nlt l1 qw9.size
        have lP := nlt l5 qw9.size
        obtain ⟨lK, lL, lN, lO, lQ, lR, lS, lT⟩ := mv8 qw9.cell kZ l0 l2 l3 l6 l8 l9 lA
        have f496 := (qw9.frozen (a := ⟨w1.heap.size, 0, none⟩) aJ).trans f467
        have f497 := (qw9.frozen (a := ⟨w1.heap.size, 1, none⟩) aJ).trans f468
        have f498 := (qw9.frozen (a := ⟨w1.heap.size, 2, none⟩) aJ).trans f469
        have f499 := (qw9.frozen (a := ⟨w1.heap.size, 3, none⟩) aJ).trans f470
        have lU := nlt aJ qw9.size
        obtain ⟨lV, lW, lX, lY⟩ := mv4 qw9.cell lB lC lD lE
        have f505 := (qw9.frozen (a := ⟨Bt8, 0, none⟩) aK).trans f476
        have f506 := (qw9.frozen (a := ⟨Bt8, 1, none⟩) aK).trans f477
        have f507 := (qw9.frozen (a := ⟨Bt8, 2, none⟩) aK).trans f478
        have f508 := (qw9.frozen (a := ⟨Bt8, 3, none⟩) aK).trans f479
        have lZ := nlt aK qw9.size
        obtain ⟨m0, m1, m2, m3⟩ := mv4 qw9.cell lF lG lH lI
        clear kY kZ l0 l1 l2 l3 l5 l6 l8 l9 lA f467 f468 f469 f470 aJ lB lC lD lE f476 f477 f478 f479 aK lF lG lH lI
        have uw9 := uw8.trans qw9
        clear qw9 uw8
        go_wp2_with fail
        obtain ⟨W514, hW514⟩ : ∃ W514, W514 = (((w9.setCell ⟨w1.heap.size, 0, none⟩ (.int .i8 0)).setCell ⟨w1.heap.size, 1, none⟩ (.int .i64 (-1))).setCell ⟨w1.heap.size, 2, none⟩ (.int .i8 1)).setCell ⟨w1.heap.size, 3, none⟩ (.int .i64 0) := ⟨_, rfl⟩
        have hC : C4 w9 (w1.heap.size) (.int .i8 0) (.int .i64 1) (.int .i8 0) (.int .i64 5) := ⟨lV, lW, lX, lY, f496, f497, f498, f499, lU⟩
        have hN : C4 W514 (w1.heap.size) (.int .i8 0) (.int .i64 (-1)) (.int .i8 1) (.int .i64 0) := by rw [hW514]; exact hC.fill (.int .i8 0) (.int .i64 (-1)) (.int .i8 1) (.int .i64 0)
        have uW514 : Dn w W514 := by rw [hW514]; exact (Dn.setCell (Dn.setCell (Dn.setCell (Dn.setCell uw9 o66 _) o66 _) o66 _) o66 _)
        have m4 : W514.cell? ⟨w.heap.size, 0, none⟩ = some (.int .i8 (-1)) := by rw [hW514]; exact cell_far4 (n67) lK
        have m5 : W514.cell? ⟨w.heap.size, 1, none⟩ = some (.int .i64 0) := by rw [hW514]; exact cell_far4 (n67) lL
        have m6 : w.heap.size < W514.heap.size := by rw [hW514]; simpa using lJ
        have m7 : W514.cell? ⟨w.heap.size + 1, 0, none⟩ = some (.int .i8 1) := by rw [hW514]; exact cell_far4 (n68) lN
        have m8 : W514.cell? ⟨w.heap.size + 1, 1, none⟩ = some (.int .i64 0) := by rw [hW514]; exact cell_far4 (n68) lO
        have m9 : w.heap.size + 1 < W514.heap.size := by rw [hW514]; simpa using lM
        have mA : W514.cell? ⟨Bt3, 0, none⟩ = some (.int .i8 0) := by rw [hW514]; exact cell_far4 (n69) lQ
        have mB : W514.cell? ⟨Bt3, 1, none⟩ = some (.int .i64 1) := by rw [hW514]; exact cell_far4 (n69) lR
        have mC : W514.cell? ⟨Bt3, 2, none⟩ = some (.int .i8 0) := by rw [hW514]; exact cell_far4 (n69) lS
        have mD : W514.cell? ⟨Bt3, 3, none⟩ = some (.int .i64 3) := by rw [hW514]; exact cell_far4 (n69) lT
        have mE : Bt3 < W514.heap.size := by rw [hW514]; simpa using lP
        have mF : W514.cell? ⟨Bt8, 0, none⟩ = some (.int .i8 0) := by rw [hW514]; exact cell_far4 (fun e => n113 e.symm) m0
        have mG : W514.cell? ⟨Bt8, 1, none⟩ = some (.int .i64 3) := by rw [hW514]; exact cell_far4 (fun e => n113 e.symm) m1
        have mH : W514.cell? ⟨Bt8, 2, none⟩ = some (.int .i8 0) := by rw [hW514]; exact cell_far4 (fun e => n113 e.symm) m2
        have mI : W514.cell? ⟨Bt8, 3, none⟩ = some (.int .i64 3) := by rw [hW514]; exact cell_far4 (fun e => n113 e.symm) m3
        have aL : Bt8 < W514.heap.size := by rw [hW514]; simpa using lZ
        have f531 : W514.frozen? ⟨Bt8, 0, none⟩ = false := by rw [hW514]; simpa using f505
        have f532 : W514.frozen? ⟨Bt8, 1, none⟩ = false := by rw [hW514]; simpa using f506
        have f533 : W514.frozen? ⟨Bt8, 2, none⟩ = false := by rw [hW514]; simpa using f507
        have f534 : W514.frozen? ⟨Bt8, 3, none⟩ = false := by rw [hW514]; simpa using f508
        obtain ⟨mJ, mK, mL, mM, f539, f540, f541, f542, aM⟩ := hN
        rw [← hW514]
        clear hW514
        clear hC uw9 lV lW lX lY f496 f497 f498 f499 lU lK lL lJ lN lO lM lQ lR lS lT lP m0 m1 m2 m3 lZ f505 f506 f507 f508
        refine (dy9 0 9223372036854775807 _).mono ?_
        rintro e w10 ⟨rfl, qw10⟩
        have mN := nlt m6 qw10.size
        have mQ := nlt m9 qw10.size
        have mT := nlt mE qw10.size
        obtain ⟨mO, mP, mR, mS, mU, mV, mW, mX⟩ := mv8 qw10.cell m4 m5 m7 m8 mA mB mC mD
        have f555 := (qw10.frozen (a := ⟨w1.heap.size, 0, none⟩) aM).trans f539
        have f556 := (qw10.frozen (a := ⟨w1.heap.size, 1, none⟩) aM).trans f540
        have f557 := (qw10.frozen (a := ⟨w1.heap.size, 2, none⟩) aM).trans f541
        have f558 := (qw10.frozen (a := ⟨w1.heap.size, 3, none⟩) aM).trans f542
        have aN := nlt aM qw10.size
        obtain ⟨mY, mZ, n0, n1⟩ := mv4 qw10.cell mJ mK mL mM
        have f564 := (qw10.frozen (a := ⟨Bt8, 0, none⟩) aL).trans f531
        have f565 := (qw10.frozen (a := ⟨Bt8, 1, none⟩) aL).trans f532
        have f566 := (qw10.frozen (a := ⟨Bt8, 2, none⟩) aL).trans f533
        have f567 := (qw10.frozen (a := ⟨Bt8, 3, none⟩) aL).trans f534
        have aO := nlt aL qw10.size
        obtain ⟨n2, n3, n4, n5⟩ := mv4 qw10.cell mF mG mH mI
        clear m6 m4 m5 m9 m7 m8 mE mA mB mC mD f539 f540 f541 f542 aM mJ mK mL mM f531 f532 f533 f534 aL mF mG mH mI
        have uw10 := uW514.trans qw10
        clear qw10 uW514
        go_wp2_with fail
        refine (rnShift 0 0 0 9223372036854775807 1 0 0 0 0 15 _ (by decide) (by decide) (by decide) (Or.inr ⟨by decide +kernel, 0, 1, 0, 0, 0, 15, Or.inr ⟨rfl, rfl, Or.inl ⟨by decide, by decide, rfl⟩⟩, Or.inr ⟨rfl, rfl, Or.inr ⟨by decide, rfl, rfl⟩⟩, Or.inr (Or.inl ⟨rfl, by decide, rfl, rfl, rfl, rfl, rfl⟩)⟩)).mono ?_
        rintro e w11 ⟨rfl, qw11⟩
        have n6 := nlt mN qw11.size
        have n9 := nlt mQ qw11.size
        have nC := nlt mT qw11.size
        obtain ⟨n7, n8, nA, nB, nD, nE, nF, nG⟩ := mv8 qw11.cell mO mP mR mS mU mV mW mX
        have f584 := (qw11.frozen (a := ⟨w1.heap.size, 0, none⟩) aN).trans f555
        have f585 := (qw11.frozen (a := ⟨w1.heap.size, 1, none⟩) aN).trans f556
        have f586 := (qw11.frozen (a := ⟨w1.heap.size, 2, none⟩) aN).trans f557
        have f587 := (qw11.frozen (a := ⟨w1.heap.size, 3, none⟩) aN).trans f558
        have nH := nlt aN qw11.size
        obtain ⟨nI, nJ, nK, nL⟩ := mv4 qw11.cell mY mZ n0 n1
        have f593 := (qw11.frozen (a := ⟨Bt8, 0, none⟩) aO).trans f564
        have f594 := (qw11.frozen (a := ⟨Bt8, 1, none⟩) aO).trans f565
        have f595 := (qw11.frozen (a := ⟨Bt8, 2, none⟩) aO).trans f566
        have f596 := (qw11.frozen (a := ⟨Bt8, 3, none⟩) aO).trans f567
        have nM := nlt aO qw11.size
        obtain ⟨nN, nO, nP, nQ⟩ := mv4 qw11.cell n2 n3 n4 n5
        clear mN mO mP mQ mR mS mT mU mV mW mX f555 f556 f557 f558 aN mY mZ n0 n1 f564 f565 f566 f567 aO n2 n3 n4 n5
        have uw11 := uw10.trans qw11
        clear qw11 uw10
        go_wp2_with fail
        obtain ⟨W602, hW602⟩ : ∃ W602, W602 = (((w11.setCell ⟨Bt8, 0, none⟩ (.int .i8 0)).setCell ⟨Bt8, 1, none⟩ (.int .i64 0)).setCell ⟨Bt8, 2, none⟩ (.int .i8 0)).setCell ⟨Bt8, 3, none⟩ (.int .i64 0) := ⟨_, rfl⟩
        have hC : C4 w11 (Bt8) (.int .i8 0) (.int .i64 3) (.int .i8 0) (.int .i64 3) := ⟨nN, nO, nP, nQ, f593, f594, f595, f596, nM⟩
        have hN : C4 W602 (Bt8) (.int .i8 0) (.int .i64 0) (.int .i8 0) (.int .i64 0) := by rw [hW602]; exact hC.fill (.int .i8 0) (.int .i64 0) (.int .i8 0) (.int .i64 0)
        have uW602 : Dn w W602 := by rw [hW602]; exact (Dn.setCell (Dn.setCell (Dn.setCell (Dn.setCell uw11 o114 _) o114 _) o114 _) o114 _)
        have nR : W602.cell? ⟨w.heap.size, 0, none⟩ = some (.int .i8 (-1)) := by rw [hW602]; exact cell_far4 (n108) n7
        have nS : W602.cell? ⟨w.heap.size, 1, none⟩ = some (.int .i64 0) := by rw [hW602]; exact cell_far4 (n108) n8
        have nT : w.heap.size < W602.heap.size := by rw [hW602]; simpa using n6
        have nU : W602.cell? ⟨w.heap.size + 1, 0, none⟩ = some (.int .i8 1) := by rw [hW602]; exact cell_far4 (n109) nA
        have nV : W602.cell? ⟨w.heap.size + 1, 1, none⟩ = some (.int .i64 0) := by rw [hW602]; exact cell_far4 (n109) nB
        have nW : w.heap.size + 1 < W602.heap.size := by rw [hW602]; simpa using n9
        have nX : W602.cell? ⟨Bt3, 0, none⟩ = some (.int .i8 0) := by rw [hW602]; exact cell_far4 (n110) nD
        have nY : W602.cell? ⟨Bt3, 1, none⟩ = some (.int .i64 1) := by rw [hW602]; exact cell_far4 (n110) nE
        have nZ : W602.cell? ⟨Bt3, 2, none⟩ = some (.int .i8 0) := by rw [hW602]; exact cell_far4 (n110) nF
        have o0 : W602.cell? ⟨Bt3, 3, none⟩ = some (.int .i64 3) := by rw [hW602]; exact cell_far4 (n110) nG
        have o1 : Bt3 < W602.heap.size := by rw [hW602]; simpa using nC
        have o2 : W602.cell? ⟨w1.heap.size, 0, none⟩ = some (.int .i8 0) := by rw [hW602]; exact cell_far4 (n113) nI
        have o3 : W602.cell? ⟨w1.heap.size, 1, none⟩ = some (.int .i64 (-1)) := by rw [hW602]; exact cell_far4 (n113) nJ
        have o4 : W602.cell? ⟨w1.heap.size, 2, none⟩ = some (.int .i8 1) := by rw [hW602]; exact cell_far4 (n113) nK
        have o5 : W602.cell? ⟨w1.heap.size, 3, none⟩ = some (.int .i64 0) := by rw [hW602]; exact cell_far4 (n113) nL
        have aP : w1.heap.size < W602.heap.size := by rw [hW602]; simpa using nH
        have f619 : W602.frozen? ⟨w1.heap.size, 0, none⟩ = false := by rw [hW602]; simpa using f584
        have f620 : W602.frozen? ⟨w1.heap.size, 1, none⟩ = false := by rw [hW602]; simpa using f585
        have f621 : W602.frozen? ⟨w1.heap.size, 2, none⟩ = false := by rw [hW602]; simpa using f586
        have f622 : W602.frozen? ⟨w1.heap.size, 3, none⟩ = false := by rw [hW602]; simpa using f587
        obtain ⟨o6, o7, o8, o9, f627, f628, f629, f630, aQ⟩ := hN
        rw [← hW602]
        clear hW602
        clear hC uw11 nN nO nP nQ f593 f594 f595 f596 nM n7 n8 n6 nA nB n9 nD nE nF nG nC nI nJ nK nL nH f584 f585 f586 f587
        refine (g9_any 0 (-1) 1 0 0 0 (-1) 1 0 0 _ (by decide)).mono ?_
        rintro e w12 ⟨rfl, qw12⟩
        have oA := nlt nT qw12.size
        have oD := nlt nW qw12.size
        have oG := nlt o1 qw12.size
        obtain ⟨oB, oC, oE, oF, oH, oI, oJ, oK⟩ := mv8 qw12.cell nR nS nU nV nX nY nZ o0
        have f643 := (qw12.frozen (a := ⟨w1.heap.size, 0, none⟩) aP).trans f619
        have f644 := (qw12.frozen (a := ⟨w1.heap.size, 1, none⟩) aP).trans f620
        have f645 := (qw12.frozen (a := ⟨w1.heap.size, 2, none⟩) aP).trans f621
        have f646 := (qw12.frozen (a := ⟨w1.heap.size, 3, none⟩) aP).trans f622
        have aR := nlt aP qw12.size
        obtain ⟨oL, oM, oN, oO⟩ := mv4 qw12.cell o2 o3 o4 o5
        have f652 := (qw12.frozen (a := ⟨Bt8, 0, none⟩) aQ).trans f627
        have f653 := (qw12.frozen (a := ⟨Bt8, 1, none⟩) aQ).trans f628
        have f654 := (qw12.frozen (a := ⟨Bt8, 2, none⟩) aQ).trans f629
        have f655 := (qw12.frozen (a := ⟨Bt8, 3, none⟩) aQ).trans f630
        have aS := nlt aQ qw12.size
        obtain ⟨oP, oQ, oR, oS⟩ := mv4 qw12.cell o6 o7 o8 o9
        clear nT nR nS nW nU nV o1 nX nY nZ o0 f619 f620 f621 f622 aP o2 o3 o4 o5 f627 f628 f629 f630 aQ o6 o7 o8 o9
        have uw12 := uW602.trans qw12
        clear qw12 uW602
        go_wp2_with fail
        refine (g9_any 0 0 0 0 15 0 1 0 3 15 _ (by decide)).mono ?_
        rintro e w13 ⟨rfl, qw13⟩
        have oT := nlt oA qw13.size
        have vQ := nlt oD qw13.size
        have vT := nlt oG qw13.size
        obtain ⟨oU, oV, vR, vS, vU, vV, vW, vX⟩ := mv8 qw13.cell oB oC oE oF oH oI oJ oK
        have f672 := (qw13.frozen (a := ⟨w1.heap.size, 0, none⟩) aR).trans f643
        have f673 := (qw13.frozen (a := ⟨w1.heap.size, 1, none⟩) aR).trans f644
        have f674 := (qw13.frozen (a := ⟨w1.heap.size, 2, none⟩) aR).trans f645
        have f675 := (qw13.frozen (a := ⟨w1.heap.size, 3, none⟩) aR).trans f646
        have a0 := nlt aR qw13.size
        obtain ⟨oW, oX, oY, oZ⟩ := mv4 qw13.cell oL oM oN oO
        have f681 := (qw13.frozen (a := ⟨Bt8, 0, none⟩) aS).trans f652
        have f682 := (qw13.frozen (a := ⟨Bt8, 1, none⟩) aS).trans f653
        have f683 := (qw13.frozen (a := ⟨Bt8, 2, none⟩) aS).trans f654
        have f684 := (qw13.frozen (a := ⟨Bt8, 3, none⟩) aS).trans f655
        have vY := nlt aS qw13.size
        obtain ⟨vZ, w0, wA, wB⟩ := mv4 qw13.cell oP oQ oR oS
        clear oA oB oC oD oE oF oG oH oI oJ oK f643 f644 f645 f646 aR oL oM oN oO f652 f653 f654 f655 aS oP oQ oR oS
        have uw13 := uw12.trans qw13
        clear qw13 uw12
        clear vR vS vQ n68 n109
        clear vU vV vW vX vT n69 n110
        clear vZ w0 wA wB vY f681 f682 f683 f684 n108 n113 o114
        go_upto_region 19 with fail
        go_cut [18, 19] (fun s18 s19 wx => s18 = .slice (some ⟨w13.heap.size, 0, none⟩) 4 4 ∧ s19 = .slice (some ⟨w13.heap.size + 1, 0, none⟩) 4 4 ∧ wx = (w13.alloc (.cells #[.string ⟨#[45, 105, 110, 102, 46, 46, 45, 51]⟩, .string ⟨#[53, 46, 46, 51]⟩, .string ⟨#[105, 110, 102, 46, 46, 105, 110, 102]⟩, .string ⟨#[49, 46, 46, 46, 51]⟩] 9)).alloc (.cells #[.int .i64 0, .int .i64 12, .int .i64 4, .int .i64 5] 3))
        case first =>
          go_wp2_with fail
          go_meet
          case rel => exact ⟨rfl, rfl, rfl⟩
        case rest =>
          obtain ⟨rfl, rfl, rfl⟩ := hcut
          go_wp2_with fail
          obtain ⟨W690, hW690⟩ : ∃ W690, W690 = (w13.alloc (.cells #[.string ⟨#[45, 105, 110, 102, 46, 46, 45, 51]⟩, .string ⟨#[53, 46, 46, 51]⟩, .string ⟨#[105, 110, 102, 46, 46, 105, 110, 102]⟩, .string ⟨#[49, 46, 46, 46, 51]⟩] 9)).alloc (.cells #[.int .i64 0, .int .i64 12, .int .i64 4, .int .i64 5] 3) := ⟨_, rfl⟩
          have uW690 : Dn w13 W690 := by rw [hW690]; exact ((Dn.refl _).alloc _).alloc _
          have n691 : w1.heap.size ≠ w13.heap.size := by have := a0; omega
          have n692 : w1.heap.size ≠ w13.heap.size + 1 := by have := a0; omega
          have p0 := nlt oT uW690.size
          have p1 := uW690.cell oU
          have p2 := uW690.cell oV
          have f696 := (uW690.frozen (a := ⟨w1.heap.size, 0, none⟩) a0).trans f672
          have f697 := (uW690.frozen (a := ⟨w1.heap.size, 1, none⟩) a0).trans f673
          have f698 := (uW690.frozen (a := ⟨w1.heap.size, 2, none⟩) a0).trans f674
          have f699 := (uW690.frozen (a := ⟨w1.heap.size, 3, none⟩) a0).trans f675
          have aT := nlt a0 uW690.size
          obtain ⟨p3, p4, p5, p6⟩ := mv4 uW690.cell oW oX oY oZ
          clear oT oU oV f672 f673 f674 f675 a0 oW oX oY oZ
          have p7 : W690.cell? ⟨w13.heap.size, 0, none⟩ = some (.string ⟨#[45, 105, 110, 102, 46, 46, 45, 51]⟩) := by rw [hW690]; simp [go_sem]
          have p8 : W690.cell? ⟨w13.heap.size, 1, none⟩ = some (.string ⟨#[53, 46, 46, 51]⟩) := by rw [hW690]; simp [go_sem]
          have p9 : W690.cell? ⟨w13.heap.size, 2, none⟩ = some (.string ⟨#[105, 110, 102, 46, 46, 105, 110, 102]⟩) := by rw [hW690]; simp [go_sem]
          have pA : W690.cell? ⟨w13.heap.size, 3, none⟩ = some (.string ⟨#[49, 46, 46, 46, 51]⟩) := by rw [hW690]; simp [go_sem]
          have pB : w13.heap.size < W690.heap.size := by rw [hW690]; simp <;> omega
          have pC : W690.cell? ⟨w13.heap.size + 1, 0, none⟩ = some (.int .i64 0) := by rw [hW690]; simp [go_sem]
          have pD : W690.cell? ⟨w13.heap.size + 1, 1, none⟩ = some (.int .i64 12) := by rw [hW690]; simp [go_sem]
          have pE : W690.cell? ⟨w13.heap.size + 1, 2, none⟩ = some (.int .i64 4) := by rw [hW690]; simp [go_sem]
          have pF : W690.cell? ⟨w13.heap.size + 1, 3, none⟩ = some (.int .i64 5) := by rw [hW690]; simp [go_sem]
          have pG : w13.heap.size + 1 < W690.heap.size := by rw [hW690]; simp <;> omega
          rw [← hW690]
          clear hW690
          have vW690 := uw13.trans uW690
          clear uW690 uw13
          refine wp_loop_rounds 5 ?_
          rw [rounds_succ]
          go_wp2_with fail
          refine (rnParse ⟨#[45, 105, 110, 102, 46, 46, 45, 51]⟩ (-1) 0 0 (-3) 0 _ (by decide) rp9_0 (hE.dn vW690)).mono ?_
          rintro e w14 ⟨rfl, qw14⟩
          have pH := nlt p0 qw14.size
          have pI := qw14.cell p1
          have pJ := qw14.cell p2
          have f718 := (qw14.frozen (a := ⟨w1.heap.size, 0, none⟩) aT).trans f696
          have f719 := (qw14.frozen (a := ⟨w1.heap.size, 1, none⟩) aT).trans f697
          have f720 := (qw14.frozen (a := ⟨w1.heap.size, 2, none⟩) aT).trans f698
          have f721 := (qw14.frozen (a := ⟨w1.heap.size, 3, none⟩) aT).trans f699
          have pK := nlt aT qw14.size
          have pQ := nlt pB qw14.size
          have pV := nlt pG qw14.size
          obtain ⟨pM, pN, pO, pP, pR, pS, pT, pU, pW, pX, pY, pZ⟩ := mv12 qw14.cell p3 p4 p5 p6 p7 p8 p9 pA pC pD pE pF
          clear p0 p1 p2 f696 f697 f698 f699 aT p3 p4 p5 p6 pB p7 p8 p9 pA pG pC pD pE pF
          have uw14 := vW690.trans qw14
          clear qw14 vW690
          go_wp2_with fail
          obtain ⟨W737, hW737⟩ : ∃ W737, W737 = (((w14.setCell ⟨w1.heap.size, 0, none⟩ (.int .i8 (-1))).setCell ⟨w1.heap.size, 1, none⟩ (.int .i64 0)).setCell ⟨w1.heap.size, 2, none⟩ (.int .i8 0)).setCell ⟨w1.heap.size, 3, none⟩ (.int .i64 (-3)) := ⟨_, rfl⟩
          have hC : C4 w14 (w1.heap.size) (.int .i8 0) (.int .i64 (-1)) (.int .i8 1) (.int .i64 0) := ⟨pM, pN, pO, pP, f718, f719, f720, f721, pK⟩
          have hN : C4 W737 (w1.heap.size) (.int .i8 (-1)) (.int .i64 0) (.int .i8 0) (.int .i64 (-3)) := by rw [hW737]; exact hC.fill (.int .i8 (-1)) (.int .i64 0) (.int .i8 0) (.int .i64 (-3))
          have uW737 : Dn w W737 := by rw [hW737]; exact (Dn.setCell (Dn.setCell (Dn.setCell (Dn.setCell uw14 o66 _) o66 _) o66 _) o66 _)
          have q0 : W737.cell? ⟨w.heap.size, 0, none⟩ = some (.int .i8 (-1)) := by rw [hW737]; exact cell_far4 (n67) pI
          have q1 : W737.cell? ⟨w.heap.size, 1, none⟩ = some (.int .i64 0) := by rw [hW737]; exact cell_far4 (n67) pJ
          have q2 : w.heap.size < W737.heap.size := by rw [hW737]; simpa using pH
          have q3 : W737.cell? ⟨w13.heap.size, 0, none⟩ = some (.string ⟨#[45, 105, 110, 102, 46, 46, 45, 51]⟩) := by rw [hW737]; exact cell_far4 (fun e => n691 e.symm) pR
          have q4 : W737.cell? ⟨w13.heap.size, 1, none⟩ = some (.string ⟨#[53, 46, 46, 51]⟩) := by rw [hW737]; exact cell_far4 (fun e => n691 e.symm) pS
          have q5 : W737.cell? ⟨w13.heap.size, 2, none⟩ = some (.string ⟨#[105, 110, 102, 46, 46, 105, 110, 102]⟩) := by rw [hW737]; exact cell_far4 (fun e => n691 e.symm) pT
          have q6 : W737.cell? ⟨w13.heap.size, 3, none⟩ = some (.string ⟨#[49, 46, 46, 46, 51]⟩) := by rw [hW737]; exact cell_far4 (fun e => n691 e.symm) pU
          have q7 : w13.heap.size < W737.heap.size := by rw [hW737]; simpa using pQ
          have q8 : W737.cell? ⟨w13.heap.size + 1, 0, none⟩ = some (.int .i64 0) := by rw [hW737]; exact cell_far4 (fun e => n692 e.symm) pW
          have q9 : W737.cell? ⟨w13.heap.size + 1, 1, none⟩ = some (.int .i64 12) := by rw [hW737]; exact cell_far4 (fun e => n692 e.symm) pX
          have qA : W737.cell? ⟨w13.heap.size + 1, 2, none⟩ = some (.int .i64 4) := by rw [hW737]; exact cell_far4 (fun e => n692 e.symm) pY
          have qB : W737.cell? ⟨w13.heap.size + 1, 3, none⟩ = some (.int .i64 5) := by rw [hW737]; exact cell_far4 (fun e => n692 e.symm) pZ
          have qC : w13.heap.size + 1 < W737.heap.size := by rw [hW737]; simpa using pV
          obtain ⟨qD, qE, qF, qG, f755, f756, f757, f758, aU⟩ := hN
          rw [← hW737]
          clear hW737
          clear hC uw14 pM pN pO pP f718 f719 f720 f721 pK pI pJ pH pR pS pT pU pQ pW pX pY pZ pV
          have hS760 := kdN_10 (W := W737) (Dn.refl _) ⟨Dn.refl _, q0, q1, qD, qE, qF, qG, q8, q9, qA, qB⟩
          have qH := Lib.hid q3
          have qI := Lib.hid q4
          have qJ := Lib.hid q5
          have qK := Lib.hid q6
          have HShS760 := Lib.hid hS760
          clear q0 q1 qD qE qF qG q3 q4 q5 q6 q8 q9 qA qB
          go_region_held3 (fun w' => Dn W737 w' ∧ w'.cell? ⟨w.heap.size, 0, none⟩ = some (.int .i8 (-1)) ∧ w'.cell? ⟨w.heap.size, 1, none⟩ = some (.int .i64 0) ∧ w'.cell? ⟨w1.heap.size, 0, none⟩ = some (.int .i8 (-1)) ∧ w'.cell? ⟨w1.heap.size, 1, none⟩ = some (.int .i64 0) ∧ w'.cell? ⟨w1.heap.size, 2, none⟩ = some (.int .i8 0) ∧ w'.cell? ⟨w1.heap.size, 3, none⟩ = some (.int .i64 (-3)) ∧ w'.cell? ⟨w13.heap.size + 1, 0, none⟩ = some (.int .i64 0) ∧ w'.cell? ⟨w13.heap.size + 1, 1, none⟩ = some (.int .i64 12) ∧ w'.cell? ⟨w13.heap.size + 1, 2, none⟩ = some (.int .i64 4) ∧ w'.cell? ⟨w13.heap.size + 1, 3, none⟩ = some (.int .i64 5))
            (first | exact kdN_10 ((Dn.refl _).drew) hS760 | exact kdN_10 ‹Dn _ _› ‹_› | exact kdN_10 (Up.dn ‹Up _ _›) ‹_› | assumption | exact kdN_10 ((Dn.refl _).alloc _) ‹_›)
            (first
             | (go_at_call 17; refine (g9_any _ _ _ _ _ _ _ _ _ _ _ ?_).mono ?_; decide; rintro e wa ⟨rfl, qa⟩))
          all_goals
            clear hS760
            obtain ⟨uf775, qL, qM, qN, qO, qP, qQ, qR, qS, qT, qU⟩ := (‹Dn W737 _ ∧ _› : _ ∧ _)
            obtain ⟨w776, rfl⟩ : ∃ w776 : World, w776 = wa := ⟨_, rfl⟩
            have f777 := (uf775.frozen (a := ⟨w1.heap.size, 0, none⟩) aU).trans f755
            clear f755
            have f778 := (uf775.frozen (a := ⟨w1.heap.size, 1, none⟩) aU).trans f756
            clear f756
            have f779 := (uf775.frozen (a := ⟨w1.heap.size, 2, none⟩) aU).trans f757
            clear f757
            have f780 := (uf775.frozen (a := ⟨w1.heap.size, 3, none⟩) aU).trans f758
            clear f758
            have qV := nlt q2 uf775.size
            clear q2
            have aV := nlt aU uf775.size
            clear aU
            have qW := nlt q7 uf775.size
            clear q7
            have qX := nlt qC uf775.size
            clear qC
            obtain ⟨qY, qZ, r0, r1⟩ := mv4 uf775.cell qH.out qI.out qJ.out qK.out
            clear qH qI qJ qK
            have vuf775 := uW737.trans uf775
            clear uf775 uW737 HShS760
            go_wp2_with fail
            rw [rounds_succ]
            go_wp2_with fail
            refine (rnParse ⟨#[53, 46, 46, 51]⟩ 0 0 0 0 12 _ (by decide) rp9_1 (hE.dn vuf775)).mono ?_
            rintro e w15 ⟨rfl, qw15⟩
            have r2 := nlt qV qw15.size
            have r3 := qw15.cell qL
            have r4 := qw15.cell qM
            have f792 := (qw15.frozen (a := ⟨w1.heap.size, 0, none⟩) aV).trans f777
            have f793 := (qw15.frozen (a := ⟨w1.heap.size, 1, none⟩) aV).trans f778
            have f794 := (qw15.frozen (a := ⟨w1.heap.size, 2, none⟩) aV).trans f779
            have f795 := (qw15.frozen (a := ⟨w1.heap.size, 3, none⟩) aV).trans f780
            have r5 := nlt aV qw15.size
            have rA := nlt qW qw15.size
            have rF := nlt qX qw15.size
            obtain ⟨r6, r7, r8, r9, rB, rC, rD, rE, rG, rH, rI, rJ⟩ := mv12 qw15.cell qN qO qP qQ qY qZ r0 r1 qR qS qT qU
            clear qV qL qM f777 f778 f779 f780 aV qN qO qP qQ qW qY qZ r0 r1 qX qR qS qT qU
            have uw15 := vuf775.trans qw15
            clear qw15 vuf775
            go_wp2_with fail
            obtain ⟨W811, hW811⟩ : ∃ W811, W811 = (((w15.setCell ⟨w1.heap.size, 0, none⟩ (.int .i8 0)).setCell ⟨w1.heap.size, 1, none⟩ (.int .i64 0)).setCell ⟨w1.heap.size, 2, none⟩ (.int .i8 0)).setCell ⟨w1.heap.size, 3, none⟩ (.int .i64 0) := ⟨_, rfl⟩
            have hC : C4 w15 (w1.heap.size) (.int .i8 (-1)) (.int .i64 0) (.int .i8 0) (.int .i64 (-3)) := ⟨r6, r7, r8, r9, f792, f793, f794, f795, r5⟩
            have hN : C4 W811 (w1.heap.size) (.int .i8 0) (.int .i64 0) (.int .i8 0) (.int .i64 0) := by rw [hW811]; exact hC.fill (.int .i8 0) (.int .i64 0) (.int .i8 0) (.int .i64 0)
            have uW811 : Dn w W811 := by rw [hW811]; exact (Dn.setCell (Dn.setCell (Dn.setCell (Dn.setCell uw15 o66 _) o66 _) o66 _) o66 _)
            have rK : W811.cell? ⟨w.heap.size, 0, none⟩ = some (.int .i8 (-1)) := by rw [hW811]; exact cell_far4 (n67) r3
            have rL : W811.cell? ⟨w.heap.size, 1, none⟩ = some (.int .i64 0) := by rw [hW811]; exact cell_far4 (n67) r4
            have rM : w.heap.size < W811.heap.size := by rw [hW811]; simpa using r2
            have rN : W811.cell? ⟨w13.heap.size, 0, none⟩ = some (.string ⟨#[45, 105, 110, 102, 46, 46, 45, 51]⟩) := by rw [hW811]; exact cell_far4 (fun e => n691 e.symm) rB
            have rO : W811.cell? ⟨w13.heap.size, 1, none⟩ = some (.string ⟨#[53, 46, 46, 51]⟩) := by rw [hW811]; exact cell_far4 (fun e => n691 e.symm) rC
            have rP : W811.cell? ⟨w13.heap.size, 2, none⟩ = some (.string ⟨#[105, 110, 102, 46, 46, 105, 110, 102]⟩) := by rw [hW811]; exact cell_far4 (fun e => n691 e.symm) rD
            have rQ : W811.cell? ⟨w13.heap.size, 3, none⟩ = some (.string ⟨#[49, 46, 46, 46, 51]⟩) := by rw [hW811]; exact cell_far4 (fun e => n691 e.symm) rE
            have rR : w13.heap.size < W811.heap.size := by rw [hW811]; simpa using rA
            have rS : W811.cell? ⟨w13.heap.size + 1, 0, none⟩ = some (.int .i64 0) := by rw [hW811]; exact cell_far4 (fun e => n692 e.symm) rG
            have rT : W811.cell? ⟨w13.heap.size + 1, 1, none⟩ = some (.int .i64 12) := by rw [hW811]; exact cell_far4 (fun e => n692 e.symm) rH
            have rU : W811.cell? ⟨w13.heap.size + 1, 2, none⟩ = some (.int .i64 4) := by rw [hW811]; exact cell_far4 (fun e => n692 e.symm) rI
            have rV : W811.cell? ⟨w13.heap.size + 1, 3, none⟩ = some (.int .i64 5) := by rw [hW811]; exact cell_far4 (fun e => n692 e.symm) rJ
            have rW : w13.heap.size + 1 < W811.heap.size := by rw [hW811]; simpa using rF
            obtain ⟨rX, rY, rZ, s0, f829, f830, f831, f832, aW⟩ := hN
            rw [← hW811]
            clear hW811
            clear hC uw15 r6 r7 r8 r9 f792 f793 f794 f795 r5 r3 r4 r2 rB rC rD rE rA rG rH rI rJ rF
            have hS834 := kdN_10 (W := W811) (Dn.refl _) ⟨Dn.refl _, rK, rL, rX, rY, rZ, s0, rS, rT, rU, rV⟩
            have s1 := Lib.hid rN
            have s2 := Lib.hid rO
            have s3 := Lib.hid rP
            have s4 := Lib.hid rQ
            have HShS834 := Lib.hid hS834
            clear rK rL rX rY rZ s0 rN rO rP rQ rS rT rU rV
            go_region_held3 (fun w' => Dn W811 w' ∧ w'.cell? ⟨w.heap.size, 0, none⟩ = some (.int .i8 (-1)) ∧ w'.cell? ⟨w.heap.size, 1, none⟩ = some (.int .i64 0) ∧ w'.cell? ⟨w1.heap.size, 0, none⟩ = some (.int .i8 0) ∧ w'.cell? ⟨w1.heap.size, 1, none⟩ = some (.int .i64 0) ∧ w'.cell? ⟨w1.heap.size, 2, none⟩ = some (.int .i8 0) ∧ w'.cell? ⟨w1.heap.size, 3, none⟩ = some (.int .i64 0) ∧ w'.cell? ⟨w13.heap.size + 1, 0, none⟩ = some (.int .i64 0) ∧ w'.cell? ⟨w13.heap.size + 1, 1, none⟩ = some (.int .i64 12) ∧ w'.cell? ⟨w13.heap.size + 1, 2, none⟩ = some (.int .i64 4) ∧ w'.cell? ⟨w13.heap.size + 1, 3, none⟩ = some (.int .i64 5))
             (first | exact kdN_10 ((Dn.refl _).drew) hS834 | exact kdN_10 ‹Dn _ _› ‹_› | exact kdN_10 (Up.dn ‹Up _ _›) ‹_› | assumption | exact kdN_10 ((Dn.refl _).alloc _) ‹_›)
             (first
               | (go_at_call 17; refine (g9_any _ _ _ _ _ _ _ _ _ _ _ ?_).mono ?_; decide; rintro e wa ⟨rfl, qa⟩))
            all_goals
             clear hS834
             obtain ⟨uf849, s5, s6, s7, s8, s9, sA, sB, sC, sD, sE⟩ := (‹Dn W811 _ ∧ _› : _ ∧ _)
             obtain ⟨w850, rfl⟩ : ∃ w850 : World, w850 = wa := ⟨_, rfl⟩
             have f851 := (uf849.frozen (a := ⟨w1.heap.size, 0, none⟩) aW).trans f829
             clear f829
             have f852 := (uf849.frozen (a := ⟨w1.heap.size, 1, none⟩) aW).trans f830
             clear f830
             have f853 := (uf849.frozen (a := ⟨w1.heap.size, 2, none⟩) aW).trans f831
             clear f831
             have f854 := (uf849.frozen (a := ⟨w1.heap.size, 3, none⟩) aW).trans f832
             clear f832
             have sF := nlt rM uf849.size
             clear rM
             have aX := nlt aW uf849.size
             clear aW
             have sG := nlt rR uf849.size
             clear rR
             have sH := nlt rW uf849.size
             clear rW
             obtain ⟨sI, sJ, sK, sL⟩ := mv4 uf849.cell s1.out s2.out s3.out s4.out
             clear s1 s2 s3 s4
             have vuf849 := uW811.trans uf849
             clear uf849 uW811 HShS834
             go_wp2_with fail
             rw [rounds_succ]
             go_wp2_with fail
             refine (rnParse ⟨#[105, 110, 102, 46, 46, 105, 110, 102]⟩ 0 0 0 0 4 _ (by decide) rp9_2 (hE.dn vuf849)).mono ?_
             rintro e w16 ⟨rfl, qw16⟩
             have sN := nlt sF qw16.size
             have sO := qw16.cell s5
             have sQ := qw16.cell s6
             have f866 := (qw16.frozen (a := ⟨w1.heap.size, 0, none⟩) aX).trans f851
             have f867 := (qw16.frozen (a := ⟨w1.heap.size, 1, none⟩) aX).trans f852
             have f868 := (qw16.frozen (a := ⟨w1.heap.size, 2, none⟩) aX).trans f853
             have f869 := (qw16.frozen (a := ⟨w1.heap.size, 3, none⟩) aX).trans f854
             have sR := nlt aX qw16.size
             have sW := nlt sG qw16.size
             have t1 := nlt sH qw16.size
             obtain ⟨sS, sT, sU, sV, sX, sY, sZ, t0, t2, t3, t4, t5⟩ := mv12 qw16.cell s7 s8 s9 sA sI sJ sK sL sB sC sD sE
             clear sF s5 s6 f851 f852 f853 f854 aX s7 s8 s9 sA sG sI sJ sK sL sH sB sC sD sE
             have uw16 := vuf849.trans qw16
             clear qw16 vuf849
             go_wp2_with fail
             obtain ⟨W885, hW885⟩ : ∃ W885, W885 = (((w16.setCell ⟨w1.heap.size, 0, none⟩ (.int .i8 0)).setCell ⟨w1.heap.size, 1, none⟩ (.int .i64 0)).setCell ⟨w1.heap.size, 2, none⟩ (.int .i8 0)).setCell ⟨w1.heap.size, 3, none⟩ (.int .i64 0) := ⟨_, rfl⟩
             have hC : C4 w16 (w1.heap.size) (.int .i8 0) (.int .i64 0) (.int .i8 0) (.int .i64 0) := ⟨sS, sT, sU, sV, f866, f867, f868, f869, sR⟩
             have hN : C4 W885 (w1.heap.size) (.int .i8 0) (.int .i64 0) (.int .i8 0) (.int .i64 0) := by rw [hW885]; exact hC.fill (.int .i8 0) (.int .i64 0) (.int .i8 0) (.int .i64 0)
             have uW885 : Dn w W885 := by rw [hW885]; exact (Dn.setCell (Dn.setCell (Dn.setCell (Dn.setCell uw16 o66 _) o66 _) o66 _) o66 _)
             have t6 : W885.cell? ⟨w.heap.size, 0, none⟩ = some (.int .i8 (-1)) := by rw [hW885]; exact cell_far4 (n67) sO
             have t7 : W885.cell? ⟨w.heap.size, 1, none⟩ = some (.int .i64 0) := by rw [hW885]; exact cell_far4 (n67) sQ
             have t8 : w.heap.size < W885.heap.size := by rw [hW885]; simpa using sN
             have t9 : W885.cell? ⟨w13.heap.size, 0, none⟩ = some (.string ⟨#[45, 105, 110, 102, 46, 46, 45, 51]⟩) := by rw [hW885]; exact cell_far4 (fun e => n691 e.symm) sX
             have tA : W885.cell? ⟨w13.heap.size, 1, none⟩ = some (.string ⟨#[53, 46, 46, 51]⟩) := by rw [hW885]; exact cell_far4 (fun e => n691 e.symm) sY
             have tB : W885.cell? ⟨w13.heap.size, 2, none⟩ = some (.string ⟨#[105, 110, 102, 46, 46, 105, 110, 102]⟩) := by rw [hW885]; exact cell_far4 (fun e => n691 e.symm) sZ
             have tC : W885.cell? ⟨w13.heap.size, 3, none⟩ = some (.string ⟨#[49, 46, 46, 46, 51]⟩) := by rw [hW885]; exact cell_far4 (fun e => n691 e.symm) t0
             have tD : w13.heap.size < W885.heap.size := by rw [hW885]; simpa using sW
             have tE : W885.cell? ⟨w13.heap.size + 1, 0, none⟩ = some (.int .i64 0) := by rw [hW885]; exact cell_far4 (fun e => n692 e.symm) t2
             have tF : W885.cell? ⟨w13.heap.size + 1, 1, none⟩ = some (.int .i64 12) := by rw [hW885]; exact cell_far4 (fun e => n692 e.symm) t3
             have tG : W885.cell? ⟨w13.heap.size + 1, 2, none⟩ = some (.int .i64 4) := by rw [hW885]; exact cell_far4 (fun e => n692 e.symm) t4
             have tH : W885.cell? ⟨w13.heap.size + 1, 3, none⟩ = some (.int .i64 5) := by rw [hW885]; exact cell_far4 (fun e => n692 e.symm) t5
             have tI : w13.heap.size + 1 < W885.heap.size := by rw [hW885]; simpa using t1
             obtain ⟨tJ, tK, tL, tM, f903, f904, f905, f906, aY⟩ := hN
             rw [← hW885]
             clear hW885
             clear hC uw16 sS sT sU sV f866 f867 f868 f869 sR sO sQ sN sX sY sZ t0 sW t2 t3 t4 t5 t1
             have hS908 := kdN_10 (W := W885) (Dn.refl _) ⟨Dn.refl _, t6, t7, tJ, tK, tL, tM, tE, tF, tG, tH⟩
             have tN := Lib.hid t9
             have tO := Lib.hid tA
             have tP := Lib.hid tB
             have tQ := Lib.hid tC
             have HShS908 := Lib.hid hS908
             clear t6 t7 tJ tK tL tM t9 tA tB tC tE tF tG tH
             go_region_held3 (fun w' => Dn W885 w' ∧ w'.cell? ⟨w.heap.size, 0, none⟩ = some (.int .i8 (-1)) ∧ w'.cell? ⟨w.heap.size, 1, none⟩ = some (.int .i64 0) ∧ w'.cell? ⟨w1.heap.size, 0, none⟩ = some (.int .i8 0) ∧ w'.cell? ⟨w1.heap.size, 1, none⟩ = some (.int .i64 0) ∧ w'.cell? ⟨w1.heap.size, 2, none⟩ = some (.int .i8 0) ∧ w'.cell? ⟨w1.heap.size, 3, none⟩ = some (.int .i64 0) ∧ w'.cell? ⟨w13.heap.size + 1, 0, none⟩ = some (.int .i64 0) ∧ w'.cell? ⟨w13.heap.size + 1, 1, none⟩ = some (.int .i64 12) ∧ w'.cell? ⟨w13.heap.size + 1, 2, none⟩ = some (.int .i64 4) ∧ w'.cell? ⟨w13.heap.size + 1, 3, none⟩ = some (.int .i64 5))
               (first | exact kdN_10 ((Dn.refl _).drew) hS908 | exact kdN_10 ‹Dn _ _› ‹_› | exact kdN_10 (Up.dn ‹Up _ _›) ‹_› | assumption | exact kdN_10 ((Dn.refl _).alloc _) ‹_›)
               (first
                 | (go_at_call 17; refine (g9_any _ _ _ _ _ _ _ _ _ _ _ ?_).mono ?_; decide; rintro e wa ⟨rfl, qa⟩))
             all_goals
               clear hS908
               obtain ⟨uf923, tR, tS, tT, tU, tV, tW, tX, tY, tZ, u0⟩ := (‹Dn W885 _ ∧ _› : _ ∧ _)
               obtain ⟨w924, rfl⟩ : ∃ w924 : World, w924 = wa := ⟨_, rfl⟩
               have f925 := (uf923.frozen (a := ⟨w1.heap.size, 0, none⟩) aY).trans f903
               clear f903
               have f926 := (uf923.frozen (a := ⟨w1.heap.size, 1, none⟩) aY).trans f904
               clear f904
               have f927 := (uf923.frozen (a := ⟨w1.heap.size, 2, none⟩) aY).trans f905
               clear f905
               have f928 := (uf923.frozen (a := ⟨w1.heap.size, 3, none⟩) aY).trans f906
               clear f906
               have u1 := nlt t8 uf923.size
               clear t8
               have aZ := nlt aY uf923.size
               clear aY
               have u2 := nlt tD uf923.size
               clear tD
               have u3 := nlt tI uf923.size
               clear tI
               obtain ⟨u4, u5, u6, u7⟩ := mv4 uf923.cell tN.out tO.out tP.out tQ.out
               clear tN tO tP tQ
               have vuf923 := uW885.trans uf923
               clear uf923 uW885 HShS908
               go_wp2_with fail
               rw [rounds_succ]
               go_wp2_with fail
               refine (rnParse ⟨#[49, 46, 46, 46, 51]⟩ 0 0 0 0 5 _ (by decide) rp9_3 (hE.dn vuf923)).mono ?_
               rintro e w17 ⟨rfl, qw17⟩
               have u8 := nlt u1 qw17.size
               have u9 := qw17.cell tR
               have uA := qw17.cell tS
               have f940 := (qw17.frozen (a := ⟨w1.heap.size, 0, none⟩) aZ).trans f925
               have f941 := (qw17.frozen (a := ⟨w1.heap.size, 1, none⟩) aZ).trans f926
               have f942 := (qw17.frozen (a := ⟨w1.heap.size, 2, none⟩) aZ).trans f927
               have f943 := (qw17.frozen (a := ⟨w1.heap.size, 3, none⟩) aZ).trans f928
               have uB := nlt aZ qw17.size
               have uG := nlt u2 qw17.size
               have uL := nlt u3 qw17.size
               obtain ⟨uC, uD, uE, uF, uH, uI, uJ, uK, uM, uN, uO, uP⟩ := mv12 qw17.cell tT tU tV tW u4 u5 u6 u7 tX tY tZ u0
               clear u1 tR tS f925 f926 f927 f928 aZ tT tU tV tW u2 u4 u5 u6 u7 u3 tX tY tZ u0
               have uw17 := vuf923.trans qw17
               clear qw17 vuf923
               go_wp2_with fail
               obtain ⟨W959, hW959⟩ : ∃ W959, W959 = (((w17.setCell ⟨w1.heap.size, 0, none⟩ (.int .i8 0)).setCell ⟨w1.heap.size, 1, none⟩ (.int .i64 0)).setCell ⟨w1.heap.size, 2, none⟩ (.int .i8 0)).setCell ⟨w1.heap.size, 3, none⟩ (.int .i64 0) := ⟨_, rfl⟩
               have hC : C4 w17 (w1.heap.size) (.int .i8 0) (.int .i64 0) (.int .i8 0) (.int .i64 0) := ⟨uC, uD, uE, uF, f940, f941, f942, f943, uB⟩
               have hN : C4 W959 (w1.heap.size) (.int .i8 0) (.int .i64 0) (.int .i8 0) (.int .i64 0) := by rw [hW959]; exact hC.fill (.int .i8 0) (.int .i64 0) (.int .i8 0) (.int .i64 0)
               have uW959 : Dn w W959 := by rw [hW959]; exact (Dn.setCell (Dn.setCell (Dn.setCell (Dn.setCell uw17 o66 _) o66 _) o66 _) o66 _)
               have uQ : W959.cell? ⟨w.heap.size, 0, none⟩ = some (.int .i8 (-1)) := by rw [hW959]; exact cell_far4 (n67) u9
               have uR : W959.cell? ⟨w.heap.size, 1, none⟩ = some (.int .i64 0) := by rw [hW959]; exact cell_far4 (n67) uA
               have uS : w.heap.size < W959.heap.size := by rw [hW959]; simpa using u8
               have uT : W959.cell? ⟨w13.heap.size, 0, none⟩ = some (.string ⟨#[45, 105, 110, 102, 46, 46, 45, 51]⟩) := by rw [hW959]; exact cell_far4 (fun e => n691 e.symm) uH
               have uU : W959.cell? ⟨w13.heap.size, 1, none⟩ = some (.string ⟨#[53, 46, 46, 51]⟩) := by rw [hW959]; exact cell_far4 (fun e => n691 e.symm) uI
               have uV : W959.cell? ⟨w13.heap.size, 2, none⟩ = some (.string ⟨#[105, 110, 102, 46, 46, 105, 110, 102]⟩) := by rw [hW959]; exact cell_far4 (fun e => n691 e.symm) uJ
               have uW : W959.cell? ⟨w13.heap.size, 3, none⟩ = some (.string ⟨#[49, 46, 46, 46, 51]⟩) := by rw [hW959]; exact cell_far4 (fun e => n691 e.symm) uK
               have uX : w13.heap.size < W959.heap.size := by rw [hW959]; simpa using uG
               have uY : W959.cell? ⟨w13.heap.size + 1, 0, none⟩ = some (.int .i64 0) := by rw [hW959]; exact cell_far4 (fun e => n692 e.symm) uM
               have uZ : W959.cell? ⟨w13.heap.size + 1, 1, none⟩ = some (.int .i64 12) := by rw [hW959]; exact cell_far4 (fun e => n692 e.symm) uN
               have v0 : W959.cell? ⟨w13.heap.size + 1, 2, none⟩ = some (.int .i64 4) := by rw [hW959]; exact cell_far4 (fun e => n692 e.symm) uO
               have v1 : W959.cell? ⟨w13.heap.size + 1, 3, none⟩ = some (.int .i64 5) := by rw [hW959]; exact cell_far4 (fun e => n692 e.symm) uP
               have v2 : w13.heap.size + 1 < W959.heap.size := by rw [hW959]; simpa using uL
               obtain ⟨v3, v4, v5, v6, f977, f978, f979, f980, bA⟩ := hN
               rw [← hW959]
               clear hW959
               clear hC uw17 uC uD uE uF f940 f941 f942 f943 uB u9 uA u8 uH uI uJ uK uG uM uN uO uP uL
               have hS982 := kdN_10 (W := W959) (Dn.refl _) ⟨Dn.refl _, uQ, uR, v3, v4, v5, v6, uY, uZ, v0, v1⟩
               have v7 := Lib.hid uT
               have v8 := Lib.hid uU
               have v9 := Lib.hid uV
               have vA := Lib.hid uW
               have HShS982 := Lib.hid hS982
               clear uQ uR v3 v4 v5 v6 uT uU uV uW uY uZ v0 v1
               go_region_held3 (fun w' => Dn W959 w' ∧ w'.cell? ⟨w.heap.size, 0, none⟩ = some (.int .i8 (-1)) ∧ w'.cell? ⟨w.heap.size, 1, none⟩ = some (.int .i64 0) ∧ w'.cell? ⟨w1.heap.size, 0, none⟩ = some (.int .i8 0) ∧ w'.cell? ⟨w1.heap.size, 1, none⟩ = some (.int .i64 0) ∧ w'.cell? ⟨w1.heap.size, 2, none⟩ = some (.int .i8 0) ∧ w'.cell? ⟨w1.heap.size, 3, none⟩ = some (.int .i64 0) ∧ w'.cell? ⟨w13.heap.size + 1, 0, none⟩ = some (.int .i64 0) ∧ w'.cell? ⟨w13.heap.size + 1, 1, none⟩ = some (.int .i64 12) ∧ w'.cell? ⟨w13.heap.size + 1, 2, none⟩ = some (.int .i64 4) ∧ w'.cell? ⟨w13.heap.size + 1, 3, none⟩ = some (.int .i64 5))
                 (first | exact kdN_10 ((Dn.refl _).drew) hS982 | exact kdN_10 ‹Dn _ _› ‹_› | exact kdN_10 (Up.dn ‹Up _ _›) ‹_› | assumption | exact kdN_10 ((Dn.refl _).alloc _) ‹_›)
                 (first
                   | (go_at_call 17; refine (g9_any _ _ _ _ _ _ _ _ _ _ _ ?_).mono ?_; decide; rintro e wa ⟨rfl, qa⟩))
               all_goals
                 clear hS982
                 obtain ⟨uf997, wC, wD, wE, wF, wG, wH, wI, wJ, wK, wL⟩ := (‹Dn W959 _ ∧ _› : _ ∧ _)
                 obtain ⟨w998, rfl⟩ : ∃ w998 : World, w998 = wa := ⟨_, rfl⟩
                 have f999 := (uf997.frozen (a := ⟨w1.heap.size, 0, none⟩) bA).trans f977
                 clear f977
                 have f1000 := (uf997.frozen (a := ⟨w1.heap.size, 1, none⟩) bA).trans f978
                 clear f978
                 have f1001 := (uf997.frozen (a := ⟨w1.heap.size, 2, none⟩) bA).trans f979
                 clear f979
                 have f1002 := (uf997.frozen (a := ⟨w1.heap.size, 3, none⟩) bA).trans f980
                 clear f980
                 have l1003 := nlt uS uf997.size
                 clear uS
                 have l1004 := nlt bA uf997.size
                 clear bA
                 have l1005 := nlt uX uf997.size
                 clear uX
                 have l1006 := nlt v2 uf997.size
                 clear v2
                 obtain ⟨c1007, c1008, c1009, c1010⟩ := mv4 uf997.cell v7.out v8.out v9.out vA.out
                 clear v7 v8 v9 vA
                 have vuf997 := uW959.trans uf997
                 clear uf997 uW959 HShS982
                 go_wp2_with fail
                 rw [rounds_succ]
                 go_wp2_with fail
                 go_ret
                 exact ⟨rfl, vuf997⟩
end Go.Proofs.YtcdkeiolblifkaaDoor
