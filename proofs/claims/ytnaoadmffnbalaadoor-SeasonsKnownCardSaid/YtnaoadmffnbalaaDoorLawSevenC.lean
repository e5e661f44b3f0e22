/-
  WALKS OF circalaw07: lives. (Printed by wip/gen/law7.py.)
-/
import Derived.Test.YtnaoadmffnbalaaDoorLawSevenB
namespace Go.Proofs.YtnaoadmffnbalaaDoor
open Go.RowKit
/-- What is left of 'Up' behind an append. -/
structure Dn (w w' : World) : Prop where
  below : Below w.heap.size w w'
theorem Dn.of_up {a b c : World} (h : Up a b) (k : Below b.heap.size b c) : Dn a c := ⟨h.below.trans (k.mono h.size)⟩
theorem Dn.up {a b c : World} (h : Dn a b) (k : Up b c) : Dn a c := ⟨h.below.trans (k.below.mono h.below.size)⟩
theorem Dn.size {a b : World} (h : Dn a b) : a.heap.size ≤ b.heap.size := h.below.size
theorem lrun_any (a b n : Int) (w : World) (h : n = 0 ∨ (n = 6 ∧ a = 0 ∧ b = 0)) :
    Calls Tryd.prog 53 #[.agg #[.int .i8 0, .int .i64 a, .int .i8 0, .int .i64 b], .int .i64 n, runV a b, .int .i64 n] w fun e w' => e = .returned (.bool true) ∧ Up w w' := by
  rcases h with rfl | ⟨rfl, rfl, rfl⟩
  · exact lrun_ok a b w
  · exact lrun_bad 6 w (Or.inl rfl)
theorem smonths_at (c a b : Int) (w : World) (h : IsC c) (ha : fromS c = a) (hb : manyS c = b) (hE : EnvS w) :
    Calls Tryd.prog 48 #[.int .i64 c] w fun e w' => e = .returned (.tuple #[.int .i64 a, .int .i64 b, .int .i64 0]) ∧ Up w w' := by
  subst ha hb; exact smonths_yes c w h hE
theorem srun_at (y c a b : Int) (w : World) (h : IsC c) (hs : IsSY y c) (ha : sLo y c = a) (hb : sHi y c = b) (hE : EnvS w) :
    Calls Tryd.prog 51 #[.int .i64 y, .int .i64 c] w fun e w' => e = .returned (.tuple #[.agg #[.int .i8 0, .int .i64 a, .int .i8 0, .int .i64 b], .int .i64 0]) ∧ Up w w' := by
  subst ha hb; exact srun_yes y c w h hs hE
theorem srun_none (y c : Int) (w : World) (h : IsC c) (hs : ¬ IsSY y c) (hE : EnvS w) :
    Calls Tryd.prog 51 #[.int .i64 y, .int .i64 c] w fun e w' => e = .returned (.tuple #[.agg #[.int .i8 0, .int .i64 0, .int .i8 0, .int .i64 0], .int .i64 6]) ∧ Up w w' := srun_bad y c w h hs hE
theorem sof_at (d c y : Int) (w : World) (hd : I64 d) (h : IsC c) (hy : IsY (Cal.yr d)) (ho : IsOf d c) (hz : ofY d c = y) (hE : EnvS w) :
    Calls Tryd.prog 55 #[.int .i64 d, .int .i64 c] w fun e w' => e = .returned (.tuple #[.int .i64 y, .bool true, .int .i64 0]) ∧ Up w w' := by
  subst hz; exact sof_yes d c w hd h hy ho hE
theorem scodes_at (d : Int) (l : List Int) (w : World) (hd : I64 d) (hy : IsY (Cal.yr d)) (hl : codesL d 21 = l) (hE : EnvS w) :
    Calls Tryd.prog 56 #[.int .i64 d] w fun e w' => ∃ v, e = .returned (.tuple #[v, .int .i64 0]) ∧ ListC w' v l ∧ Below w.heap.size w w' := by
  subst hl; exact scodes_yes d w hd hy hE
theorem ListC.up {w w' : World} {v : Value} {l : List Int} (h : ListC w v l) (k : Up w w') : ListC w' v l := by
  rcases h with h | ⟨g, h1, h2⟩
  · exact Or.inl h
  · exact Or.inr ⟨g, h1, fun j x hx => k.cell (h2 j x hx)⟩
theorem lw6 (w : World) (t : TypeId) : ∀ (j : Nat) (x : Int), ([24, 28, 30, 33, 37, 40] : List Int)[j]? = some x → (w.alloc (.cells #[.int .i64 24, .int .i64 28, .int .i64 30, .int .i64 33, .int .i64 37, .int .i64 40] t)).cell? ⟨w.heap.size, j, none⟩ = some (.int .i64 x) := by
  intro j x h
  match j, h with
  | 0, h => simp at h; subst h; simp [go_sem]
  | 1, h => simp at h; subst h; simp [go_sem]
  | 2, h => simp at h; subst h; simp [go_sem]
  | 3, h => simp at h; subst h; simp [go_sem]
  | 4, h => simp at h; subst h; simp [go_sem]
  | 5, h => simp at h; subst h; simp [go_sem]
  | n + 6, h => simp at h
theorem k16 {w w1 w2 : World} {a0 a1 a2 a3 a4 a5 a6 a7 a8 a9 a10 a11 a12 a13 a14 a15 : Addr} {v0 v1 v2 v3 v4 v5 v6 v7 v8 v9 v10 v11 v12 v13 v14 v15 : Value} (h : Up w w1 ∧ w1.cell? a0 = some v0 ∧ w1.cell? a1 = some v1 ∧ w1.cell? a2 = some v2 ∧ w1.cell? a3 = some v3 ∧ w1.cell? a4 = some v4 ∧ w1.cell? a5 = some v5 ∧ w1.cell? a6 = some v6 ∧ w1.cell? a7 = some v7 ∧ w1.cell? a8 = some v8 ∧ w1.cell? a9 = some v9 ∧ w1.cell? a10 = some v10 ∧ w1.cell? a11 = some v11 ∧ w1.cell? a12 = some v12 ∧ w1.cell? a13 = some v13 ∧ w1.cell? a14 = some v14 ∧ w1.cell? a15 = some v15) (k : Up w1 w2) : Up w w2 ∧ w2.cell? a0 = some v0 ∧ w2.cell? a1 = some v1 ∧ w2.cell? a2 = some v2 ∧ w2.cell? a3 = some v3 ∧ w2.cell? a4 = some v4 ∧ w2.cell? a5 = some v5 ∧ w2.cell? a6 = some v6 ∧ w2.cell? a7 = some v7 ∧ w2.cell? a8 = some v8 ∧ w2.cell? a9 = some v9 ∧ w2.cell? a10 = some v10 ∧ w2.cell? a11 = some v11 ∧ w2.cell? a12 = some v12 ∧ w2.cell? a13 = some v13 ∧ w2.cell? a14 = some v14 ∧ w2.cell? a15 = some v15 := by
  obtain ⟨h, h0, h1, h2, h3, h4, h5, h6, h7, h8, h9, h10, h11, h12, h13, h14, h15⟩ := h
  exact ⟨h.trans k, k.cell h0, k.cell h1, k.cell h2, k.cell h3, k.cell h4, k.cell h5, k.cell h6, k.cell h7, k.cell h8, k.cell h9, k.cell h10, k.cell h11, k.cell h12, k.cell h13, k.cell h14, k.cell h15⟩
set_option maxHeartbeats 8000000 in
set_option maxRecDepth 100000 in
theorem lives7 (w : World) (hE : EnvS w) :
    Calls Tryd.prog 54 #[] w fun e w' => e = .returned (.bool true) ∧ Dn w w' := by
  obtain ⟨W1, hW1⟩ : ∃ W1, W1 = ((w.alloc (.cells #[.int .i64 24, .int .i64 38, .int .i64 41] 3)).alloc (.cells #[.int .i64 12, .int .i64 5, .int .i64 7] 3)).alloc (.cells #[.int .i64 3, .int .i64 4, .int .i64 6] 3) := ⟨_, rfl⟩
  have u1 : Up w W1 := by rw [hW1]; exact (((Up.refl _).alloc _).alloc _).alloc _
  have d0_0 : W1.cell? ⟨w.heap.size, 0, none⟩ = some (.int .i64 24) := by rw [hW1]; simp [go_sem]
  have d0_1 : W1.cell? ⟨w.heap.size, 1, none⟩ = some (.int .i64 38) := by rw [hW1]; simp [go_sem]
  have d0_2 : W1.cell? ⟨w.heap.size, 2, none⟩ = some (.int .i64 41) := by rw [hW1]; simp [go_sem]
  have d1_0 : W1.cell? ⟨w.heap.size + 1, 0, none⟩ = some (.int .i64 12) := by rw [hW1]; simp [go_sem]
  have d1_1 : W1.cell? ⟨w.heap.size + 1, 1, none⟩ = some (.int .i64 5) := by rw [hW1]; simp [go_sem]
  have d1_2 : W1.cell? ⟨w.heap.size + 1, 2, none⟩ = some (.int .i64 7) := by rw [hW1]; simp [go_sem]
  have d2_0 : W1.cell? ⟨w.heap.size + 1 + 1, 0, none⟩ = some (.int .i64 3) := by rw [hW1]; simp [go_sem]
  have d2_1 : W1.cell? ⟨w.heap.size + 1 + 1, 1, none⟩ = some (.int .i64 4) := by rw [hW1]; simp [go_sem]
  have d2_2 : W1.cell? ⟨w.heap.size + 1 + 1, 2, none⟩ = some (.int .i64 6) := by rw [hW1]; simp [go_sem]
  have HW := Lib.hid hW1
  clear hW1
  go_enter Tryd.func54, Tryd.ntmps54
  go_wp2_with fail
  rw [← HW.out]
  clear HW
  go_loopw [4] (fun i wr => ∃ k : Int, 0 ≤ k ∧ k ≤ 3 ∧ i = .int .i64 k ∧ Up W1 wr) (fun i _ => (3 - intOf i).toNat)
  case atStart => exact ⟨0, by omega, by omega, rfl, Up.refl _⟩
  case round =>
    obtain ⟨k, hk0, hk, rfl, hu⟩ := hrel
    have hUr := u1.trans hu
    have hEr := hE.up hUr
    have ed0_0 := hu.cell d0_0
    have ed0_1 := hu.cell d0_1
    have ed0_2 := hu.cell d0_2
    have ed1_0 := hu.cell d1_0
    have ed1_1 := hu.cell d1_1
    have ed1_2 := hu.cell d1_2
    have ed2_0 := hu.cell d2_0
    have ed2_1 := hu.cell d2_1
    have ed2_2 := hu.cell d2_2
    have hk' : k = 0 ∨ k = 1 ∨ k = 2 ∨ k = 3 := by omega
    clear hk0 hk d0_0 d0_1 d0_2 d1_0 d1_1 d1_2 d2_0 d2_1 d2_2
    rcases hk' with rfl | rfl | rfl | rfl
    · go_wp2_with fail
      refine (smonths_at 24 12 3 _ (by decide) (by decide) (by decide) hEr).mono ?_
      rintro e w2 ⟨rfl, q2⟩
      have g1 := q2.cell ed1_0
      have g2 := q2.cell ed2_0
      have hf2 := hu.trans q2
      clear q2 ed0_0 ed0_1 ed0_2 ed1_0 ed1_1 ed1_2 ed2_0 ed2_1 ed2_2
      go_wp2_with fail
      go_roundw
      case rel => exact ⟨_, by decide, by decide, rfl, hf2⟩
      case measure => simp [intOf]
    · go_wp2_with fail
      refine (smonths_at 38 5 4 _ (by decide) (by decide) (by decide) hEr).mono ?_
      rintro e w2 ⟨rfl, q2⟩
      have g1 := q2.cell ed1_1
      have g2 := q2.cell ed2_1
      have hf2 := hu.trans q2
      clear q2 ed0_0 ed0_1 ed0_2 ed1_0 ed1_1 ed1_2 ed2_0 ed2_1 ed2_2
      go_wp2_with fail
      go_roundw
      case rel => exact ⟨_, by decide, by decide, rfl, hf2⟩
      case measure => simp [intOf]
    · go_wp2_with fail
      refine (smonths_at 41 7 6 _ (by decide) (by decide) (by decide) hEr).mono ?_
      rintro e w2 ⟨rfl, q2⟩
      have g1 := q2.cell ed1_2
      have g2 := q2.cell ed2_2
      have hf2 := hu.trans q2
      clear q2 ed0_0 ed0_1 ed0_2 ed1_0 ed1_1 ed1_2 ed2_0 ed2_1 ed2_2
      go_wp2_with fail
      go_roundw
      case rel => exact ⟨_, by decide, by decide, rfl, hf2⟩
      case measure => simp [intOf]
    · clear ed0_0 ed0_1 ed0_2 ed1_0 ed1_1 ed1_2 ed2_0 ed2_1 ed2_2 hEr hu
      go_wp2_with fail
      refine (smonths_no 20 _ (by decide)).mono ?_
      rintro e w11 ⟨rfl, rfl⟩
      go_wp2_with fail
      refine (srun_at 2000 21 730545 730636 _ (by decide) (by decide +kernel) (by decide +kernel) (by decide +kernel) (hE.up hUr)).mono ?_
      rintro e z0 ⟨rfl, q0⟩
      obtain ⟨V0, hV0⟩ : ∃ V, z0.alloc (.cells #[.int .i8 0, .int .i64 730545, .int .i8 0, .int .i64 730636] 68) = V := ⟨_, rfl⟩
      have p0 : Up z0 V0 := by rw [← hV0]; exact (Up.refl _).alloc _
      have r0 := q0.trans p0
      have x0_0 : V0.cell? ⟨z0.heap.size, 0, none⟩ = some (.int .i8 0) := by rw [← hV0]; simp [go_sem]
      have x0_1 : V0.cell? ⟨z0.heap.size, 1, none⟩ = some (.int .i64 730545) := by rw [← hV0]; simp [go_sem]
      have x0_2 : V0.cell? ⟨z0.heap.size, 2, none⟩ = some (.int .i8 0) := by rw [← hV0]; simp [go_sem]
      have x0_3 : V0.cell? ⟨z0.heap.size, 3, none⟩ = some (.int .i64 730636) := by rw [← hV0]; simp [go_sem]
      have hq0 := hUr.trans r0
      have HV0 := Lib.hid hV0.symm
      clear hV0 p0 q0 r0 hUr
      go_wp2_with fail
      rw [← HV0.out]
      clear HV0
      refine (srun_at 1999 24 730454 730544 _ (by decide) (by decide +kernel) (by decide +kernel) (by decide +kernel) (hE.up hq0)).mono ?_
      rintro e z1 ⟨rfl, q1⟩
      obtain ⟨V1, hV1⟩ : ∃ V, z1.alloc (.cells #[.int .i8 0, .int .i64 730454, .int .i8 0, .int .i64 730544] 68) = V := ⟨_, rfl⟩
      have p1 : Up z1 V1 := by rw [← hV1]; exact (Up.refl _).alloc _
      have r1 := q1.trans p1
      replace x0_0 := r1.cell x0_0
      replace x0_1 := r1.cell x0_1
      replace x0_2 := r1.cell x0_2
      replace x0_3 := r1.cell x0_3
      have x1_0 : V1.cell? ⟨z1.heap.size, 0, none⟩ = some (.int .i8 0) := by rw [← hV1]; simp [go_sem]
      have x1_1 : V1.cell? ⟨z1.heap.size, 1, none⟩ = some (.int .i64 730454) := by rw [← hV1]; simp [go_sem]
      have x1_2 : V1.cell? ⟨z1.heap.size, 2, none⟩ = some (.int .i8 0) := by rw [← hV1]; simp [go_sem]
      have x1_3 : V1.cell? ⟨z1.heap.size, 3, none⟩ = some (.int .i64 730544) := by rw [← hV1]; simp [go_sem]
      have hq1 := hq0.trans r1
      have HV1 := Lib.hid hV1.symm
      clear hV1 p1 q1 r1 hq0
      go_wp2_with fail
      rw [← HV1.out]
      clear HV1
      refine (srun_none 10000000000000000 24 _ (by decide) (by decide +kernel) (hE.up hq1)).mono ?_
      rintro e z2 ⟨rfl, q2⟩
      obtain ⟨V2, hV2⟩ : ∃ V, z2.alloc (.cells #[.int .i8 0, .int .i64 0, .int .i8 0, .int .i64 0] 68) = V := ⟨_, rfl⟩
      have p2 : Up z2 V2 := by rw [← hV2]; exact (Up.refl _).alloc _
      have r2 := q2.trans p2
      replace x0_0 := r2.cell x0_0
      replace x0_1 := r2.cell x0_1
      replace x0_2 := r2.cell x0_2
      replace x0_3 := r2.cell x0_3
      replace x1_0 := r2.cell x1_0
      replace x1_1 := r2.cell x1_1
      replace x1_2 := r2.cell x1_2
      replace x1_3 := r2.cell x1_3
      have x2_0 : V2.cell? ⟨z2.heap.size, 0, none⟩ = some (.int .i8 0) := by rw [← hV2]; simp [go_sem]
      have x2_1 : V2.cell? ⟨z2.heap.size, 1, none⟩ = some (.int .i64 0) := by rw [← hV2]; simp [go_sem]
      have x2_2 : V2.cell? ⟨z2.heap.size, 2, none⟩ = some (.int .i8 0) := by rw [← hV2]; simp [go_sem]
      have x2_3 : V2.cell? ⟨z2.heap.size, 3, none⟩ = some (.int .i64 0) := by rw [← hV2]; simp [go_sem]
      have hq2 := hq1.trans r2
      have HV2 := Lib.hid hV2.symm
      clear hV2 p2 q2 r2 hq1
      go_wp2_with fail
      rw [← HV2.out]
      clear HV2
      refine (srun_at 10000000000000000 36 3652425000000000274 3652425000000000365 _ (by decide) (by decide +kernel) (by decide +kernel) (by decide +kernel) (hE.up hq2)).mono ?_
      rintro e z3 ⟨rfl, q3⟩
      obtain ⟨V3, hV3⟩ : ∃ V, z3.alloc (.cells #[.int .i8 0, .int .i64 3652425000000000274, .int .i8 0, .int .i64 3652425000000000365] 68) = V := ⟨_, rfl⟩
      have p3 : Up z3 V3 := by rw [← hV3]; exact (Up.refl _).alloc _
      have r3 := q3.trans p3
      replace x0_0 := r3.cell x0_0
      replace x0_1 := r3.cell x0_1
      replace x0_2 := r3.cell x0_2
      replace x0_3 := r3.cell x0_3
      replace x1_0 := r3.cell x1_0
      replace x1_1 := r3.cell x1_1
      replace x1_2 := r3.cell x1_2
      replace x1_3 := r3.cell x1_3
      replace x2_0 := r3.cell x2_0
      replace x2_1 := r3.cell x2_1
      replace x2_2 := r3.cell x2_2
      replace x2_3 := r3.cell x2_3
      have x3_0 : V3.cell? ⟨z3.heap.size, 0, none⟩ = some (.int .i8 0) := by rw [← hV3]; simp [go_sem]
      have x3_1 : V3.cell? ⟨z3.heap.size, 1, none⟩ = some (.int .i64 3652425000000000274) := by rw [← hV3]; simp [go_sem]
      have x3_2 : V3.cell? ⟨z3.heap.size, 2, none⟩ = some (.int .i8 0) := by rw [← hV3]; simp [go_sem]
      have x3_3 : V3.cell? ⟨z3.heap.size, 3, none⟩ = some (.int .i64 3652425000000000365) := by rw [← hV3]; simp [go_sem]
      have hq3 := hq2.trans r3
      have HV3 := Lib.hid hV3.symm
      clear hV3 p3 q3 r3 hq2
      go_wp2_with fail
      rw [← HV3.out]
      clear HV3
      have hS : Up V3 V3 ∧ V3.cell? ⟨z0.heap.size, 0, none⟩ = some (.int .i8 0) ∧ V3.cell? ⟨z0.heap.size, 1, none⟩ = some (.int .i64 730545) ∧ V3.cell? ⟨z0.heap.size, 2, none⟩ = some (.int .i8 0) ∧ V3.cell? ⟨z0.heap.size, 3, none⟩ = some (.int .i64 730636) ∧ V3.cell? ⟨z1.heap.size, 0, none⟩ = some (.int .i8 0) ∧ V3.cell? ⟨z1.heap.size, 1, none⟩ = some (.int .i64 730454) ∧ V3.cell? ⟨z1.heap.size, 2, none⟩ = some (.int .i8 0) ∧ V3.cell? ⟨z1.heap.size, 3, none⟩ = some (.int .i64 730544) ∧ V3.cell? ⟨z2.heap.size, 0, none⟩ = some (.int .i8 0) ∧ V3.cell? ⟨z2.heap.size, 1, none⟩ = some (.int .i64 0) ∧ V3.cell? ⟨z2.heap.size, 2, none⟩ = some (.int .i8 0) ∧ V3.cell? ⟨z2.heap.size, 3, none⟩ = some (.int .i64 0) ∧ V3.cell? ⟨z3.heap.size, 0, none⟩ = some (.int .i8 0) ∧ V3.cell? ⟨z3.heap.size, 1, none⟩ = some (.int .i64 3652425000000000274) ∧ V3.cell? ⟨z3.heap.size, 2, none⟩ = some (.int .i8 0) ∧ V3.cell? ⟨z3.heap.size, 3, none⟩ = some (.int .i64 3652425000000000365) := ⟨Up.refl _, x0_0, x0_1, x0_2, x0_3, x1_0, x1_1, x1_2, x1_3, x2_0, x2_1, x2_2, x2_3, x3_0, x3_1, x3_2, x3_3⟩
      go_region_held3 (fun w' => Up V3 w' ∧ w'.cell? ⟨z0.heap.size, 0, none⟩ = some (.int .i8 0) ∧ w'.cell? ⟨z0.heap.size, 1, none⟩ = some (.int .i64 730545) ∧ w'.cell? ⟨z0.heap.size, 2, none⟩ = some (.int .i8 0) ∧ w'.cell? ⟨z0.heap.size, 3, none⟩ = some (.int .i64 730636) ∧ w'.cell? ⟨z1.heap.size, 0, none⟩ = some (.int .i8 0) ∧ w'.cell? ⟨z1.heap.size, 1, none⟩ = some (.int .i64 730454) ∧ w'.cell? ⟨z1.heap.size, 2, none⟩ = some (.int .i8 0) ∧ w'.cell? ⟨z1.heap.size, 3, none⟩ = some (.int .i64 730544) ∧ w'.cell? ⟨z2.heap.size, 0, none⟩ = some (.int .i8 0) ∧ w'.cell? ⟨z2.heap.size, 1, none⟩ = some (.int .i64 0) ∧ w'.cell? ⟨z2.heap.size, 2, none⟩ = some (.int .i8 0) ∧ w'.cell? ⟨z2.heap.size, 3, none⟩ = some (.int .i64 0) ∧ w'.cell? ⟨z3.heap.size, 0, none⟩ = some (.int .i8 0) ∧ w'.cell? ⟨z3.heap.size, 1, none⟩ = some (.int .i64 3652425000000000274) ∧ w'.cell? ⟨z3.heap.size, 2, none⟩ = some (.int .i8 0) ∧ w'.cell? ⟨z3.heap.size, 3, none⟩ = some (.int .i64 3652425000000000365)) (first | exact k16 hS (Up.refl _).drew | exact k16 ‹_› ‹_›)
        (first | (go_at_call 67; refine (ldays _ _ _).mono ?_; rintro e w1 ⟨rfl, hu1⟩) | (go_at_call 53; refine (lrun_any _ _ _ _ (by decide)).mono ?_; rintro e w1 ⟨rfl, hu1⟩))
      clear hS
      have hf : Up V3 _ := (‹Up V3 _ ∧ _› : _ ∧ _).1
      have hR := hq3.trans hf
      clear hf hq3 x0_0 x0_1 x0_2 x0_3 x1_0 x1_1 x1_2 x1_3 x2_0 x2_1 x2_2 x2_3 x3_0 x3_1 x3_2 x3_3
      go_wp2_with fail
      refine (sof_at 730485 24 1999 _ (by decide) (by decide) (by decide +kernel) (by decide +kernel) (by decide +kernel) (hE.up hR)).mono ?_
      rintro e w31 ⟨rfl, qw31⟩
      have uw31 := hR.trans qw31
      clear qw31 hR
      go_wp2_with fail
      refine (sof_at 730485 33 2000 _ (by decide) (by decide) (by decide +kernel) (by decide +kernel) (by decide +kernel) (hE.up uw31)).mono ?_
      rintro e w32 ⟨rfl, qw32⟩
      have uw32 := uw31.trans qw32
      clear qw32 uw31
      go_wp2_with fail
      refine (sof_no3 730485 21 _ (by decide) (by decide) (by decide +kernel) (by decide +kernel) (hE.up uw32)).mono ?_
      rintro e w33 ⟨rfl, qw33⟩
      have uw33 := uw32.trans qw33
      clear qw33 uw32
      go_wp2_with fail
      refine (scodes_at 730485 [24, 28, 30, 33, 37, 40] _ (by decide) (by decide +kernel) (by decide +kernel) (hE.up uw33)).mono ?_
      rintro e wc ⟨v, rfl, hL, hB⟩
      have hD : Dn w wc := Dn.of_up uw33 hB
      clear hB uw33
      go_wp2_with fail
      refine (llist [24, 28, 30, 33, 37, 40] _ _ _ (by decide) (hL.up ((Up.refl _).alloc _)) (Or.inr ⟨_, _, rfl, lw6 _ _⟩)).mono ?_
      rintro e w1 ⟨rfl, hu1⟩
      go_wp2_with fail
      go_ret
      exact ⟨rfl, hD.up (((Up.refl _).alloc _).trans hu1)⟩
end Go.Proofs.YtnaoadmffnbalaaDoor
