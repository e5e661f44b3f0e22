/-
  WALKS OF circalaw04: num, bad, lives.
-/
import Derived.Test.YtnaoadmffnbalaaDoorYearsB
import Derived.Test.YtnaoadmffnbalaaDoorRefFour
namespace Go.Proofs.YtnaoadmffnbalaaDoor
open Go.RowKit

theorem num4 (n : Int) (w : World) :
    Calls Tryd.prog 22 #[.int .i64 n, .int .i64 0, .int .i64 n] w fun e w' => e = .returned (.bool true) ∧ w = w' := by
  go_enter Tryd.func22, Tryd.ntmps22
  go_wp2_with fail
  go_ret
  exact ⟨rfl, rfl⟩
theorem bad4 (w : World) :
    Calls Tryd.prog 18 #[.int .i64 0, .int .i64 6] w fun e w' => e = .returned (.bool true) ∧ w = w' := by
  go_enter Tryd.func18, Tryd.ntmps18
  go_wp2_with fail
  go_ret
  exact ⟨rfl, rfl⟩

theorem leap_at (y : Int) (b : Bool) (w : World) (hb : Cal.lp y = b) (hy : IsY y) (hE : Steps w) :
    Calls Tryd.prog 26 #[.int .i64 y] w fun e w' => e = .returned (.tuple #[.bool b, .int .i64 0]) ∧ Up w w' := by
  rw [← hb]; exact leap_yes y w hy hE
theorem ystart_at (y n : Int) (w : World) (hb : Cal.sy y = n) (hy : IsY y) (hE : Steps w) :
    Calls Tryd.prog 20 #[.int .i64 y] w fun e w' => e = .returned (.tuple #[.int .i64 n, .int .i64 0]) ∧ Up w w' := by
  rw [← hb]; exact ystart_yes y w hy hE
theorem yend_at (y n : Int) (w : World) (hb : Cal.sy (y + 1) - 1 = n) (hy : IsY y) (hE : Steps w) :
    Calls Tryd.prog 21 #[.int .i64 y] w fun e w' => e = .returned (.tuple #[.int .i64 n, .int .i64 0]) ∧ Up w w' := by
  rw [← hb]; exact yend_yes y w hy hE
theorem of_at (d y : Int) (w : World) (hb : Cal.yr d = y) (hd : I64 d) (hy : IsY y) (hE : Steps w) :
    Calls Tryd.prog 16 #[.int .i64 d] w fun e w' => e = .returned (.tuple #[.int .i64 y, .int .i64 0]) ∧ Up w w' := by
  subst hb; exact of_yes d w hd hy hE
theorem leaps_at (a b n : Int) (w : World) (hn : max 0 (Cal.bf (b + 1) - Cal.bf a) = n) (h : IsY a) (h' : IsY b) (hE : Steps w) :
    Calls Tryd.prog 23 #[.int .i64 a, .int .i64 b] w fun e w' => e = .returned (.tuple #[.int .i64 n, .int .i64 0]) ∧ Up w w' := by
  rw [← hn]; exact leaps_yes a b w h h' hE
instance (a : Int) : Decidable (I64 a) := by unfold I64; infer_instance

set_option maxHeartbeats 4000000 in
set_option maxRecDepth 100000 in
theorem lives4 (w : World) (hE : Steps w) :
    Calls Tryd.prog 19 #[] w fun e w' => e = .returned (.bool true) ∧ Up w w' := by
  obtain ⟨W1, hW1⟩ : ∃ W1, W1 = w.alloc (.cells #[.int .i64 0, .int .i64 1900, .int .i64 2000, .int .i64 (-4), .int .i64 (-100)] 2) := ⟨_, rfl⟩
  have u1 : Up w W1 := by rw [hW1]; exact (Up.refl _).alloc _
  have d0 : W1.cell? ⟨w.heap.size, 0, none⟩ = some (.int .i64 0) := by rw [hW1]; simp
  have d1 : W1.cell? ⟨w.heap.size, 1, none⟩ = some (.int .i64 1900) := by rw [hW1]; simp
  have d2 : W1.cell? ⟨w.heap.size, 2, none⟩ = some (.int .i64 2000) := by rw [hW1]; simp
  have d3 : W1.cell? ⟨w.heap.size, 3, none⟩ = some (.int .i64 (-4)) := by rw [hW1]; simp
  have d4 : W1.cell? ⟨w.heap.size, 4, none⟩ = some (.int .i64 (-100)) := by rw [hW1]; simp
  have HW := Lib.hid hW1
  clear hW1
  go_enter Tryd.func19, Tryd.ntmps19
  go_wp2_with fail
  rw [← HW.out]
  clear HW
  go_loopw [2] (fun i wr => ∃ k : Int, 0 ≤ k ∧ k ≤ 5 ∧ i = .int .i64 k ∧ Up W1 wr) (fun i _ => (5 - intOf i).toNat)
  case atStart => exact ⟨0, by omega, by omega, rfl, Up.refl _⟩
  case round =>
    obtain ⟨k, hk0, hk, rfl, hu⟩ := hrel
    have hUr := u1.trans hu
    have hEr := hE.up hUr
    have e0 := hu.cell d0
    have e1 := hu.cell d1
    have e2 := hu.cell d2
    have e3 := hu.cell d3
    have e4 := hu.cell d4
    have hk' : k = 0 ∨ k = 1 ∨ k = 2 ∨ k = 3 ∨ k = 4 ∨ k = 5 := by omega
    clear hk0 hk d0 d1 d2 d3 d4
    rcases hk' with rfl | rfl | rfl | rfl | rfl | rfl
    · go_wp2_with fail
      refine (leap_at _ true _ (by decide) (by decide) hEr).mono ?_
      rintro e w1 ⟨rfl, hu1⟩
      go_wp2_with fail
      go_roundw
      case rel => exact ⟨_, by decide, by decide, rfl, hu.trans hu1⟩
      case measure => simp [intOf]
    · go_wp2_with fail
      refine (leap_at 1900 false _ (by decide) (by decide) hEr).mono ?_
      rintro e w1 ⟨rfl, hu1⟩
      go_wp2_with fail
      go_roundw
      case rel => exact ⟨_, by decide, by decide, rfl, hu.trans hu1⟩
      case measure => simp [intOf]
    · go_wp2_with fail
      refine (leap_at 2000 true _ (by decide) (by decide) hEr).mono ?_
      rintro e w1 ⟨rfl, hu1⟩
      go_wp2_with fail
      go_roundw
      case rel => exact ⟨_, by decide, by decide, rfl, hu.trans hu1⟩
      case measure => simp [intOf]
    · go_wp2_with fail
      refine (leap_at (-4) true _ (by decide) (by decide) hEr).mono ?_
      rintro e w1 ⟨rfl, hu1⟩
      go_wp2_with fail
      go_roundw
      case rel => exact ⟨_, by decide, by decide, rfl, hu.trans hu1⟩
      case measure => simp [intOf]
    · go_wp2_with fail
      refine (leap_at (-100) false _ (by decide) (by decide) hEr).mono ?_
      rintro e w1 ⟨rfl, hu1⟩
      go_wp2_with fail
      go_roundw
      case rel => exact ⟨_, by decide, by decide, rfl, hu.trans hu1⟩
      case measure => simp [intOf]
    · clear e0 e1 e2 e3 e4
      obtain ⟨W2, hW2⟩ : ∃ W2, W2 = (wr.alloc (.cells #[.int .i64 0, .int .i64 1, .int .i64 (-1), .int .i64 1970, .int .i64 2000, .int .i64 10000000000000000] 2)).alloc (.cells #[.int .i64 0, .int .i64 366, .int .i64 (-365), .int .i64 719528, .int .i64 730485, .int .i64 3652425000000000000] 2) := ⟨_, rfl⟩
      have u2 : Up wr W2 := by rw [hW2]; exact ((Up.refl _).alloc _).alloc _
      have a0 : W2.cell? ⟨wr.heap.size, 0, none⟩ = some (.int .i64 0) := by rw [hW2]; simp
      have a1 : W2.cell? ⟨wr.heap.size, 1, none⟩ = some (.int .i64 1) := by rw [hW2]; simp
      have a2 : W2.cell? ⟨wr.heap.size, 2, none⟩ = some (.int .i64 (-1)) := by rw [hW2]; simp
      have a3 : W2.cell? ⟨wr.heap.size, 3, none⟩ = some (.int .i64 1970) := by rw [hW2]; simp
      have a4 : W2.cell? ⟨wr.heap.size, 4, none⟩ = some (.int .i64 2000) := by rw [hW2]; simp
      have a5 : W2.cell? ⟨wr.heap.size, 5, none⟩ = some (.int .i64 10000000000000000) := by rw [hW2]; simp
      have b0 : W2.cell? ⟨wr.heap.size + 1, 0, none⟩ = some (.int .i64 0) := by rw [hW2]; simp
      have b1 : W2.cell? ⟨wr.heap.size + 1, 1, none⟩ = some (.int .i64 366) := by rw [hW2]; simp
      have b2 : W2.cell? ⟨wr.heap.size + 1, 2, none⟩ = some (.int .i64 (-365)) := by rw [hW2]; simp
      have b3 : W2.cell? ⟨wr.heap.size + 1, 3, none⟩ = some (.int .i64 719528) := by rw [hW2]; simp
      have b4 : W2.cell? ⟨wr.heap.size + 1, 4, none⟩ = some (.int .i64 730485) := by rw [hW2]; simp
      have b5 : W2.cell? ⟨wr.heap.size + 1, 5, none⟩ = some (.int .i64 3652425000000000000) := by rw [hW2]; simp
      have HW2 := Lib.hid hW2
      clear hW2
      go_wp2_with fail
      rw [← HW2.out]
      clear HW2
      obtain ⟨wo, rfl⟩ : ∃ wo : World, wo = wr := ⟨_, rfl⟩
      go_loopw [7] (fun i wr => ∃ k : Int, 0 ≤ k ∧ k ≤ 6 ∧ i = .int .i64 k ∧ Up W2 wr) (fun i _ => (6 - intOf i).toNat)
      case atStart => exact ⟨0, by omega, by omega, rfl, Up.refl _⟩
      case round =>
        obtain ⟨k, hk0, hk, rfl, hv⟩ := hrel
        have hUv := hUr.trans (u2.trans hv)
        have hEv := hE.up hUv
        have e0 := hv.cell a0
        have f0 := hv.cell b0
        have e1 := hv.cell a1
        have f1 := hv.cell b1
        have e2 := hv.cell a2
        have f2 := hv.cell b2
        have e3 := hv.cell a3
        have f3 := hv.cell b3
        have e4 := hv.cell a4
        have f4 := hv.cell b4
        have e5 := hv.cell a5
        have f5 := hv.cell b5
        have hk' : k = 0 ∨ k = 1 ∨ k = 2 ∨ k = 3 ∨ k = 4 ∨ k = 5 ∨ k = 6 := by omega
        clear hk0 hk a0 a1 a2 a3 a4 a5 b0 b1 b2 b3 b4 b5
        rcases hk' with rfl | rfl | rfl | rfl | rfl | rfl | rfl
        · go_wp2_with fail
          refine (ystart_at 0 0 _ (by decide +kernel) (by decide) hEv).mono ?_
          rintro e w1 ⟨rfl, hu1⟩
          have g := hu1.cell f0
          clear e0 e1 e2 e3 e4 e5 f0 f1 f2 f3 f4 f5
          go_wp2_with fail
          refine (num4 0 _).mono ?_
          rintro e w2 ⟨rfl, rfl⟩
          go_wp2_with fail
          go_roundw
          case rel => exact ⟨_, by decide, by decide, rfl, hv.trans hu1⟩
          case measure => simp [intOf]
        · go_wp2_with fail
          refine (ystart_at 1 366 _ (by decide +kernel) (by decide) hEv).mono ?_
          rintro e w1 ⟨rfl, hu1⟩
          have g := hu1.cell f1
          clear e0 e1 e2 e3 e4 e5 f0 f1 f2 f3 f4 f5
          go_wp2_with fail
          refine (num4 366 _).mono ?_
          rintro e w2 ⟨rfl, rfl⟩
          go_wp2_with fail
          go_roundw
          case rel => exact ⟨_, by decide, by decide, rfl, hv.trans hu1⟩
          case measure => simp [intOf]
        · go_wp2_with fail
          refine (ystart_at (-1) (-365) _ (by decide +kernel) (by decide) hEv).mono ?_
          rintro e w1 ⟨rfl, hu1⟩
          have g := hu1.cell f2
          clear e0 e1 e2 e3 e4 e5 f0 f1 f2 f3 f4 f5
          go_wp2_with fail
          refine (num4 (-365) _).mono ?_
          rintro e w2 ⟨rfl, rfl⟩
          go_wp2_with fail
          go_roundw
          case rel => exact ⟨_, by decide, by decide, rfl, hv.trans hu1⟩
          case measure => simp [intOf]
        · go_wp2_with fail
          refine (ystart_at 1970 719528 _ (by decide +kernel) (by decide) hEv).mono ?_
          rintro e w1 ⟨rfl, hu1⟩
          have g := hu1.cell f3
          clear e0 e1 e2 e3 e4 e5 f0 f1 f2 f3 f4 f5
          go_wp2_with fail
          refine (num4 719528 _).mono ?_
          rintro e w2 ⟨rfl, rfl⟩
          go_wp2_with fail
          go_roundw
          case rel => exact ⟨_, by decide, by decide, rfl, hv.trans hu1⟩
          case measure => simp [intOf]
        · go_wp2_with fail
          refine (ystart_at 2000 730485 _ (by decide +kernel) (by decide) hEv).mono ?_
          rintro e w1 ⟨rfl, hu1⟩
          have g := hu1.cell f4
          clear e0 e1 e2 e3 e4 e5 f0 f1 f2 f3 f4 f5
          go_wp2_with fail
          refine (num4 730485 _).mono ?_
          rintro e w2 ⟨rfl, rfl⟩
          go_wp2_with fail
          go_roundw
          case rel => exact ⟨_, by decide, by decide, rfl, hv.trans hu1⟩
          case measure => simp [intOf]
        · go_wp2_with fail
          refine (ystart_at 10000000000000000 3652425000000000000 _ (by decide +kernel) (by decide) hEv).mono ?_
          rintro e w1 ⟨rfl, hu1⟩
          have g := hu1.cell f5
          clear e0 e1 e2 e3 e4 e5 f0 f1 f2 f3 f4 f5
          go_wp2_with fail
          refine (num4 3652425000000000000 _).mono ?_
          rintro e w2 ⟨rfl, rfl⟩
          go_wp2_with fail
          go_roundw
          case rel => exact ⟨_, by decide, by decide, rfl, hv.trans hu1⟩
          case measure => simp [intOf]
        · clear e0 e1 e2 e3 e4 e5 f0 f1 f2 f3 f4 f5 hu hv hUr u2 hEr
          go_wp2_with fail
          refine (yend_at 1999 730484 _ (by decide +kernel) (by decide) (hE.up hUv)).mono ?_
          rintro e w1 ⟨rfl, q1⟩
          have hU1 := hUv.trans q1
          clear hUv q1
          go_wp2_with fail
          refine (of_at 730484 1999 _ (by decide +kernel) (by decide) (by decide) (hE.up hU1)).mono ?_
          rintro e w2 ⟨rfl, q2⟩
          have hU2 := hU1.trans q2
          clear hU1 q2
          go_wp2_with fail
          refine (of_at (-1) (-1) _ (by decide +kernel) (by decide) (by decide) (hE.up hU2)).mono ?_
          rintro e w3 ⟨rfl, q3⟩
          have hU3 := hU2.trans q3
          clear hU2 q3
          go_wp2_with fail
          refine (of_at 0 0 _ (by decide +kernel) (by decide) (by decide) (hE.up hU3)).mono ?_
          rintro e w4 ⟨rfl, q4⟩
          have hU4 := hU3.trans q4
          clear hU3 q4
          go_wp2_with fail
          refine (num4 730484 _).mono ?_
          rintro e w5 ⟨rfl, rfl⟩
          go_wp2_with fail
          refine (num4 1999 _).mono ?_
          rintro e w6 ⟨rfl, rfl⟩
          go_wp2_with fail
          refine (num4 (-1) _).mono ?_
          rintro e w7 ⟨rfl, rfl⟩
          go_wp2_with fail
          refine (num4 0 _).mono ?_
          rintro e w8 ⟨rfl, rfl⟩
          go_wp2_with fail
          refine (leaps_at 1 400 97 _ (by decide +kernel) (by decide) (by decide) (hE.up hU4)).mono ?_
          rintro e w9 ⟨rfl, q9⟩
          have hU9 := hU4.trans q9
          clear hU4 q9
          go_wp2_with fail
          refine (leaps_at (-4) 4 3 _ (by decide +kernel) (by decide) (by decide) (hE.up hU9)).mono ?_
          rintro e w10 ⟨rfl, q10⟩
          have hU10 := hU9.trans q10
          clear hU9 q10
          go_wp2_with fail
          refine (leaps_at 5 4 0 _ (by decide +kernel) (by decide) (by decide) (hE.up hU10)).mono ?_
          rintro e w11 ⟨rfl, q11⟩
          have hU11 := hU10.trans q11
          clear hU10 q11
          go_wp2_with fail
          refine (yend_at 10000000000000000 3652425000000000365 _ (by decide +kernel) (by decide) (hE.up hU11)).mono ?_
          rintro e w12 ⟨rfl, q12⟩
          have hU12 := hU11.trans q12
          clear hU11 q12
          go_wp2_with fail
          refine (ystart_no 10000000000000001 _ (by decide)).mono ?_
          rintro e w13 ⟨rfl, rfl⟩
          go_wp2_with fail
          refine (num4 97 _).mono ?_
          rintro e w14 ⟨rfl, rfl⟩
          go_wp2_with fail
          refine (num4 3 _).mono ?_
          rintro e w15 ⟨rfl, rfl⟩
          go_wp2_with fail
          refine (num4 0 _).mono ?_
          rintro e w16 ⟨rfl, rfl⟩
          go_wp2_with fail
          refine (num4 3652425000000000365 _).mono ?_
          rintro e w17 ⟨rfl, rfl⟩
          go_wp2_with fail
          refine (bad4 _).mono ?_
          rintro e w18 ⟨rfl, rfl⟩
          go_wp2_with fail
          go_ret
          exact ⟨rfl, hU12⟩
end Go.Proofs.YtnaoadmffnbalaaDoor
