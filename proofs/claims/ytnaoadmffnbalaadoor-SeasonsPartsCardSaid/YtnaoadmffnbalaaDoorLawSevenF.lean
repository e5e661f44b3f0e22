/-
  WALKS OF circalaw07: SeasonsParts returns true. (Printed by wip/gen/law7f.py.)
-/
import Derived.Test.YtnaoadmffnbalaaDoorLawSevenE
import Derived.Outline
namespace Go.Proofs.YtnaoadmffnbalaaDoor
open Go.RowKit
theorem part_gen (y c a b : Int) (hy : IsY y) (hf : fromS c = a) (hm : manyS c = b) (h1 : 1 ≤ a) (h2 : 1 ≤ b) (h3 : a + b ≤ 13) : IsSY y c ∧ sLo y c = Cal.sm y a ∧ sHi y c = Cal.sm y (a + b) - 1 := by
  have e1 : lastS y c / 12 = y := by unfold lastS mi; omega
  have e2 : lastS y c % 12 + 1 + 1 = a + b := by unfold lastS mi; omega
  refine ⟨⟨hy, by rw [e1]; exact hy⟩, by unfold sLo; rw [hf], ?_⟩
  unfold sHi
  rw [e1, e2]
theorem row_gen (y c k : Int) (hy : IsY y) (hy' : IsY (y + 1)) (hc : IsC c) (hf : fromS c = 3 * k + 3) (hm : manyS c = 3) (h1 : 0 ≤ k) (h2 : k ≤ 3) : IsSY y c ∧ sLo y c = mS (12 * y + (3 * k + 2)) ∧ sHi y c = mS (12 * y + (3 * k + 5)) - 1 := by
  have e : IsY (lastS y c / 12) := by
    by_cases hk : k = 3
    · have : lastS y c / 12 = y + 1 := by unfold lastS mi; omega
      rw [this]; exact hy'
    · have : lastS y c / 12 = y := by unfold lastS mi; omega
      rw [this]; exact hy
  refine ⟨⟨hy, e⟩, ?_, ?_⟩
  · rw [sLo_eq y c hc]; congr 1; unfold mi; omega
  · rw [sHi_eq]; congr 2; unfold lastS mi; omega
theorem srun_is (y c a b : Int) (w : World) (h : IsC c) (hs : IsSY y c ∧ sLo y c = a ∧ sHi y c = b) (hE : EnvS w) :
    Calls Tryd.prog 51 #[.int .i64 y, .int .i64 c] w fun e w' => e = .returned (.tuple #[.agg #[.int .i8 0, .int .i64 a, .int .i8 0, .int .i64 b], .int .i64 0]) ∧ Up w w' := by
  obtain ⟨h1, rfl, rfl⟩ := hs; exact srun_yes y c w h h1 hE
theorem sm_low (y a : Int) (hy : IsY y) (h1 : 1 ≤ a) (h2 : a ≤ 13) : -3652425000000000000 ≤ Cal.sm y a ∧ Cal.sm y a ≤ 3652425000000000366 := by
  have a1 := sm_mono y 1 a (by omega) h1 h2
  have a2 := sm_mono y a 13 h1 h2 (by omega)
  rw [sm_one] at a1
  rw [sm_13] at a2
  have := sy_bdY y hy
  omega
/-- A run that lies in a variable that may be written. -/
structure RunB (n : Nat) (a b : Int) (w : World) : Prop where
  c : RunC n a b w
  f : ∀ i, w.frozen? ⟨n, i, none⟩ = false
  s : n < w.heap.size
theorem RunB.new (w : World) (a b : Int) (t : TypeId) : RunB w.heap.size a b (w.alloc (.cells #[.int .i8 0, .int .i64 a, .int .i8 0, .int .i64 b] t)) :=
  ⟨RunC.new _ _ _ _, fun i => by simp [go_sem], by simp⟩
theorem RunB.up {n : Nat} {a b : Int} {w w' : World} (h : RunB n a b w) (k : Up w w') : RunB n a b w' :=
  ⟨h.c.up k, fun i => (k.frozen (a := ⟨n, i, none⟩) h.s).trans (h.f i), Nat.lt_of_lt_of_le h.s k.size⟩
theorem RunB.set {n : Nat} {a b : Int} {w : World} (h : RunB n a b w) (a' b' : Int) : RunB n a' b' (setRun w n (.int .i8 0) (.int .i64 a') (.int .i8 0) (.int .i64 b')) := by
  obtain ⟨⟨c0, c1, c2, c3⟩, f, s⟩ := h
  have o : ∀ (w : World) (i j : Nat) (v : Value), i ≠ j → (w.setCell ⟨n, i, none⟩ v).cell? ⟨n, j, none⟩ = w.cell? ⟨n, j, none⟩ := fun w i j v hij => World.cell?_setCell_other _ _ _ _ (fun h => hij (congrArg Addr.off h))
  refine ⟨?_, ?_, ?_⟩
  · unfold setRun
    refine ⟨?_, ?_, ?_, ?_⟩
    · rw [o _ _ _ _ (by decide), o _ _ _ _ (by decide), o _ _ _ _ (by decide)]
      exact World.cell?_setCell_same _ _ _ c0
    · rw [o _ _ _ _ (by decide), o _ _ _ _ (by decide)]
      exact World.cell?_setCell_same _ _ _ (u := .int .i64 a) (by rw [o _ _ _ _ (by decide)]; exact c1)
    · rw [o _ _ _ _ (by decide)]
      exact World.cell?_setCell_same _ _ _ (u := .int .i8 0) (by rw [o _ _ _ _ (by decide), o _ _ _ _ (by decide)]; exact c2)
    · exact World.cell?_setCell_same _ _ _ (u := .int .i64 b) (by rw [o _ _ _ _ (by decide), o _ _ _ _ (by decide), o _ _ _ _ (by decide)]; exact c3)
  · intro i; unfold setRun; simp [go_sem]; exact f i
  · unfold setRun; simpa using s
theorem mS_low (y t : Int) (h0 : IsY y) (h1 : t / 12 = y) : -3652425000000000000 ≤ mS t ∧ mS t ≤ 3652425000000000366 := by
  unfold mS
  rw [h1]
  exact sm_low y _ h0 (by omega) (by omega)
theorem row_hi (y k : Int) (hy : IsY y) (hy' : IsY (y + 1)) (h1 : 0 ≤ k) (h2 : k ≤ 3) : -3652425000000000000 ≤ mS (12 * y + (3 * k + 5)) ∧ mS (12 * y + (3 * k + 5)) ≤ 3652425000000000366 := by
  by_cases hk : k = 3
  · exact mS_low (y + 1) _ hy' (by omega)
  · exact mS_low y _ hy (by omega)
theorem next_row (y c : Int) (hy' : IsY (y + 1)) (hf : fromS c = 3) (hm : manyS c = 3) : IsSY (y + 1) c ∧ sLo (y + 1) c = mS (12 * y + (3 * 3 + 5)) ∧ sHi (y + 1) c = Cal.sm (y + 1) 6 - 1 := by
  obtain ⟨h1, h2, h3⟩ := part_gen (y + 1) c 3 3 hy' hf hm (by decide) (by decide) (by decide)
  refine ⟨h1, ?_, h3⟩
  rw [h2]
  unfold mS
  congr 1 <;> omega
set_option maxHeartbeats 8000000 in
set_option maxRecDepth 100000 in
theorem seasonsParts_no (y : Int) (w : World) (hy : ¬ IsY y) (hE : EnvS w) :
    Calls Tryd.prog 14 #[.int .i64 y] w fun e w' => e = .returned (.bool true) ∧ Dn w w' := by
  go_enter Tryd.func14, Tryd.ntmps14
  go_wp2_with fail
  refine (rIs_no _ _ hy).mono ?_
  rintro e w1 ⟨rfl, rfl⟩
  go_wp2_with fail
  refine (srun_no2 _ _ _ (by decide) hy hE).mono ?_
  rintro e w2 ⟨rfl, u2⟩
  unfold runV
  go_wp2_with fail
  refine (lives7 _ (hE.up (u2.alloc _))).mono ?_
  rintro e w3 ⟨rfl, q3⟩
  go_wp2_with fail
  go_ret
  exact ⟨rfl, (u2.alloc _).dn.trans q3⟩
set_option maxHeartbeats 8000000 in
set_option maxRecDepth 100000 in
theorem seasonsParts_yes (y : Int) (w : World) (hy : IsY y) (hE : EnvS w) :
    Calls Tryd.prog 14 #[.int .i64 y] w fun e w' => e = .returned (.bool true) ∧ Dn w w' := by
  obtain ⟨W1, hW1⟩ : ∃ W1, W1 = (w.alloc (.cells #[.int .i64 33, .int .i64 37, .int .i64 40] 3)).alloc (.cells #[.int .i64 36, .int .i64 39, .int .i64 41] 3) := ⟨_, rfl⟩
  have u1 : Up w W1 := by rw [hW1]; exact ((Up.refl _).alloc _).alloc _
  have d0_0 : W1.cell? ⟨w.heap.size, 0, none⟩ = some (.int .i64 33) := by rw [hW1]; simp [go_sem]
  have d0_1 : W1.cell? ⟨w.heap.size, 1, none⟩ = some (.int .i64 37) := by rw [hW1]; simp [go_sem]
  have d0_2 : W1.cell? ⟨w.heap.size, 2, none⟩ = some (.int .i64 40) := by rw [hW1]; simp [go_sem]
  have d1_0 : W1.cell? ⟨w.heap.size + 1, 0, none⟩ = some (.int .i64 36) := by rw [hW1]; simp [go_sem]
  have d1_1 : W1.cell? ⟨w.heap.size + 1, 1, none⟩ = some (.int .i64 39) := by rw [hW1]; simp [go_sem]
  have d1_2 : W1.cell? ⟨w.heap.size + 1, 2, none⟩ = some (.int .i64 41) := by rw [hW1]; simp [go_sem]
  have HW := Lib.hid hW1
  have HY := Lib.hid hy
  obtain ⟨y1, y2⟩ := hy
  clear hW1
  go_enter Tryd.func14, Tryd.ntmps14
  go_wp2_with fail
  refine (rIs_yes _ _ HY.out).mono ?_
  rintro e w1 ⟨rfl, rfl⟩
  go_wp2_with fail
  rw [← HW.out]
  clear HW
  go_loopw [7] (fun i wr => ∃ k : Int, 0 ≤ k ∧ k ≤ 3 ∧ i = .int .i64 k ∧ Up W1 wr) (fun i _ => (3 - intOf i).toNat)
  case atStart => exact ⟨0, by omega, by omega, rfl, Up.refl _⟩
  case round =>
    obtain ⟨k, hk0, hk, rfl, hu⟩ := hrel
    obtain ⟨wo, rfl⟩ : ∃ wo : World, wo = wr := ⟨_, rfl⟩
    have hk' : k = 0 ∨ k = 1 ∨ k = 2 ∨ k = 3 := by omega
    clear hk0 hk
    rcases hk' with rfl | rfl | rfl | rfl
    · have g1 := hu.cell d0_0
      have g2 := hu.cell d1_0
      clear d0_0 d0_1 d0_2 d1_0 d1_1 d1_2
      go_wp2_with fail
      refine (rStart _ _ HY.out.b).mono ?_
      rintro e w2 ⟨rfl, rfl⟩
      go_wp2_with fail
      go_loopw [8, 9] (fun dv cv wr => ∃ c : Int, 33 ≤ c ∧ c ≤ 37 ∧ cv = .int .i64 c ∧ dv = .int .i64 (Cal.sm y (3 * (c - 33) + 1)) ∧ Up wo wr) (fun _ cv _ => (38 - intOf cv).toNat)
      case atStart => exact ⟨33, by omega, by omega, rfl, by rw [show (3 * (33 - 33) + 1 : Int) = 1 from by omega, sm_one], by first | exact (Up.refl _) | exact (Up.refl _).drew | exact (Up.refl _).drewN _⟩
      case round =>
        obtain ⟨c, c1, c2, rfl, rfl, hr⟩ := hrel
        have g3 := hr.cell g2
        by_cases hlt : c ≤ 36
        · have HP : IsSY y c ∧ sLo y c = Cal.sm y (3 * (c - 33) + 1) ∧ sHi y c = Cal.sm y (3 * (c - 33) + 1 + 3) - 1 := by
            have hc : c = 33 ∨ c = 34 ∨ c = 35 ∨ c = 36 := by omega
            rcases hc with rfl | rfl | rfl | rfl <;> exact part_gen y _ _ _ HY.out (by decide) (by decide) (by decide) (by decide) (by decide)
          have s1 := sm_low y (3 * (c - 33) + 1 + 3) HY.out (by omega) (by omega)
          have HN := Lib.hid (show (3 * (c - 33) + 1 + 3 : Int) = 3 * (c + 1 - 33) + 1 by omega)
          have t1 : decide (c ≤ 36) = true := by simp; omega
          have hEr := hE.up (u1.trans (hu.trans hr))
          go_wp2_with fail
          refine (srun_is _ _ _ _ _ (by exact ⟨by omega, by omega⟩) HP hEr).mono ?_
          rintro e w3 ⟨rfl, q3⟩
          have u3' := hr.trans q3
          clear hr q3 g3 hEr
          go_wp2_with fail
          go_roundw
          case rel => exact ⟨c + 1, by omega, by omega, rfl, by rw [← HN.out], by first | exact u3'.alloc _ | exact (u3'.alloc _).drew | exact (u3'.alloc _).drewN _⟩
          case measure => simp [intOf]; omega
        · obtain rfl : c = 37 := by omega
          have t1 : decide (37 ≤ 36) = false := by decide
          rw [show Cal.sm y (3 * (37 - 33) + 1) = Cal.sy y + Cal.len y from by rw [show (3 * (37 - 33) + 1 : Int) = 13 from by omega, sm_13, Cal.sy_succ]]
          have s1 := sy_bdY y HY.out
          have s2 := len_bd y
          go_wp2_with fail
          refine (rStart _ _ HY.out.b).mono ?_
          rintro e w4 ⟨rfl, rfl⟩
          go_wp2_with fail
          refine (rLen _ _ HY.out.b).mono ?_
          rintro e w5 ⟨rfl, rfl⟩
          go_wp2_with fail
          go_roundw
          case rel => exact ⟨_, by decide, by decide, rfl, by first | exact hu.trans hr | exact (hu.trans hr).drew | exact (hu.trans hr).drewN _⟩
          case measure => simp [intOf]
    · have g1 := hu.cell d0_1
      have g2 := hu.cell d1_1
      clear d0_0 d0_1 d0_2 d1_0 d1_1 d1_2
      go_wp2_with fail
      refine (rStart _ _ HY.out.b).mono ?_
      rintro e w2 ⟨rfl, rfl⟩
      go_wp2_with fail
      go_loopw [8, 9] (fun dv cv wr => ∃ c : Int, 37 ≤ c ∧ c ≤ 40 ∧ cv = .int .i64 c ∧ dv = .int .i64 (Cal.sm y (4 * (c - 37) + 1)) ∧ Up wo wr) (fun _ cv _ => (41 - intOf cv).toNat)
      case atStart => exact ⟨37, by omega, by omega, rfl, by rw [show (4 * (37 - 37) + 1 : Int) = 1 from by omega, sm_one], by first | exact (Up.refl _) | exact (Up.refl _).drew | exact (Up.refl _).drewN _⟩
      case round =>
        obtain ⟨c, c1, c2, rfl, rfl, hr⟩ := hrel
        have g3 := hr.cell g2
        by_cases hlt : c ≤ 39
        · have HP : IsSY y c ∧ sLo y c = Cal.sm y (4 * (c - 37) + 1) ∧ sHi y c = Cal.sm y (4 * (c - 37) + 1 + 4) - 1 := by
            have hc : c = 37 ∨ c = 38 ∨ c = 39 := by omega
            rcases hc with rfl | rfl | rfl <;> exact part_gen y _ _ _ HY.out (by decide) (by decide) (by decide) (by decide) (by decide)
          have s1 := sm_low y (4 * (c - 37) + 1 + 4) HY.out (by omega) (by omega)
          have HN := Lib.hid (show (4 * (c - 37) + 1 + 4 : Int) = 4 * (c + 1 - 37) + 1 by omega)
          have t1 : decide (c ≤ 39) = true := by simp; omega
          have hEr := hE.up (u1.trans (hu.trans hr))
          go_wp2_with fail
          refine (srun_is _ _ _ _ _ (by exact ⟨by omega, by omega⟩) HP hEr).mono ?_
          rintro e w3 ⟨rfl, q3⟩
          have u3' := hr.trans q3
          clear hr q3 g3 hEr
          go_wp2_with fail
          go_roundw
          case rel => exact ⟨c + 1, by omega, by omega, rfl, by rw [← HN.out], by first | exact u3'.alloc _ | exact (u3'.alloc _).drew | exact (u3'.alloc _).drewN _⟩
          case measure => simp [intOf]; omega
        · obtain rfl : c = 40 := by omega
          have t1 : decide (40 ≤ 39) = false := by decide
          rw [show Cal.sm y (4 * (40 - 37) + 1) = Cal.sy y + Cal.len y from by rw [show (4 * (40 - 37) + 1 : Int) = 13 from by omega, sm_13, Cal.sy_succ]]
          have s1 := sy_bdY y HY.out
          have s2 := len_bd y
          go_wp2_with fail
          refine (rStart _ _ HY.out.b).mono ?_
          rintro e w4 ⟨rfl, rfl⟩
          go_wp2_with fail
          refine (rLen _ _ HY.out.b).mono ?_
          rintro e w5 ⟨rfl, rfl⟩
          go_wp2_with fail
          go_roundw
          case rel => exact ⟨_, by decide, by decide, rfl, by first | exact hu.trans hr | exact (hu.trans hr).drew | exact (hu.trans hr).drewN _⟩
          case measure => simp [intOf]
    · have g1 := hu.cell d0_2
      have g2 := hu.cell d1_2
      clear d0_0 d0_1 d0_2 d1_0 d1_1 d1_2
      go_wp2_with fail
      refine (rStart _ _ HY.out.b).mono ?_
      rintro e w2 ⟨rfl, rfl⟩
      go_wp2_with fail
      go_loopw [8, 9] (fun dv cv wr => ∃ c : Int, 40 ≤ c ∧ c ≤ 42 ∧ cv = .int .i64 c ∧ dv = .int .i64 (Cal.sm y (6 * (c - 40) + 1)) ∧ Up wo wr) (fun _ cv _ => (43 - intOf cv).toNat)
      case atStart => exact ⟨40, by omega, by omega, rfl, by rw [show (6 * (40 - 40) + 1 : Int) = 1 from by omega, sm_one], by first | exact (Up.refl _) | exact (Up.refl _).drew | exact (Up.refl _).drewN _⟩
      case round =>
        obtain ⟨c, c1, c2, rfl, rfl, hr⟩ := hrel
        have g3 := hr.cell g2
        by_cases hlt : c ≤ 41
        · have HP : IsSY y c ∧ sLo y c = Cal.sm y (6 * (c - 40) + 1) ∧ sHi y c = Cal.sm y (6 * (c - 40) + 1 + 6) - 1 := by
            have hc : c = 40 ∨ c = 41 := by omega
            rcases hc with rfl | rfl <;> exact part_gen y _ _ _ HY.out (by decide) (by decide) (by decide) (by decide) (by decide)
          have s1 := sm_low y (6 * (c - 40) + 1 + 6) HY.out (by omega) (by omega)
          have HN := Lib.hid (show (6 * (c - 40) + 1 + 6 : Int) = 6 * (c + 1 - 40) + 1 by omega)
          have t1 : decide (c ≤ 41) = true := by simp; omega
          have hEr := hE.up (u1.trans (hu.trans hr))
          go_wp2_with fail
          refine (srun_is _ _ _ _ _ (by exact ⟨by omega, by omega⟩) HP hEr).mono ?_
          rintro e w3 ⟨rfl, q3⟩
          have u3' := hr.trans q3
          clear hr q3 g3 hEr
          go_wp2_with fail
          go_roundw
          case rel => exact ⟨c + 1, by omega, by omega, rfl, by rw [← HN.out], by first | exact u3'.alloc _ | exact (u3'.alloc _).drew | exact (u3'.alloc _).drewN _⟩
          case measure => simp [intOf]; omega
        · obtain rfl : c = 42 := by omega
          have t1 : decide (42 ≤ 41) = false := by decide
          rw [show Cal.sm y (6 * (42 - 40) + 1) = Cal.sy y + Cal.len y from by rw [show (6 * (42 - 40) + 1 : Int) = 13 from by omega, sm_13, Cal.sy_succ]]
          have s1 := sy_bdY y HY.out
          have s2 := len_bd y
          go_wp2_with fail
          refine (rStart _ _ HY.out.b).mono ?_
          rintro e w4 ⟨rfl, rfl⟩
          go_wp2_with fail
          refine (rLen _ _ HY.out.b).mono ?_
          rintro e w5 ⟨rfl, rfl⟩
          go_wp2_with fail
          go_roundw
          case rel => exact ⟨_, by decide, by decide, rfl, by first | exact hu.trans hr | exact (hu.trans hr).drew | exact (hu.trans hr).drewN _⟩
          case measure => simp [intOf]
    · clear d0_0 d0_1 d0_2 d1_0 d1_1 d1_2
      have uo := u1.trans hu
      clear u1 hu
      go_wp2_with fail
      by_cases hz : IsY (y + 1)
      · have HZ := Lib.hid hz
        obtain ⟨z1, z2⟩ := hz
        refine (rIs_yes _ _ HZ.out).mono ?_
        rintro e w2 ⟨rfl, rfl⟩
        obtain ⟨W2, hW2⟩ : ∃ W2, W2 = (((wo.alloc (.cells #[.int .i64 21, .int .i64 22, .int .i64 23, .int .i64 24] 3)).alloc (.cells #[.int .i64 25, .int .i64 26, .int .i64 27, .int .i64 28] 3)).alloc (.cells #[.int .i64 31, .int .i64 32, .int .i64 29, .int .i64 30] 3)).alloc (.cells #[.slice (some ⟨wo.heap.size, 0, none⟩) 4 4, .slice (some ⟨wo.heap.size + 1, 0, none⟩) 4 4, .slice (some ⟨wo.heap.size + 1 + 1, 0, none⟩) 4 4] 76) := ⟨_, rfl⟩
        have u2 : Up wo W2 := by rw [hW2]; exact ((((Up.refl _).alloc _).alloc _).alloc _).alloc _
        have r0_0 : W2.cell? ⟨wo.heap.size, 0, none⟩ = some (.int .i64 21) := by rw [hW2]; simp [go_sem]
        have r0_1 : W2.cell? ⟨wo.heap.size, 1, none⟩ = some (.int .i64 22) := by rw [hW2]; simp [go_sem]
        have r0_2 : W2.cell? ⟨wo.heap.size, 2, none⟩ = some (.int .i64 23) := by rw [hW2]; simp [go_sem]
        have r0_3 : W2.cell? ⟨wo.heap.size, 3, none⟩ = some (.int .i64 24) := by rw [hW2]; simp [go_sem]
        have r1_0 : W2.cell? ⟨wo.heap.size + 1, 0, none⟩ = some (.int .i64 25) := by rw [hW2]; simp [go_sem]
        have r1_1 : W2.cell? ⟨wo.heap.size + 1, 1, none⟩ = some (.int .i64 26) := by rw [hW2]; simp [go_sem]
        have r1_2 : W2.cell? ⟨wo.heap.size + 1, 2, none⟩ = some (.int .i64 27) := by rw [hW2]; simp [go_sem]
        have r1_3 : W2.cell? ⟨wo.heap.size + 1, 3, none⟩ = some (.int .i64 28) := by rw [hW2]; simp [go_sem]
        have r2_0 : W2.cell? ⟨wo.heap.size + 1 + 1, 0, none⟩ = some (.int .i64 31) := by rw [hW2]; simp [go_sem]
        have r2_1 : W2.cell? ⟨wo.heap.size + 1 + 1, 1, none⟩ = some (.int .i64 32) := by rw [hW2]; simp [go_sem]
        have r2_2 : W2.cell? ⟨wo.heap.size + 1 + 1, 2, none⟩ = some (.int .i64 29) := by rw [hW2]; simp [go_sem]
        have r2_3 : W2.cell? ⟨wo.heap.size + 1 + 1, 3, none⟩ = some (.int .i64 30) := by rw [hW2]; simp [go_sem]
        have s0 : W2.cell? ⟨wo.heap.size + 1 + 1 + 1, 0, none⟩ = some (.slice (some ⟨wo.heap.size, 0, none⟩) 4 4) := by rw [hW2]; simp [go_sem]
        have s1 : W2.cell? ⟨wo.heap.size + 1 + 1 + 1, 1, none⟩ = some (.slice (some ⟨wo.heap.size + 1, 0, none⟩) 4 4) := by rw [hW2]; simp [go_sem]
        have s2 : W2.cell? ⟨wo.heap.size + 1 + 1 + 1, 2, none⟩ = some (.slice (some ⟨wo.heap.size + 1 + 1, 0, none⟩) 4 4) := by rw [hW2]; simp [go_sem]
        have HW2 := Lib.hid hW2
        have uq := uo.trans u2
        clear hW2 uo u2
        go_wp2_with fail
        rw [← HW2.out]
        clear HW2
        go_loopw [13] (fun i wr => ∃ k : Int, 0 ≤ k ∧ k ≤ 3 ∧ i = .int .i64 k ∧ Up W2 wr) (fun i _ => (3 - intOf i).toNat)
        case atStart => exact ⟨0, by omega, by omega, rfl, Up.refl _⟩
        case round =>
          obtain ⟨k, hk0, hk, rfl, hu⟩ := hrel
          obtain ⟨wp, rfl⟩ : ∃ wp : World, wp = wr := ⟨_, rfl⟩
          have hk' : k = 0 ∨ k = 1 ∨ k = 2 ∨ k = 3 := by omega
          clear hk0 hk
          rcases hk' with rfl | rfl | rfl | rfl
          · have a0 := hu.cell r0_0
            have a1 := hu.cell r0_1
            have a2 := hu.cell r0_2
            have a3 := hu.cell r0_3
            have s := hu.cell s0
            have up := uq.trans hu
            clear r0_0 r0_1 r0_2 r0_3 r1_0 r1_1 r1_2 r1_3 r2_0 r2_1 r2_2 r2_3 s0 s1 s2
            go_wp2_with fail
            refine (srun_is _ _ _ _ _ (by decide) (next_row y 21 HZ.out (by decide) (by decide)) (hE.up up)).mono ?_
            rintro e w6 ⟨rfl, q6⟩
            go_wp2_with fail
            go_loopw [16] (fun kv wr => ∃ j hi : Int, -1 ≤ j ∧ j ≤ 3 ∧ kv = .int .i64 j ∧ RunB w6.heap.size (mS (12 * y + (3 * j + 5))) hi wr ∧ Up w6 wr) (fun kv _ => (1 + intOf kv).toNat)
            case atStart => exact ⟨3, _, by omega, by omega, rfl, RunB.new _ _ _ _, (Up.refl _).alloc _⟩
            case round =>
              obtain ⟨j, hi, j1, j2, rfl, hR, hr⟩ := hrel
              have hrp := q6.trans hr
              replace s := hrp.cell s
              replace a0 := hrp.cell a0
              replace a1 := hrp.cell a1
              replace a2 := hrp.cell a2
              replace a3 := hrp.cell a3
              have hEr := hE.up (up.trans hrp)
              have hj' : j = -1 ∨ j = 0 ∨ j = 1 ∨ j = 2 ∨ j = 3 := by omega
              clear j1 j2
              rcases hj' with rfl | rfl | rfl | rfl | rfl
              · clear a0 a1 a2 a3 s hR hEr
                go_wp2_with fail
                go_roundw
                case rel => exact ⟨_, by decide, by decide, rfl, by exact hu.trans hrp⟩
                case measure => simp [intOf]
              · have s1 : -3652425000000000000 ≤ mS (12 * y + 5) ∧ mS (12 * y + 5) ≤ 3652425000000000366 := row_hi y 0 HY.out HZ.out (by decide) (by decide)
                go_wp2_with fail
                refine (srun_is y 21 (mS (12 * y + 2)) (mS (12 * y + 5) - 1) _ (by decide) (row_gen y 21 0 HY.out HZ.out (by decide) (by decide) (by decide) (by decide) (by decide)) hEr).mono ?_
                rintro e w7 ⟨rfl, q7⟩
                have hR7 := hR.up q7
                have hr7 := hr.trans q7
                obtain ⟨⟨e0, e1', e2, e3⟩, ef, es⟩ := hR7
                have e1 : w7.cell? ⟨w6.heap.size, 1, none⟩ = some (.int .i64 (mS (12 * y + 5))) := e1'
                clear e1'
                have f0 := ef 0
                have f1 := ef 1
                have f2 := ef 2
                have f3 := ef 3
                have hR7 := hR.up q7
                clear ef hR hr q7 a0 a1 a2 a3 s hEr
                go_wp2_with fail
                go_roundw
                case rel => exact ⟨_, _, by decide, by decide, rfl, (hR7.set _ _).up ((Up.refl _).alloc _), (setRun_up hr7 (Nat.le_refl _) _ _ _ _).alloc _⟩
                case measure => simp [intOf]
              · have s1 : -3652425000000000000 ≤ mS (12 * y + 8) ∧ mS (12 * y + 8) ≤ 3652425000000000366 := row_hi y 1 HY.out HZ.out (by decide) (by decide)
                go_wp2_with fail
                refine (srun_is y 22 (mS (12 * y + 5)) (mS (12 * y + 8) - 1) _ (by decide) (row_gen y 22 1 HY.out HZ.out (by decide) (by decide) (by decide) (by decide) (by decide)) hEr).mono ?_
                rintro e w7 ⟨rfl, q7⟩
                have hR7 := hR.up q7
                have hr7 := hr.trans q7
                obtain ⟨⟨e0, e1', e2, e3⟩, ef, es⟩ := hR7
                have e1 : w7.cell? ⟨w6.heap.size, 1, none⟩ = some (.int .i64 (mS (12 * y + 8))) := e1'
                clear e1'
                have f0 := ef 0
                have f1 := ef 1
                have f2 := ef 2
                have f3 := ef 3
                have hR7 := hR.up q7
                clear ef hR hr q7 a0 a1 a2 a3 s hEr
                go_wp2_with fail
                go_roundw
                case rel => exact ⟨_, _, by decide, by decide, rfl, (hR7.set _ _).up ((Up.refl _).alloc _), (setRun_up hr7 (Nat.le_refl _) _ _ _ _).alloc _⟩
                case measure => simp [intOf]
              · have s1 : -3652425000000000000 ≤ mS (12 * y + 11) ∧ mS (12 * y + 11) ≤ 3652425000000000366 := row_hi y 2 HY.out HZ.out (by decide) (by decide)
                go_wp2_with fail
                refine (srun_is y 23 (mS (12 * y + 8)) (mS (12 * y + 11) - 1) _ (by decide) (row_gen y 23 2 HY.out HZ.out (by decide) (by decide) (by decide) (by decide) (by decide)) hEr).mono ?_
                rintro e w7 ⟨rfl, q7⟩
                have hR7 := hR.up q7
                have hr7 := hr.trans q7
                obtain ⟨⟨e0, e1', e2, e3⟩, ef, es⟩ := hR7
                have e1 : w7.cell? ⟨w6.heap.size, 1, none⟩ = some (.int .i64 (mS (12 * y + 11))) := e1'
                clear e1'
                have f0 := ef 0
                have f1 := ef 1
                have f2 := ef 2
                have f3 := ef 3
                have hR7 := hR.up q7
                clear ef hR hr q7 a0 a1 a2 a3 s hEr
                go_wp2_with fail
                go_roundw
                case rel => exact ⟨_, _, by decide, by decide, rfl, (hR7.set _ _).up ((Up.refl _).alloc _), (setRun_up hr7 (Nat.le_refl _) _ _ _ _).alloc _⟩
                case measure => simp [intOf]
              · have s1 : -3652425000000000000 ≤ mS (12 * y + 14) ∧ mS (12 * y + 14) ≤ 3652425000000000366 := row_hi y 3 HY.out HZ.out (by decide) (by decide)
                go_wp2_with fail
                refine (srun_is y 24 (mS (12 * y + 11)) (mS (12 * y + 14) - 1) _ (by decide) (row_gen y 24 3 HY.out HZ.out (by decide) (by decide) (by decide) (by decide) (by decide)) hEr).mono ?_
                rintro e w7 ⟨rfl, q7⟩
                have hR7 := hR.up q7
                have hr7 := hr.trans q7
                obtain ⟨⟨e0, e1', e2, e3⟩, ef, es⟩ := hR7
                have e1 : w7.cell? ⟨w6.heap.size, 1, none⟩ = some (.int .i64 (mS (12 * y + 14))) := e1'
                clear e1'
                have f0 := ef 0
                have f1 := ef 1
                have f2 := ef 2
                have f3 := ef 3
                have hR7 := hR.up q7
                clear ef hR hr q7 a0 a1 a2 a3 s hEr
                go_wp2_with fail
                go_roundw
                case rel => exact ⟨_, _, by decide, by decide, rfl, (hR7.set _ _).up ((Up.refl _).alloc _), (setRun_up hr7 (Nat.le_refl _) _ _ _ _).alloc _⟩
                case measure => simp [intOf]
          · have a0 := hu.cell r1_0
            have a1 := hu.cell r1_1
            have a2 := hu.cell r1_2
            have a3 := hu.cell r1_3
            have s := hu.cell s1
            have up := uq.trans hu
            clear r0_0 r0_1 r0_2 r0_3 r1_0 r1_1 r1_2 r1_3 r2_0 r2_1 r2_2 r2_3 s0 s1 s2
            go_wp2_with fail
            refine (srun_is _ _ _ _ _ (by decide) (next_row y 25 HZ.out (by decide) (by decide)) (hE.up up)).mono ?_
            rintro e w6 ⟨rfl, q6⟩
            go_wp2_with fail
            go_loopw [16] (fun kv wr => ∃ j hi : Int, -1 ≤ j ∧ j ≤ 3 ∧ kv = .int .i64 j ∧ RunB w6.heap.size (mS (12 * y + (3 * j + 5))) hi wr ∧ Up w6 wr) (fun kv _ => (1 + intOf kv).toNat)
            case atStart => exact ⟨3, _, by omega, by omega, rfl, RunB.new _ _ _ _, (Up.refl _).alloc _⟩
            case round =>
              obtain ⟨j, hi, j1, j2, rfl, hR, hr⟩ := hrel
              have hrp := q6.trans hr
              replace s := hrp.cell s
              replace a0 := hrp.cell a0
              replace a1 := hrp.cell a1
              replace a2 := hrp.cell a2
              replace a3 := hrp.cell a3
              have hEr := hE.up (up.trans hrp)
              have hj' : j = -1 ∨ j = 0 ∨ j = 1 ∨ j = 2 ∨ j = 3 := by omega
              clear j1 j2
              rcases hj' with rfl | rfl | rfl | rfl | rfl
              · clear a0 a1 a2 a3 s hR hEr
                go_wp2_with fail
                go_roundw
                case rel => exact ⟨_, by decide, by decide, rfl, by exact hu.trans hrp⟩
                case measure => simp [intOf]
              · have s1 : -3652425000000000000 ≤ mS (12 * y + 5) ∧ mS (12 * y + 5) ≤ 3652425000000000366 := row_hi y 0 HY.out HZ.out (by decide) (by decide)
                go_wp2_with fail
                refine (srun_is y 25 (mS (12 * y + 2)) (mS (12 * y + 5) - 1) _ (by decide) (row_gen y 25 0 HY.out HZ.out (by decide) (by decide) (by decide) (by decide) (by decide)) hEr).mono ?_
                rintro e w7 ⟨rfl, q7⟩
                have hR7 := hR.up q7
                have hr7 := hr.trans q7
                obtain ⟨⟨e0, e1', e2, e3⟩, ef, es⟩ := hR7
                have e1 : w7.cell? ⟨w6.heap.size, 1, none⟩ = some (.int .i64 (mS (12 * y + 5))) := e1'
                clear e1'
                have f0 := ef 0
                have f1 := ef 1
                have f2 := ef 2
                have f3 := ef 3
                have hR7 := hR.up q7
                clear ef hR hr q7 a0 a1 a2 a3 s hEr
                go_wp2_with fail
                go_roundw
                case rel => exact ⟨_, _, by decide, by decide, rfl, (hR7.set _ _).up ((Up.refl _).alloc _), (setRun_up hr7 (Nat.le_refl _) _ _ _ _).alloc _⟩
                case measure => simp [intOf]
              · have s1 : -3652425000000000000 ≤ mS (12 * y + 8) ∧ mS (12 * y + 8) ≤ 3652425000000000366 := row_hi y 1 HY.out HZ.out (by decide) (by decide)
                go_wp2_with fail
                refine (srun_is y 26 (mS (12 * y + 5)) (mS (12 * y + 8) - 1) _ (by decide) (row_gen y 26 1 HY.out HZ.out (by decide) (by decide) (by decide) (by decide) (by decide)) hEr).mono ?_
                rintro e w7 ⟨rfl, q7⟩
                have hR7 := hR.up q7
                have hr7 := hr.trans q7
                obtain ⟨⟨e0, e1', e2, e3⟩, ef, es⟩ := hR7
                have e1 : w7.cell? ⟨w6.heap.size, 1, none⟩ = some (.int .i64 (mS (12 * y + 8))) := e1'
                clear e1'
                have f0 := ef 0
                have f1 := ef 1
                have f2 := ef 2
                have f3 := ef 3
                have hR7 := hR.up q7
                clear ef hR hr q7 a0 a1 a2 a3 s hEr
                go_wp2_with fail
                go_roundw
                case rel => exact ⟨_, _, by decide, by decide, rfl, (hR7.set _ _).up ((Up.refl _).alloc _), (setRun_up hr7 (Nat.le_refl _) _ _ _ _).alloc _⟩
                case measure => simp [intOf]
              · have s1 : -3652425000000000000 ≤ mS (12 * y + 11) ∧ mS (12 * y + 11) ≤ 3652425000000000366 := row_hi y 2 HY.out HZ.out (by decide) (by decide)
                go_wp2_with fail
                refine (srun_is y 27 (mS (12 * y + 8)) (mS (12 * y + 11) - 1) _ (by decide) (row_gen y 27 2 HY.out HZ.out (by decide) (by decide) (by decide) (by decide) (by decide)) hEr).mono ?_
                rintro e w7 ⟨rfl, q7⟩
                have hR7 := hR.up q7
                have hr7 := hr.trans q7
                obtain ⟨⟨e0, e1', e2, e3⟩, ef, es⟩ := hR7
                have e1 : w7.cell? ⟨w6.heap.size, 1, none⟩ = some (.int .i64 (mS (12 * y + 11))) := e1'
                clear e1'
                have f0 := ef 0
                have f1 := ef 1
                have f2 := ef 2
                have f3 := ef 3
                have hR7 := hR.up q7
                clear ef hR hr q7 a0 a1 a2 a3 s hEr
                go_wp2_with fail
                go_roundw
                case rel => exact ⟨_, _, by decide, by decide, rfl, (hR7.set _ _).up ((Up.refl _).alloc _), (setRun_up hr7 (Nat.le_refl _) _ _ _ _).alloc _⟩
                case measure => simp [intOf]
              · have s1 : -3652425000000000000 ≤ mS (12 * y + 14) ∧ mS (12 * y + 14) ≤ 3652425000000000366 := row_hi y 3 HY.out HZ.out (by decide) (by decide)
                go_wp2_with fail
                refine (srun_is y 28 (mS (12 * y + 11)) (mS (12 * y + 14) - 1) _ (by decide) (row_gen y 28 3 HY.out HZ.out (by decide) (by decide) (by decide) (by decide) (by decide)) hEr).mono ?_
                rintro e w7 ⟨rfl, q7⟩
                have hR7 := hR.up q7
                have hr7 := hr.trans q7
                obtain ⟨⟨e0, e1', e2, e3⟩, ef, es⟩ := hR7
                have e1 : w7.cell? ⟨w6.heap.size, 1, none⟩ = some (.int .i64 (mS (12 * y + 14))) := e1'
                clear e1'
                have f0 := ef 0
                have f1 := ef 1
                have f2 := ef 2
                have f3 := ef 3
                have hR7 := hR.up q7
                clear ef hR hr q7 a0 a1 a2 a3 s hEr
                go_wp2_with fail
                go_roundw
                case rel => exact ⟨_, _, by decide, by decide, rfl, (hR7.set _ _).up ((Up.refl _).alloc _), (setRun_up hr7 (Nat.le_refl _) _ _ _ _).alloc _⟩
                case measure => simp [intOf]
          · have a0 := hu.cell r2_0
            have a1 := hu.cell r2_1
            have a2 := hu.cell r2_2
            have a3 := hu.cell r2_3
            have s := hu.cell s2
            have up := uq.trans hu
            clear r0_0 r0_1 r0_2 r0_3 r1_0 r1_1 r1_2 r1_3 r2_0 r2_1 r2_2 r2_3 s0 s1 s2
            go_wp2_with fail
            refine (srun_is _ _ _ _ _ (by decide) (next_row y 31 HZ.out (by decide) (by decide)) (hE.up up)).mono ?_
            rintro e w6 ⟨rfl, q6⟩
            go_wp2_with fail
            go_loopw [16] (fun kv wr => ∃ j hi : Int, -1 ≤ j ∧ j ≤ 3 ∧ kv = .int .i64 j ∧ RunB w6.heap.size (mS (12 * y + (3 * j + 5))) hi wr ∧ Up w6 wr) (fun kv _ => (1 + intOf kv).toNat)
            case atStart => exact ⟨3, _, by omega, by omega, rfl, RunB.new _ _ _ _, (Up.refl _).alloc _⟩
            case round =>
              obtain ⟨j, hi, j1, j2, rfl, hR, hr⟩ := hrel
              have hrp := q6.trans hr
              replace s := hrp.cell s
              replace a0 := hrp.cell a0
              replace a1 := hrp.cell a1
              replace a2 := hrp.cell a2
              replace a3 := hrp.cell a3
              have hEr := hE.up (up.trans hrp)
              have hj' : j = -1 ∨ j = 0 ∨ j = 1 ∨ j = 2 ∨ j = 3 := by omega
              clear j1 j2
              rcases hj' with rfl | rfl | rfl | rfl | rfl
              · clear a0 a1 a2 a3 s hR hEr
                go_wp2_with fail
                go_roundw
                case rel => exact ⟨_, by decide, by decide, rfl, by exact hu.trans hrp⟩
                case measure => simp [intOf]
              · have s1 : -3652425000000000000 ≤ mS (12 * y + 5) ∧ mS (12 * y + 5) ≤ 3652425000000000366 := row_hi y 0 HY.out HZ.out (by decide) (by decide)
                go_wp2_with fail
                refine (srun_is y 31 (mS (12 * y + 2)) (mS (12 * y + 5) - 1) _ (by decide) (row_gen y 31 0 HY.out HZ.out (by decide) (by decide) (by decide) (by decide) (by decide)) hEr).mono ?_
                rintro e w7 ⟨rfl, q7⟩
                have hR7 := hR.up q7
                have hr7 := hr.trans q7
                obtain ⟨⟨e0, e1', e2, e3⟩, ef, es⟩ := hR7
                have e1 : w7.cell? ⟨w6.heap.size, 1, none⟩ = some (.int .i64 (mS (12 * y + 5))) := e1'
                clear e1'
                have f0 := ef 0
                have f1 := ef 1
                have f2 := ef 2
                have f3 := ef 3
                have hR7 := hR.up q7
                clear ef hR hr q7 a0 a1 a2 a3 s hEr
                go_wp2_with fail
                go_roundw
                case rel => exact ⟨_, _, by decide, by decide, rfl, (hR7.set _ _).up ((Up.refl _).alloc _), (setRun_up hr7 (Nat.le_refl _) _ _ _ _).alloc _⟩
                case measure => simp [intOf]
              · have s1 : -3652425000000000000 ≤ mS (12 * y + 8) ∧ mS (12 * y + 8) ≤ 3652425000000000366 := row_hi y 1 HY.out HZ.out (by decide) (by decide)
                go_wp2_with fail
                refine (srun_is y 32 (mS (12 * y + 5)) (mS (12 * y + 8) - 1) _ (by decide) (row_gen y 32 1 HY.out HZ.out (by decide) (by decide) (by decide) (by decide) (by decide)) hEr).mono ?_
                rintro e w7 ⟨rfl, q7⟩
                have hR7 := hR.up q7
                have hr7 := hr.trans q7
                obtain ⟨⟨e0, e1', e2, e3⟩, ef, es⟩ := hR7
                have e1 : w7.cell? ⟨w6.heap.size, 1, none⟩ = some (.int .i64 (mS (12 * y + 8))) := e1'
                clear e1'
                have f0 := ef 0
                have f1 := ef 1
                have f2 := ef 2
                have f3 := ef 3
                have hR7 := hR.up q7
                clear ef hR hr q7 a0 a1 a2 a3 s hEr
                go_wp2_with fail
                go_roundw
                case rel => exact ⟨_, _, by decide, by decide, rfl, (hR7.set _ _).up ((Up.refl _).alloc _), (setRun_up hr7 (Nat.le_refl _) _ _ _ _).alloc _⟩
                case measure => simp [intOf]
              · have s1 : -3652425000000000000 ≤ mS (12 * y + 11) ∧ mS (12 * y + 11) ≤ 3652425000000000366 := row_hi y 2 HY.out HZ.out (by decide) (by decide)
                go_wp2_with fail
                refine (srun_is y 29 (mS (12 * y + 8)) (mS (12 * y + 11) - 1) _ (by decide) (row_gen y 29 2 HY.out HZ.out (by decide) (by decide) (by decide) (by decide) (by decide)) hEr).mono ?_
                rintro e w7 ⟨rfl, q7⟩
                have hR7 := hR.up q7
                have hr7 := hr.trans q7
                obtain ⟨⟨e0, e1', e2, e3⟩, ef, es⟩ := hR7
                have e1 : w7.cell? ⟨w6.heap.size, 1, none⟩ = some (.int .i64 (mS (12 * y + 11))) := e1'
                clear e1'
                have f0 := ef 0
                have f1 := ef 1
                have f2 := ef 2
                have f3 := ef 3
                have hR7 := hR.up q7
                clear ef hR hr q7 a0 a1 a2 a3 s hEr
                go_wp2_with fail
                go_roundw
                case rel => exact ⟨_, _, by decide, by decide, rfl, (hR7.set _ _).up ((Up.refl _).alloc _), (setRun_up hr7 (Nat.le_refl _) _ _ _ _).alloc _⟩
                case measure => simp [intOf]
              · have s1 : -3652425000000000000 ≤ mS (12 * y + 14) ∧ mS (12 * y + 14) ≤ 3652425000000000366 := row_hi y 3 HY.out HZ.out (by decide) (by decide)
                go_wp2_with fail
                refine (srun_is y 30 (mS (12 * y + 11)) (mS (12 * y + 14) - 1) _ (by decide) (row_gen y 30 3 HY.out HZ.out (by decide) (by decide) (by decide) (by decide) (by decide)) hEr).mono ?_
                rintro e w7 ⟨rfl, q7⟩
                have hR7 := hR.up q7
                have hr7 := hr.trans q7
                obtain ⟨⟨e0, e1', e2, e3⟩, ef, es⟩ := hR7
                have e1 : w7.cell? ⟨w6.heap.size, 1, none⟩ = some (.int .i64 (mS (12 * y + 14))) := e1'
                clear e1'
                have f0 := ef 0
                have f1 := ef 1
                have f2 := ef 2
                have f3 := ef 3
                have hR7 := hR.up q7
                clear ef hR hr q7 a0 a1 a2 a3 s hEr
                go_wp2_with fail
                go_roundw
                case rel => exact ⟨_, _, by decide, by decide, rfl, (hR7.set _ _).up ((Up.refl _).alloc _), (setRun_up hr7 (Nat.le_refl _) _ _ _ _).alloc _⟩
                case measure => simp [intOf]
          · clear r0_0 r0_1 r0_2 r0_3 r1_0 r1_1 r1_2 r1_3 r2_0 r2_1 r2_2 r2_3 s0 s1 s2
            go_wp2_with fail
            refine (lives7 _ (hE.up (uq.trans hu))).mono ?_
            rintro e w9 ⟨rfl, q9⟩
            go_wp2_with fail
            go_ret
            exact ⟨rfl, (uq.trans hu).dn.trans q9⟩
      · refine (rIs_no _ _ hz).mono ?_
        rintro e w2 ⟨rfl, rfl⟩
        go_wp2_with fail
        refine (lives7 _ (hE.up uo)).mono ?_
        rintro e w9 ⟨rfl, q9⟩
        go_wp2_with fail
        go_ret
        exact ⟨rfl, uo.dn.trans q9⟩
end Go.Proofs.YtnaoadmffnbalaaDoor
