/-
  WALKS OF circalaw07: SeasonsParts, SeasonsKnown: each returns true.
-/
import Derived.Test.YtnaoadmffnbalaaDoorLawSevenF
namespace Go.Proofs.YtnaoadmffnbalaaDoor
open Go.RowKit
theorem seasonsParts_true (y : Int) (w : World) (_hy : I64 y) (hE : EnvS w) :
    Calls Tryd.prog 14 #[.int .i64 y] w fun e w' => e = .returned (.bool true) ∧ Dn w w' := by
  by_cases h : IsY y
  · exact seasonsParts_yes y w h hE
  · exact seasonsParts_no y w h hE
def yearsL : List Int := [(-10000000000000000), (-1), 0, 1899, 1900, 2000, 9999999999999999, 10000000000000000, 10000000000000001]
theorem yearsL_bd : ∀ (j : Nat) (x : Int), yearsL[j]? = some x → I64 x := by
  intro j x h
  have hm : x ∈ yearsL := List.mem_of_getElem? h
  simp [yearsL] at hm
  unfold I64
  omega
theorem yearsL_cells (w : World) (t : TypeId) : ∀ (j : Nat) (x : Int), yearsL[j]? = some x → (w.alloc (.cells #[.int .i64 (-10000000000000000), .int .i64 (-1), .int .i64 0, .int .i64 1899, .int .i64 1900, .int .i64 2000, .int .i64 9999999999999999, .int .i64 10000000000000000, .int .i64 10000000000000001] t)).cell? ⟨w.heap.size, j, none⟩ = some (.int .i64 x) := by
  intro j x h
  unfold yearsL at h
  match j, h with
  | 0, h => simp at h; subst h; simp [go_sem]
  | 1, h => simp at h; subst h; simp [go_sem]
  | 2, h => simp at h; subst h; simp [go_sem]
  | 3, h => simp at h; subst h; simp [go_sem]
  | 4, h => simp at h; subst h; simp [go_sem]
  | 5, h => simp at h; subst h; simp [go_sem]
  | 6, h => simp at h; subst h; simp [go_sem]
  | 7, h => simp at h; subst h; simp [go_sem]
  | 8, h => simp at h; subst h; simp [go_sem]
  | n + 9, h => simp at h
set_option maxHeartbeats 4000000 in
set_option maxRecDepth 100000 in
theorem seasonsKnown_true (w : World) (hE : EnvS w) :
    Calls Tryd.prog 15 #[] w fun e w' => e = .returned (.bool true) ∧ Dn w w' := by
  obtain ⟨W1, hW1⟩ : ∃ W1, W1 = w.alloc (.cells #[.int .i64 (-10000000000000000), .int .i64 (-1), .int .i64 0, .int .i64 1899, .int .i64 1900, .int .i64 2000, .int .i64 9999999999999999, .int .i64 10000000000000000, .int .i64 10000000000000001] 2) := ⟨_, rfl⟩
  have u1 : Dn w W1 := by rw [hW1]; exact ((Up.refl _).alloc _).dn
  have hc : ∀ (j : Nat) (x : Int), yearsL[j]? = some x → W1.cell? ⟨w.heap.size, j, none⟩ = some (.int .i64 x) := by rw [hW1]; exact yearsL_cells w _
  have HC := Lib.hid hc
  have HW := Lib.hid hW1
  clear hW1 hc
  go_enter Tryd.func15, Tryd.ntmps15
  go_wp2_with fail
  rw [← HW.out]
  clear HW
  go_loopw [2] (fun i wr => ∃ k : Nat, k ≤ 9 ∧ i = .int .i64 k ∧ Dn W1 wr) (fun i _ => 9 - (intOf i).toNat)
  case atStart => exact ⟨0, by omega, rfl, Dn.refl _⟩
  case round =>
    obtain ⟨k, hk, rfl, hu⟩ := hrel
    obtain ⟨wo, rfl⟩ : ∃ wo : World, wo = wr := ⟨_, rfl⟩
    by_cases hlt : k < 9
    · have t1 : decide ((k : Int) < 9) = true := by simp; omega
      obtain ⟨y, hy⟩ : ∃ y, yearsL[k]? = some y := ⟨yearsL[k]'(by simp [yearsL]; omega), by simp⟩
      have hyb := yearsL_bd k y hy
      have hcell := hu.cell (HC.out k y hy)
      clear hy
      go_wp2_with fail
      go_loopw [3] (fun cv wr => ∃ c : Int, 19 ≤ c ∧ c ≤ 44 ∧ cv = .int .i64 c ∧ Dn wo wr) (fun cv _ => (44 - intOf cv).toNat)
      case atStart => exact ⟨19, by omega, by omega, rfl, Dn.refl _⟩
      case round =>
        obtain ⟨c, c1, c2, rfl, hr⟩ := hrel
        by_cases hlc : c < 44
        · have t2 : decide (c < 44) = true := by simp; omega
          replace hcell := hr.cell hcell
          go_wp2_with fail
          refine (seasonsRun_true _ _ _ hyb ⟨by omega, by omega⟩ (hE.below (u1.trans (hu.trans hr)).below)).mono ?_
          rintro e w2 ⟨rfl, q2⟩
          have r2 := hr.trans q2
          clear hr q2 hcell
          go_wp2_with fail
          go_roundw
          case rel => exact ⟨c + 1, by omega, by omega, rfl, r2⟩
          case measure => simp [intOf]; omega
        · obtain rfl : c = 44 := by omega
          have r2 := hu.trans hr
          clear hu hr hcell
          go_wp2_with fail
          go_roundw
          case rel => exact ⟨k + 1, by omega, by simp, r2⟩
          case measure => simp [intOf]; omega
    · obtain rfl : k = 9 := by omega
      have r1 := u1.trans hu
      clear u1 hu
      go_wp2_with fail
      go_loopw [4] (fun cv wr => ∃ c : Int, 20 ≤ c ∧ c ≤ 43 ∧ cv = .int .i64 c ∧ Dn wo wr) (fun cv _ => (43 - intOf cv).toNat)
      case atStart => exact ⟨20, by omega, by omega, rfl, Dn.refl _⟩
      case round =>
        obtain ⟨c, c1, c2, rfl, hr⟩ := hrel
        have r3 := r1.trans hr
        by_cases hlc : c < 43
        · have t2 : decide (c < 43) = true := by simp; omega
          have hcI : I64 c := ⟨by omega, by omega⟩
          go_wp2_with fail
          refine (seasonsOf_true (-3652425000000000000) c _ (by decide) hcI (hE.below r3.below)).mono ?_
          rintro e v0 ⟨rfl, q0⟩
          have g0 := r3.trans q0
          have r10 := hr.trans q0
          clear q0 hr
          go_wp2_with fail
          refine (seasonsOf_true 3652425000000000365 c _ (by decide) hcI (hE.below g0.below)).mono ?_
          rintro e v1 ⟨rfl, q1⟩
          have g1 := g0.trans q1
          have r11 := r10.trans q1
          clear q1 g0 r10
          go_wp2_with fail
          refine (seasonsOf_true 3652425000000000366 c _ (by decide) hcI (hE.below g1.below)).mono ?_
          rintro e v2 ⟨rfl, q2⟩
          have g2 := g1.trans q2
          have r12 := r11.trans q2
          clear q2 g1 r11
          go_wp2_with fail
          refine (seasonsOf_true 0 c _ (by decide) hcI (hE.below g2.below)).mono ?_
          rintro e v3 ⟨rfl, q3⟩
          have g3 := g2.trans q3
          have r13 := r12.trans q3
          clear q3 g2 r12
          go_wp2_with fail
          go_roundw
          case rel => ((repeat apply Exists.intro); exact ⟨⟨c + 1, by omega, by omega, rfl, r13⟩, rfl⟩)
          case measure => simp [intOf]; omega
        · obtain rfl : c = 43 := by omega
          go_wp2_with fail
          refine (lives7 _ (hE.below r3.below)).mono ?_
          rintro e w9 ⟨rfl, q9⟩
          go_wp2_with fail
          go_ret
          exact ⟨rfl, r3.trans q9⟩
end Go.Proofs.YtnaoadmffnbalaaDoor
