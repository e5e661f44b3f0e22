/- Walks and laws that the claim's theorem leans on: part 29. -/
import Derived.Test.YtcdkeiolblifkaaGreatDoorZKn1
import Derived.Test.YtcdkeiolblifkaaGreatDoorZKn13
import Derived.Test.YtcdkeiolblifkaaGreatDoorZKn27
namespace Go.Proofs.YtcdkeiolblifkaaGreatDoor
set_option maxHeartbeats 4000000
set_option maxRecDepth 100000
open Go.RowKit
set_option linter.unusedVariables false
set_option linter.unusedSimpArgs false
theorem kd1bad1_10 {W w1 w2 : World} {a0 a1 a2 a3 a4 a5 a6 a7 a8 a9 : Addr} {v0 v1 v2 v3 v4 v5 v6 v7 v8 v9 : Value} (k : Dn w1 w2) (h : Dn W w1 ∧ w1.cell? a0 = some v0 ∧ w1.cell? a1 = some v1 ∧ w1.cell? a2 = some v2 ∧ w1.cell? a3 = some v3 ∧ w1.cell? a4 = some v4 ∧ w1.cell? a5 = some v5 ∧ w1.cell? a6 = some v6 ∧ w1.cell? a7 = some v7 ∧ w1.cell? a8 = some v8 ∧ w1.cell? a9 = some v9) :
  Dn W w2 ∧ w2.cell? a0 = some v0 ∧ w2.cell? a1 = some v1 ∧ w2.cell? a2 = some v2 ∧ w2.cell? a3 = some v3 ∧ w2.cell? a4 = some v4 ∧ w2.cell? a5 = some v5 ∧ w2.cell? a6 = some v6 ∧ w2.cell? a7 = some v7 ∧ w2.cell? a8 = some v8 ∧ w2.cell? a9 = some v9 := by
 obtain ⟨h1, c0, c1, c2, c3, c4, c5, c6, c7, c8, c9⟩ := h
 exact ⟨h1.trans k, k.cell c0, k.cell c1, k.cell c2, k.cell c3, k.cell c4, k.cell c5, k.cell c6, k.cell c7, k.cell c8, k.cell c9⟩
theorem preKn58x1 (w : World) (a b c d z0 z1 : Int) : ∃ W1, W1 = (w.alloc (.cells #[.int .i8 a, .int .i64 b, .int .i8 c, .int .i64 d] 28)).alloc (.cells #[.int .i64 z0, .int .i64 z1] 32) ∧ (Dn w W1) ∧ (W1.cell? ⟨w.heap.size, 0, none⟩ = some (.int .i8 a)) ∧ (W1.cell? ⟨w.heap.size, 1, none⟩ = some (.int .i64 b)) ∧ (W1.cell? ⟨w.heap.size, 2, none⟩ = some (.int .i8 c)) ∧ (W1.cell? ⟨w.heap.size, 3, none⟩ = some (.int .i64 d)) ∧ (w.heap.size < W1.heap.size) ∧ (W1.cell? ⟨w.heap.size + 1, 0, none⟩ = some (.int .i64 z0)) ∧ (W1.cell? ⟨w.heap.size + 1, 1, none⟩ = some (.int .i64 z1)) ∧ (w.heap.size + 1 < W1.heap.size) := by
  obtain ⟨W1, hW1⟩ : ∃ W1, W1 = (w.alloc (.cells #[.int .i8 a, .int .i64 b, .int .i8 c, .int .i64 d] 28)).alloc (.cells #[.int .i64 z0, .int .i64 z1] 32) := ⟨_, rfl⟩
  exact ⟨W1, hW1, (by rw [hW1]; exact ((Dn.refl _).alloc _).alloc _), (by rw [hW1]; simp [go_sem]), (by rw [hW1]; simp [go_sem]), (by rw [hW1]; simp [go_sem]), (by rw [hW1]; simp [go_sem]), (by rw [hW1]; simp <;> omega), (by rw [hW1]; simp [go_sem]), (by rw [hW1]; simp [go_sem]), (by rw [hW1]; simp <;> omega)⟩
theorem one_bad1 (a b c d k z0 z1 m n e1 f s0 s1 s2 s3 : Int) (HC : Hid (∀ W, Calls Tryz.prog 9 #[.agg #[.int .i8 a, .int .i64 b, .int .i8 c, .int .i64 d]] W fun o w' => o = .returned (.int .i64 m) ∧ Dn W w')) (HL : Hid (∀ W, Calls Tryz.prog 29 #[.agg #[.int .i8 a, .int .i64 b, .int .i8 c, .int .i64 d]] W fun o w' => o = .returned (.tuple #[.int .i64 0, .int .i64 m]) ∧ Dn W w')) (HS : Hid (∀ W, Calls Tryz.prog 30 #[.agg #[.int .i8 a, .int .i64 b, .int .i8 c, .int .i64 d], .int .i64 k] W fun o w' => o = .returned (.tuple #[.agg #[.int .i8 0, .int .i64 0, .int .i8 0, .int .i64 0], .int .i64 m]) ∧ Dn W w')) (HO : Hid (∀ W, Calls Tryz.prog 31 #[.int .i64 z0, .int .i64 z1] W fun o w' => o = .returned (.tuple #[.agg #[.int .i8 0, .int .i64 0, .int .i8 0, .int .i64 0], .int .i64 12]) ∧ Dn W w')) (g1 : z1 < z0) (HM : Hid (m ≠ 0)) (w : World) (hE : EnvR w) :
   Calls Tryz.prog 6 #[.agg #[.int .i8 a, .int .i64 b, .int .i8 c, .int .i64 d], .int .i64 k, .agg #[.int .i64 z0, .int .i64 z1]] w fun ro w' => ro = .returned (.bool true) ∧ Dn w w' := by
 have t1 : decide (z1 < z0) = true := by simpa using g1
 have t2 : decide (z0 ≤ z1) = false := by simp; omega
 clear g1
 have t3 : (m != 0) = true := by simpa using HM.out
 go_enter Tryz.func6, Tryz.ntmps6
 go_wp2_with fail
 obtain ⟨W1, hW1, uW1, c2, c3, c4, c5, l6, c7, c8, l9⟩ := preKn58x1 w a b c d z0 z1
 rw [← hW1]
 clear hW1
 refine (HC.out _).mono ?_
 rintro e w1 ⟨rfl, qw1⟩
 have a0 := nlt l6 qw1.size
 have a5 := nlt l9 qw1.size
 obtain ⟨a1, a2, a3, a4, a6, a7⟩ := mv6 qw1.cell c2 c3 c4 c5 c7 c8
 clear l6 c2 c3 c4 c5 l9 c7 c8
 have uw1 := uW1.trans qw1
 clear qw1 uW1
 go_wp2_with fail
 refine (HL.out _).mono ?_
 rintro e w2 ⟨rfl, qw2⟩
 have a8 := nlt a0 qw2.size
 have aD := nlt a5 qw2.size
 obtain ⟨a9, aA, aB, aC, aE, aF⟩ := mv6 qw2.cell a1 a2 a3 a4 a6 a7
 clear a0 a1 a2 a3 a4 a5 a6 a7
 have uw2 := uw1.trans qw2
 clear qw2 uw1
 go_wp2_with fail
 refine (HS.out _).mono ?_
 rintro e w3 ⟨rfl, qw3⟩
 have aG := nlt a8 qw3.size
 have aL := nlt aD qw3.size
 obtain ⟨aH, aI, aJ, aK, aM, aN⟩ := mv6 qw3.cell a9 aA aB aC aE aF
 clear a8 a9 aA aB aC aD aE aF
 have uw3 := uw2.trans qw3
 clear qw3 uw2
 go_wp2_with fail
 obtain ⟨W34, hW34⟩ : ∃ W34, W34 = w3.alloc (.cells #[.int .i8 0, .int .i64 0, .int .i8 0, .int .i64 0] 28) := ⟨_, rfl⟩
 have uW34 : Dn w3 W34 := by rw [hW34]; exact (Dn.refl _).alloc _
 have aO := nlt aG uW34.size
 have aT := nlt aL uW34.size
 obtain ⟨aP, aQ, aR, aS, aU, aV⟩ := mv6 uW34.cell aH aI aJ aK aM aN
 clear aG aH aI aJ aK aL aM aN
 have aW : W34.cell? ⟨w3.heap.size, 0, none⟩ = some (.int .i8 0) := by rw [hW34]; simp [go_sem]
 have aX : W34.cell? ⟨w3.heap.size, 1, none⟩ = some (.int .i64 0) := by rw [hW34]; simp [go_sem]
 have aY : W34.cell? ⟨w3.heap.size, 2, none⟩ = some (.int .i8 0) := by rw [hW34]; simp [go_sem]
 have aZ : W34.cell? ⟨w3.heap.size, 3, none⟩ = some (.int .i64 0) := by rw [hW34]; simp [go_sem]
 have b0 : w3.heap.size < W34.heap.size := by rw [hW34]; simp <;> omega
 rw [← hW34]
 clear hW34
 have vW34 := uw3.trans uW34
 clear uW34 uw3
 refine (HO.out _).mono ?_
 rintro e w4 ⟨rfl, qw4⟩
 have b1 := nlt aO qw4.size
 have b6 := nlt aT qw4.size
 have b9 := nlt b0 qw4.size
 obtain ⟨b2, b3, b4, b5, b7, b8, bA, bB, bC, bD⟩ := mv10 qw4.cell aP aQ aR aS aU aV aW aX aY aZ
 clear aO aP aQ aR aS aT aU aV b0 aW aX aY aZ
 have uw4 := vW34.trans qw4
 clear qw4 vW34
 go_wp2_with fail
 obtain ⟨W61, hW61⟩ : ∃ W61, W61 = w4.alloc (.cells #[.int .i8 0, .int .i64 0, .int .i8 0, .int .i64 0] 28) := ⟨_, rfl⟩
 have uW61 : Dn w4 W61 := by rw [hW61]; exact (Dn.refl _).alloc _
 have bE := nlt b1 uW61.size
 have bJ := nlt b6 uW61.size
 have bM := nlt b9 uW61.size
 obtain ⟨bF, bG, bH, bI, bK, bL, bN, bO, bP, bQ⟩ := mv10 uW61.cell b2 b3 b4 b5 b7 b8 bA bB bC bD
 clear b1 b2 b3 b4 b5 b6 b7 b8 b9 bA bB bC bD
 have bR : W61.cell? ⟨w4.heap.size, 0, none⟩ = some (.int .i8 0) := by rw [hW61]; simp [go_sem]
 have bS : W61.cell? ⟨w4.heap.size, 1, none⟩ = some (.int .i64 0) := by rw [hW61]; simp [go_sem]
 have bT : W61.cell? ⟨w4.heap.size, 2, none⟩ = some (.int .i8 0) := by rw [hW61]; simp [go_sem]
 have bU : W61.cell? ⟨w4.heap.size, 3, none⟩ = some (.int .i64 0) := by rw [hW61]; simp [go_sem]
 have bV : w4.heap.size < W61.heap.size := by rw [hW61]; simp <;> omega
 rw [← hW61]
 clear hW61
 have vW61 := uw4.trans uW61
 clear uW61 uw4
 have hS80 := kd1bad1_10 (W := W61) (Dn.refl _) ⟨Dn.refl _, bF, bG, bH, bI, bK, bL, bR, bS, bT, bU⟩
 have bW := Lib.hid bN
 have bX := Lib.hid bO
 have bY := Lib.hid bP
 have bZ := Lib.hid bQ
 have HShS80 := Lib.hid hS80
 clear bF bG bH bI bK bL bN bO bP bQ bR bS bT bU
 refine wp_region_held_drew (S := fun w' => Dn W61 w' ∧ w'.cell? ⟨w.heap.size, 0, none⟩ = some (.int .i8 a) ∧ w'.cell? ⟨w.heap.size, 1, none⟩ = some (.int .i64 b) ∧ w'.cell? ⟨w.heap.size, 2, none⟩ = some (.int .i8 c) ∧ w'.cell? ⟨w.heap.size, 3, none⟩ = some (.int .i64 d) ∧ w'.cell? ⟨w.heap.size + 1, 0, none⟩ = some (.int .i64 z0) ∧ w'.cell? ⟨w.heap.size + 1, 1, none⟩ = some (.int .i64 z1) ∧ w'.cell? ⟨w4.heap.size, 0, none⟩ = some (.int .i8 0) ∧ w'.cell? ⟨w4.heap.size, 1, none⟩ = some (.int .i64 0) ∧ w'.cell? ⟨w4.heap.size, 2, none⟩ = some (.int .i8 0) ∧ w'.cell? ⟨w4.heap.size, 3, none⟩ = some (.int .i64 0)) (by kernel_rfl) ?_ (fun hHeld => ?_)
 · (try dsimp only); (first | exact kd1bad1_10 ((Dn.refl _).drew) hS80 | exact kd1bad1_10 ‹Dn _ _› ‹_› | exact kd1bad1_10 (Up.dn ‹Up _ _›) ‹_› | assumption | exact kd1bad1_10 ((Dn.refl _).alloc _) ‹_›)
 refine tk 0 ?_ rfl (by kernel_rfl) (fun _ _ _ => id) (by rfl) (by assumption) ?_ ?_
 rotate_left
 · (intro w hSw; (try dsimp only at hSw); go_simp)
   all_goals with_reducible rfl
 try simp only [Act.put, pL]
 refine tk 1 ?_ rfl (by kernel_rfl) (fun _ _ _ => id) (by rfl) (by assumption) ?_ ?_
 rotate_left
 · (intro w hSw; (try dsimp only at hSw); go_simp)
   all_goals with_reducible rfl
 try simp only [Act.put, pL]
 refine tk 2 ?_ rfl (by kernel_rfl) (fun _ _ _ => id) (by rfl) (by assumption) ?_ ?_
 rotate_left
 · (intro w hSw; (try dsimp only at hSw); go_simp)
   all_goals with_reducible rfl
 try simp only [Act.put, pL]
 refine tk 3 ?_ rfl (by kernel_rfl) (fun _ _ _ => id) (by rfl) (by assumption) ?_ ?_
 rotate_left
 · (intro w hSw; (try dsimp only at hSw); go_simp)
   all_goals with_reducible rfl
 try simp only [Act.put, pL]
 refine tk 4 ?_ rfl (by kernel_rfl) (fun _ _ _ => id) (by rfl) (by assumption) ?_ ?_
 rotate_left
 · (intro w hSw; (try dsimp only at hSw); go_simp)
   all_goals with_reducible rfl
 try simp only [Act.put, pL]
 refine tk 5 ?_ rfl (by kernel_rfl) (fun _ _ _ => id) (by rfl) (by assumption) ?_ ?_
 rotate_left
 · (intro w hSw; (try dsimp only at hSw); go_simp)
   all_goals with_reducible rfl
 try simp only [Act.put, pL]
 refine tk 6 ?_ rfl (by kernel_rfl) (fun _ _ _ => id) (by rfl) (by assumption) ?_ ?_
 rotate_left
 · (intro w hSw; (try dsimp only at hSw); go_simp)
   all_goals with_reducible rfl
 try simp only [Act.put, pL]
 refine tk 7 ?_ rfl (by kernel_rfl) (fun _ _ _ => id) (by rfl) (by assumption) ?_ ?_
 rotate_left
 · (intro w hSw; (try dsimp only at hSw); go_simp)
   all_goals with_reducible rfl
 try simp only [Act.put, pL]
 refine tk 8 ?_ rfl (by kernel_rfl) (fun _ _ _ => id) (by rfl) (by assumption) ?_ ?_
 rotate_left
 · (intro w hSw; (try dsimp only at hSw); go_simp)
   all_goals with_reducible rfl
 try simp only [Act.put, pL]
 refine wpAnyH_ready (rs := [9]) (by kernel_rfl) (by simp) ?_
 refine AllReadyH.cons rfl (fun K hK => ?_) AllReadyH.nil
 go_simp
 (first
    | (go_at_call 28; refine (g9_any _ _ _ _ _ _ _ _ _ _ _ ?_).mono ?_; (first | exact Or.inr ⟨by decide, rfl, rfl, rfl, rfl, rfl⟩ | exact Or.inl ⟨rfl, rfl, rfl, rfl, rfl, rfl⟩); rintro e wa ⟨rfl, qa⟩)
    | (go_at_call 32; refine (dy9 _ _ _).mono ?_; rintro e wa ⟨rfl, qa⟩))
 try go_wp2_with fail
 refine hK.out _ _ ?_ (fun hHeld => ?_)
 · (try dsimp only); (first | exact kd1bad1_10 ((Dn.refl _).drew) hS80 | exact kd1bad1_10 ‹Dn _ _› ‹_› | exact kd1bad1_10 (Up.dn ‹Up _ _›) ‹_› | assumption | exact kd1bad1_10 ((Dn.refl _).alloc _) ‹_›)
 clear hK K
 try simp only [Act.put, pL]
 refine tk 10 ?_ rfl (by kernel_rfl) (fun _ _ _ => id) (by rfl) (by assumption) ?_ ?_
 rotate_left
 · (intro w hSw; (try dsimp only at hSw); go_simp)
   all_goals with_reducible rfl
 try simp only [Act.put, pL]
 refine tk 11 ?_ rfl (by kernel_rfl) (fun _ _ _ => id) (by rfl) (by assumption) ?_ ?_
 rotate_left
 · (intro w hSw; (try dsimp only at hSw); go_simp)
   all_goals with_reducible rfl
 try simp only [Act.put, pL]
 refine tk 12 ?_ rfl (by kernel_rfl) (fun _ _ _ => id) (by rfl) (by assumption) ?_ ?_
 rotate_left
 · (intro w hSw; (try dsimp only at hSw); go_simp)
   all_goals with_reducible rfl
 try simp only [Act.put, pL]
 refine tk 13 ?_ rfl (by kernel_rfl) (fun _ _ _ => id) (by rfl) (by assumption) ?_ ?_
 rotate_left
 · (intro w hSw; (try dsimp only at hSw); go_simp)
   all_goals with_reducible rfl
 try simp only [Act.put, pL]
 refine tk 14 ?_ rfl (by kernel_rfl) (fun _ _ _ => id) (by rfl) (by assumption) ?_ ?_
 rotate_left
 · (intro w hSw; (try dsimp only at hSw); go_simp)
   all_goals with_reducible rfl
 try simp only [Act.put, pL]
 refine tk 15 ?_ rfl (by kernel_rfl) (fun _ _ _ => id) (by rfl) (by assumption) ?_ ?_
 rotate_left
 · (intro w hSw; (try dsimp only at hSw); go_simp)
   all_goals with_reducible rfl
 try simp only [Act.put, pL]
 refine tk 16 ?_ rfl (by kernel_rfl) (fun _ _ _ => id) (by rfl) (by assumption) ?_ ?_
 rotate_left
 · (intro w hSw; (try dsimp only at hSw); go_simp)
   all_goals with_reducible rfl
 try simp only [Act.put, pL]
 refine tk 17 ?_ rfl (by kernel_rfl) (fun _ _ _ => id) (by rfl) (by assumption) ?_ ?_
 rotate_left
 · (intro w hSw; (try dsimp only at hSw); go_simp)
   all_goals with_reducible rfl
 try simp only [Act.put, pL]
 refine tk 18 ?_ rfl (by kernel_rfl) (fun _ _ _ => id) (by rfl) (by assumption) ?_ ?_
 rotate_left
 · (intro w hSw; (try dsimp only at hSw); go_simp)
   all_goals with_reducible rfl
 try simp only [Act.put, pL]
 refine tu 19 rfl (by kernel_rfl) (fun _ _ _ => id) (by rfl) (by assumption) ?_
 try simp only [Act.put, pL]
 refine tu 20 rfl (by kernel_rfl) (fun _ _ _ => id) (by rfl) (by assumption) ?_
 try simp only [Act.put, pL]
 refine tu 21 rfl (by kernel_rfl) (fun _ _ _ => id) (by rfl) (by assumption) ?_
 try simp only [Act.put, pL]
 refine tu 22 rfl (by kernel_rfl) (fun _ _ _ => id) (by rfl) (by assumption) ?_
 try simp only [Act.put, pL]
 refine tu 23 rfl (by kernel_rfl) (fun _ _ _ => id) (by rfl) (by assumption) ?_
 try simp only [Act.put, pL]
 refine tu 24 rfl (by kernel_rfl) (fun _ _ _ => id) (by rfl) (by assumption) ?_
 try simp only [Act.put, pL]
 refine tu 25 rfl (by kernel_rfl) (fun _ _ _ => id) (by rfl) (by assumption) ?_
 try simp only [Act.put, pL]
 refine tu 26 rfl (by kernel_rfl) (fun _ _ _ => id) (by rfl) (by assumption) ?_
 try simp only [Act.put, pL]
 refine tu 27 rfl (by kernel_rfl) (fun _ _ _ => id) (by rfl) (by assumption) ?_
 try simp only [Act.put, pL]
 refine tk 28 ?_ rfl (by kernel_rfl) (fun _ _ _ => id) (by rfl) (by assumption) ?_ ?_
 rotate_left
 · (intro w hSw; (try dsimp only at hSw); go_simp)
   all_goals with_reducible rfl
 try simp only [Act.put, pL]
 refine tk 29 ?_ rfl (by kernel_rfl) (fun _ _ _ => id) (by rfl) (by assumption) ?_ ?_
 rotate_left
 · (intro w hSw; (try dsimp only at hSw); go_simp)
   all_goals with_reducible rfl
 try simp only [Act.put, pL]
 refine wpAnyH_done (by kernel_rfl) ?_ _
 all_goals skip
 all_goals
   clear hS80
   obtain ⟨uf95, c0, c1, c6, c9, cQ, cR, cS, cT, cU, cV⟩ := (‹Dn W61 _ ∧ _› : _ ∧ _)
   obtain ⟨w96, rfl⟩ : ∃ w96 : World, w96 = wa := ⟨_, rfl⟩
   have cA := nlt bE uf95.size
   clear bE
   have cW := nlt bJ uf95.size
   clear bJ
   have cB := nlt bM uf95.size
   clear bM
   have cX := nlt bV uf95.size
   clear bV
   obtain ⟨cC, cD, cE, cF⟩ := mv4 uf95.cell bW.out bX.out bY.out bZ.out
   clear bW bX bY bZ
   have vuf95 := vW61.trans uf95
   clear uf95 vW61 HShS80
   clear cQ cR cW
   clear cS cT cU cV cX
   go_wp2_with fail
   refine (g9_bad a b c d 0 0 0 0 m _ HM.out).mono ?_
   rintro e w5 ⟨rfl, qw5⟩
   have cG := nlt cA qw5.size
   have cL := nlt cB qw5.size
   obtain ⟨cH, cI, cJ, cK, cM, cN, cO, cP⟩ := mv8 qw5.cell c0 c1 c6 c9 cC cD cE cF
   clear cA c0 c1 c6 c9 cB cC cD cE cF
   have uw5 := vuf95.trans qw5
   clear qw5 vuf95
   go_wp2_with fail
   refine (lives9 _ (hE.dn uw5)).mono ?_
   rintro e w6 ⟨rfl, qw6⟩
   have cY := nlt cG qw6.size
   have d3 := nlt cL qw6.size
   obtain ⟨cZ, d0, d1, d2, d4, d5, d6, d7⟩ := mv8 qw6.cell cH cI cJ cK cM cN cO cP
   clear cG cH cI cJ cK cL cM cN cO cP
   have uw6 := uw5.trans qw6
   clear qw6 uw5
   go_wp2_with fail
   go_ret
   exact ⟨rfl, uw6⟩
theorem kd1none1_10 {W w1 w2 : World} {a0 a1 a2 a3 a4 a5 a6 a7 a8 a9 : Addr} {v0 v1 v2 v3 v4 v5 v6 v7 v8 v9 : Value} (k : Dn w1 w2) (h : Dn W w1 ∧ w1.cell? a0 = some v0 ∧ w1.cell? a1 = some v1 ∧ w1.cell? a2 = some v2 ∧ w1.cell? a3 = some v3 ∧ w1.cell? a4 = some v4 ∧ w1.cell? a5 = some v5 ∧ w1.cell? a6 = some v6 ∧ w1.cell? a7 = some v7 ∧ w1.cell? a8 = some v8 ∧ w1.cell? a9 = some v9) :
  Dn W w2 ∧ w2.cell? a0 = some v0 ∧ w2.cell? a1 = some v1 ∧ w2.cell? a2 = some v2 ∧ w2.cell? a3 = some v3 ∧ w2.cell? a4 = some v4 ∧ w2.cell? a5 = some v5 ∧ w2.cell? a6 = some v6 ∧ w2.cell? a7 = some v7 ∧ w2.cell? a8 = some v8 ∧ w2.cell? a9 = some v9 := by
 obtain ⟨h1, c0, c1, c2, c3, c4, c5, c6, c7, c8, c9⟩ := h
 exact ⟨h1.trans k, k.cell c0, k.cell c1, k.cell c2, k.cell c3, k.cell c4, k.cell c5, k.cell c6, k.cell c7, k.cell c8, k.cell c9⟩
theorem one_none1 (a b c d k z0 z1 m n e1 f s0 s1 s2 s3 : Int) (HC : Hid (∀ W, Calls Tryz.prog 9 #[.agg #[.int .i8 a, .int .i64 b, .int .i8 c, .int .i64 d]] W fun o w' => o = .returned (.int .i64 0) ∧ Dn W w')) (HL : Hid (∀ W, Calls Tryz.prog 29 #[.agg #[.int .i8 a, .int .i64 b, .int .i8 c, .int .i64 d]] W fun o w' => o = .returned (.tuple #[.int .i64 n, .int .i64 e1]) ∧ Dn W w')) (HS : Hid (∀ W, Calls Tryz.prog 30 #[.agg #[.int .i8 a, .int .i64 b, .int .i8 c, .int .i64 d], .int .i64 k] W fun o w' => o = .returned (.tuple #[.agg #[.int .i8 0, .int .i64 0, .int .i8 0, .int .i64 0], .int .i64 f]) ∧ Dn W w')) (HO : Hid (∀ W, Calls Tryz.prog 31 #[.int .i64 z0, .int .i64 z1] W fun o w' => o = .returned (.tuple #[.agg #[.int .i8 0, .int .i64 0, .int .i8 0, .int .i64 0], .int .i64 12]) ∧ Dn W w')) (g1 : z1 < z0) (HRL : Hid (∀ W, Calls Tryz.prog 33 #[.agg #[.int .i8 a, .int .i64 b, .int .i8 c, .int .i64 d]] W fun o w' => o = .returned (.tuple #[.int .i64 n, .int .i64 e1]) ∧ Dn W w')) (HRS : Hid (∀ W, Calls Tryz.prog 34 #[.agg #[.int .i8 a, .int .i64 b, .int .i8 c, .int .i64 d], .int .i64 k] W fun o w' => o = .returned (.tuple #[.agg #[.int .i8 0, .int .i64 0, .int .i8 0, .int .i64 0], .int .i64 f]) ∧ Dn W w')) (HM : Hid (f ≠ 0)) (w : World) (hE : EnvR w) :
   Calls Tryz.prog 6 #[.agg #[.int .i8 a, .int .i64 b, .int .i8 c, .int .i64 d], .int .i64 k, .agg #[.int .i64 z0, .int .i64 z1]] w fun ro w' => ro = .returned (.bool true) ∧ Dn w w' := by
 have t1 : decide (z1 < z0) = true := by simpa using g1
 have t2 : decide (z0 ≤ z1) = false := by simp; omega
 clear g1
 have t3 : (f != 0) = true := by simpa using HM.out
 go_enter Tryz.func6, Tryz.ntmps6
 go_wp2_with fail
 obtain ⟨W1, hW1, uW1, c2, c3, c4, c5, l6, c7, c8, l9⟩ := preKn58x1 w a b c d z0 z1
 rw [← hW1]
 clear hW1
 refine (HC.out _).mono ?_
 rintro e w1 ⟨rfl, qw1⟩
 have a0 := nlt l6 qw1.size
 have a5 := nlt l9 qw1.size
 obtain ⟨a1, a2, a3, a4, a6, a7⟩ := mv6 qw1.cell c2 c3 c4 c5 c7 c8
 clear l6 c2 c3 c4 c5 l9 c7 c8
 have uw1 := uW1.trans qw1
 clear qw1 uW1
 go_wp2_with fail
 refine (HL.out _).mono ?_
 rintro e w2 ⟨rfl, qw2⟩
 have a8 := nlt a0 qw2.size
 have aD := nlt a5 qw2.size
 obtain ⟨a9, aA, aB, aC, aE, aF⟩ := mv6 qw2.cell a1 a2 a3 a4 a6 a7
 clear a0 a1 a2 a3 a4 a5 a6 a7
 have uw2 := uw1.trans qw2
 clear qw2 uw1
 go_wp2_with fail
 refine (HS.out _).mono ?_
 rintro e w3 ⟨rfl, qw3⟩
 have aG := nlt a8 qw3.size
 have aL := nlt aD qw3.size
 obtain ⟨aH, aI, aJ, aK, aM, aN⟩ := mv6 qw3.cell a9 aA aB aC aE aF
 clear a8 a9 aA aB aC aD aE aF
 have uw3 := uw2.trans qw3
 clear qw3 uw2
 go_wp2_with fail
 obtain ⟨W34, hW34⟩ : ∃ W34, W34 = w3.alloc (.cells #[.int .i8 0, .int .i64 0, .int .i8 0, .int .i64 0] 28) := ⟨_, rfl⟩
 have uW34 : Dn w3 W34 := by rw [hW34]; exact (Dn.refl _).alloc _
 have aO := nlt aG uW34.size
 have aT := nlt aL uW34.size
 obtain ⟨aP, aQ, aR, aS, aU, aV⟩ := mv6 uW34.cell aH aI aJ aK aM aN
 clear aG aH aI aJ aK aL aM aN
 have aW : W34.cell? ⟨w3.heap.size, 0, none⟩ = some (.int .i8 0) := by rw [hW34]; simp [go_sem]
 have aX : W34.cell? ⟨w3.heap.size, 1, none⟩ = some (.int .i64 0) := by rw [hW34]; simp [go_sem]
 have aY : W34.cell? ⟨w3.heap.size, 2, none⟩ = some (.int .i8 0) := by rw [hW34]; simp [go_sem]
 have aZ : W34.cell? ⟨w3.heap.size, 3, none⟩ = some (.int .i64 0) := by rw [hW34]; simp [go_sem]
 have b0 : w3.heap.size < W34.heap.size := by rw [hW34]; simp <;> omega
 rw [← hW34]
 clear hW34
 have vW34 := uw3.trans uW34
 clear uW34 uw3
 refine (HO.out _).mono ?_
 rintro e w4 ⟨rfl, qw4⟩
 have b1 := nlt aO qw4.size
 have b6 := nlt aT qw4.size
 have b9 := nlt b0 qw4.size
 obtain ⟨b2, b3, b4, b5, b7, b8, bA, bB, bC, bD⟩ := mv10 qw4.cell aP aQ aR aS aU aV aW aX aY aZ
 clear aO aP aQ aR aS aT aU aV b0 aW aX aY aZ
 have uw4 := vW34.trans qw4
 clear qw4 vW34
 go_wp2_with fail
 obtain ⟨W61, hW61⟩ : ∃ W61, W61 = w4.alloc (.cells #[.int .i8 0, .int .i64 0, .int .i8 0, .int .i64 0] 28) := ⟨_, rfl⟩
 have uW61 : Dn w4 W61 := by rw [hW61]; exact (Dn.refl _).alloc _
 have bE := nlt b1 uW61.size
 have bJ := nlt b6 uW61.size
 have bM := nlt b9 uW61.size
 obtain ⟨bF, bG, bH, bI, bK, bL, bN, bO, bP, bQ⟩ := mv10 uW61.cell b2 b3 b4 b5 b7 b8 bA bB bC bD
 clear b1 b2 b3 b4 b5 b6 b7 b8 b9 bA bB bC bD
 have bR : W61.cell? ⟨w4.heap.size, 0, none⟩ = some (.int .i8 0) := by rw [hW61]; simp [go_sem]
 have bS : W61.cell? ⟨w4.heap.size, 1, none⟩ = some (.int .i64 0) := by rw [hW61]; simp [go_sem]
 have bT : W61.cell? ⟨w4.heap.size, 2, none⟩ = some (.int .i8 0) := by rw [hW61]; simp [go_sem]
 have bU : W61.cell? ⟨w4.heap.size, 3, none⟩ = some (.int .i64 0) := by rw [hW61]; simp [go_sem]
 have bV : w4.heap.size < W61.heap.size := by rw [hW61]; simp <;> omega
 rw [← hW61]
 clear hW61
 have vW61 := uw4.trans uW61
 clear uW61 uw4
 have hS80 := kd1none1_10 (W := W61) (Dn.refl _) ⟨Dn.refl _, bF, bG, bH, bI, bK, bL, bR, bS, bT, bU⟩
 have bW := Lib.hid bN
 have bX := Lib.hid bO
 have bY := Lib.hid bP
 have bZ := Lib.hid bQ
 have HShS80 := Lib.hid hS80
 clear bF bG bH bI bK bL bN bO bP bQ bR bS bT bU
 refine wp_region_held_drew (S := fun w' => Dn W61 w' ∧ w'.cell? ⟨w.heap.size, 0, none⟩ = some (.int .i8 a) ∧ w'.cell? ⟨w.heap.size, 1, none⟩ = some (.int .i64 b) ∧ w'.cell? ⟨w.heap.size, 2, none⟩ = some (.int .i8 c) ∧ w'.cell? ⟨w.heap.size, 3, none⟩ = some (.int .i64 d) ∧ w'.cell? ⟨w.heap.size + 1, 0, none⟩ = some (.int .i64 z0) ∧ w'.cell? ⟨w.heap.size + 1, 1, none⟩ = some (.int .i64 z1) ∧ w'.cell? ⟨w4.heap.size, 0, none⟩ = some (.int .i8 0) ∧ w'.cell? ⟨w4.heap.size, 1, none⟩ = some (.int .i64 0) ∧ w'.cell? ⟨w4.heap.size, 2, none⟩ = some (.int .i8 0) ∧ w'.cell? ⟨w4.heap.size, 3, none⟩ = some (.int .i64 0)) (by kernel_rfl) ?_ (fun hHeld => ?_)
 · (try dsimp only); (first | exact kd1none1_10 ((Dn.refl _).drew) hS80 | exact kd1none1_10 ‹Dn _ _› ‹_› | exact kd1none1_10 (Up.dn ‹Up _ _›) ‹_› | assumption | exact kd1none1_10 ((Dn.refl _).alloc _) ‹_›)
 refine tk 0 ?_ rfl (by kernel_rfl) (fun _ _ _ => id) (by rfl) (by assumption) ?_ ?_
 rotate_left
 · (intro w hSw; (try dsimp only at hSw); go_simp)
   all_goals with_reducible rfl
 try simp only [Act.put, pL]
 refine tk 1 ?_ rfl (by kernel_rfl) (fun _ _ _ => id) (by rfl) (by assumption) ?_ ?_
 rotate_left
 · (intro w hSw; (try dsimp only at hSw); go_simp)
   all_goals with_reducible rfl
 try simp only [Act.put, pL]
 refine tk 2 ?_ rfl (by kernel_rfl) (fun _ _ _ => id) (by rfl) (by assumption) ?_ ?_
 rotate_left
 · (intro w hSw; (try dsimp only at hSw); go_simp)
   all_goals with_reducible rfl
 try simp only [Act.put, pL]
 refine tk 3 ?_ rfl (by kernel_rfl) (fun _ _ _ => id) (by rfl) (by assumption) ?_ ?_
 rotate_left
 · (intro w hSw; (try dsimp only at hSw); go_simp)
   all_goals with_reducible rfl
 try simp only [Act.put, pL]
 refine tk 4 ?_ rfl (by kernel_rfl) (fun _ _ _ => id) (by rfl) (by assumption) ?_ ?_
 rotate_left
 · (intro w hSw; (try dsimp only at hSw); go_simp)
   all_goals with_reducible rfl
 try simp only [Act.put, pL]
 refine tk 5 ?_ rfl (by kernel_rfl) (fun _ _ _ => id) (by rfl) (by assumption) ?_ ?_
 rotate_left
 · (intro w hSw; (try dsimp only at hSw); go_simp)
   all_goals with_reducible rfl
 try simp only [Act.put, pL]
 refine tk 6 ?_ rfl (by kernel_rfl) (fun _ _ _ => id) (by rfl) (by assumption) ?_ ?_
 rotate_left
 · (intro w hSw; (try dsimp only at hSw); go_simp)
   all_goals with_reducible rfl
 try simp only [Act.put, pL]
 refine tk 7 ?_ rfl (by kernel_rfl) (fun _ _ _ => id) (by rfl) (by assumption) ?_ ?_
 rotate_left
 · (intro w hSw; (try dsimp only at hSw); go_simp)
   all_goals with_reducible rfl
 try simp only [Act.put, pL]
 refine tk 8 ?_ rfl (by kernel_rfl) (fun _ _ _ => id) (by rfl) (by assumption) ?_ ?_
 rotate_left
 · (intro w hSw; (try dsimp only at hSw); go_simp)
   all_goals with_reducible rfl
 try simp only [Act.put, pL]
 refine wpAnyH_ready (rs := [9]) (by kernel_rfl) (by simp) ?_
 refine AllReadyH.cons rfl (fun K hK => ?_) AllReadyH.nil
 go_simp
 (first
    | (go_at_call 28; refine (g9_any _ _ _ _ _ _ _ _ _ _ _ ?_).mono ?_; (first | exact Or.inr ⟨by decide, rfl, rfl, rfl, rfl, rfl⟩ | exact Or.inl ⟨rfl, rfl, rfl, rfl, rfl, rfl⟩); rintro e wa ⟨rfl, qa⟩)
    | (go_at_call 32; refine (dy9 _ _ _).mono ?_; rintro e wa ⟨rfl, qa⟩))
 try go_wp2_with fail
 refine hK.out _ _ ?_ (fun hHeld => ?_)
 · (try dsimp only); (first | exact kd1none1_10 ((Dn.refl _).drew) hS80 | exact kd1none1_10 ‹Dn _ _› ‹_› | exact kd1none1_10 (Up.dn ‹Up _ _›) ‹_› | assumption | exact kd1none1_10 ((Dn.refl _).alloc _) ‹_›)
 clear hK K
 try simp only [Act.put, pL]
 refine tk 10 ?_ rfl (by kernel_rfl) (fun _ _ _ => id) (by rfl) (by assumption) ?_ ?_
 rotate_left
 · (intro w hSw; (try dsimp only at hSw); go_simp)
   all_goals with_reducible rfl
 try simp only [Act.put, pL]
 refine tk 11 ?_ rfl (by kernel_rfl) (fun _ _ _ => id) (by rfl) (by assumption) ?_ ?_
 rotate_left
 · (intro w hSw; (try dsimp only at hSw); go_simp)
   all_goals with_reducible rfl
 try simp only [Act.put, pL]
 refine tk 12 ?_ rfl (by kernel_rfl) (fun _ _ _ => id) (by rfl) (by assumption) ?_ ?_
 rotate_left
 · (intro w hSw; (try dsimp only at hSw); go_simp)
   all_goals with_reducible rfl
 try simp only [Act.put, pL]
 refine tk 13 ?_ rfl (by kernel_rfl) (fun _ _ _ => id) (by rfl) (by assumption) ?_ ?_
 rotate_left
 · (intro w hSw; (try dsimp only at hSw); go_simp)
   all_goals with_reducible rfl
 try simp only [Act.put, pL]
 refine tk 14 ?_ rfl (by kernel_rfl) (fun _ _ _ => id) (by rfl) (by assumption) ?_ ?_
 rotate_left
 · (intro w hSw; (try dsimp only at hSw); go_simp)
   all_goals with_reducible rfl
 try simp only [Act.put, pL]
 refine tk 15 ?_ rfl (by kernel_rfl) (fun _ _ _ => id) (by rfl) (by assumption) ?_ ?_
 rotate_left
 · (intro w hSw; (try dsimp only at hSw); go_simp)
   all_goals with_reducible rfl
 try simp only [Act.put, pL]
 refine tk 16 ?_ rfl (by kernel_rfl) (fun _ _ _ => id) (by rfl) (by assumption) ?_ ?_
 rotate_left
 · (intro w hSw; (try dsimp only at hSw); go_simp)
   all_goals with_reducible rfl
 try simp only [Act.put, pL]
 refine tk 17 ?_ rfl (by kernel_rfl) (fun _ _ _ => id) (by rfl) (by assumption) ?_ ?_
 rotate_left
 · (intro w hSw; (try dsimp only at hSw); go_simp)
   all_goals with_reducible rfl
 try simp only [Act.put, pL]
 refine tk 18 ?_ rfl (by kernel_rfl) (fun _ _ _ => id) (by rfl) (by assumption) ?_ ?_
 rotate_left
 · (intro w hSw; (try dsimp only at hSw); go_simp)
   all_goals with_reducible rfl
 try simp only [Act.put, pL]
 refine tu 19 rfl (by kernel_rfl) (fun _ _ _ => id) (by rfl) (by assumption) ?_
 try simp only [Act.put, pL]
 refine tu 20 rfl (by kernel_rfl) (fun _ _ _ => id) (by rfl) (by assumption) ?_
 try simp only [Act.put, pL]
 refine tu 21 rfl (by kernel_rfl) (fun _ _ _ => id) (by rfl) (by assumption) ?_
 try simp only [Act.put, pL]
 refine tu 22 rfl (by kernel_rfl) (fun _ _ _ => id) (by rfl) (by assumption) ?_
 try simp only [Act.put, pL]
 refine tu 23 rfl (by kernel_rfl) (fun _ _ _ => id) (by rfl) (by assumption) ?_
 try simp only [Act.put, pL]
 refine tu 24 rfl (by kernel_rfl) (fun _ _ _ => id) (by rfl) (by assumption) ?_
 try simp only [Act.put, pL]
 refine tu 25 rfl (by kernel_rfl) (fun _ _ _ => id) (by rfl) (by assumption) ?_
 try simp only [Act.put, pL]
 refine tu 26 rfl (by kernel_rfl) (fun _ _ _ => id) (by rfl) (by assumption) ?_
 try simp only [Act.put, pL]
 refine tu 27 rfl (by kernel_rfl) (fun _ _ _ => id) (by rfl) (by assumption) ?_
 try simp only [Act.put, pL]
 refine tk 28 ?_ rfl (by kernel_rfl) (fun _ _ _ => id) (by rfl) (by assumption) ?_ ?_
 rotate_left
 · (intro w hSw; (try dsimp only at hSw); go_simp)
   all_goals with_reducible rfl
 try simp only [Act.put, pL]
 refine tk 29 ?_ rfl (by kernel_rfl) (fun _ _ _ => id) (by rfl) (by assumption) ?_ ?_
 rotate_left
 · (intro w hSw; (try dsimp only at hSw); go_simp)
   all_goals with_reducible rfl
 try simp only [Act.put, pL]
 refine wpAnyH_done (by kernel_rfl) ?_ _
 all_goals skip
 all_goals
   clear hS80
   obtain ⟨uf95, c0, c1, c6, c9, dU, dV, dW, dX, dY, dZ⟩ := (‹Dn W61 _ ∧ _› : _ ∧ _)
   obtain ⟨w96, rfl⟩ : ∃ w96 : World, w96 = wa := ⟨_, rfl⟩
   have cA := nlt bE uf95.size
   clear bE
   have e0 := nlt bJ uf95.size
   clear bJ
   have cB := nlt bM uf95.size
   clear bM
   have e2 := nlt bV uf95.size
   clear bV
   obtain ⟨cC, cD, cE, cF⟩ := mv4 uf95.cell bW.out bX.out bY.out bZ.out
   clear bW bX bY bZ
   have vuf95 := vW61.trans uf95
   clear uf95 vW61 HShS80
   clear dU dV e0
   clear dW dX dY dZ e2
   go_wp2_with fail
   refine (HRL.out _).mono ?_
   rintro e w5 ⟨rfl, qw5⟩
   have cG := nlt cA qw5.size
   have cL := nlt cB qw5.size
   obtain ⟨cH, cI, cJ, cK, cM, cN, cO, cP⟩ := mv8 qw5.cell c0 c1 c6 c9 cC cD cE cF
   clear cA c0 c1 c6 c9 cB cC cD cE cF
   have uw5 := vuf95.trans qw5
   clear qw5 vuf95
   go_wp2_with fail
   refine (HRS.out _).mono ?_
   rintro e w6 ⟨rfl, qw6⟩
   have cQ := nlt cG qw6.size
   have cV := nlt cL qw6.size
   obtain ⟨cR, cS, cT, cU, cW, cX, cY, cZ⟩ := mv8 qw6.cell cH cI cJ cK cM cN cO cP
   clear cG cH cI cJ cK cL cM cN cO cP
   have uw6 := uw5.trans qw6
   clear qw6 uw5
   go_wp2_with fail
   obtain ⟨W125, hW125⟩ : ∃ W125, W125 = w6.alloc (.cells #[.int .i8 0, .int .i64 0, .int .i8 0, .int .i64 0] 28) := ⟨_, rfl⟩
   have uW125 : Dn w6 W125 := by rw [hW125]; exact (Dn.refl _).alloc _
   have d0 := nlt cQ uW125.size
   have d5 := nlt cV uW125.size
   obtain ⟨d1, d2, d3, d4, d6, d7, d8, d9⟩ := mv8 uW125.cell cR cS cT cU cW cX cY cZ
   clear cQ cR cS cT cU cV cW cX cY cZ
   have dA : W125.cell? ⟨w6.heap.size, 0, none⟩ = some (.int .i8 0) := by rw [hW125]; simp [go_sem]
   have dB : W125.cell? ⟨w6.heap.size, 1, none⟩ = some (.int .i64 0) := by rw [hW125]; simp [go_sem]
   have dC : W125.cell? ⟨w6.heap.size, 2, none⟩ = some (.int .i8 0) := by rw [hW125]; simp [go_sem]
   have dD : W125.cell? ⟨w6.heap.size, 3, none⟩ = some (.int .i64 0) := by rw [hW125]; simp [go_sem]
   have dE : w6.heap.size < W125.heap.size := by rw [hW125]; simp <;> omega
   rw [← hW125]
   clear hW125
   have vW125 := uw6.trans uW125
   clear uW125 uw6
   refine (g9_bad 0 0 0 0 0 0 0 0 f _ HM.out).mono ?_
   rintro e w7 ⟨rfl, qw7⟩
   have dF := nlt d0 qw7.size
   have dK := nlt d5 qw7.size
   have dP := nlt dE qw7.size
   obtain ⟨dG, dH, dI, dJ, dL, dM, dN, dO, dQ, dR, dS, dT⟩ := mv12 qw7.cell d1 d2 d3 d4 d6 d7 d8 d9 dA dB dC dD
   clear d0 d1 d2 d3 d4 d5 d6 d7 d8 d9 dE dA dB dC dD
   have uw7 := vW125.trans qw7
   clear qw7 vW125
   go_wp2_with fail
   refine (lives9 _ (hE.dn uw7)).mono ?_
   rintro e w8 ⟨rfl, qw8⟩
   have e3 := nlt dF qw8.size
   have e8 := nlt dK qw8.size
   have eG := nlt dP qw8.size
   obtain ⟨e4, e5, e6, e7, e9, eD, eE, eF, eH, eI, eJ, eK⟩ := mv12 qw8.cell dG dH dI dJ dL dM dN dO dQ dR dS dT
   clear dF dG dH dI dJ dK dL dM dN dO dP dQ dR dS dT
   have uw8 := uw7.trans qw8
   clear qw8 uw7
   go_wp2_with fail
   go_ret
   exact ⟨rfl, uw8⟩
theorem kd1min1_10 {W w1 w2 : World} {a0 a1 a2 a3 a4 a5 a6 a7 a8 a9 : Addr} {v0 v1 v2 v3 v4 v5 v6 v7 v8 v9 : Value} (k : Dn w1 w2) (h : Dn W w1 ∧ w1.cell? a0 = some v0 ∧ w1.cell? a1 = some v1 ∧ w1.cell? a2 = some v2 ∧ w1.cell? a3 = some v3 ∧ w1.cell? a4 = some v4 ∧ w1.cell? a5 = some v5 ∧ w1.cell? a6 = some v6 ∧ w1.cell? a7 = some v7 ∧ w1.cell? a8 = some v8 ∧ w1.cell? a9 = some v9) :
  Dn W w2 ∧ w2.cell? a0 = some v0 ∧ w2.cell? a1 = some v1 ∧ w2.cell? a2 = some v2 ∧ w2.cell? a3 = some v3 ∧ w2.cell? a4 = some v4 ∧ w2.cell? a5 = some v5 ∧ w2.cell? a6 = some v6 ∧ w2.cell? a7 = some v7 ∧ w2.cell? a8 = some v8 ∧ w2.cell? a9 = some v9 := by
 obtain ⟨h1, c0, c1, c2, c3, c4, c5, c6, c7, c8, c9⟩ := h
 exact ⟨h1.trans k, k.cell c0, k.cell c1, k.cell c2, k.cell c3, k.cell c4, k.cell c5, k.cell c6, k.cell c7, k.cell c8, k.cell c9⟩
theorem one_min1 (a b c d k z0 z1 m n e1 f s0 s1 s2 s3 : Int) (HC : Hid (∀ W, Calls Tryz.prog 9 #[.agg #[.int .i8 a, .int .i64 b, .int .i8 c, .int .i64 d]] W fun o w' => o = .returned (.int .i64 0) ∧ Dn W w')) (HL : Hid (∀ W, Calls Tryz.prog 29 #[.agg #[.int .i8 a, .int .i64 b, .int .i8 c, .int .i64 d]] W fun o w' => o = .returned (.tuple #[.int .i64 n, .int .i64 e1]) ∧ Dn W w')) (HS : Hid (∀ W, Calls Tryz.prog 30 #[.agg #[.int .i8 a, .int .i64 b, .int .i8 c, .int .i64 d], .int .i64 k] W fun o w' => o = .returned (.tuple #[.agg #[.int .i8 s0, .int .i64 s1, .int .i8 s2, .int .i64 s3], .int .i64 0]) ∧ Dn W w')) (HO : Hid (∀ W, Calls Tryz.prog 31 #[.int .i64 z0, .int .i64 z1] W fun o w' => o = .returned (.tuple #[.agg #[.int .i8 0, .int .i64 0, .int .i8 0, .int .i64 0], .int .i64 12]) ∧ Dn W w')) (g1 : z1 < z0) (HRL : Hid (∀ W, Calls Tryz.prog 33 #[.agg #[.int .i8 a, .int .i64 b, .int .i8 c, .int .i64 d]] W fun o w' => o = .returned (.tuple #[.int .i64 n, .int .i64 e1]) ∧ Dn W w')) (HRS : Hid (∀ W, Calls Tryz.prog 34 #[.agg #[.int .i8 a, .int .i64 b, .int .i8 c, .int .i64 d], .int .i64 k] W fun o w' => o = .returned (.tuple #[.agg #[.int .i8 s0, .int .i64 s1, .int .i8 s2, .int .i64 s3], .int .i64 0]) ∧ Dn W w')) (g2 : k = (-9223372036854775808)) (w : World) (hE : EnvR w) :
   Calls Tryz.prog 6 #[.agg #[.int .i8 a, .int .i64 b, .int .i8 c, .int .i64 d], .int .i64 k, .agg #[.int .i64 z0, .int .i64 z1]] w fun ro w' => ro = .returned (.bool true) ∧ Dn w w' := by
 have t1 : decide (z1 < z0) = true := by simpa using g1
 have t2 : decide (z0 ≤ z1) = false := by simp; omega
 clear g1
 have t3 : (k == (-9223372036854775808)) = true := by simpa using g2
 clear g2
 go_enter Tryz.func6, Tryz.ntmps6
 go_wp2_with fail
 obtain ⟨W1, hW1, uW1, c2, c3, c4, c5, l6, c7, c8, l9⟩ := preKn58x1 w a b c d z0 z1
 rw [← hW1]
 clear hW1
 refine (HC.out _).mono ?_
 rintro e w1 ⟨rfl, qw1⟩
 have a0 := nlt l6 qw1.size
 have a5 := nlt l9 qw1.size
 obtain ⟨a1, a2, a3, a4, a6, a7⟩ := mv6 qw1.cell c2 c3 c4 c5 c7 c8
 clear l6 c2 c3 c4 c5 l9 c7 c8
 have uw1 := uW1.trans qw1
 clear qw1 uW1
 go_wp2_with fail
 refine (HL.out _).mono ?_
 rintro e w2 ⟨rfl, qw2⟩
 have a8 := nlt a0 qw2.size
 have aD := nlt a5 qw2.size
 obtain ⟨a9, aA, aB, aC, aE, aF⟩ := mv6 qw2.cell a1 a2 a3 a4 a6 a7
 clear a0 a1 a2 a3 a4 a5 a6 a7
 have uw2 := uw1.trans qw2
 clear qw2 uw1
 go_wp2_with fail
 refine (HS.out _).mono ?_
 rintro e w3 ⟨rfl, qw3⟩
 have aG := nlt a8 qw3.size
 have aL := nlt aD qw3.size
 obtain ⟨aH, aI, aJ, aK, aM, aN⟩ := mv6 qw3.cell a9 aA aB aC aE aF
 clear a8 a9 aA aB aC aD aE aF
 have uw3 := uw2.trans qw3
 clear qw3 uw2
 go_wp2_with fail
 obtain ⟨W34, hW34⟩ : ∃ W34, W34 = w3.alloc (.cells #[.int .i8 s0, .int .i64 s1, .int .i8 s2, .int .i64 s3] 28) := ⟨_, rfl⟩
 have uW34 : Dn w3 W34 := by rw [hW34]; exact (Dn.refl _).alloc _
 have aO := nlt aG uW34.size
 have aT := nlt aL uW34.size
 obtain ⟨aP, aQ, aR, aS, aU, aV⟩ := mv6 uW34.cell aH aI aJ aK aM aN
 clear aG aH aI aJ aK aL aM aN
 have aW : W34.cell? ⟨w3.heap.size, 0, none⟩ = some (.int .i8 s0) := by rw [hW34]; simp [go_sem]
 have aX : W34.cell? ⟨w3.heap.size, 1, none⟩ = some (.int .i64 s1) := by rw [hW34]; simp [go_sem]
 have aY : W34.cell? ⟨w3.heap.size, 2, none⟩ = some (.int .i8 s2) := by rw [hW34]; simp [go_sem]
 have aZ : W34.cell? ⟨w3.heap.size, 3, none⟩ = some (.int .i64 s3) := by rw [hW34]; simp [go_sem]
 have b0 : w3.heap.size < W34.heap.size := by rw [hW34]; simp <;> omega
 rw [← hW34]
 clear hW34
 have vW34 := uw3.trans uW34
 clear uW34 uw3
 refine (HO.out _).mono ?_
 rintro e w4 ⟨rfl, qw4⟩
 have b1 := nlt aO qw4.size
 have b6 := nlt aT qw4.size
 have b9 := nlt b0 qw4.size
 obtain ⟨b2, b3, b4, b5, b7, b8, bA, bB, bC, bD⟩ := mv10 qw4.cell aP aQ aR aS aU aV aW aX aY aZ
 clear aO aP aQ aR aS aT aU aV b0 aW aX aY aZ
 have uw4 := vW34.trans qw4
 clear qw4 vW34
 go_wp2_with fail
 obtain ⟨W61, hW61⟩ : ∃ W61, W61 = w4.alloc (.cells #[.int .i8 0, .int .i64 0, .int .i8 0, .int .i64 0] 28) := ⟨_, rfl⟩
 have uW61 : Dn w4 W61 := by rw [hW61]; exact (Dn.refl _).alloc _
 have bE := nlt b1 uW61.size
 have bJ := nlt b6 uW61.size
 have bM := nlt b9 uW61.size
 obtain ⟨bF, bG, bH, bI, bK, bL, bN, bO, bP, bQ⟩ := mv10 uW61.cell b2 b3 b4 b5 b7 b8 bA bB bC bD
 clear b1 b2 b3 b4 b5 b6 b7 b8 b9 bA bB bC bD
 have bR : W61.cell? ⟨w4.heap.size, 0, none⟩ = some (.int .i8 0) := by rw [hW61]; simp [go_sem]
 have bS : W61.cell? ⟨w4.heap.size, 1, none⟩ = some (.int .i64 0) := by rw [hW61]; simp [go_sem]
 have bT : W61.cell? ⟨w4.heap.size, 2, none⟩ = some (.int .i8 0) := by rw [hW61]; simp [go_sem]
 have bU : W61.cell? ⟨w4.heap.size, 3, none⟩ = some (.int .i64 0) := by rw [hW61]; simp [go_sem]
 have bV : w4.heap.size < W61.heap.size := by rw [hW61]; simp <;> omega
 rw [← hW61]
 clear hW61
 have vW61 := uw4.trans uW61
 clear uW61 uw4
 have hS80 := kd1min1_10 (W := W61) (Dn.refl _) ⟨Dn.refl _, bF, bG, bH, bI, bK, bL, bR, bS, bT, bU⟩
 have bW := Lib.hid bN
 have bX := Lib.hid bO
 have bY := Lib.hid bP
 have bZ := Lib.hid bQ
 have HShS80 := Lib.hid hS80
 clear bF bG bH bI bK bL bN bO bP bQ bR bS bT bU
 refine wp_region_held_drew (S := fun w' => Dn W61 w' ∧ w'.cell? ⟨w.heap.size, 0, none⟩ = some (.int .i8 a) ∧ w'.cell? ⟨w.heap.size, 1, none⟩ = some (.int .i64 b) ∧ w'.cell? ⟨w.heap.size, 2, none⟩ = some (.int .i8 c) ∧ w'.cell? ⟨w.heap.size, 3, none⟩ = some (.int .i64 d) ∧ w'.cell? ⟨w.heap.size + 1, 0, none⟩ = some (.int .i64 z0) ∧ w'.cell? ⟨w.heap.size + 1, 1, none⟩ = some (.int .i64 z1) ∧ w'.cell? ⟨w4.heap.size, 0, none⟩ = some (.int .i8 0) ∧ w'.cell? ⟨w4.heap.size, 1, none⟩ = some (.int .i64 0) ∧ w'.cell? ⟨w4.heap.size, 2, none⟩ = some (.int .i8 0) ∧ w'.cell? ⟨w4.heap.size, 3, none⟩ = some (.int .i64 0)) (by kernel_rfl) ?_ (fun hHeld => ?_)
 · (try dsimp only); (first | exact kd1min1_10 ((Dn.refl _).drew) hS80 | exact kd1min1_10 ‹Dn _ _› ‹_› | exact kd1min1_10 (Up.dn ‹Up _ _›) ‹_› | assumption | exact kd1min1_10 ((Dn.refl _).alloc _) ‹_›)
 refine tk 0 ?_ rfl (by kernel_rfl) (fun _ _ _ => id) (by rfl) (by assumption) ?_ ?_
 rotate_left
 · (intro w hSw; (try dsimp only at hSw); go_simp)
   all_goals with_reducible rfl
 try simp only [Act.put, pL]
 refine tk 1 ?_ rfl (by kernel_rfl) (fun _ _ _ => id) (by rfl) (by assumption) ?_ ?_
 rotate_left
 · (intro w hSw; (try dsimp only at hSw); go_simp)
   all_goals with_reducible rfl
 try simp only [Act.put, pL]
 refine tk 2 ?_ rfl (by kernel_rfl) (fun _ _ _ => id) (by rfl) (by assumption) ?_ ?_
 rotate_left
 · (intro w hSw; (try dsimp only at hSw); go_simp)
   all_goals with_reducible rfl
 try simp only [Act.put, pL]
 refine tk 3 ?_ rfl (by kernel_rfl) (fun _ _ _ => id) (by rfl) (by assumption) ?_ ?_
 rotate_left
 · (intro w hSw; (try dsimp only at hSw); go_simp)
   all_goals with_reducible rfl
 try simp only [Act.put, pL]
 refine tk 4 ?_ rfl (by kernel_rfl) (fun _ _ _ => id) (by rfl) (by assumption) ?_ ?_
 rotate_left
 · (intro w hSw; (try dsimp only at hSw); go_simp)
   all_goals with_reducible rfl
 try simp only [Act.put, pL]
 refine tk 5 ?_ rfl (by kernel_rfl) (fun _ _ _ => id) (by rfl) (by assumption) ?_ ?_
 rotate_left
 · (intro w hSw; (try dsimp only at hSw); go_simp)
   all_goals with_reducible rfl
 try simp only [Act.put, pL]
 refine tk 6 ?_ rfl (by kernel_rfl) (fun _ _ _ => id) (by rfl) (by assumption) ?_ ?_
 rotate_left
 · (intro w hSw; (try dsimp only at hSw); go_simp)
   all_goals with_reducible rfl
 try simp only [Act.put, pL]
 refine tk 7 ?_ rfl (by kernel_rfl) (fun _ _ _ => id) (by rfl) (by assumption) ?_ ?_
 rotate_left
 · (intro w hSw; (try dsimp only at hSw); go_simp)
   all_goals with_reducible rfl
 try simp only [Act.put, pL]
 refine tk 8 ?_ rfl (by kernel_rfl) (fun _ _ _ => id) (by rfl) (by assumption) ?_ ?_
 rotate_left
 · (intro w hSw; (try dsimp only at hSw); go_simp)
   all_goals with_reducible rfl
 try simp only [Act.put, pL]
 refine wpAnyH_ready (rs := [9]) (by kernel_rfl) (by simp) ?_
 refine AllReadyH.cons rfl (fun K hK => ?_) AllReadyH.nil
 go_simp
 (first
    | (go_at_call 28; refine (g9_any _ _ _ _ _ _ _ _ _ _ _ ?_).mono ?_; (first | exact Or.inr ⟨by decide, rfl, rfl, rfl, rfl, rfl⟩ | exact Or.inl ⟨rfl, rfl, rfl, rfl, rfl, rfl⟩); rintro e wa ⟨rfl, qa⟩)
    | (go_at_call 32; refine (dy9 _ _ _).mono ?_; rintro e wa ⟨rfl, qa⟩))
 try go_wp2_with fail
 refine hK.out _ _ ?_ (fun hHeld => ?_)
 · (try dsimp only); (first | exact kd1min1_10 ((Dn.refl _).drew) hS80 | exact kd1min1_10 ‹Dn _ _› ‹_› | exact kd1min1_10 (Up.dn ‹Up _ _›) ‹_› | assumption | exact kd1min1_10 ((Dn.refl _).alloc _) ‹_›)
 clear hK K
 try simp only [Act.put, pL]
 refine tk 10 ?_ rfl (by kernel_rfl) (fun _ _ _ => id) (by rfl) (by assumption) ?_ ?_
 rotate_left
 · (intro w hSw; (try dsimp only at hSw); go_simp)
   all_goals with_reducible rfl
 try simp only [Act.put, pL]
 refine tk 11 ?_ rfl (by kernel_rfl) (fun _ _ _ => id) (by rfl) (by assumption) ?_ ?_
 rotate_left
 · (intro w hSw; (try dsimp only at hSw); go_simp)
   all_goals with_reducible rfl
 try simp only [Act.put, pL]
 refine tk 12 ?_ rfl (by kernel_rfl) (fun _ _ _ => id) (by rfl) (by assumption) ?_ ?_
 rotate_left
 · (intro w hSw; (try dsimp only at hSw); go_simp)
   all_goals with_reducible rfl
 try simp only [Act.put, pL]
 refine tk 13 ?_ rfl (by kernel_rfl) (fun _ _ _ => id) (by rfl) (by assumption) ?_ ?_
 rotate_left
 · (intro w hSw; (try dsimp only at hSw); go_simp)
   all_goals with_reducible rfl
 try simp only [Act.put, pL]
 refine tk 14 ?_ rfl (by kernel_rfl) (fun _ _ _ => id) (by rfl) (by assumption) ?_ ?_
 rotate_left
 · (intro w hSw; (try dsimp only at hSw); go_simp)
   all_goals with_reducible rfl
 try simp only [Act.put, pL]
 refine tk 15 ?_ rfl (by kernel_rfl) (fun _ _ _ => id) (by rfl) (by assumption) ?_ ?_
 rotate_left
 · (intro w hSw; (try dsimp only at hSw); go_simp)
   all_goals with_reducible rfl
 try simp only [Act.put, pL]
 refine tk 16 ?_ rfl (by kernel_rfl) (fun _ _ _ => id) (by rfl) (by assumption) ?_ ?_
 rotate_left
 · (intro w hSw; (try dsimp only at hSw); go_simp)
   all_goals with_reducible rfl
 try simp only [Act.put, pL]
 refine tk 17 ?_ rfl (by kernel_rfl) (fun _ _ _ => id) (by rfl) (by assumption) ?_ ?_
 rotate_left
 · (intro w hSw; (try dsimp only at hSw); go_simp)
   all_goals with_reducible rfl
 try simp only [Act.put, pL]
 refine tk 18 ?_ rfl (by kernel_rfl) (fun _ _ _ => id) (by rfl) (by assumption) ?_ ?_
 rotate_left
 · (intro w hSw; (try dsimp only at hSw); go_simp)
   all_goals with_reducible rfl
 try simp only [Act.put, pL]
 refine tu 19 rfl (by kernel_rfl) (fun _ _ _ => id) (by rfl) (by assumption) ?_
 try simp only [Act.put, pL]
 refine tu 20 rfl (by kernel_rfl) (fun _ _ _ => id) (by rfl) (by assumption) ?_
 try simp only [Act.put, pL]
 refine tu 21 rfl (by kernel_rfl) (fun _ _ _ => id) (by rfl) (by assumption) ?_
 try simp only [Act.put, pL]
 refine tu 22 rfl (by kernel_rfl) (fun _ _ _ => id) (by rfl) (by assumption) ?_
 try simp only [Act.put, pL]
 refine tu 23 rfl (by kernel_rfl) (fun _ _ _ => id) (by rfl) (by assumption) ?_
 try simp only [Act.put, pL]
 refine tu 24 rfl (by kernel_rfl) (fun _ _ _ => id) (by rfl) (by assumption) ?_
 try simp only [Act.put, pL]
 refine tu 25 rfl (by kernel_rfl) (fun _ _ _ => id) (by rfl) (by assumption) ?_
 try simp only [Act.put, pL]
 refine tu 26 rfl (by kernel_rfl) (fun _ _ _ => id) (by rfl) (by assumption) ?_
 try simp only [Act.put, pL]
 refine tu 27 rfl (by kernel_rfl) (fun _ _ _ => id) (by rfl) (by assumption) ?_
 try simp only [Act.put, pL]
 refine tk 28 ?_ rfl (by kernel_rfl) (fun _ _ _ => id) (by rfl) (by assumption) ?_ ?_
 rotate_left
 · (intro w hSw; (try dsimp only at hSw); go_simp)
   all_goals with_reducible rfl
 try simp only [Act.put, pL]
 refine tk 29 ?_ rfl (by kernel_rfl) (fun _ _ _ => id) (by rfl) (by assumption) ?_ ?_
 rotate_left
 · (intro w hSw; (try dsimp only at hSw); go_simp)
   all_goals with_reducible rfl
 try simp only [Act.put, pL]
 refine wpAnyH_done (by kernel_rfl) ?_ _
 all_goals skip
 all_goals
   clear hS80
   obtain ⟨uf95, c0, c1, c6, c9, dU, dV, dW, dX, dY, dZ⟩ := (‹Dn W61 _ ∧ _› : _ ∧ _)
   obtain ⟨w96, rfl⟩ : ∃ w96 : World, w96 = wa := ⟨_, rfl⟩
   have cA := nlt bE uf95.size
   clear bE
   have e0 := nlt bJ uf95.size
   clear bJ
   have cB := nlt bM uf95.size
   clear bM
   have e2 := nlt bV uf95.size
   clear bV
   obtain ⟨cC, cD, cE, cF⟩ := mv4 uf95.cell bW.out bX.out bY.out bZ.out
   clear bW bX bY bZ
   have vuf95 := vW61.trans uf95
   clear uf95 vW61 HShS80
   clear dU dV e0
   clear dW dX dY dZ e2
   go_wp2_with fail
   refine (HRL.out _).mono ?_
   rintro e w5 ⟨rfl, qw5⟩
   have cG := nlt cA qw5.size
   have cL := nlt cB qw5.size
   obtain ⟨cH, cI, cJ, cK, cM, cN, cO, cP⟩ := mv8 qw5.cell c0 c1 c6 c9 cC cD cE cF
   clear cA c0 c1 c6 c9 cB cC cD cE cF
   have uw5 := vuf95.trans qw5
   clear qw5 vuf95
   go_wp2_with fail
   refine (HRS.out _).mono ?_
   rintro e w6 ⟨rfl, qw6⟩
   have cQ := nlt cG qw6.size
   have cV := nlt cL qw6.size
   obtain ⟨cR, cS, cT, cU, cW, cX, cY, cZ⟩ := mv8 qw6.cell cH cI cJ cK cM cN cO cP
   clear cG cH cI cJ cK cL cM cN cO cP
   have uw6 := uw5.trans qw6
   clear qw6 uw5
   go_wp2_with fail
   obtain ⟨W125, hW125⟩ : ∃ W125, W125 = w6.alloc (.cells #[.int .i8 s0, .int .i64 s1, .int .i8 s2, .int .i64 s3] 28) := ⟨_, rfl⟩
   have uW125 : Dn w6 W125 := by rw [hW125]; exact (Dn.refl _).alloc _
   have d0 := nlt cQ uW125.size
   have d5 := nlt cV uW125.size
   obtain ⟨d1, d2, d3, d4, d6, d7, d8, d9⟩ := mv8 uW125.cell cR cS cT cU cW cX cY cZ
   clear cQ cR cS cT cU cV cW cX cY cZ
   have dA : W125.cell? ⟨w6.heap.size, 0, none⟩ = some (.int .i8 s0) := by rw [hW125]; simp [go_sem]
   have dB : W125.cell? ⟨w6.heap.size, 1, none⟩ = some (.int .i64 s1) := by rw [hW125]; simp [go_sem]
   have dC : W125.cell? ⟨w6.heap.size, 2, none⟩ = some (.int .i8 s2) := by rw [hW125]; simp [go_sem]
   have dD : W125.cell? ⟨w6.heap.size, 3, none⟩ = some (.int .i64 s3) := by rw [hW125]; simp [go_sem]
   have dE : w6.heap.size < W125.heap.size := by rw [hW125]; simp <;> omega
   rw [← hW125]
   clear hW125
   have vW125 := uw6.trans uW125
   clear uW125 uw6
   refine (g9_ok s0 s1 s2 s3 0 0 0 0 0 _).mono ?_
   rintro e w7 ⟨rfl, qw7⟩
   have dF := nlt d0 qw7.size
   have dK := nlt d5 qw7.size
   have dP := nlt dE qw7.size
   obtain ⟨dG, dH, dI, dJ, dL, dM, dN, dO, dQ, dR, dS, dT⟩ := mv12 qw7.cell d1 d2 d3 d4 d6 d7 d8 d9 dA dB dC dD
   clear d0 d1 d2 d3 d4 d5 d6 d7 d8 d9 dE dA dB dC dD
   have uw7 := vW125.trans qw7
   clear qw7 vW125
   go_wp2_with fail
   refine (lives9 _ (hE.dn uw7)).mono ?_
   rintro e w8 ⟨rfl, qw8⟩
   have e3 := nlt dF qw8.size
   have e8 := nlt dK qw8.size
   have eG := nlt dP qw8.size
   obtain ⟨e4, e5, e6, e7, e9, eD, eE, eF, eH, eI, eJ, eK⟩ := mv12 qw8.cell dG dH dI dJ dL dM dN dO dQ dR dS dT
   clear dF dG dH dI dJ dK dL dM dN dO dP dQ dR dS dT
   have uw8 := uw7.trans qw8
   clear qw8 uw7
   go_wp2_with fail
   go_ret
   exact ⟨rfl, uw8⟩
theorem kd1back1_10 {W w1 w2 : World} {a0 a1 a2 a3 a4 a5 a6 a7 a8 a9 : Addr} {v0 v1 v2 v3 v4 v5 v6 v7 v8 v9 : Value} (k : Dn w1 w2) (h : Dn W w1 ∧ w1.cell? a0 = some v0 ∧ w1.cell? a1 = some v1 ∧ w1.cell? a2 = some v2 ∧ w1.cell? a3 = some v3 ∧ w1.cell? a4 = some v4 ∧ w1.cell? a5 = some v5 ∧ w1.cell? a6 = some v6 ∧ w1.cell? a7 = some v7 ∧ w1.cell? a8 = some v8 ∧ w1.cell? a9 = some v9) :
  Dn W w2 ∧ w2.cell? a0 = some v0 ∧ w2.cell? a1 = some v1 ∧ w2.cell? a2 = some v2 ∧ w2.cell? a3 = some v3 ∧ w2.cell? a4 = some v4 ∧ w2.cell? a5 = some v5 ∧ w2.cell? a6 = some v6 ∧ w2.cell? a7 = some v7 ∧ w2.cell? a8 = some v8 ∧ w2.cell? a9 = some v9 := by
 obtain ⟨h1, c0, c1, c2, c3, c4, c5, c6, c7, c8, c9⟩ := h
 exact ⟨h1.trans k, k.cell c0, k.cell c1, k.cell c2, k.cell c3, k.cell c4, k.cell c5, k.cell c6, k.cell c7, k.cell c8, k.cell c9⟩
theorem one_back1 (a b c d k z0 z1 m n e1 f s0 s1 s2 s3 : Int) (HC : Hid (∀ W, Calls Tryz.prog 9 #[.agg #[.int .i8 a, .int .i64 b, .int .i8 c, .int .i64 d]] W fun o w' => o = .returned (.int .i64 0) ∧ Dn W w')) (HL : Hid (∀ W, Calls Tryz.prog 29 #[.agg #[.int .i8 a, .int .i64 b, .int .i8 c, .int .i64 d]] W fun o w' => o = .returned (.tuple #[.int .i64 n, .int .i64 e1]) ∧ Dn W w')) (HS : Hid (∀ W, Calls Tryz.prog 30 #[.agg #[.int .i8 a, .int .i64 b, .int .i8 c, .int .i64 d], .int .i64 k] W fun o w' => o = .returned (.tuple #[.agg #[.int .i8 s0, .int .i64 s1, .int .i8 s2, .int .i64 s3], .int .i64 0]) ∧ Dn W w')) (HO : Hid (∀ W, Calls Tryz.prog 31 #[.int .i64 z0, .int .i64 z1] W fun o w' => o = .returned (.tuple #[.agg #[.int .i8 0, .int .i64 0, .int .i8 0, .int .i64 0], .int .i64 12]) ∧ Dn W w')) (g1 : z1 < z0) (HRL : Hid (∀ W, Calls Tryz.prog 33 #[.agg #[.int .i8 a, .int .i64 b, .int .i8 c, .int .i64 d]] W fun o w' => o = .returned (.tuple #[.int .i64 n, .int .i64 e1]) ∧ Dn W w')) (HRS : Hid (∀ W, Calls Tryz.prog 34 #[.agg #[.int .i8 a, .int .i64 b, .int .i8 c, .int .i64 d], .int .i64 k] W fun o w' => o = .returned (.tuple #[.agg #[.int .i8 s0, .int .i64 s1, .int .i8 s2, .int .i64 s3], .int .i64 0]) ∧ Dn W w')) (g2 : k ≠ (-9223372036854775808)) (hk : I64 k) (HB : Hid (∀ W, Calls Tryz.prog 30 #[.agg #[.int .i8 s0, .int .i64 s1, .int .i8 s2, .int .i64 s3], .int .i64 (-k)] W fun o w' => o = .returned (.tuple #[.agg #[.int .i8 a, .int .i64 b, .int .i8 c, .int .i64 d], .int .i64 0]) ∧ Dn W w')) (w : World) (hE : EnvR w) :
   Calls Tryz.prog 6 #[.agg #[.int .i8 a, .int .i64 b, .int .i8 c, .int .i64 d], .int .i64 k, .agg #[.int .i64 z0, .int .i64 z1]] w fun ro w' => ro = .returned (.bool true) ∧ Dn w w' := by
 have t1 : decide (z1 < z0) = true := by simpa using g1
 have t2 : decide (z0 ≤ z1) = false := by simp; omega
 clear g1
 have t3 : (k == (-9223372036854775808)) = false := by simpa using g2
 have t4 : IntKind.i64.wrap (-k) = -k := IntWalk.i64_in _ (by have := hk.1; have := hk.2; omega)
 clear g2 hk
 go_enter Tryz.func6, Tryz.ntmps6
 go_wp2_with fail
 obtain ⟨W1, hW1, uW1, c2, c3, c4, c5, l6, c7, c8, l9⟩ := preKn58x1 w a b c d z0 z1
 rw [← hW1]
 clear hW1
 refine (HC.out _).mono ?_
 rintro e w1 ⟨rfl, qw1⟩
 have a0 := nlt l6 qw1.size
 have a5 := nlt l9 qw1.size
 obtain ⟨a1, a2, a3, a4, a6, a7⟩ := mv6 qw1.cell c2 c3 c4 c5 c7 c8
 clear l6 c2 c3 c4 c5 l9 c7 c8
 have uw1 := uW1.trans qw1
 clear qw1 uW1
 go_wp2_with fail
 refine (HL.out _).mono ?_
 rintro e w2 ⟨rfl, qw2⟩
 have a8 := nlt a0 qw2.size
 have aD := nlt a5 qw2.size
 obtain ⟨a9, aA, aB, aC, aE, aF⟩ := mv6 qw2.cell a1 a2 a3 a4 a6 a7
 clear a0 a1 a2 a3 a4 a5 a6 a7
 have uw2 := uw1.trans qw2
 clear qw2 uw1
 go_wp2_with fail
 refine (HS.out _).mono ?_
 rintro e w3 ⟨rfl, qw3⟩
 have aG := nlt a8 qw3.size
 have aL := nlt aD qw3.size
 obtain ⟨aH, aI, aJ, aK, aM, aN⟩ := mv6 qw3.cell a9 aA aB aC aE aF
 clear a8 a9 aA aB aC aD aE aF
 have uw3 := uw2.trans qw3
 clear qw3 uw2
 go_wp2_with fail
 obtain ⟨W34, hW34⟩ : ∃ W34, W34 = w3.alloc (.cells #[.int .i8 s0, .int .i64 s1, .int .i8 s2, .int .i64 s3] 28) := ⟨_, rfl⟩
 have uW34 : Dn w3 W34 := by rw [hW34]; exact (Dn.refl _).alloc _
 have aO := nlt aG uW34.size
 have aT := nlt aL uW34.size
 obtain ⟨aP, aQ, aR, aS, aU, aV⟩ := mv6 uW34.cell aH aI aJ aK aM aN
 clear aG aH aI aJ aK aL aM aN
 have aW : W34.cell? ⟨w3.heap.size, 0, none⟩ = some (.int .i8 s0) := by rw [hW34]; simp [go_sem]
 have aX : W34.cell? ⟨w3.heap.size, 1, none⟩ = some (.int .i64 s1) := by rw [hW34]; simp [go_sem]
 have aY : W34.cell? ⟨w3.heap.size, 2, none⟩ = some (.int .i8 s2) := by rw [hW34]; simp [go_sem]
 have aZ : W34.cell? ⟨w3.heap.size, 3, none⟩ = some (.int .i64 s3) := by rw [hW34]; simp [go_sem]
 have b0 : w3.heap.size < W34.heap.size := by rw [hW34]; simp <;> omega
 rw [← hW34]
 clear hW34
 have vW34 := uw3.trans uW34
 clear uW34 uw3
 refine (HO.out _).mono ?_
 rintro e w4 ⟨rfl, qw4⟩
 have b1 := nlt aO qw4.size
 have b6 := nlt aT qw4.size
 have b9 := nlt b0 qw4.size
 obtain ⟨b2, b3, b4, b5, b7, b8, bA, bB, bC, bD⟩ := mv10 qw4.cell aP aQ aR aS aU aV aW aX aY aZ
 clear aO aP aQ aR aS aT aU aV b0 aW aX aY aZ
 have uw4 := vW34.trans qw4
 clear qw4 vW34
 go_wp2_with fail
 obtain ⟨W61, hW61⟩ : ∃ W61, W61 = w4.alloc (.cells #[.int .i8 0, .int .i64 0, .int .i8 0, .int .i64 0] 28) := ⟨_, rfl⟩
 have uW61 : Dn w4 W61 := by rw [hW61]; exact (Dn.refl _).alloc _
 have bE := nlt b1 uW61.size
 have bJ := nlt b6 uW61.size
 have bM := nlt b9 uW61.size
 obtain ⟨bF, bG, bH, bI, bK, bL, bN, bO, bP, bQ⟩ := mv10 uW61.cell b2 b3 b4 b5 b7 b8 bA bB bC bD
 clear b1 b2 b3 b4 b5 b6 b7 b8 b9 bA bB bC bD
 have bR : W61.cell? ⟨w4.heap.size, 0, none⟩ = some (.int .i8 0) := by rw [hW61]; simp [go_sem]
 have bS : W61.cell? ⟨w4.heap.size, 1, none⟩ = some (.int .i64 0) := by rw [hW61]; simp [go_sem]
 have bT : W61.cell? ⟨w4.heap.size, 2, none⟩ = some (.int .i8 0) := by rw [hW61]; simp [go_sem]
 have bU : W61.cell? ⟨w4.heap.size, 3, none⟩ = some (.int .i64 0) := by rw [hW61]; simp [go_sem]
 have bV : w4.heap.size < W61.heap.size := by rw [hW61]; simp <;> omega
 rw [← hW61]
 clear hW61
 have vW61 := uw4.trans uW61
 clear uW61 uw4
 have hS80 := kd1back1_10 (W := W61) (Dn.refl _) ⟨Dn.refl _, bF, bG, bH, bI, bK, bL, bR, bS, bT, bU⟩
 have bW := Lib.hid bN
 have bX := Lib.hid bO
 have bY := Lib.hid bP
 have bZ := Lib.hid bQ
 have HShS80 := Lib.hid hS80
 clear bF bG bH bI bK bL bN bO bP bQ bR bS bT bU
 refine wp_region_held_drew (S := fun w' => Dn W61 w' ∧ w'.cell? ⟨w.heap.size, 0, none⟩ = some (.int .i8 a) ∧ w'.cell? ⟨w.heap.size, 1, none⟩ = some (.int .i64 b) ∧ w'.cell? ⟨w.heap.size, 2, none⟩ = some (.int .i8 c) ∧ w'.cell? ⟨w.heap.size, 3, none⟩ = some (.int .i64 d) ∧ w'.cell? ⟨w.heap.size + 1, 0, none⟩ = some (.int .i64 z0) ∧ w'.cell? ⟨w.heap.size + 1, 1, none⟩ = some (.int .i64 z1) ∧ w'.cell? ⟨w4.heap.size, 0, none⟩ = some (.int .i8 0) ∧ w'.cell? ⟨w4.heap.size, 1, none⟩ = some (.int .i64 0) ∧ w'.cell? ⟨w4.heap.size, 2, none⟩ = some (.int .i8 0) ∧ w'.cell? ⟨w4.heap.size, 3, none⟩ = some (.int .i64 0)) (by kernel_rfl) ?_ (fun hHeld => ?_)
 · (try dsimp only); (first | exact kd1back1_10 ((Dn.refl _).drew) hS80 | exact kd1back1_10 ‹Dn _ _› ‹_› | exact kd1back1_10 (Up.dn ‹Up _ _›) ‹_› | assumption | exact kd1back1_10 ((Dn.refl _).alloc _) ‹_›)
 refine tk 0 ?_ rfl (by kernel_rfl) (fun _ _ _ => id) (by rfl) (by assumption) ?_ ?_
 rotate_left
 · (intro w hSw; (try dsimp only at hSw); go_simp)
   all_goals with_reducible rfl
 try simp only [Act.put, pL]
 refine tk 1 ?_ rfl (by kernel_rfl) (fun _ _ _ => id) (by rfl) (by assumption) ?_ ?_
 rotate_left
 · (intro w hSw; (try dsimp only at hSw); go_simp)
   all_goals with_reducible rfl
 try simp only [Act.put, pL]
 refine tk 2 ?_ rfl (by kernel_rfl) (fun _ _ _ => id) (by rfl) (by assumption) ?_ ?_
 rotate_left
 · (intro w hSw; (try dsimp only at hSw); go_simp)
   all_goals with_reducible rfl
 try simp only [Act.put, pL]
 refine tk 3 ?_ rfl (by kernel_rfl) (fun _ _ _ => id) (by rfl) (by assumption) ?_ ?_
 rotate_left
 · (intro w hSw; (try dsimp only at hSw); go_simp)
   all_goals with_reducible rfl
 try simp only [Act.put, pL]
 refine tk 4 ?_ rfl (by kernel_rfl) (fun _ _ _ => id) (by rfl) (by assumption) ?_ ?_
 rotate_left
 · (intro w hSw; (try dsimp only at hSw); go_simp)
   all_goals with_reducible rfl
 try simp only [Act.put, pL]
 refine tk 5 ?_ rfl (by kernel_rfl) (fun _ _ _ => id) (by rfl) (by assumption) ?_ ?_
 rotate_left
 · (intro w hSw; (try dsimp only at hSw); go_simp)
   all_goals with_reducible rfl
 try simp only [Act.put, pL]
 refine tk 6 ?_ rfl (by kernel_rfl) (fun _ _ _ => id) (by rfl) (by assumption) ?_ ?_
 rotate_left
 · (intro w hSw; (try dsimp only at hSw); go_simp)
   all_goals with_reducible rfl
 try simp only [Act.put, pL]
 refine tk 7 ?_ rfl (by kernel_rfl) (fun _ _ _ => id) (by rfl) (by assumption) ?_ ?_
 rotate_left
 · (intro w hSw; (try dsimp only at hSw); go_simp)
   all_goals with_reducible rfl
 try simp only [Act.put, pL]
 refine tk 8 ?_ rfl (by kernel_rfl) (fun _ _ _ => id) (by rfl) (by assumption) ?_ ?_
 rotate_left
 · (intro w hSw; (try dsimp only at hSw); go_simp)
   all_goals with_reducible rfl
 try simp only [Act.put, pL]
 refine wpAnyH_ready (rs := [9]) (by kernel_rfl) (by simp) ?_
 refine AllReadyH.cons rfl (fun K hK => ?_) AllReadyH.nil
 go_simp
 (first
    | (go_at_call 28; refine (g9_any _ _ _ _ _ _ _ _ _ _ _ ?_).mono ?_; (first | exact Or.inr ⟨by decide, rfl, rfl, rfl, rfl, rfl⟩ | exact Or.inl ⟨rfl, rfl, rfl, rfl, rfl, rfl⟩); rintro e wa ⟨rfl, qa⟩)
    | (go_at_call 32; refine (dy9 _ _ _).mono ?_; rintro e wa ⟨rfl, qa⟩))
 try go_wp2_with fail
 refine hK.out _ _ ?_ (fun hHeld => ?_)
 · (try dsimp only); (first | exact kd1back1_10 ((Dn.refl _).drew) hS80 | exact kd1back1_10 ‹Dn _ _› ‹_› | exact kd1back1_10 (Up.dn ‹Up _ _›) ‹_› | assumption | exact kd1back1_10 ((Dn.refl _).alloc _) ‹_›)
 clear hK K
 try simp only [Act.put, pL]
 refine tk 10 ?_ rfl (by kernel_rfl) (fun _ _ _ => id) (by rfl) (by assumption) ?_ ?_
 rotate_left
 · (intro w hSw; (try dsimp only at hSw); go_simp)
   all_goals with_reducible rfl
 try simp only [Act.put, pL]
 refine tk 11 ?_ rfl (by kernel_rfl) (fun _ _ _ => id) (by rfl) (by assumption) ?_ ?_
 rotate_left
 · (intro w hSw; (try dsimp only at hSw); go_simp)
   all_goals with_reducible rfl
 try simp only [Act.put, pL]
 refine tk 12 ?_ rfl (by kernel_rfl) (fun _ _ _ => id) (by rfl) (by assumption) ?_ ?_
 rotate_left
 · (intro w hSw; (try dsimp only at hSw); go_simp)
   all_goals with_reducible rfl
 try simp only [Act.put, pL]
 refine tk 13 ?_ rfl (by kernel_rfl) (fun _ _ _ => id) (by rfl) (by assumption) ?_ ?_
 rotate_left
 · (intro w hSw; (try dsimp only at hSw); go_simp)
   all_goals with_reducible rfl
 try simp only [Act.put, pL]
 refine tk 14 ?_ rfl (by kernel_rfl) (fun _ _ _ => id) (by rfl) (by assumption) ?_ ?_
 rotate_left
 · (intro w hSw; (try dsimp only at hSw); go_simp)
   all_goals with_reducible rfl
 try simp only [Act.put, pL]
 refine tk 15 ?_ rfl (by kernel_rfl) (fun _ _ _ => id) (by rfl) (by assumption) ?_ ?_
 rotate_left
 · (intro w hSw; (try dsimp only at hSw); go_simp)
   all_goals with_reducible rfl
 try simp only [Act.put, pL]
 refine tk 16 ?_ rfl (by kernel_rfl) (fun _ _ _ => id) (by rfl) (by assumption) ?_ ?_
 rotate_left
 · (intro w hSw; (try dsimp only at hSw); go_simp)
   all_goals with_reducible rfl
 try simp only [Act.put, pL]
 refine tk 17 ?_ rfl (by kernel_rfl) (fun _ _ _ => id) (by rfl) (by assumption) ?_ ?_
 rotate_left
 · (intro w hSw; (try dsimp only at hSw); go_simp)
   all_goals with_reducible rfl
 try simp only [Act.put, pL]
 refine tk 18 ?_ rfl (by kernel_rfl) (fun _ _ _ => id) (by rfl) (by assumption) ?_ ?_
 rotate_left
 · (intro w hSw; (try dsimp only at hSw); go_simp)
   all_goals with_reducible rfl
 try simp only [Act.put, pL]
 refine tu 19 rfl (by kernel_rfl) (fun _ _ _ => id) (by rfl) (by assumption) ?_
 try simp only [Act.put, pL]
 refine tu 20 rfl (by kernel_rfl) (fun _ _ _ => id) (by rfl) (by assumption) ?_
 try simp only [Act.put, pL]
 refine tu 21 rfl (by kernel_rfl) (fun _ _ _ => id) (by rfl) (by assumption) ?_
 try simp only [Act.put, pL]
 refine tu 22 rfl (by kernel_rfl) (fun _ _ _ => id) (by rfl) (by assumption) ?_
 try simp only [Act.put, pL]
 refine tu 23 rfl (by kernel_rfl) (fun _ _ _ => id) (by rfl) (by assumption) ?_
 try simp only [Act.put, pL]
 refine tu 24 rfl (by kernel_rfl) (fun _ _ _ => id) (by rfl) (by assumption) ?_
 try simp only [Act.put, pL]
 refine tu 25 rfl (by kernel_rfl) (fun _ _ _ => id) (by rfl) (by assumption) ?_
 try simp only [Act.put, pL]
 refine tu 26 rfl (by kernel_rfl) (fun _ _ _ => id) (by rfl) (by assumption) ?_
 try simp only [Act.put, pL]
 refine tu 27 rfl (by kernel_rfl) (fun _ _ _ => id) (by rfl) (by assumption) ?_
 try simp only [Act.put, pL]
 refine tk 28 ?_ rfl (by kernel_rfl) (fun _ _ _ => id) (by rfl) (by assumption) ?_ ?_
 rotate_left
 · (intro w hSw; (try dsimp only at hSw); go_simp)
   all_goals with_reducible rfl
 try simp only [Act.put, pL]
 refine tk 29 ?_ rfl (by kernel_rfl) (fun _ _ _ => id) (by rfl) (by assumption) ?_ ?_
 rotate_left
 · (intro w hSw; (try dsimp only at hSw); go_simp)
   all_goals with_reducible rfl
 try simp only [Act.put, pL]
 refine wpAnyH_done (by kernel_rfl) ?_ _
 all_goals skip
 all_goals
   clear hS80
   obtain ⟨uf95, c0, c1, c6, c9, fH, fI, fJ, fK, fL, fM⟩ := (‹Dn W61 _ ∧ _› : _ ∧ _)
   obtain ⟨w96, rfl⟩ : ∃ w96 : World, w96 = wa := ⟨_, rfl⟩
   have cA := nlt bE uf95.size
   clear bE
   have fN := nlt bJ uf95.size
   clear bJ
   have cB := nlt bM uf95.size
   clear bM
   have fO := nlt bV uf95.size
   clear bV
   obtain ⟨cC, cD, cE, cF⟩ := mv4 uf95.cell bW.out bX.out bY.out bZ.out
   clear bW bX bY bZ
   have vuf95 := vW61.trans uf95
   clear uf95 vW61 HShS80
   clear fH fI fN
   clear fJ fK fL fM fO
   go_wp2_with fail
   refine (HRL.out _).mono ?_
   rintro e w5 ⟨rfl, qw5⟩
   have cG := nlt cA qw5.size
   have cL := nlt cB qw5.size
   obtain ⟨cH, cI, cJ, cK, cM, cN, cO, cP⟩ := mv8 qw5.cell c0 c1 c6 c9 cC cD cE cF
   clear cA c0 c1 c6 c9 cB cC cD cE cF
   have uw5 := vuf95.trans qw5
   clear qw5 vuf95
   go_wp2_with fail
   refine (HRS.out _).mono ?_
   rintro e w6 ⟨rfl, qw6⟩
   have cQ := nlt cG qw6.size
   have cV := nlt cL qw6.size
   obtain ⟨cR, cS, cT, cU, cW, cX, cY, cZ⟩ := mv8 qw6.cell cH cI cJ cK cM cN cO cP
   clear cG cH cI cJ cK cL cM cN cO cP
   have uw6 := uw5.trans qw6
   clear qw6 uw5
   go_wp2_with fail
   obtain ⟨W125, hW125⟩ : ∃ W125, W125 = w6.alloc (.cells #[.int .i8 s0, .int .i64 s1, .int .i8 s2, .int .i64 s3] 28) := ⟨_, rfl⟩
   have uW125 : Dn w6 W125 := by rw [hW125]; exact (Dn.refl _).alloc _
   have d0 := nlt cQ uW125.size
   have d5 := nlt cV uW125.size
   obtain ⟨d1, d2, d3, d4, d6, d7, d8, d9⟩ := mv8 uW125.cell cR cS cT cU cW cX cY cZ
   clear cQ cR cS cT cU cV cW cX cY cZ
   have dA : W125.cell? ⟨w6.heap.size, 0, none⟩ = some (.int .i8 s0) := by rw [hW125]; simp [go_sem]
   have dB : W125.cell? ⟨w6.heap.size, 1, none⟩ = some (.int .i64 s1) := by rw [hW125]; simp [go_sem]
   have dC : W125.cell? ⟨w6.heap.size, 2, none⟩ = some (.int .i8 s2) := by rw [hW125]; simp [go_sem]
   have dD : W125.cell? ⟨w6.heap.size, 3, none⟩ = some (.int .i64 s3) := by rw [hW125]; simp [go_sem]
   have dE : w6.heap.size < W125.heap.size := by rw [hW125]; simp <;> omega
   rw [← hW125]
   clear hW125
   have vW125 := uw6.trans uW125
   clear uW125 uw6
   refine (g9_ok s0 s1 s2 s3 0 0 0 0 0 _).mono ?_
   rintro e w7 ⟨rfl, qw7⟩
   have dF := nlt d0 qw7.size
   have dK := nlt d5 qw7.size
   have dP := nlt dE qw7.size
   obtain ⟨dG, dH, dI, dJ, dL, dM, dN, dO, dQ, dR, dS, dT⟩ := mv12 qw7.cell d1 d2 d3 d4 d6 d7 d8 d9 dA dB dC dD
   clear d0 d1 d2 d3 d4 d5 d6 d7 d8 d9 dE dA dB dC dD
   have uw7 := vW125.trans qw7
   clear qw7 vW125
   go_wp2_with fail
   refine (HB.out _).mono ?_
   rintro e w8 ⟨rfl, qw8⟩
   have dU := nlt dF qw8.size
   have dZ := nlt dK qw8.size
   have e5 := nlt dP qw8.size
   obtain ⟨dV, dW, dX, dY, e0, e2, e3, e4, e6, e7, e8, e9⟩ := mv12 qw8.cell dG dH dI dJ dL dM dN dO dQ dR dS dT
   clear dF dG dH dI dJ dK dL dM dN dO dP dQ dR dS dT
   have uw8 := uw7.trans qw8
   clear qw8 uw7
   go_wp2_with fail
   obtain ⟨W171, hW171⟩ : ∃ W171, W171 = w8.alloc (.cells #[.int .i8 a, .int .i64 b, .int .i8 c, .int .i64 d] 28) := ⟨_, rfl⟩
   have uW171 : Dn w8 W171 := by rw [hW171]; exact (Dn.refl _).alloc _
   have eD := nlt dU uW171.size
   have eI := nlt dZ uW171.size
   have eN := nlt e5 uW171.size
   obtain ⟨eE, eF, eG, eH, eJ, eK, eL, eM, eO, eP, eQ, eR⟩ := mv12 uW171.cell dV dW dX dY e0 e2 e3 e4 e6 e7 e8 e9
   clear dU dV dW dX dY dZ e0 e2 e3 e4 e5 e6 e7 e8 e9
   have eS : W171.cell? ⟨w8.heap.size, 0, none⟩ = some (.int .i8 a) := by rw [hW171]; simp [go_sem]
   have eT : W171.cell? ⟨w8.heap.size, 1, none⟩ = some (.int .i64 b) := by rw [hW171]; simp [go_sem]
   have eU : W171.cell? ⟨w8.heap.size, 2, none⟩ = some (.int .i8 c) := by rw [hW171]; simp [go_sem]
   have eV : W171.cell? ⟨w8.heap.size, 3, none⟩ = some (.int .i64 d) := by rw [hW171]; simp [go_sem]
   have eW : w8.heap.size < W171.heap.size := by rw [hW171]; simp <;> omega
   rw [← hW171]
   clear hW171
   have vW171 := uw8.trans uW171
   clear uW171 uw8
   refine (g9_ok a b c d 0 0 0 0 0 _).mono ?_
   rintro e w9 ⟨rfl, qw9⟩
   have eX := nlt eD qw9.size
   have f2 := nlt eI qw9.size
   have f7 := nlt eN qw9.size
   have fC := nlt eW qw9.size
   obtain ⟨eY, eZ, f0, f1, f3, f4, f5, f6, f8, f9, fA, fB, fD, fE, fF, fG⟩ := mv16 qw9.cell eE eF eG eH eJ eK eL eM eO eP eQ eR eS eT eU eV
   clear eD eE eF eG eH eI eJ eK eL eM eN eO eP eQ eR eW eS eT eU eV
   have uw9 := vW171.trans qw9
   clear qw9 vW171
   go_wp2_with fail
   refine (lives9 _ (hE.dn uw9)).mono ?_
   rintro e w10 ⟨rfl, qw10⟩
   have fP := nlt eX qw10.size
   have fU := nlt f2 qw10.size
   have fZ := nlt f7 qw10.size
   have g6 := nlt fC qw10.size
   obtain ⟨fQ, fR, fS, fT, fV, fW, fX, fY, g0, g3, g4, g5, g7, g8, g9, gA⟩ := mv16 qw10.cell eY eZ f0 f1 f3 f4 f5 f6 f8 f9 fA fB fD fE fF fG
   clear eX eY eZ f0 f1 f2 f3 f4 f5 f6 f7 f8 f9 fA fB fC fD fE fF fG
   have uw10 := uw9.trans qw10
   clear qw10 uw9
   go_wp2_with fail
   go_ret
   exact ⟨rfl, uw10⟩
end Go.Proofs.YtcdkeiolblifkaaGreatDoor
