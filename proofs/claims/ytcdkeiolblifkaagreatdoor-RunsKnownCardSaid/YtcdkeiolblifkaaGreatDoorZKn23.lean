/- Walks and laws that the claim's theorem leans on: part 23. -/
import Derived.Test.YtcdkeiolblifkaaGreatDoorZKn1
import Derived.Test.YtcdkeiolblifkaaGreatDoorZKn12
import Derived.Test.YtcdkeiolblifkaaGreatDoorZKn13
import Derived.Test.YtcdkeiolblifkaaGreatDoorZKn15
import Derived.Test.YtcdkeiolblifkaaGreatDoorZKn16
import Derived.Test.YtcdkeiolblifkaaGreatDoorZKn17
import Derived.Test.YtcdkeiolblifkaaGreatDoorZKn18
import Derived.Test.YtcdkeiolblifkaaGreatDoorZKn19
import Derived.Test.YtcdkeiolblifkaaGreatDoorZKn20
import Derived.Test.YtcdkeiolblifkaaGreatDoorZKn21
import Derived.Test.YtcdkeiolblifkaaGreatDoorZKn22
namespace Go.Proofs.YtcdkeiolblifkaaGreatDoor
set_option maxHeartbeats 40000000
set_option maxRecDepth 100000
open Go.RowKit
set_option linter.unusedVariables false
set_option linter.unusedSimpArgs false
theorem preKn50x1 (w : World) (a b c d e f g h : Int) : ∃ W1, W1 = (w.alloc (.cells #[.int .i8 a, .int .i64 b, .int .i8 c, .int .i64 d] 28)).alloc (.cells #[.int .i8 e, .int .i64 f, .int .i8 g, .int .i64 h] 28) ∧ (Dn w W1) ∧ (W1.cell? ⟨w.heap.size, 0, none⟩ = some (.int .i8 a)) ∧ (W1.cell? ⟨w.heap.size, 1, none⟩ = some (.int .i64 b)) ∧ (W1.cell? ⟨w.heap.size, 2, none⟩ = some (.int .i8 c)) ∧ (W1.cell? ⟨w.heap.size, 3, none⟩ = some (.int .i64 d)) ∧ (W1.cell? ⟨w.heap.size + 1, 0, none⟩ = some (.int .i8 e)) ∧ (W1.cell? ⟨w.heap.size + 1, 1, none⟩ = some (.int .i64 f)) ∧ (W1.cell? ⟨w.heap.size + 1, 2, none⟩ = some (.int .i8 g)) ∧ (W1.cell? ⟨w.heap.size + 1, 3, none⟩ = some (.int .i64 h)) := by
  obtain ⟨W1, hW1⟩ : ∃ W1, W1 = (w.alloc (.cells #[.int .i8 a, .int .i64 b, .int .i8 c, .int .i64 d] 28)).alloc (.cells #[.int .i8 e, .int .i64 f, .int .i8 g, .int .i64 h] 28) := ⟨_, rfl⟩
  exact ⟨W1, hW1, (by rw [hW1]; exact ((Dn.refl _).alloc _).alloc _), (by rw [hW1]; simp [go_sem]), (by rw [hW1]; simp [go_sem]), (by rw [hW1]; simp [go_sem]), (by rw [hW1]; simp [go_sem]), (by rw [hW1]; simp [go_sem]), (by rw [hW1]; simp [go_sem]), (by rw [hW1]; simp [go_sem]), (by rw [hW1]; simp [go_sem])⟩
theorem prs_t1001 (a b c d e f g h day m p0 p1 p2 p3 q0 q1 q2 q3 : Int) (wi hq : Bool) (hm : IntKind.i64.wrap (-m) = -m)  (HCa : Hid (CC 9 #[RV a b c d] (.int .i64 0))) (HCb : Hid (CC 9 #[RV e f g h] (.int .i64 0))) (HKa : Hid (CC 10 #[RV a b c d] (.int .i64 0))) (HKb : Hid (CC 10 #[RV e f g h] (.int .i64 0))) (HP1 : Hid (CC 11 #[RV a b c d, RV e f g h] (.int .i64 m))) (HP2 : Hid (CC 11 #[RV e f g h, RV a b c d] (.int .i64 (-m)))) (HP3 : Hid (CC 12 #[RV a b c d, RV e f g h] (.int .i64 m))) (HT1 : Hid (CC 17 #[RV a b c d, RV e f g h] (.bool true))) (HT2 : Hid (CC 17 #[RV e f g h, RV a b c d] (.bool true))) (HJ1 : Hid (CC 15 #[RV a b c d, RV e f g h] (.tuple #[.agg #[.int .i8 p0, .int .i64 p1, .int .i8 p2, .int .i64 p3], .bool true]))) (HJ2 : Hid (CC 15 #[RV e f g h, RV a b c d] (.tuple #[.agg #[.int .i8 p0, .int .i64 p1, .int .i8 p2, .int .i64 p3], .bool true]))) (HM1 : Hid (CC 16 #[RV a b c d, RV e f g h] (.tuple #[.agg #[.int .i8 0, .int .i64 0, .int .i8 0, .int .i64 0], .bool false]))) (HM2 : Hid (CC 16 #[RV e f g h, RV a b c d] (.tuple #[.agg #[.int .i8 0, .int .i64 0, .int .i8 0, .int .i64 0], .bool false]))) (HRJ : Hid (CC 19 #[RV a b c d, RV e f g h] (.agg #[.int .i8 p0, .int .i64 p1, .int .i8 p2, .int .i64 p3]))) (HRC : Hid (CC 20 #[RV a b c d, RV e f g h] (.agg #[.int .i8 q0, .int .i64 q1, .int .i8 q2, .int .i64 q3]))) (HW : Hid (CC 21 #[RV a b c d, RV e f g h] (.bool wi))) (HHa : Hid (CC 23 #[RV a b c d, .int .i64 day] (.bool false))) (HHb : Hid (CC 23 #[RV e f g h, .int .i64 day] (.bool true))) (HHr : Hid (CC 23 #[.agg #[.int .i8 p0, .int .i64 p1, .int .i8 p2, .int .i64 p3], .int .i64 day] (.bool true))) (HRT : Hid (CC 13 #[RV a b c d, RV e f g h] (.bool true))) (HRO : Hid (CC 14 #[RV a b c d, RV e f g h] (.bool false))) (HRW : Hid (CC 22 #[RV a b c d, RV e f g h] (.bool wi))) (HRH : Hid (CC 24 #[RV a b c d, .int .i64 day] (.bool false))) (w : World) (hE : EnvR w) :
  Calls Tryz.prog 4 #[.agg #[.int .i8 a, .int .i64 b, .int .i8 c, .int .i64 d], .agg #[.int .i8 e, .int .i64 f, .int .i8 g, .int .i64 h], .int .i64 day] w fun ro w' => ro = .returned (.bool true) ∧ Dn w w' := by
 go_enter Tryz.func4, Tryz.ntmps4
 go_wp2_with fail
 obtain ⟨W1, hW1, uW1, c2, c3, c4, c5, c6, c7, c8, c9⟩ := preKn50x1 w a b c d e f g h
 rw [← hW1]
 clear hW1
 have hS10 := kdP_8 (W := W1) (Dn.refl _) ⟨Dn.refl _, c2, c3, c4, c5, c6, c7, c8, c9⟩
 have HShS10 := Lib.hid hS10
 clear c2 c3 c4 c5 c6 c7 c8 c9
 go_region_held3 (fun w' => Dn W1 w' ∧ w'.cell? ⟨w.heap.size, 0, none⟩ = some (.int .i8 a) ∧ w'.cell? ⟨w.heap.size, 1, none⟩ = some (.int .i64 b) ∧ w'.cell? ⟨w.heap.size, 2, none⟩ = some (.int .i8 c) ∧ w'.cell? ⟨w.heap.size, 3, none⟩ = some (.int .i64 d) ∧ w'.cell? ⟨w.heap.size + 1, 0, none⟩ = some (.int .i8 e) ∧ w'.cell? ⟨w.heap.size + 1, 1, none⟩ = some (.int .i64 f) ∧ w'.cell? ⟨w.heap.size + 1, 2, none⟩ = some (.int .i8 g) ∧ w'.cell? ⟨w.heap.size + 1, 3, none⟩ = some (.int .i64 h))
  (first | exact kdP_8 ((Dn.refl _).drew) hS10 | exact kdP_8 ‹Dn _ _› ‹_› | exact kdP_8 (Up.dn ‹Up _ _›) ‹_› | assumption | exact kdP_8 ((Dn.refl _).alloc _) ‹_›)
  (first
   | (go_at_call 9; (with_reducible refine (HCa.out _).mono ?_); rintro e wa ⟨rfl, qa⟩)
   | (go_at_call 9; (with_reducible refine (HCb.out _).mono ?_); rintro e wa ⟨rfl, qa⟩))
 all_goals
  clear hS10
  obtain ⟨uf19, a8, a9, aA, aB, aC, aD, aE, aF⟩ := (‹Dn W1 _ ∧ _› : _ ∧ _)
  obtain ⟨w20, rfl⟩ : ∃ w20 : World, w20 = wa := ⟨_, rfl⟩
  have vuf19 := uW1.trans uf19
  clear uf19 uW1 HShS10
  go_wp2_with fail
  have hS21 := kdP_8 (W := w20) (Dn.refl _) ⟨Dn.refl _, a8, a9, aA, aB, aC, aD, aE, aF⟩
  have HShS21 := Lib.hid hS21
  clear a8 a9 aA aB aC aD aE aF
  go_region_held3 (fun w' => Dn w20 w' ∧ w'.cell? ⟨w.heap.size, 0, none⟩ = some (.int .i8 a) ∧ w'.cell? ⟨w.heap.size, 1, none⟩ = some (.int .i64 b) ∧ w'.cell? ⟨w.heap.size, 2, none⟩ = some (.int .i8 c) ∧ w'.cell? ⟨w.heap.size, 3, none⟩ = some (.int .i64 d) ∧ w'.cell? ⟨w.heap.size + 1, 0, none⟩ = some (.int .i8 e) ∧ w'.cell? ⟨w.heap.size + 1, 1, none⟩ = some (.int .i64 f) ∧ w'.cell? ⟨w.heap.size + 1, 2, none⟩ = some (.int .i8 g) ∧ w'.cell? ⟨w.heap.size + 1, 3, none⟩ = some (.int .i64 h))
   (first | exact kdP_8 ((Dn.refl _).drew) hS21 | exact kdP_8 ‹Dn _ _› ‹_› | exact kdP_8 (Up.dn ‹Up _ _›) ‹_› | assumption | exact kdP_8 ((Dn.refl _).alloc _) ‹_›)
   (first
    | (go_at_call 10; (with_reducible refine (HKa.out _).mono ?_); rintro e wa ⟨rfl, qa⟩)
    | (go_at_call 10; (with_reducible refine (HKb.out _).mono ?_); rintro e wa ⟨rfl, qa⟩)
    | (go_at_call 11; (with_reducible refine (HP1.out _).mono ?_); rintro e wa ⟨rfl, qa⟩)
    | (go_at_call 11; (with_reducible refine (HP2.out _).mono ?_); rintro e wa ⟨rfl, qa⟩)
    | (go_at_call 12; (with_reducible refine (HP3.out _).mono ?_); rintro e wa ⟨rfl, qa⟩))
  all_goals
   clear hS21
   obtain ⟨uf30, aG, aH, aI, aJ, aK, aL, aM, aN⟩ := (‹Dn w20 _ ∧ _› : _ ∧ _)
   obtain ⟨w31, rfl⟩ : ∃ w31 : World, w31 = wa := ⟨_, rfl⟩
   have vuf30 := vuf19.trans uf30
   clear uf30 vuf19 HShS21
   go_wp2_with fail
   refine (HRT.out _).mono ?_
   rintro e w1 ⟨rfl, qw1⟩
   obtain ⟨-, aO, aP, aQ, aR, aS, aT, aU, aV⟩ := kdP_8 qw1 ⟨Dn.refl _, aG, aH, aI, aJ, aK, aL, aM, aN⟩
   clear aG aH aI aJ aK aL aM aN
   have uw1 := vuf30.trans qw1
   clear qw1 vuf30
   go_wp2_with fail
   refine (HRO.out _).mono ?_
   rintro e w2 ⟨rfl, qw2⟩
   obtain ⟨-, aW, aX, aY, aZ, b0, b1, b2, b3⟩ := kdP_8 qw2 ⟨Dn.refl _, aO, aP, aQ, aR, aS, aT, aU, aV⟩
   clear aO aP aQ aR aS aT aU aV
   have uw2 := uw1.trans qw2
   clear qw2 uw1
   go_wp2_with fail
   refine (HJ1.out _).mono ?_
   rintro e w3 ⟨rfl, qw3⟩
   obtain ⟨-, a0, b4, b5, b6, a1, b7, b8, b9⟩ := kdP_8 qw3 ⟨Dn.refl _, aW, aX, aY, aZ, b0, b1, b2, b3⟩
   clear aW aX aY aZ b0 b1 b2 b3
   have uw3 := uw2.trans qw3
   clear qw3 uw2
   have la := lt_of_cell a0
   have lb := lt_of_cell a1
   go_wp2_with fail
   obtain ⟨W56, hW56⟩ : ∃ W56, W56 = w3.alloc (.cells #[.int .i8 p0, .int .i64 p1, .int .i8 p2, .int .i64 p3] 28) := ⟨_, rfl⟩
   have uW56 : Dn w3 W56 := by rw [hW56]; exact (Dn.refl _).alloc _
   obtain ⟨-, bA, bB, bC, bD, bE, bF, bG, bH⟩ := kdP_8 uW56 ⟨Dn.refl _, a0, b4, b5, b6, a1, b7, b8, b9⟩
   clear a0 b4 b5 b6 a1 b7 b8 b9
   have bI : W56.cell? ⟨w3.heap.size, 0, none⟩ = some (.int .i8 p0) := by rw [hW56]; simp [go_sem]
   have bJ : W56.cell? ⟨w3.heap.size, 1, none⟩ = some (.int .i64 p1) := by rw [hW56]; simp [go_sem]
   have bK : W56.cell? ⟨w3.heap.size, 2, none⟩ = some (.int .i8 p2) := by rw [hW56]; simp [go_sem]
   have bL : W56.cell? ⟨w3.heap.size, 3, none⟩ = some (.int .i64 p3) := by rw [hW56]; simp [go_sem]
   rw [← hW56]
   clear hW56
   have vW56 := uw3.trans uW56
   clear uW56 uw3
   refine (HJ2.out _).mono ?_
   rintro e w4 ⟨rfl, qw4⟩
   obtain ⟨-, a2, bM, bN, bO, a3, bP, bQ, bR, bS, bT, bU, bV⟩ := kdP_12 qw4 ⟨Dn.refl _, bA, bB, bC, bD, bE, bF, bG, bH, bI, bJ, bK, bL⟩
   clear bA bB bC bD bE bF bG bH bI bJ bK bL
   have uw4 := vW56.trans qw4
   clear qw4 vW56
   have la := lt_of_cell a2
   have lb := lt_of_cell a3
   go_wp2_with fail
   obtain ⟨W81, hW81⟩ : ∃ W81, W81 = w4.alloc (.cells #[.int .i8 p0, .int .i64 p1, .int .i8 p2, .int .i64 p3] 28) := ⟨_, rfl⟩
   have uW81 : Dn w4 W81 := by rw [hW81]; exact (Dn.refl _).alloc _
   obtain ⟨-, bW, bX, bY, bZ, c0, c1, cA, cB, cC, cD, cE, cF⟩ := kdP_12 uW81 ⟨Dn.refl _, a2, bM, bN, bO, a3, bP, bQ, bR, bS, bT, bU, bV⟩
   clear a2 bM bN bO a3 bP bQ bR bS bT bU bV
   have cG : W81.cell? ⟨w4.heap.size, 0, none⟩ = some (.int .i8 p0) := by rw [hW81]; simp [go_sem]
   have cH : W81.cell? ⟨w4.heap.size, 1, none⟩ = some (.int .i64 p1) := by rw [hW81]; simp [go_sem]
   have cI : W81.cell? ⟨w4.heap.size, 2, none⟩ = some (.int .i8 p2) := by rw [hW81]; simp [go_sem]
   have cJ : W81.cell? ⟨w4.heap.size, 3, none⟩ = some (.int .i64 p3) := by rw [hW81]; simp [go_sem]
   rw [← hW81]
   clear hW81
   have vW81 := uw4.trans uW81
   clear uW81 uw4
   refine (HM1.out _).mono ?_
   rintro e w5 ⟨rfl, qw5⟩
   obtain ⟨-, a4, cK, cL, cM, a5, cN, cO, cP, cQ, cR, cS, cT, cU, cV, cW, cX⟩ := kdP_16 qw5 ⟨Dn.refl _, bW, bX, bY, bZ, c0, c1, cA, cB, cC, cD, cE, cF, cG, cH, cI, cJ⟩
   clear bW bX bY bZ c0 c1 cA cB cC cD cE cF cG cH cI cJ
   have uw5 := vW81.trans qw5
   clear qw5 vW81
   have la := lt_of_cell a4
   have lb := lt_of_cell a5
   go_wp2_with fail
   obtain ⟨W114, hW114⟩ : ∃ W114, W114 = w5.alloc (.cells #[.int .i8 0, .int .i64 0, .int .i8 0, .int .i64 0] 28) := ⟨_, rfl⟩
   have uW114 : Dn w5 W114 := by rw [hW114]; exact (Dn.refl _).alloc _
   obtain ⟨-, cY, cZ, d0, d1, d2, d3, d4, d5, d6, d7, d8, d9, dA, dB, dC, dD⟩ := kdP_16 uW114 ⟨Dn.refl _, a4, cK, cL, cM, a5, cN, cO, cP, cQ, cR, cS, cT, cU, cV, cW, cX⟩
   clear a4 cK cL cM a5 cN cO cP cQ cR cS cT cU cV cW cX
   have dE : W114.cell? ⟨w5.heap.size, 0, none⟩ = some (.int .i8 0) := by rw [hW114]; simp [go_sem]
   have dF : W114.cell? ⟨w5.heap.size, 1, none⟩ = some (.int .i64 0) := by rw [hW114]; simp [go_sem]
   have dG : W114.cell? ⟨w5.heap.size, 2, none⟩ = some (.int .i8 0) := by rw [hW114]; simp [go_sem]
   have dH : W114.cell? ⟨w5.heap.size, 3, none⟩ = some (.int .i64 0) := by rw [hW114]; simp [go_sem]
   rw [← hW114]
   clear hW114
   have vW114 := uw5.trans uW114
   clear uW114 uw5
   refine (HM2.out _).mono ?_
   rintro e w6 ⟨rfl, qw6⟩
   obtain ⟨-, a6, dI, dJ, dK, a7, dL, dM, dN, dO, dP, dQ, dR, dS, dT, dU, dV, dW, dX, dY, dZ⟩ := kdP_20 qw6 ⟨Dn.refl _, cY, cZ, d0, d1, d2, d3, d4, d5, d6, d7, d8, d9, dA, dB, dC, dD, dE, dF, dG, dH⟩
   clear cY cZ d0 d1 d2 d3 d4 d5 d6 d7 d8 d9 dA dB dC dD dE dF dG dH
   have uw6 := vW114.trans qw6
   clear qw6 vW114
   have la := lt_of_cell a6
   have lb := lt_of_cell a7
   go_wp2_with fail
   obtain ⟨W155, hW155⟩ : ∃ W155, W155 = w6.alloc (.cells #[.int .i8 0, .int .i64 0, .int .i8 0, .int .i64 0] 28) := ⟨_, rfl⟩
   have uW155 : Dn w6 W155 := by rw [hW155]; exact (Dn.refl _).alloc _
   obtain ⟨-, e0, e1, e2, e3, e4, e5, e6, e7, e8, e9, eD, eE, eF, eG, eH, eI, eJ, eK, eL, eM⟩ := kdP_20 uW155 ⟨Dn.refl _, a6, dI, dJ, dK, a7, dL, dM, dN, dO, dP, dQ, dR, dS, dT, dU, dV, dW, dX, dY, dZ⟩
   clear a6 dI dJ dK a7 dL dM dN dO dP dQ dR dS dT dU dV dW dX dY dZ
   have eN : W155.cell? ⟨w6.heap.size, 0, none⟩ = some (.int .i8 0) := by rw [hW155]; simp [go_sem]
   have eO : W155.cell? ⟨w6.heap.size, 1, none⟩ = some (.int .i64 0) := by rw [hW155]; simp [go_sem]
   have eP : W155.cell? ⟨w6.heap.size, 2, none⟩ = some (.int .i8 0) := by rw [hW155]; simp [go_sem]
   have eQ : W155.cell? ⟨w6.heap.size, 3, none⟩ = some (.int .i64 0) := by rw [hW155]; simp [go_sem]
   rw [← hW155]
   clear hW155
   have vW155 := uw6.trans uW155
   clear uW155 uw6
   have hS180 := kdP_24 (W := W155) (Dn.refl _) ⟨Dn.refl _, e0, e1, e2, e3, e4, e5, e6, e7, e8, e9, eD, eE, eF, eG, eH, eI, eJ, eK, eL, eM, eN, eO, eP, eQ⟩
   have HShS180 := Lib.hid hS180
   clear e0 e1 e2 e3 e4 e5 e6 e7 e8 e9 eD eE eF eG eH eI eJ eK eL eM eN eO eP eQ
   go_region_held3 (fun w' => Dn W155 w' ∧ w'.cell? ⟨w.heap.size, 0, none⟩ = some (.int .i8 a) ∧ w'.cell? ⟨w.heap.size, 1, none⟩ = some (.int .i64 b) ∧ w'.cell? ⟨w.heap.size, 2, none⟩ = some (.int .i8 c) ∧ w'.cell? ⟨w.heap.size, 3, none⟩ = some (.int .i64 d) ∧ w'.cell? ⟨w.heap.size + 1, 0, none⟩ = some (.int .i8 e) ∧ w'.cell? ⟨w.heap.size + 1, 1, none⟩ = some (.int .i64 f) ∧ w'.cell? ⟨w.heap.size + 1, 2, none⟩ = some (.int .i8 g) ∧ w'.cell? ⟨w.heap.size + 1, 3, none⟩ = some (.int .i64 h) ∧ w'.cell? ⟨w3.heap.size, 0, none⟩ = some (.int .i8 p0) ∧ w'.cell? ⟨w3.heap.size, 1, none⟩ = some (.int .i64 p1) ∧ w'.cell? ⟨w3.heap.size, 2, none⟩ = some (.int .i8 p2) ∧ w'.cell? ⟨w3.heap.size, 3, none⟩ = some (.int .i64 p3) ∧ w'.cell? ⟨w4.heap.size, 0, none⟩ = some (.int .i8 p0) ∧ w'.cell? ⟨w4.heap.size, 1, none⟩ = some (.int .i64 p1) ∧ w'.cell? ⟨w4.heap.size, 2, none⟩ = some (.int .i8 p2) ∧ w'.cell? ⟨w4.heap.size, 3, none⟩ = some (.int .i64 p3) ∧ w'.cell? ⟨w5.heap.size, 0, none⟩ = some (.int .i8 0) ∧ w'.cell? ⟨w5.heap.size, 1, none⟩ = some (.int .i64 0) ∧ w'.cell? ⟨w5.heap.size, 2, none⟩ = some (.int .i8 0) ∧ w'.cell? ⟨w5.heap.size, 3, none⟩ = some (.int .i64 0) ∧ w'.cell? ⟨w6.heap.size, 0, none⟩ = some (.int .i8 0) ∧ w'.cell? ⟨w6.heap.size, 1, none⟩ = some (.int .i64 0) ∧ w'.cell? ⟨w6.heap.size, 2, none⟩ = some (.int .i8 0) ∧ w'.cell? ⟨w6.heap.size, 3, none⟩ = some (.int .i64 0))
    (first | exact kdP_24 ((Dn.refl _).drew) hS180 | exact kdP_24 ‹Dn _ _› ‹_› | exact kdP_24 (Up.dn ‹Up _ _›) ‹_› | assumption | exact kdP_24 ((Dn.refl _).alloc _) ‹_›)
    (first
     | (go_at_call 17; (with_reducible refine (HT1.out _).mono ?_); rintro e wa ⟨rfl, qa⟩)
     | (go_at_call 17; (with_reducible refine (HT2.out _).mono ?_); rintro e wa ⟨rfl, qa⟩)
     | (go_at_call 19; (with_reducible refine (HRJ.out _).mono ?_); rintro e wa ⟨rfl, qa⟩)
     | (go_at_call 20; (with_reducible refine (HRC.out _).mono ?_); rintro e wa ⟨rfl, qa⟩)
     | (go_at_call 18; refine (f9_any _ _ _ _ _ _ _ _ _ _ _ ?_).mono ?_; (first | exact Or.inl ⟨rfl, rfl, rfl, rfl, rfl, rfl⟩ | exact Or.inr ⟨rfl, rfl, rfl, rfl, rfl, rfl⟩); rintro e wa ⟨rfl, qa⟩))
   all_goals
    clear hS180
    obtain ⟨uf205, eR, eS, eT, eU, eV, eW, eX, eY, eZ, f0, f1, f2, hP, hQ, hR, hS, f3, f4, f5, f6, hT, hU, hV, hW⟩ := (‹Dn W155 _ ∧ _› : _ ∧ _)
    obtain ⟨w206, rfl⟩ : ∃ w206 : World, w206 = wa := ⟨_, rfl⟩
    have vuf205 := vW155.trans uf205
    clear uf205 vW155 HShS180
    clear hP hQ hR hS
    clear hT hU hV hW
    go_wp2_with fail
    refine (HW.out _).mono ?_
    rintro e w7 ⟨rfl, qw7⟩
    obtain ⟨-, f7, f8, f9, fA, fB, fC, fD, fE, fF, fG, fH, fI, fJ, fK, fL, fM⟩ := kdP_16 qw7 ⟨Dn.refl _, eR, eS, eT, eU, eV, eW, eX, eY, eZ, f0, f1, f2, f3, f4, f5, f6⟩
    clear eR eS eT eU eV eW eX eY eZ f0 f1 f2 f3 f4 f5 f6
    have uw7 := vuf205.trans qw7
    clear qw7 vuf205
    go_wp2_with fail
    refine (HRW.out _).mono ?_
    rintro e w8 ⟨rfl, qw8⟩
    obtain ⟨-, fN, fO, fP, fQ, fR, fS, fT, fU, fV, fW, fX, fY, fZ, g0, g1, g2⟩ := kdP_16 qw8 ⟨Dn.refl _, f7, f8, f9, fA, fB, fC, fD, fE, fF, fG, fH, fI, fJ, fK, fL, fM⟩
    clear f7 f8 f9 fA fB fC fD fE fF fG fH fI fJ fK fL fM
    have uw8 := uw7.trans qw8
    clear qw8 uw7
    go_wp2_with fail
    refine (HHa.out _).mono ?_
    rintro e w9 ⟨rfl, qw9⟩
    obtain ⟨-, g3, g4, g5, g6, g7, g8, g9, gA, gB, gC, gD, gE, gF, gG, gH, gI⟩ := kdP_16 qw9 ⟨Dn.refl _, fN, fO, fP, fQ, fR, fS, fT, fU, fV, fW, fX, fY, fZ, g0, g1, g2⟩
    clear fN fO fP fQ fR fS fT fU fV fW fX fY fZ g0 g1 g2
    have uw9 := uw8.trans qw9
    clear qw9 uw8
    go_wp2_with fail
    refine (HRH.out _).mono ?_
    rintro e w10 ⟨rfl, qw10⟩
    obtain ⟨-, gJ, gK, gL, gM, gN, gO, gP, gQ, gR, gS, gT, gU, gV, gW, gX, gY⟩ := kdP_16 qw10 ⟨Dn.refl _, g3, g4, g5, g6, g7, g8, g9, gA, gB, gC, gD, gE, gF, gG, gH, gI⟩
    clear g3 g4 g5 g6 g7 g8 g9 gA gB gC gD gE gF gG gH gI
    have uw10 := uw9.trans qw10
    clear qw10 uw9
    go_wp2_with fail
    have hS271 := kdP_12 (W := w10) (Dn.refl _) ⟨Dn.refl _, gJ, gK, gL, gM, gN, gO, gP, gQ, gR, gS, gT, gU⟩
    have gZ := Lib.hid gV
    have h0 := Lib.hid gW
    have h1 := Lib.hid gX
    have h2 := Lib.hid gY
    have HShS271 := Lib.hid hS271
    clear gJ gK gL gM gN gO gP gQ gR gS gT gU gV gW gX gY
    refine wp_region_held_drew (S := fun w' => Dn w10 w' ∧ w'.cell? ⟨w.heap.size, 0, none⟩ = some (.int .i8 a) ∧ w'.cell? ⟨w.heap.size, 1, none⟩ = some (.int .i64 b) ∧ w'.cell? ⟨w.heap.size, 2, none⟩ = some (.int .i8 c) ∧ w'.cell? ⟨w.heap.size, 3, none⟩ = some (.int .i64 d) ∧ w'.cell? ⟨w.heap.size + 1, 0, none⟩ = some (.int .i8 e) ∧ w'.cell? ⟨w.heap.size + 1, 1, none⟩ = some (.int .i64 f) ∧ w'.cell? ⟨w.heap.size + 1, 2, none⟩ = some (.int .i8 g) ∧ w'.cell? ⟨w.heap.size + 1, 3, none⟩ = some (.int .i64 h) ∧ w'.cell? ⟨w3.heap.size, 0, none⟩ = some (.int .i8 p0) ∧ w'.cell? ⟨w3.heap.size, 1, none⟩ = some (.int .i64 p1) ∧ w'.cell? ⟨w3.heap.size, 2, none⟩ = some (.int .i8 p2) ∧ w'.cell? ⟨w3.heap.size, 3, none⟩ = some (.int .i64 p3)) (by kernel_rfl) ?_ (fun hHeld => ?_)
    · (try dsimp only); (first | exact kdP_12 ((Dn.refl _).drew) hS271 | exact kdP_12 ‹Dn _ _› ‹_› | exact kdP_12 (Up.dn ‹Up _ _›) ‹_› | assumption | exact kdP_12 ((Dn.refl _).alloc _) ‹_›)
    refine tk 0 ?_ rfl (by kernel_rfl) (fun _ _ _ => id) (by rfl) (by assumption) ?_ ?_
    rotate_left
    · (intro w hSw; (try dsimp only at hSw); go_simp); all_goals with_reducible rfl
    try simp only [Act.put, pL]
    refine tk 1 ?_ rfl (by kernel_rfl) (fun _ _ _ => id) (by rfl) (by assumption) ?_ ?_
    rotate_left
    · (intro w hSw; (try dsimp only at hSw); go_simp); all_goals with_reducible rfl
    try simp only [Act.put, pL]
    refine tk 2 ?_ rfl (by kernel_rfl) (fun _ _ _ => id) (by rfl) (by assumption) ?_ ?_
    rotate_left
    · (intro w hSw; (try dsimp only at hSw); go_simp); all_goals with_reducible rfl
    try simp only [Act.put, pL]
    refine tk 3 ?_ rfl (by kernel_rfl) (fun _ _ _ => id) (by rfl) (by assumption) ?_ ?_
    rotate_left
    · (intro w hSw; (try dsimp only at hSw); go_simp); all_goals with_reducible rfl
    try simp only [Act.put, pL]
    refine tk 5 ?_ rfl (by kernel_rfl) (fun _ _ _ => id) (by rfl) (by assumption) ?_ ?_
    rotate_left
    · (intro w hSw; (try dsimp only at hSw); go_simp); all_goals with_reducible rfl
    try simp only [Act.put, pL]
    refine tk 6 ?_ rfl (by kernel_rfl) (fun _ _ _ => id) (by rfl) (by assumption) ?_ ?_
    rotate_left
    · (intro w hSw; (try dsimp only at hSw); go_simp); all_goals with_reducible rfl
    try simp only [Act.put, pL]
    refine wpAnyH_ready (rs := [4]) (by kernel_rfl) (by simp) ?_
    refine AllReadyH.cons rfl (fun K hK => ?_) AllReadyH.nil
    go_simp
    (first
      | (go_at_call 23; (with_reducible refine (HHr.out _).mono ?_); rintro e wa ⟨rfl, qa⟩)
      | (go_at_call 23; (with_reducible refine (HHa.out _).mono ?_); rintro e wa ⟨rfl, qa⟩)
      | (go_at_call 23; (with_reducible refine (HHb.out _).mono ?_); rintro e wa ⟨rfl, qa⟩))
    try go_wp2_with fail
    refine hK.out _ _ ?_ (fun hHeld => ?_)
    · (try dsimp only); (first | exact kdP_12 ((Dn.refl _).drew) hS271 | exact kdP_12 ‹Dn _ _› ‹_› | exact kdP_12 (Up.dn ‹Up _ _›) ‹_› | assumption | exact kdP_12 ((Dn.refl _).alloc _) ‹_›)
    clear hK K
    try simp only [Act.put, pL]
    refine wpAnyH_ready (rs := [7]) (by kernel_rfl) (by simp) ?_
    refine AllReadyH.cons rfl (fun K hK => ?_) AllReadyH.nil
    go_simp
    (first
      | (go_at_call 23; (with_reducible refine (HHr.out _).mono ?_); rintro e wa ⟨rfl, qa⟩)
      | (go_at_call 23; (with_reducible refine (HHa.out _).mono ?_); rintro e wa ⟨rfl, qa⟩)
      | (go_at_call 23; (with_reducible refine (HHb.out _).mono ?_); rintro e wa ⟨rfl, qa⟩))
    try go_wp2_with fail
    refine hK.out _ _ ?_ (fun hHeld => ?_)
    · (try dsimp only); (first | exact kdP_12 ((Dn.refl _).drew) hS271 | exact kdP_12 ‹Dn _ _› ‹_› | exact kdP_12 (Up.dn ‹Up _ _›) ‹_› | assumption | exact kdP_12 ((Dn.refl _).alloc _) ‹_›)
    clear hK K
    try simp only [Act.put, pL]
    refine tk 8 ?_ rfl (by kernel_rfl) (fun _ _ _ => id) (by rfl) (by assumption) ?_ ?_
    rotate_left
    · (intro w hSw; (try dsimp only at hSw); go_simp); all_goals with_reducible rfl
    try simp only [Act.put, pL]
    refine tk 9 ?_ rfl (by kernel_rfl) (fun _ _ _ => id) (by rfl) (by assumption) ?_ ?_
    rotate_left
    · (intro w hSw; (try dsimp only at hSw); go_simp); all_goals with_reducible rfl
    try simp only [Act.put, pL]
    refine tk 10 ?_ rfl (by kernel_rfl) (fun _ _ _ => id) (by rfl) (by assumption) ?_ ?_
    rotate_left
    · (intro w hSw; (try dsimp only at hSw); go_simp); all_goals with_reducible rfl
    try simp only [Act.put, pL]
    refine wpAnyH_ready (rs := [11]) (by kernel_rfl) (by simp) ?_
    refine AllReadyH.cons rfl (fun K hK => ?_) AllReadyH.nil
    go_simp
    (first
      | (go_at_call 23; (with_reducible refine (HHr.out _).mono ?_); rintro e wa ⟨rfl, qa⟩)
      | (go_at_call 23; (with_reducible refine (HHa.out _).mono ?_); rintro e wa ⟨rfl, qa⟩)
      | (go_at_call 23; (with_reducible refine (HHb.out _).mono ?_); rintro e wa ⟨rfl, qa⟩))
    try go_wp2_with fail
    refine hK.out _ _ ?_ (fun hHeld => ?_)
    · (try dsimp only); (first | exact kdP_12 ((Dn.refl _).drew) hS271 | exact kdP_12 ‹Dn _ _› ‹_› | exact kdP_12 (Up.dn ‹Up _ _›) ‹_› | assumption | exact kdP_12 ((Dn.refl _).alloc _) ‹_›)
    clear hK K
    try simp only [Act.put, pL]
    refine tk 12 ?_ rfl (by kernel_rfl) (fun _ _ _ => id) (by rfl) (by assumption) ?_ ?_
    rotate_left
    · (intro w hSw; (try dsimp only at hSw); go_simp); all_goals with_reducible rfl
    try simp only [Act.put, pL]
    refine tk 13 ?_ rfl (by kernel_rfl) (fun _ _ _ => id) (by rfl) (by assumption) ?_ ?_
    rotate_left
    · (intro w hSw; (try dsimp only at hSw); go_simp); all_goals with_reducible rfl
    try simp only [Act.put, pL]
    refine tk 14 ?_ rfl (by kernel_rfl) (fun _ _ _ => id) (by rfl) (by assumption) ?_ ?_
    rotate_left
    · (intro w hSw; (try dsimp only at hSw); go_simp); all_goals with_reducible rfl
    try simp only [Act.put, pL]
    refine wpAnyH_done (by kernel_rfl) ?_ _
    all_goals skip
    all_goals
     clear hS271
     obtain ⟨uf288, h3, h4, h5, h6, h7, h8, h9, hA, hB, hC, hD, hF⟩ := (‹Dn w10 _ ∧ _› : _ ∧ _)
     obtain ⟨w289, rfl⟩ : ∃ w289 : World, w289 = wa := ⟨_, rfl⟩
     obtain ⟨hG, hH, hI, hJ⟩ := mv4 uf288.cell gZ.out h0.out h1.out h2.out
     clear gZ h0 h1 h2
     have vuf288 := uw10.trans uf288
     clear uf288 uw10 HShS271
     go_wp2_with fail
     have hS294 := kdP_12 (W := w289) (Dn.refl _) ⟨Dn.refl _, h3, h4, h5, h6, h7, h8, h9, hA, hG, hH, hI, hJ⟩
     have hL := Lib.hid hB
     have hM := Lib.hid hC
     have hN := Lib.hid hD
     have hO := Lib.hid hF
     have HShS294 := Lib.hid hS294
     clear h3 h4 h5 h6 h7 h8 h9 hA hB hC hD hF hG hH hI hJ
     refine wp_region_held_drew (S := fun w' => Dn w289 w' ∧ w'.cell? ⟨w.heap.size, 0, none⟩ = some (.int .i8 a) ∧ w'.cell? ⟨w.heap.size, 1, none⟩ = some (.int .i64 b) ∧ w'.cell? ⟨w.heap.size, 2, none⟩ = some (.int .i8 c) ∧ w'.cell? ⟨w.heap.size, 3, none⟩ = some (.int .i64 d) ∧ w'.cell? ⟨w.heap.size + 1, 0, none⟩ = some (.int .i8 e) ∧ w'.cell? ⟨w.heap.size + 1, 1, none⟩ = some (.int .i64 f) ∧ w'.cell? ⟨w.heap.size + 1, 2, none⟩ = some (.int .i8 g) ∧ w'.cell? ⟨w.heap.size + 1, 3, none⟩ = some (.int .i64 h) ∧ w'.cell? ⟨w5.heap.size, 0, none⟩ = some (.int .i8 0) ∧ w'.cell? ⟨w5.heap.size, 1, none⟩ = some (.int .i64 0) ∧ w'.cell? ⟨w5.heap.size, 2, none⟩ = some (.int .i8 0) ∧ w'.cell? ⟨w5.heap.size, 3, none⟩ = some (.int .i64 0)) (by kernel_rfl) ?_ (fun hHeld => ?_)
     · (try dsimp only); (first | exact kdP_12 ((Dn.refl _).drew) hS294 | exact kdP_12 ‹Dn _ _› ‹_› | exact kdP_12 (Up.dn ‹Up _ _›) ‹_› | assumption | exact kdP_12 ((Dn.refl _).alloc _) ‹_›)
     refine tk 0 ?_ rfl (by kernel_rfl) (fun _ _ _ => id) (by rfl) (by assumption) ?_ ?_
     rotate_left
     · (intro w hSw; (try dsimp only at hSw); go_simp); all_goals with_reducible rfl
     try simp only [Act.put, pL]
     refine tk 1 ?_ rfl (by kernel_rfl) (fun _ _ _ => id) (by rfl) (by assumption) ?_ ?_
     rotate_left
     · (intro w hSw; (try dsimp only at hSw); go_simp); all_goals with_reducible rfl
     try simp only [Act.put, pL]
     refine tk 2 ?_ rfl (by kernel_rfl) (fun _ _ _ => id) (by rfl) (by assumption) ?_ ?_
     rotate_left
     · (intro w hSw; (try dsimp only at hSw); go_simp); all_goals with_reducible rfl
     try simp only [Act.put, pL]
     refine tk 3 ?_ rfl (by kernel_rfl) (fun _ _ _ => id) (by rfl) (by assumption) ?_ ?_
     rotate_left
     · (intro w hSw; (try dsimp only at hSw); go_simp); all_goals with_reducible rfl
     try simp only [Act.put, pL]
     refine tk 4 ?_ rfl (by kernel_rfl) (fun _ _ _ => id) (by rfl) (by assumption) ?_ ?_
     rotate_left
     · (intro w hSw; (try dsimp only at hSw); go_simp); all_goals with_reducible rfl
     try simp only [Act.put, pL]
     refine tu 5 rfl (by kernel_rfl) (fun _ _ _ => id) (by rfl) (by assumption) ?_
     refine tu 6 rfl (by kernel_rfl) (fun _ _ _ => id) (by rfl) (by assumption) ?_
     refine tu 7 rfl (by kernel_rfl) (fun _ _ _ => id) (by rfl) (by assumption) ?_
     try simp only [Act.put, pL]
     refine tk 8 ?_ rfl (by kernel_rfl) (fun _ _ _ => id) (by rfl) (by assumption) ?_ ?_
     rotate_left
     · (intro w hSw; (try dsimp only at hSw); go_simp); all_goals with_reducible rfl
     try simp only [Act.put, pL]
     refine tk 9 ?_ rfl (by kernel_rfl) (fun _ _ _ => id) (by rfl) (by assumption) ?_ ?_
     rotate_left
     · (intro w hSw; (try dsimp only at hSw); go_simp); all_goals with_reducible rfl
     try simp only [Act.put, pL]
     refine tk 10 ?_ rfl (by kernel_rfl) (fun _ _ _ => id) (by rfl) (by assumption) ?_ ?_
     rotate_left
     · (intro w hSw; (try dsimp only at hSw); go_simp); all_goals with_reducible rfl
     try simp only [Act.put, pL]
     refine wpAnyH_ready (rs := [11]) (by kernel_rfl) (by simp) ?_
     refine AllReadyH.cons rfl (fun K hK => ?_) AllReadyH.nil
     go_simp
     (first
       | (go_at_call 23; (with_reducible refine (HHt.out _).mono ?_); rintro e wa ⟨rfl, qa⟩)
       | (go_at_call 23; (with_reducible refine (HHa.out _).mono ?_); rintro e wa ⟨rfl, qa⟩)
       | (go_at_call 23; (with_reducible refine (HHb.out _).mono ?_); rintro e wa ⟨rfl, qa⟩)
       | (go_at_call 8; refine (lives9 _ (hE.dn (Dn.trans vuf288 (‹Dn w289 _ ∧ _› : _ ∧ _).1))).mono ?_; rintro e wa ⟨rfl, qa⟩))
     try go_wp2_with fail
     refine hK.out _ _ ?_ (fun hHeld => ?_)
     · (try dsimp only); (first | exact kdP_12 ((Dn.refl _).drew) hS294 | exact kdP_12 ‹Dn _ _› ‹_› | exact kdP_12 (Up.dn ‹Up _ _›) ‹_› | assumption | exact kdP_12 ((Dn.refl _).alloc _) ‹_›)
     clear hK K
     try simp only [Act.put, pL]
     refine tk 12 ?_ rfl (by kernel_rfl) (fun _ _ _ => id) (by rfl) (by assumption) ?_ ?_
     rotate_left
     · (intro w hSw; (try dsimp only at hSw); go_simp); all_goals with_reducible rfl
     try simp only [Act.put, pL]
     refine tu 13 rfl (by kernel_rfl) (fun _ _ _ => id) (by rfl) (by assumption) ?_
     refine tu 14 rfl (by kernel_rfl) (fun _ _ _ => id) (by rfl) (by assumption) ?_
     refine tu 15 rfl (by kernel_rfl) (fun _ _ _ => id) (by rfl) (by assumption) ?_
     try simp only [Act.put, pL]
     refine tk 16 ?_ rfl (by kernel_rfl) (fun _ _ _ => id) (by rfl) (by assumption) ?_ ?_
     rotate_left
     · (intro w hSw; (try dsimp only at hSw); go_simp); all_goals with_reducible rfl
     try simp only [Act.put, pL]
     refine tk 17 ?_ rfl (by kernel_rfl) (fun _ _ _ => id) (by rfl) (by assumption) ?_ ?_
     rotate_left
     · (intro w hSw; (try dsimp only at hSw); go_simp); all_goals with_reducible rfl
     try simp only [Act.put, pL]
     refine tk 18 ?_ rfl (by kernel_rfl) (fun _ _ _ => id) (by rfl) (by assumption) ?_ ?_
     rotate_left
     · (intro w hSw; (try dsimp only at hSw); go_simp); all_goals with_reducible rfl
     try simp only [Act.put, pL]
     refine tk 19 ?_ rfl (by kernel_rfl) (fun _ _ _ => id) (by rfl) (by assumption) ?_ ?_
     rotate_left
     · (intro w hSw; (try dsimp only at hSw); go_simp); all_goals with_reducible rfl
     try simp only [Act.put, pL]
     refine wpAnyH_ready (rs := [20]) (by kernel_rfl) (by simp) ?_
     refine AllReadyH.cons rfl (fun K hK => ?_) AllReadyH.nil
     go_simp
     (first
       | (go_at_call 23; (with_reducible refine (HHt.out _).mono ?_); rintro e wa ⟨rfl, qa⟩)
       | (go_at_call 23; (with_reducible refine (HHa.out _).mono ?_); rintro e wa ⟨rfl, qa⟩)
       | (go_at_call 23; (with_reducible refine (HHb.out _).mono ?_); rintro e wa ⟨rfl, qa⟩)
       | (go_at_call 8; refine (lives9 _ (hE.dn (Dn.trans vuf288 (‹Dn w289 _ ∧ _› : _ ∧ _).1))).mono ?_; rintro e wa ⟨rfl, qa⟩))
     try go_wp2_with fail
     refine hK.out _ _ ?_ (fun hHeld => ?_)
     · (try dsimp only); (first | exact kdP_12 ((Dn.refl _).drew) hS294 | exact kdP_12 ‹Dn _ _› ‹_› | exact kdP_12 (Up.dn ‹Up _ _›) ‹_› | assumption | exact kdP_12 ((Dn.refl _).alloc _) ‹_›)
     clear hK K
     try simp only [Act.put, pL]
     refine tk 21 ?_ rfl (by kernel_rfl) (fun _ _ _ => id) (by rfl) (by assumption) ?_ ?_
     rotate_left
     · (intro w hSw; (try dsimp only at hSw); go_simp); all_goals with_reducible rfl
     try simp only [Act.put, pL]
     refine tk 22 ?_ rfl (by kernel_rfl) (fun _ _ _ => id) (by rfl) (by assumption) ?_ ?_
     rotate_left
     · (intro w hSw; (try dsimp only at hSw); go_simp); all_goals with_reducible rfl
     try simp only [Act.put, pL]
     refine wpAnyH_done (by kernel_rfl) ?_ _
     all_goals skip
     all_goals
      clear hS294
      obtain ⟨uf311, hX, hY, hZ, i0, i1, i2, i3, i4, i5, i6, i7, i9⟩ := (‹Dn w289 _ ∧ _› : _ ∧ _)
      obtain ⟨w312, rfl⟩ : ∃ w312 : World, w312 = wa := ⟨_, rfl⟩
      obtain ⟨iA, iB, iC, iD⟩ := mv4 uf311.cell hL.out hM.out hN.out hO.out
      clear hL hM hN hO
      have vuf311 := vuf288.trans uf311
      clear uf311 vuf288 HShS294
      go_wp2_with fail
      go_ret
      exact ⟨rfl, vuf311⟩
theorem eC_swap (i d j f : Int) : eC j f i d = -eC i d j f := by
 unfold eC c3
 repeat' split
 all_goals omega
theorem or2_swap (x y : Int) : or2 (-x) (-y) = -or2 x y := by
 unfold or2
 by_cases h : x = 0
 · rw [if_neg (by omega), if_neg (by omega)]
 · rw [if_pos (by omega), if_pos (by omega)]
theorem or2_bnd (x y : Int) (h1 : -1 ≤ x ∧ x ≤ 1) (h2 : -1 ≤ y ∧ y ≤ 1) : -1 ≤ or2 x y ∧ or2 x y ≤ 1 := by
 unfold or2
 split <;> assumption
theorem eC_bnd (i d j f : Int) : -1 ≤ eC i d j f ∧ eC i d j f ≤ 1 := by
 unfold eC c3
 repeat' split
 all_goals omega
theorem mn_swap (i d j f : Int) : mnI i d j f = mnI j f i d ∧ mnD i d j f = mnD j f i d := by
 unfold mnI mnD eC c3
 repeat' split
 all_goals omega
theorem mx_swap (i d j f : Int) : mxI i d j f = mxI j f i d ∧ mxD i d j f = mxD j f i d := by
 unfold mxI mxD eC c3
 repeat' split
 all_goals omega
theorem rnErr_nn (a b c d : Int) : 0 ≤ rnErr a b c d ∧ rnErr a b c d ≤ 12 := by
 unfold rnErr
 repeat' split
 all_goals omega
theorem wi_day {a b c d day : Int} (h : RnOk a b c d) : Wi 0 day 0 day a b c d ↔ key a b ≤ key 0 day ∧ key 0 day ≤ key c d := by
 unfold Wi
 constructor
 · rintro ⟨_, _, h1, h2⟩; exact ⟨h1, h2⟩
 · rintro ⟨h1, h2⟩; exact ⟨⟨Or.inl rfl, Or.inl rfl, Int.le_refl _, Int.le_refl _, Int.le_refl _⟩, h, h1, h2⟩
theorem wi_has {a b c d day : Int} (hb : I64 b) (hd : I64 d) (hy : I64 day) (h : RnOk a b c d) : Wi 0 day 0 day a b c d ↔ HasP a b c d day := by
 rw [wi_day h]
 obtain ⟨o1, o2, o3, o4, o5⟩ := h
 unfold HasP
 unfold I64 eOk key at *
 omega
theorem join_ok {a b c d e f g h : Int} (hb : I64 b) (hd : I64 d) (hf : I64 f) (hh : I64 h) (h1 : RnOk a b c d) (h2 : RnOk e f g h) : RnOk (mnI a b e f) (mnD a b e f) (mxI c d g h) (mxD c d g h) := by
 have k1 := mn_key (i := a) (j := e) hb hf
 have k2 := mx_key (i := c) (j := g) hd hh
 refine ⟨mn_ok h1.1 h2.1, mx_ok h1.2.1 h2.2.1, ?_, ?_, ?_⟩
 · have := h1.2.2.1; have := h2.2.2.1; unfold mnI; split <;> assumption
 · have := h1.2.2.2.1; have := h2.2.2.2.1; unfold mxI; split <;> assumption
 · rw [k1, k2]
   have := h1.2.2.2.2
   have := h2.2.2.2.2
   omega
theorem join_has {a b c d e f g h day : Int} (hb : I64 b) (hd : I64 d) (hf : I64 f) (hh : I64 h) (t : Tch a b c d e f g h) :
  Wi 0 day 0 day (mnI a b e f) (mnD a b e f) (mxI c d g h) (mxD c d g h) ↔ Wi 0 day 0 day a b c d ∨ Wi 0 day 0 day e f g h := by
 obtain ⟨h1, h2, h3, h4⟩ := t
 rw [wi_day (join_ok hb hd hf hh h1 h2), wi_day h1, wi_day h2, mn_key hb hf, mx_key hd hh]
 have := h1.2.2.2.2
 have := h2.2.2.2.2
 omega
theorem common_has {a b c d e f g h day : Int} (hb : I64 b) (hd : I64 d) (hf : I64 f) (hh : I64 h) (t : Meet a b c d e f g h) :
  Wi 0 day 0 day (mxI a b e f) (mxD a b e f) (mnI c d g h) (mnD c d g h) ↔ Wi 0 day 0 day a b c d ∧ Wi 0 day 0 day e f g h := by
 obtain ⟨h1, h2, h3, h4⟩ := t
 rw [wi_day ((common_ok hb hd hf hh h1 h2).2 ⟨h1, h2, h3, h4⟩), wi_day h1, wi_day h2, mx_key hb hf, mn_key hd hh]
 omega
theorem tch_swap (a b c d e f g h : Int) : Tch e f g h a b c d ↔ Tch a b c d e f g h := by
 unfold Tch
 constructor <;> rintro ⟨x, y, z, u⟩ <;> exact ⟨y, x, u, z⟩
theorem meet_swap (a b c d e f g h : Int) : Meet e f g h a b c d ↔ Meet a b c d e f g h := by
 unfold Meet
 constructor <;> rintro ⟨x, y, z, u⟩ <;> exact ⟨y, x, u, z⟩
theorem meet_tch {a b c d e f g h : Int} (k : Meet a b c d e f g h) : Tch a b c d e f g h := ⟨k.1, k.2.1, by have := k.2.2.1; omega, by have := k.2.2.2; omega⟩
theorem runsPairs_true (a b c d e f g h day : Int) (w : World) (hb : I64 b) (hd : I64 d) (hf : I64 f) (hh : I64 h) (hy : I64 day) (hE : EnvR w) :
   Calls Tryz.prog 4 #[.agg #[.int .i8 a, .int .i64 b, .int .i8 c, .int .i64 d], .agg #[.int .i8 e, .int .i64 f, .int .i8 g, .int .i64 h], .int .i64 day] w fun ro w' => ro = .returned (.bool true) ∧ Dn w w' := by
 have HCa := Lib.hid (rfChk a b c d)
 have HCb := Lib.hid (rfChk e f g h)
 have HKa := Lib.hid (rnChk a b c d)
 have HKb := Lib.hid (rnChk e f g h)
 have HP1 := Lib.hid (fun W => rnCmp a b c d e f g h W)
 have HP3 := Lib.hid (fun W => rfCmp a b c d e f g h W)
 have HP2 := Lib.hid (fun W => rnCmp e f g h a b c d W)
 rw [eC_swap a b e f, eC_swap c d g h, or2_swap] at HP2
 have hm : IntKind.i64.wrap (-or2 (eC a b e f) (eC c d g h)) = -or2 (eC a b e f) (eC c d g h) := IntWalk.i64_in _ (by have := or2_bnd _ _ (eC_bnd a b e f) (eC_bnd c d g h); omega)
 generalize or2 (eC a b e f) (eC c d g h) = m at *
 have HT1 := Lib.hid (fun W => rnTouch a b c d e f g h W hb hd hf hh)
 have HT2 := Lib.hid (fun W => rnTouch e f g h a b c d W hf hh hb hd)
 rw [decide_eq_decide.2 (tch_swap a b c d e f g h)] at HT2
 have HRJ := Lib.hid (fun W => rfJoin a b c d e f g h W)
 have HRC := Lib.hid (fun W => rfCommon a b c d e f g h W)
 have HW := Lib.hid (fun W => rnWithin a b c d e f g h W hb hd hf hh)
 have HHa := Lib.hid (fun W => rnHas a b c d day W hb hd hy)
 have HHb := Lib.hid (fun W => rnHas e f g h day W hf hh hy)
 have j1 := mn_swap a b e f
 have j2 := mx_swap c d g h
 have j3 := mx_swap a b e f
 have j4 := mn_swap c d g h
 have ex := rnErr_ok (a := a) (c := c) hb hd
 have ey := rnErr_ok (a := e) (c := g) hf hh
 have ix := rnErr_nn a b c d
 have iy := rnErr_nn e f g h
 by_cases ok : RnOk a b c d ∧ RnOk e f g h
 · obtain ⟨o1, o2⟩ := ok
   rw [ex.2 o1] at HCa HKa
   rw [ey.2 o2] at HCb HKb
   have HRT := Lib.hid (fun W => rfTouch a b c d e f g h W hb hd hf hh o1 o2)
   have HRO := Lib.hid (fun W => rfMeet a b c d e f g h W hb hd hf hh o1 o2)
   have HRW := Lib.hid (fun W => rfWithin a b c d e f g h W hb hd hf hh o1 o2)
   have HRH := Lib.hid (fun W => rfHas a b c d day W)
   rw [← decide_eq_decide.2 (wi_has hb hd hy o1)] at HRH
   by_cases t : Tch a b c d e f g h
   · rw [decide_eq_true t] at HT1 HT2 HRT
     have HJ1 := Lib.hid (fun W => rnJoin a b c d e f g h _ _ _ _ _ W hb hd hf hh (Or.inl ⟨t, rfl, rfl, rfl, rfl, rfl⟩))
     have HJ2 := Lib.hid (fun W => rnJoin e f g h a b c d _ _ _ _ _ W hf hh hb hd (Or.inl ⟨(tch_swap a b c d e f g h).2 t, rfl, j1.1, j1.2, j2.1, j2.2⟩))
     have HHr := Lib.hid (fun W r => rnHas_at (mnI a b e f) (mnD a b e f) (mxI c d g h) (mxD c d g h) day r W (mn_i64 hb hf) (mx_i64 hd hh) hy)
     have jh := join_has (day := day) hb hd hf hh t
     by_cases k : Meet a b c d e f g h
     · rw [decide_eq_true k] at HRO
       have HM1 := Lib.hid (fun W => rnCommon a b c d e f g h _ _ _ _ _ W hb hd hf hh (Or.inl ⟨k, rfl, rfl, rfl, rfl, rfl⟩))
       have HM2 := Lib.hid (fun W => rnCommon e f g h a b c d _ _ _ _ _ W hf hh hb hd (Or.inl ⟨(meet_swap a b c d e f g h).2 k, rfl, j3.1, j3.2, j4.1, j4.2⟩))
       have HHt := Lib.hid (fun W r => rnHas_at (mxI a b e f) (mxD a b e f) (mnI c d g h) (mnD c d g h) day r W (mx_i64 hb hf) (mn_i64 hd hh) hy)
       have ch := common_has (day := day) hb hd hf hh k
       by_cases p : Wi 0 day 0 day a b c d
       · rw [decide_eq_true p] at HHa HRH
         by_cases q : Wi 0 day 0 day e f g h
         · rw [decide_eq_true q] at HHb
           exact prs_t1111 a b c d e f g h day m _ _ _ _ _ _ _ _ _ true hm HCa HCb HKa HKb HP1 HP2 HP3 HT1 HT2 HJ1 HJ2 HM1 HM2 HRJ HRC HW HHa HHb (Lib.hid fun W => HHr.out W true (decide_eq_true (jh.2 (Or.inl p)))) (Lib.hid fun W => HHt.out W true (decide_eq_true (ch.2 ⟨p, q⟩))) HRT HRO HRW HRH w hE
         · rw [decide_eq_false q] at HHb
           exact prs_t1110 a b c d e f g h day m _ _ _ _ _ _ _ _ _ true hm HCa HCb HKa HKb HP1 HP2 HP3 HT1 HT2 HJ1 HJ2 HM1 HM2 HRJ HRC HW HHa HHb (Lib.hid fun W => HHr.out W true (decide_eq_true (jh.2 (Or.inl p)))) (Lib.hid fun W => HHt.out W false (decide_eq_false (fun hc => q (ch.1 hc).2))) HRT HRO HRW HRH w hE
       · rw [decide_eq_false p] at HHa HRH
         by_cases q : Wi 0 day 0 day e f g h
         · rw [decide_eq_true q] at HHb
           exact prs_t1101 a b c d e f g h day m _ _ _ _ _ _ _ _ _ true hm HCa HCb HKa HKb HP1 HP2 HP3 HT1 HT2 HJ1 HJ2 HM1 HM2 HRJ HRC HW HHa HHb (Lib.hid fun W => HHr.out W true (decide_eq_true (jh.2 (Or.inr q)))) (Lib.hid fun W => HHt.out W false (decide_eq_false (fun hc => p (ch.1 hc).1))) HRT HRO HRW HRH w hE
         · rw [decide_eq_false q] at HHb
           exact prs_t1100 a b c d e f g h day m _ _ _ _ _ _ _ _ _ true hm HCa HCb HKa HKb HP1 HP2 HP3 HT1 HT2 HJ1 HJ2 HM1 HM2 HRJ HRC HW HHa HHb (Lib.hid fun W => HHr.out W false (decide_eq_false (fun hc => (jh.1 hc).elim p q))) (Lib.hid fun W => HHt.out W false (decide_eq_false (fun hc => p (ch.1 hc).1))) HRT HRO HRW HRH w hE
     · rw [decide_eq_false k] at HRO
       have HM1 := Lib.hid (fun W => rnCommon a b c d e f g h _ _ _ _ _ W hb hd hf hh (Or.inr ⟨k, rfl, rfl, rfl, rfl, rfl⟩))
       have HM2 := Lib.hid (fun W => rnCommon e f g h a b c d _ _ _ _ _ W hf hh hb hd (Or.inr ⟨fun hc => k ((meet_swap a b c d e f g h).1 hc), rfl, rfl, rfl, rfl, rfl⟩))
       have nb : ¬ (Wi 0 day 0 day a b c d ∧ Wi 0 day 0 day e f g h) := fun ⟨x, y⟩ => k ⟨o1, o2, by have := (wi_day o1).1 x; have := (wi_day o2).1 y; omega, by have := (wi_day o1).1 x; have := (wi_day o2).1 y; omega⟩
       by_cases p : Wi 0 day 0 day a b c d
       · have q : ¬ Wi 0 day 0 day e f g h := fun q => nb ⟨p, q⟩
         rw [decide_eq_true p] at HHa HRH
         rw [decide_eq_false q] at HHb
         exact prs_t1010 a b c d e f g h day m _ _ _ _ _ _ _ _ _ true hm HCa HCb HKa HKb HP1 HP2 HP3 HT1 HT2 HJ1 HJ2 HM1 HM2 HRJ HRC HW HHa HHb (Lib.hid fun W => HHr.out W true (decide_eq_true (jh.2 (Or.inl p)))) HRT HRO HRW HRH w hE
       · rw [decide_eq_false p] at HHa HRH
         by_cases q : Wi 0 day 0 day e f g h
         · rw [decide_eq_true q] at HHb
           exact prs_t1001 a b c d e f g h day m _ _ _ _ _ _ _ _ _ true hm HCa HCb HKa HKb HP1 HP2 HP3 HT1 HT2 HJ1 HJ2 HM1 HM2 HRJ HRC HW HHa HHb (Lib.hid fun W => HHr.out W true (decide_eq_true (jh.2 (Or.inr q)))) HRT HRO HRW HRH w hE
         · rw [decide_eq_false q] at HHb
           exact prs_t1000 a b c d e f g h day m _ _ _ _ _ _ _ _ _ true hm HCa HCb HKa HKb HP1 HP2 HP3 HT1 HT2 HJ1 HJ2 HM1 HM2 HRJ HRC HW HHa HHb (Lib.hid fun W => HHr.out W false (decide_eq_false (fun hc => (jh.1 hc).elim p q))) HRT HRO HRW HRH w hE
   · have k : ¬ Meet a b c d e f g h := fun k => t (meet_tch k)
     rw [decide_eq_false t] at HT1 HT2 HRT
     rw [decide_eq_false k] at HRO
     have HJ1 := Lib.hid (fun W => rnJoin a b c d e f g h _ _ _ _ _ W hb hd hf hh (Or.inr ⟨t, rfl, rfl, rfl, rfl, rfl⟩))
     have HJ2 := Lib.hid (fun W => rnJoin e f g h a b c d _ _ _ _ _ W hf hh hb hd (Or.inr ⟨fun hc => t ((tch_swap a b c d e f g h).1 hc), rfl, rfl, rfl, rfl, rfl⟩))
     have HM1 := Lib.hid (fun W => rnCommon a b c d e f g h _ _ _ _ _ W hb hd hf hh (Or.inr ⟨k, rfl, rfl, rfl, rfl, rfl⟩))
     have HM2 := Lib.hid (fun W => rnCommon e f g h a b c d _ _ _ _ _ W hf hh hb hd (Or.inr ⟨fun hc => k ((meet_swap a b c d e f g h).1 hc), rfl, rfl, rfl, rfl, rfl⟩))
     have nb : ¬ (Wi 0 day 0 day a b c d ∧ Wi 0 day 0 day e f g h) := fun ⟨x, y⟩ => k ⟨o1, o2, by have := (wi_day o1).1 x; have := (wi_day o2).1 y; omega, by have := (wi_day o1).1 x; have := (wi_day o2).1 y; omega⟩
     by_cases p : Wi 0 day 0 day a b c d
     · have q : ¬ Wi 0 day 0 day e f g h := fun q => nb ⟨p, q⟩
       rw [decide_eq_true p] at HHa HRH
       rw [decide_eq_false q] at HHb
       exact prs_t0010 a b c d e f g h day m _ _ _ _ _ _ _ _ _ true hm HCa HCb HKa HKb HP1 HP2 HP3 HT1 HT2 HJ1 HJ2 HM1 HM2 HRJ HRC HW HHa HHb HRT HRO HRW HRH w hE
     · rw [decide_eq_false p] at HHa HRH
       by_cases q : Wi 0 day 0 day e f g h
       · rw [decide_eq_true q] at HHb
         exact prs_t0001 a b c d e f g h day m _ _ _ _ _ _ _ _ _ true hm HCa HCb HKa HKb HP1 HP2 HP3 HT1 HT2 HJ1 HJ2 HM1 HM2 HRJ HRC HW HHa HHb HRT HRO HRW HRH w hE
       · rw [decide_eq_false q] at HHb
         exact prs_t0000 a b c d e f g h day m _ _ _ _ _ _ _ _ _ true hm HCa HCb HKa HKb HP1 HP2 HP3 HT1 HT2 HJ1 HJ2 HM1 HM2 HRJ HRC HW HHa HHb HRT HRO HRW HRH w hE
 · have t : ¬ Tch a b c d e f g h := fun k => ok ⟨k.1, k.2.1⟩
   have k : ¬ Meet a b c d e f g h := fun k => ok ⟨k.1, k.2.1⟩
   rw [decide_eq_false t] at HT1 HT2
   rw [decide_eq_false (fun k : Wi a b c d e f g h => ok ⟨k.1, k.2.1⟩)] at HW
   have HJ1 := Lib.hid (fun W => rnJoin a b c d e f g h _ _ _ _ _ W hb hd hf hh (Or.inr ⟨t, rfl, rfl, rfl, rfl, rfl⟩))
   have HJ2 := Lib.hid (fun W => rnJoin e f g h a b c d _ _ _ _ _ W hf hh hb hd (Or.inr ⟨fun hc => t ((tch_swap a b c d e f g h).1 hc), rfl, rfl, rfl, rfl, rfl⟩))
   have HM1 := Lib.hid (fun W => rnCommon a b c d e f g h _ _ _ _ _ W hb hd hf hh (Or.inr ⟨k, rfl, rfl, rfl, rfl, rfl⟩))
   have HM2 := Lib.hid (fun W => rnCommon e f g h a b c d _ _ _ _ _ W hf hh hb hd (Or.inr ⟨fun hc => k ((meet_swap a b c d e f g h).1 hc), rfl, rfl, rfl, rfl, rfl⟩))
   by_cases hx : rnErr a b c d = 0
   · have hyy : rnErr e f g h ≠ 0 := fun hc => ok ⟨ex.1 hx, ey.1 hc⟩
     rw [hx] at HCa HKa
     have HRH := Lib.hid (fun W => rfHas a b c d day W)
     rw [← decide_eq_decide.2 (wi_has hb hd hy (ex.1 hx))] at HRH
     exact prs_n2 a b c d e f g h day m _ _ _ _ _ _ _ _ false _ 0 _ hm (IntWalk.i64_in _ (by omega)) hyy HCa HCb HKa HKb HP1 HP2 HP3 HT1 HT2 HJ1 HJ2 HM1 HM2 HRJ HRC HW HHa HRH w hE
   · rw [decide_eq_false (fun k : Wi 0 day 0 day a b c d => hx (ex.2 k.2.1))] at HHa
     exact prs_n1 a b c d e f g h day m _ _ _ _ _ _ _ _ false true _ _ hm (IntWalk.i64_in _ (by omega)) hx (by omega) HCa HCb HKa HKb HP1 HP2 HP3 HT1 HT2 HJ1 HJ2 HM1 HM2 HRJ HRC HW HHa w hE
set_option maxHeartbeats 4000000
set_option maxRecDepth 100000
theorem kdRt_4 {W w1 w2 : World} {a0 a1 a2 a3 : Addr} {v0 v1 v2 v3 : Value} (k : Dn w1 w2) (h : Dn W w1 ∧ w1.cell? a0 = some v0 ∧ w1.cell? a1 = some v1 ∧ w1.cell? a2 = some v2 ∧ w1.cell? a3 = some v3) :
  Dn W w2 ∧ w2.cell? a0 = some v0 ∧ w2.cell? a1 = some v1 ∧ w2.cell? a2 = some v2 ∧ w2.cell? a3 = some v3 := by
 obtain ⟨h1, c0, c1, c2, c3⟩ := h
 exact ⟨h1.trans k, k.cell c0, k.cell c1, k.cell c2, k.cell c3⟩
theorem rnBT (a b c d : Int) (s t : ByteArray) (HA : Hid (∀ W, EnvR W → Calls Tryz.prog 49 #[.agg #[.int .i8 a, .int .i64 b]] W fun o w' => o = .returned (.tuple #[.string s, .int .i64 0]) ∧ Dn W w')) (HB : Hid (∀ W, EnvR W → Calls Tryz.prog 49 #[.agg #[.int .i8 c, .int .i64 d]] W fun o w' => o = .returned (.tuple #[.string t, .int .i64 0]) ∧ Dn W w')) (w : World) (hE : EnvR w) :
  Calls Tryz.prog 48 #[.agg #[.int .i8 a, .int .i64 b], .agg #[.int .i8 c, .int .i64 d], .func (.func 49) #[] #[]] w fun ro w' => ro = .returned (.tuple #[.agg #[.string s, .string t], .int .i64 0]) ∧ Dn w w' := by
 go_enter Tryz.func48, Tryz.ntmps48
 go_wp2_with fail
 obtain ⟨W1, hW1⟩ : ∃ W1, W1 = ((w.alloc (.cells #[.int .i8 a, .int .i64 b] 24)).alloc (.cells #[.int .i8 c, .int .i64 d] 24)).alloc (.cells #[.string ⟨#[]⟩, .string ⟨#[]⟩] 72) := ⟨_, rfl⟩
 have uW1 : Dn w W1 := by rw [hW1]; exact (((Dn.refl _).alloc _).alloc _).alloc _
 have n2 : w.heap.size ≠ w.heap.size + 1 + 1 := by omega
 have n3 : w.heap.size + 1 ≠ w.heap.size + 1 + 1 := by omega
 have c4 : W1.cell? ⟨w.heap.size, 0, none⟩ = some (.int .i8 a) := by rw [hW1]; simp [go_sem]
 have c5 : W1.cell? ⟨w.heap.size, 1, none⟩ = some (.int .i64 b) := by rw [hW1]; simp [go_sem]
 have l6 : w.heap.size < W1.heap.size := by rw [hW1]; simp <;> omega
 have c7 : W1.cell? ⟨w.heap.size + 1, 0, none⟩ = some (.int .i8 c) := by rw [hW1]; simp [go_sem]
 have c8 : W1.cell? ⟨w.heap.size + 1, 1, none⟩ = some (.int .i64 d) := by rw [hW1]; simp [go_sem]
 have l9 : w.heap.size + 1 < W1.heap.size := by rw [hW1]; simp <;> omega
 have a2 : W1.cell? ⟨w.heap.size + 1 + 1, 0, none⟩ = some (.string ⟨#[]⟩) := by rw [hW1]; simp [go_sem]
 have a3 : W1.cell? ⟨w.heap.size + 1 + 1, 1, none⟩ = some (.string ⟨#[]⟩) := by rw [hW1]; simp [go_sem]
 have a0 : w.heap.size + 1 + 1 < W1.heap.size := by rw [hW1]; simp <;> omega
 have f13 : W1.frozen? ⟨w.heap.size + 1 + 1, 0, none⟩ = false := by rw [hW1]; simp [go_sem]
 have f14 : W1.frozen? ⟨w.heap.size + 1 + 1, 1, none⟩ = false := by rw [hW1]; simp [go_sem]
 rw [← hW1]
 clear hW1
 refine (HA.out _ (hE.dn uW1)).mono ?_
 rintro e w1 ⟨rfl, qw1⟩
 have a4 := nlt l6 qw1.size
 have a7 := nlt l9 qw1.size
 obtain ⟨a5, a6, a8, a9⟩ := mv4 qw1.cell c4 c5 c7 c8
 have f21 := (qw1.frozen (a := ⟨w.heap.size + 1 + 1, 0, none⟩) a0).trans f13
 have f22 := (qw1.frozen (a := ⟨w.heap.size + 1 + 1, 1, none⟩) a0).trans f14
 have a1 := nlt a0 qw1.size
 have aA := qw1.cell a2
 have aB := qw1.cell a3
 clear l6 c4 c5 l9 c7 c8 f13 f14 a0 a2 a3
 have uw1 := uW1.trans qw1
 clear qw1 uW1
 go_wp2_with fail
 refine (HB.out _ (hE.dn uw1)).mono ?_
 rintro e w2 ⟨rfl, qw2⟩
 have aI := nlt a4 qw2.size
 have aJ := nlt a7 qw2.size
 obtain ⟨aC, aD, aE, aF⟩ := mv4 qw2.cell a5 a6 a8 a9
 have f32 := (qw2.frozen (a := ⟨w.heap.size + 1 + 1, 0, none⟩) a1).trans f21
 have f33 := (qw2.frozen (a := ⟨w.heap.size + 1 + 1, 1, none⟩) a1).trans f22
 have aK := nlt a1 qw2.size
 have aG := qw2.cell aA
 have aH := qw2.cell aB
 clear a4 a5 a6 a7 a8 a9 f21 f22 a1 aA aB
 have uw2 := uw1.trans qw2
 clear qw2 uw1
 go_wp2_with fail
 exact bodyPost_ret (v := .tuple #[.agg #[.string s, .string t], .int .i64 0]) (by simp [results, Tryz.results48, go_sem, aC, aD, aE, aF, aG, aH, f32, f33] <;> omega) rfl ⟨rfl, ((uw2.setCell (by simp <;> omega) _).setCell (by simp <;> omega) _)⟩
theorem preKn52x1 (w : World) (a b c d : Int) : ∃ W1, W1 = w.alloc (.cells #[.int .i8 a, .int .i64 b, .int .i8 c, .int .i64 d] 28) ∧ (Dn w W1) ∧ (W1.cell? ⟨w.heap.size, 0, none⟩ = some (.int .i8 a)) ∧ (W1.cell? ⟨w.heap.size, 1, none⟩ = some (.int .i64 b)) ∧ (W1.cell? ⟨w.heap.size, 2, none⟩ = some (.int .i8 c)) ∧ (W1.cell? ⟨w.heap.size, 3, none⟩ = some (.int .i64 d)) ∧ (w.heap.size < W1.heap.size) := by
  obtain ⟨W1, hW1⟩ : ∃ W1, W1 = w.alloc (.cells #[.int .i8 a, .int .i64 b, .int .i8 c, .int .i64 d] 28) := ⟨_, rfl⟩
  exact ⟨W1, hW1, (by rw [hW1]; exact (Dn.refl _).alloc _), (by rw [hW1]; simp [go_sem]), (by rw [hW1]; simp [go_sem]), (by rw [hW1]; simp [go_sem]), (by rw [hW1]; simp [go_sem]), (by rw [hW1]; simp <;> omega)⟩
theorem rnTx_bad (a b c d m : Int) (HC : Hid (ChkIs a b c d m)) (h1 : m ≠ 0) (w : World) :
  Calls Tryz.prog 25 #[.agg #[.int .i8 a, .int .i64 b, .int .i8 c, .int .i64 d]] w fun ro w' => ro = .returned (.tuple #[.string ⟨#[]⟩, .int .i64 m]) ∧ Dn w w' := by
 have t1 : (m != 0) = true := by simpa using h1
 clear h1
 go_enter Tryz.func25, Tryz.ntmps25
 go_wp2_with fail
 obtain ⟨W1, hW1, uW1, c2, c3, c4, c5, l6⟩ := preKn52x1 w a b c d
 rw [← hW1]
 clear hW1
 refine (HC.out _).mono ?_
 rintro e w1 ⟨rfl, qw1⟩
 have l7 := nlt l6 qw1.size
 obtain ⟨c8, c9, c10, c11⟩ := mv4 qw1.cell c2 c3 c4 c5
 clear l6 c2 c3 c4 c5
 have uw1 := uW1.trans qw1
 clear qw1 uW1
 go_wp2_with fail
 go_ret2
 exact ⟨rfl, uw1⟩
theorem rnTx_ok (a b c d : Int) (s t : ByteArray) (hs : s.size ≤ 1000) (ht : t.size ≤ 1000) (HC : Hid (ChkIs a b c d 0)) (HB : Hid (∀ W, EnvR W → Calls Tryz.prog 48 #[.agg #[.int .i8 a, .int .i64 b], .agg #[.int .i8 c, .int .i64 d], .func (.func 49) #[] #[]] W fun o w' => o = .returned (.tuple #[.agg #[.string s, .string t], .int .i64 0]) ∧ Dn W w')) (w : World) (hE : EnvR w) :
  Calls Tryz.prog 25 #[.agg #[.int .i8 a, .int .i64 b, .int .i8 c, .int .i64 d]] w fun ro w' => ro = .returned (.tuple #[.string (s ++ ⟨#[46, 46]⟩ ++ t), .int .i64 0]) ∧ Dn w w' := by
 have z1 : ¬ (9223372036854775807 < s.size + 2) := by omega
 have z2 : ¬ (9223372036854775807 < s.size + 2 + t.size) := by omega
 go_enter Tryz.func25, Tryz.ntmps25
 go_wp2_with fail
 obtain ⟨W1, hW1, uW1, c2, c3, c4, c5, l6⟩ := preKn52x1 w a b c d
 rw [← hW1]
 clear hW1
 refine (HC.out _).mono ?_
 rintro e w1 ⟨rfl, qw1⟩
 have l7 := nlt l6 qw1.size
 obtain ⟨c8, c9, a0, a1⟩ := mv4 qw1.cell c2 c3 c4 c5
 clear l6 c2 c3 c4 c5
 have uw1 := uW1.trans qw1
 clear qw1 uW1
 go_wp2_with fail
 refine (HB.out _ (hE.dn uw1)).mono ?_
 rintro e w2 ⟨rfl, qw2⟩
 have a2 := nlt l7 qw2.size
 obtain ⟨a3, a4, a5, a6⟩ := mv4 qw2.cell c8 c9 a0 a1
 clear l7 c8 c9 a0 a1
 have uw2 := uw1.trans qw2
 clear qw2 uw1
 go_wp2_with fail
 go_ret2
 exact ⟨rfl, uw2.alloc _⟩
theorem rfTx (a b c d : Int) (s t : ByteArray) (hs : s.size ≤ 1000) (ht : t.size ≤ 1000) (HA : Hid (∀ W, Calls Tryz.prog 53 #[.agg #[.int .i8 a, .int .i64 b]] W fun o w' => o = .returned (.string s) ∧ Dn W w')) (HB : Hid (∀ W, Calls Tryz.prog 53 #[.agg #[.int .i8 c, .int .i64 d]] W fun o w' => o = .returned (.string t) ∧ Dn W w')) (w : World) :
   Calls Tryz.prog 27 #[.agg #[.int .i8 a, .int .i64 b, .int .i8 c, .int .i64 d]] w fun ro w' => ro = .returned (.string (s ++ ⟨#[46, 46]⟩ ++ t)) ∧ Dn w w' := by
 have z1 : ¬ (9223372036854775807 < s.size + 2) := by omega
 have z2 : ¬ (9223372036854775807 < s.size + 2 + t.size) := by omega
 go_enter Tryz.func27, Tryz.ntmps27
 go_wp2_with fail
 obtain ⟨W1, hW1, uW1, c2, c3, c4, c5, l6⟩ := preKn52x1 w a b c d
 rw [← hW1]
 clear hW1
 have hS := kdRt_4 (W := w) (Dn.refl W1) ⟨uW1, c2, c3, c4, c5⟩
 refine wp_region_held_drew (S := fun w' => Dn w w' ∧ w'.cell? ⟨w.heap.size, 0, none⟩ = some (.int .i8 a) ∧ w'.cell? ⟨w.heap.size, 1, none⟩ = some (.int .i64 b) ∧ w'.cell? ⟨w.heap.size, 2, none⟩ = some (.int .i8 c) ∧ w'.cell? ⟨w.heap.size, 3, none⟩ = some (.int .i64 d)) (by kernel_rfl) ?_ (fun hHeld => ?_)
 · (try dsimp only); exact kdRt_4 ((Dn.refl _).drew) hS
 refine tk 0 ?_ rfl (by kernel_rfl) (fun _ _ _ => id) (by rfl) (by assumption) ?_ ?_
 rotate_left
 · (intro w hSw; (try dsimp only at hSw); go_simp)
   all_goals with_reducible rfl
 try simp only [Act.put, pL]
 refine tk 1 ?_ rfl (by kernel_rfl) (fun _ _ _ => id) (by rfl) (by assumption) ?_ ?_
 rotate_left
 · (intro w hSw; (try dsimp only at hSw); go_simp)
   all_goals with_reducible rfl
 try simp only [Act.put, pL]
 refine tk 4 ?_ rfl (by kernel_rfl) (fun _ _ _ => id) (by rfl) (by assumption) ?_ ?_
 rotate_left
 · (intro w hSw; (try dsimp only at hSw); go_simp)
   all_goals with_reducible rfl
 try simp only [Act.put, pL]
 refine tk 5 ?_ rfl (by kernel_rfl) (fun _ _ _ => id) (by rfl) (by assumption) ?_ ?_
 rotate_left
 · (intro w hSw; (try dsimp only at hSw); go_simp)
   all_goals with_reducible rfl
 try simp only [Act.put, pL]
 refine wpAnyH_ready (rs := [2]) (by kernel_rfl) (by simp) ?_
 refine AllReadyH.cons rfl (fun K hK => ?_) AllReadyH.nil
 ·
   go_simp
   go_at_call 53
   refine (HA.out _).mono ?_
   rintro e wa1 ⟨rfl, q1⟩
   have g1 := kdRt_4 q1 hHeld
   try go_wp2_with fail
   refine hK.out _ _ ?_ (fun hHeld => ?_)
   · (try dsimp only); exact g1
   clear hK K
   try simp only [Act.put, pL]
   refine tk 3 ?_ rfl (by kernel_rfl) (fun _ _ _ => id) (by rfl) (by assumption) ?_ ?_
   rotate_left
   · (intro w hSw; (try dsimp only at hSw); go_simp)
     all_goals with_reducible rfl
   try simp only [Act.put, pL]
   refine wpAnyH_ready (rs := [6]) (by kernel_rfl) (by simp) ?_
   refine AllReadyH.cons rfl (fun K hK => ?_) AllReadyH.nil
   ·
     go_simp
     go_at_call 53
     refine (HB.out _).mono ?_
     rintro e wa2 ⟨rfl, q2⟩
     have g2 := kdRt_4 q2 g1
     try go_wp2_with fail
     refine hK.out _ _ ?_ (fun hHeld => ?_)
     · (try dsimp only); exact g2
     clear hK K
     try simp only [Act.put, pL]
     refine tk 7 ?_ rfl (by kernel_rfl) (fun _ _ _ => id) (by rfl) (by assumption) ?_ ?_
     rotate_left
     · (intro w hSw; (try dsimp only at hSw); go_simp)
       all_goals with_reducible rfl
     try simp only [Act.put, pL]
     refine tk 8 ?_ rfl (by kernel_rfl) (fun _ _ _ => id) (by rfl) (by assumption) ?_ ?_
     rotate_left
     · (intro w hSw; (try dsimp only at hSw); go_simp)
       all_goals with_reducible rfl
     try simp only [Act.put, pL]
     refine wpAnyH_done (by kernel_rfl) ?_ _
     have hf : Dn w _ := g2.1
     go_wp2_with fail
     go_ret
     exact ⟨rfl, hf⟩
def rStr (a b c d : Int) : ByteArray := eStr a b ++ ⟨#[46, 46]⟩ ++ eStr c d
theorem eStr_sz (i d : Int) (hd : I64 d) : (eStr i d).size ≤ 1000 := by
 unfold eStr
 split
 · exact size_itoa d hd
 · split <;> decide
theorem rnText (a b c d : Int) (w : World) (hb : I64 b) (hd : I64 d) (h : RnOk a b c d) (hE : EnvR w) :
  Calls Tryz.prog 25 #[.agg #[.int .i8 a, .int .i64 b, .int .i8 c, .int .i64 d]] w fun ro w' => ro = .returned (.tuple #[.string (rStr a b c d), .int .i64 0]) ∧ Dn w w' := by
 have HC : Hid (ChkIs a b c d (rnErr a b c d)) := Lib.hid (rnChk a b c d)
 rw [(rnErr_ok hb hd).2 h] at HC
 have HA : Hid (∀ W, EnvR W → Calls Tryz.prog 49 #[.agg #[.int .i8 a, .int .i64 b]] W fun o w' => o = .returned (.tuple #[.string (eStr a b), .int .i64 0]) ∧ Dn W w') := Lib.hid (fun W hW => (eText_ok a b W h.1 hb hW.i).mono fun _ _ ⟨h1, h2⟩ => ⟨h1, h2.dn⟩)
 have HB : Hid (∀ W, EnvR W → Calls Tryz.prog 49 #[.agg #[.int .i8 c, .int .i64 d]] W fun o w' => o = .returned (.tuple #[.string (eStr c d), .int .i64 0]) ∧ Dn W w') := Lib.hid (fun W hW => (eText_ok c d W h.2.1 hd hW.i).mono fun _ _ ⟨h1, h2⟩ => ⟨h1, h2.dn⟩)
 exact rnTx_ok a b c d _ _ (eStr_sz a b hb) (eStr_sz c d hd) HC (Lib.hid fun W hW => rnBT a b c d _ _ HA HB W hW) w hE
theorem rnText_bad (a b c d : Int) (w : World) (h : rnErr a b c d ≠ 0) :
  Calls Tryz.prog 25 #[.agg #[.int .i8 a, .int .i64 b, .int .i8 c, .int .i64 d]] w fun ro w' => ro = .returned (.tuple #[.string ⟨#[]⟩, .int .i64 (rnErr a b c d)]) ∧ Dn w w' :=
 rnTx_bad a b c d _ (Lib.hid (rnChk a b c d)) h w
theorem rfText (a b c d : Int) (w : World) (hb : I64 b) (hd : I64 d) (h : RnOk a b c d) :
  Calls Tryz.prog 27 #[.agg #[.int .i8 a, .int .i64 b, .int .i8 c, .int .i64 d]] w fun ro w' => ro = .returned (.string (rStr a b c d)) ∧ Dn w w' :=
 rfTx a b c d _ _ (eStr_sz a b hb) (eStr_sz c d hd) (Lib.hid fun W => rText8 a b W h.1 hb) (Lib.hid fun W => rText8 c d W h.2.1 hd) w
end Go.Proofs.YtcdkeiolblifkaaGreatDoor
