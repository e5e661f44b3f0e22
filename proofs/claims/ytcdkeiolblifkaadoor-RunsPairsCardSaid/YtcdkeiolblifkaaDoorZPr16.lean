/- Walks and laws that the claim's theorem leans on: part 16. -/
import Derived.Test.YtcdkeiolblifkaaDoorZPr1
import Derived.Test.YtcdkeiolblifkaaDoorZPr12
namespace Go.Proofs.YtcdkeiolblifkaaDoor
set_option maxHeartbeats 40000000
set_option maxRecDepth 100000
open Go.RowKit
set_option linter.unusedVariables false
set_option linter.unusedSimpArgs false
theorem prePr47x1 (w : World) (a b c d e f g h : Int) : ∃ W1, W1 = (w.alloc (.cells #[.int .i8 a, .int .i64 b, .int .i8 c, .int .i64 d] 29)).alloc (.cells #[.int .i8 e, .int .i64 f, .int .i8 g, .int .i64 h] 29) ∧ (Dn w W1) ∧ (W1.cell? ⟨w.heap.size, 0, none⟩ = some (.int .i8 a)) ∧ (W1.cell? ⟨w.heap.size, 1, none⟩ = some (.int .i64 b)) ∧ (W1.cell? ⟨w.heap.size, 2, none⟩ = some (.int .i8 c)) ∧ (W1.cell? ⟨w.heap.size, 3, none⟩ = some (.int .i64 d)) ∧ (W1.cell? ⟨w.heap.size + 1, 0, none⟩ = some (.int .i8 e)) ∧ (W1.cell? ⟨w.heap.size + 1, 1, none⟩ = some (.int .i64 f)) ∧ (W1.cell? ⟨w.heap.size + 1, 2, none⟩ = some (.int .i8 g)) ∧ (W1.cell? ⟨w.heap.size + 1, 3, none⟩ = some (.int .i64 h)) := by
  obtain ⟨W1, hW1⟩ : ∃ W1, W1 = (w.alloc (.cells #[.int .i8 a, .int .i64 b, .int .i8 c, .int .i64 d] 29)).alloc (.cells #[.int .i8 e, .int .i64 f, .int .i8 g, .int .i64 h] 29) := ⟨_, rfl⟩
  exact ⟨W1, hW1, (by rw [hW1]; exact ((Dn.refl _).alloc _).alloc _), (by rw [hW1]; simp [go_sem]), (by rw [hW1]; simp [go_sem]), (by rw [hW1]; simp [go_sem]), (by rw [hW1]; simp [go_sem]), (by rw [hW1]; simp [go_sem]), (by rw [hW1]; simp [go_sem]), (by rw [hW1]; simp [go_sem]), (by rw [hW1]; simp [go_sem])⟩
theorem prs_t0001 (a b c d e f g h day m p0 p1 p2 p3 q0 q1 q2 q3 : Int) (wi hq : Bool) (hm : IntKind.i64.wrap (-m) = -m)  (HCa : Hid (CC 18 #[RV a b c d] (.int .i64 0))) (HCb : Hid (CC 18 #[RV e f g h] (.int .i64 0))) (HKa : Hid (CC 19 #[RV a b c d] (.int .i64 0))) (HKb : Hid (CC 19 #[RV e f g h] (.int .i64 0))) (HP1 : Hid (CC 20 #[RV a b c d, RV e f g h] (.int .i64 m))) (HP2 : Hid (CC 20 #[RV e f g h, RV a b c d] (.int .i64 (-m)))) (HP3 : Hid (CC 21 #[RV a b c d, RV e f g h] (.int .i64 m))) (HT1 : Hid (CC 12 #[RV a b c d, RV e f g h] (.bool false))) (HT2 : Hid (CC 12 #[RV e f g h, RV a b c d] (.bool false))) (HJ1 : Hid (CC 10 #[RV a b c d, RV e f g h] (.tuple #[.agg #[.int .i8 0, .int .i64 0, .int .i8 0, .int .i64 0], .bool false]))) (HJ2 : Hid (CC 10 #[RV e f g h, RV a b c d] (.tuple #[.agg #[.int .i8 0, .int .i64 0, .int .i8 0, .int .i64 0], .bool false]))) (HM1 : Hid (CC 11 #[RV a b c d, RV e f g h] (.tuple #[.agg #[.int .i8 0, .int .i64 0, .int .i8 0, .int .i64 0], .bool false]))) (HM2 : Hid (CC 11 #[RV e f g h, RV a b c d] (.tuple #[.agg #[.int .i8 0, .int .i64 0, .int .i8 0, .int .i64 0], .bool false]))) (HRJ : Hid (CC 25 #[RV a b c d, RV e f g h] (.agg #[.int .i8 p0, .int .i64 p1, .int .i8 p2, .int .i64 p3]))) (HRC : Hid (CC 26 #[RV a b c d, RV e f g h] (.agg #[.int .i8 q0, .int .i64 q1, .int .i8 q2, .int .i64 q3]))) (HW : Hid (CC 13 #[RV a b c d, RV e f g h] (.bool wi))) (HHa : Hid (CC 9 #[RV a b c d, .int .i64 day] (.bool false))) (HHb : Hid (CC 9 #[RV e f g h, .int .i64 day] (.bool true))) (HRT : Hid (CC 22 #[RV a b c d, RV e f g h] (.bool false))) (HRO : Hid (CC 23 #[RV a b c d, RV e f g h] (.bool false))) (HRW : Hid (CC 27 #[RV a b c d, RV e f g h] (.bool wi))) (HRH : Hid (CC 28 #[RV a b c d, .int .i64 day] (.bool false))) (w : World) (hE : EnvR w) :
  Calls Tryd.prog 5 #[.agg #[.int .i8 a, .int .i64 b, .int .i8 c, .int .i64 d], .agg #[.int .i8 e, .int .i64 f, .int .i8 g, .int .i64 h], .int .i64 day] w fun ro w' => ro = .returned (.bool true) ∧ Dn w w' := by
 go_enter Tryd.func5, Tryd.ntmps5
 go_wp2_with fail
 obtain ⟨W1, hW1, uW1, c2, c3, c4, c5, c6, c7, c8, c9⟩ := prePr47x1 w a b c d e f g h
 rw [← hW1]
 clear hW1
 have hS10 := kdP_8 (W := W1) (Dn.refl _) ⟨Dn.refl _, c2, c3, c4, c5, c6, c7, c8, c9⟩
 have HShS10 := Lib.hid hS10
 clear c2 c3 c4 c5 c6 c7 c8 c9
 go_region_held3 (fun w' => Dn W1 w' ∧ w'.cell? ⟨w.heap.size, 0, none⟩ = some (.int .i8 a) ∧ w'.cell? ⟨w.heap.size, 1, none⟩ = some (.int .i64 b) ∧ w'.cell? ⟨w.heap.size, 2, none⟩ = some (.int .i8 c) ∧ w'.cell? ⟨w.heap.size, 3, none⟩ = some (.int .i64 d) ∧ w'.cell? ⟨w.heap.size + 1, 0, none⟩ = some (.int .i8 e) ∧ w'.cell? ⟨w.heap.size + 1, 1, none⟩ = some (.int .i64 f) ∧ w'.cell? ⟨w.heap.size + 1, 2, none⟩ = some (.int .i8 g) ∧ w'.cell? ⟨w.heap.size + 1, 3, none⟩ = some (.int .i64 h))
  (first | exact kdP_8 ((Dn.refl _).drew) hS10 | exact kdP_8 ‹Dn _ _› ‹_› | exact kdP_8 (Up.dn ‹Up _ _›) ‹_› | assumption | exact kdP_8 ((Dn.refl _).alloc _) ‹_›)
  (first
   | (go_at_call 18; (with_reducible refine (HCa.out _).mono ?_); rintro e wa ⟨rfl, qa⟩)
   | (go_at_call 18; (with_reducible refine (HCb.out _).mono ?_); rintro e wa ⟨rfl, qa⟩))
 all_goals
  clear hS10
  obtain ⟨uf19, a8, a9, aA, aB, aC, aD, aE, aF⟩ := (‹Dn W1 _ ∧ _› : _ ∧ _)
  obtain ⟨w20, rfl⟩ : ∃ w20 : World, w20 = wa := ⟨_, rfl⟩
  have vuf19 := uW1.trans uf19
  clear uf19 uW1 HShS10
  go_wp2_with fail
  have hS21 := kdP_8 (W := w20) (Dn.refl _) ⟨Dn.refl _, a8, a9, aA, aB, aC, aD, aE, aF⟩
  have HShS21 := Lib.hid hS21
  clear a8 a9 aA aB aC aD aE aF
  go_region_held3 (fun w' => Dn w20 w' ∧ w'.cell? ⟨w.heap.size, 0, none⟩ = some (.int .i8 a) ∧ w'.cell? ⟨w.heap.size, 1, none⟩ = some (.int .i64 b) ∧ w'.cell? ⟨w.heap.size, 2, none⟩ = some (.int .i8 c) ∧ w'.cell? ⟨w.heap.size, 3, none⟩ = some (.int .i64 d) ∧ w'.cell? ⟨w.heap.size + 1, 0, none⟩ = some (.int .i8 e) ∧ w'.cell? ⟨w.heap.size + 1, 1, none⟩ = some (.int .i64 f) ∧ w'.cell? ⟨w.heap.size + 1, 2, none⟩ = some (.int .i8 g) ∧ w'.cell? ⟨w.heap.size + 1, 3, none⟩ = some (.int .i64 h))
   (first | exact kdP_8 ((Dn.refl _).drew) hS21 | exact kdP_8 ‹Dn _ _› ‹_› | exact kdP_8 (Up.dn ‹Up _ _›) ‹_› | assumption | exact kdP_8 ((Dn.refl _).alloc _) ‹_›)
   (first
    | (go_at_call 19; (with_reducible refine (HKa.out _).mono ?_); rintro e wa ⟨rfl, qa⟩)
    | (go_at_call 19; (with_reducible refine (HKb.out _).mono ?_); rintro e wa ⟨rfl, qa⟩)
    | (go_at_call 20; (with_reducible refine (HP1.out _).mono ?_); rintro e wa ⟨rfl, qa⟩)
    | (go_at_call 20; (with_reducible refine (HP2.out _).mono ?_); rintro e wa ⟨rfl, qa⟩)
    | (go_at_call 21; (with_reducible refine (HP3.out _).mono ?_); rintro e wa ⟨rfl, qa⟩))
  all_goals
   clear hS21
   obtain ⟨uf30, aG, aH, aI, aJ, aK, aL, aM, aN⟩ := (‹Dn w20 _ ∧ _› : _ ∧ _)
   obtain ⟨w31, rfl⟩ : ∃ w31 : World, w31 = wa := ⟨_, rfl⟩
   have vuf30 := vuf19.trans uf30
   clear uf30 vuf19 HShS21
   go_wp2_with fail
   refine (HRT.out _).mono ?_
   rintro e w1 ⟨rfl, qw1⟩
   obtain ⟨-, aO, aP, aQ, aR, aS, aT, aU, aV⟩ := kdP_8 qw1 ⟨Dn.refl _, aG, aH, aI, aJ, aK, aL, aM, aN⟩
   clear aG aH aI aJ aK aL aM aN
   have uw1 := vuf30.trans qw1
   clear qw1 vuf30
   go_wp2_with fail
   refine (HRO.out _).mono ?_
   rintro e w2 ⟨rfl, qw2⟩
   obtain ⟨-, aW, aX, aY, aZ, b0, b1, b2, b3⟩ := kdP_8 qw2 ⟨Dn.refl _, aO, aP, aQ, aR, aS, aT, aU, aV⟩
   clear aO aP aQ aR aS aT aU aV
   have uw2 := uw1.trans qw2
   clear qw2 uw1
   go_wp2_with fail
   refine (HJ1.out _).mono ?_
   rintro e w3 ⟨rfl, qw3⟩
   obtain ⟨-, a0, b4, b5, b6, a1, b7, b8, b9⟩ := kdP_8 qw3 ⟨Dn.refl _, aW, aX, aY, aZ, b0, b1, b2, b3⟩
   clear aW aX aY aZ b0 b1 b2 b3
   have uw3 := uw2.trans qw3
   clear qw3 uw2
   have la := lt_of_cell a0
   have lb := lt_of_cell a1
   go_wp2_with fail
   obtain ⟨W56, hW56⟩ : ∃ W56, W56 = w3.alloc (.cells #[.int .i8 0, .int .i64 0, .int .i8 0, .int .i64 0] 29) := ⟨_, rfl⟩
   have uW56 : Dn w3 W56 := by rw [hW56]; exact (Dn.refl _).alloc _
   obtain ⟨-, bA, bB, bC, bD, bE, bF, bG, bH⟩ := kdP_8 uW56 ⟨Dn.refl _, a0, b4, b5, b6, a1, b7, b8, b9⟩
   clear a0 b4 b5 b6 a1 b7 b8 b9
   have bI : W56.cell? ⟨w3.heap.size, 0, none⟩ = some (.int .i8 0) := by rw [hW56]; simp [go_sem]
   have bJ : W56.cell? ⟨w3.heap.size, 1, none⟩ = some (.int .i64 0) := by rw [hW56]; simp [go_sem]
   have bK : W56.cell? ⟨w3.heap.size, 2, none⟩ = some (.int .i8 0) := by rw [hW56]; simp [go_sem]
   have bL : W56.cell? ⟨w3.heap.size, 3, none⟩ = some (.int .i64 0) := by rw [hW56]; simp [go_sem]
   rw [← hW56]
   clear hW56
   have vW56 := uw3.trans uW56
   clear uW56 uw3
   refine (HJ2.out _).mono ?_
   rintro e w4 ⟨rfl, qw4⟩
   obtain ⟨-, a2, bM, bN, bO, a3, bP, bQ, bR, bS, bT, bU, bV⟩ := kdP_12 qw4 ⟨Dn.refl _, bA, bB, bC, bD, bE, bF, bG, bH, bI, bJ, bK, bL⟩
   clear bA bB bC bD bE bF bG bH bI bJ bK bL
   have uw4 := vW56.trans qw4
   clear qw4 vW56
   have la := lt_of_cell a2
   have lb := lt_of_cell a3
   go_wp2_with fail
   obtain ⟨W81, hW81⟩ : ∃ W81, W81 = w4.alloc (.cells #[.int .i8 0, .int .i64 0, .int .i8 0, .int .i64 0] 29) := ⟨_, rfl⟩
   have uW81 : Dn w4 W81 := by rw [hW81]; exact (Dn.refl _).alloc _
   obtain ⟨-, bW, bX, bY, bZ, c0, c1, cA, cB, cC, cD, cE, cF⟩ := kdP_12 uW81 ⟨Dn.refl _, a2, bM, bN, bO, a3, bP, bQ, bR, bS, bT, bU, bV⟩
   clear a2 bM bN bO a3 bP bQ bR bS bT bU bV
   have cG : W81.cell? ⟨w4.heap.size, 0, none⟩ = some (.int .i8 0) := by rw [hW81]; simp [go_sem]
   have cH : W81.cell? ⟨w4.heap.size, 1, none⟩ = some (.int .i64 0) := by rw [hW81]; simp [go_sem]
   have cI : W81.cell? ⟨w4.heap.size, 2, none⟩ = some (.int .i8 0) := by rw [hW81]; simp [go_sem]
   have cJ : W81.cell? ⟨w4.heap.size, 3, none⟩ = some (.int .i64 0) := by rw [hW81]; simp [go_sem]
   rw [← hW81]
   clear hW81
   have vW81 := uw4.trans uW81
   clear uW81 uw4
   refine (HM1.out _).mono ?_
   rintro e w5 ⟨rfl, qw5⟩
   obtain ⟨-, a4, cK, cL, cM, a5, cN, cO, cP, cQ, cR, cS, cT, cU, cV, cW, cX⟩ := kdP_16 qw5 ⟨Dn.refl _, bW, bX, bY, bZ, c0, c1, cA, cB, cC, cD, cE, cF, cG, cH, cI, cJ⟩
   clear bW bX bY bZ c0 c1 cA cB cC cD cE cF cG cH cI cJ
   have uw5 := vW81.trans qw5
   clear qw5 vW81
   have la := lt_of_cell a4
   have lb := lt_of_cell a5
   go_wp2_with fail
   obtain ⟨W114, hW114⟩ : ∃ W114, W114 = w5.alloc (.cells #[.int .i8 0, .int .i64 0, .int .i8 0, .int .i64 0] 29) := ⟨_, rfl⟩
   have uW114 : Dn w5 W114 := by rw [hW114]; exact (Dn.refl _).alloc _
   obtain ⟨-, cY, cZ, d0, d1, d2, d3, d4, d5, d6, d7, d8, d9, dA, dB, dC, dD⟩ := kdP_16 uW114 ⟨Dn.refl _, a4, cK, cL, cM, a5, cN, cO, cP, cQ, cR, cS, cT, cU, cV, cW, cX⟩
   clear a4 cK cL cM a5 cN cO cP cQ cR cS cT cU cV cW cX
   have dE : W114.cell? ⟨w5.heap.size, 0, none⟩ = some (.int .i8 0) := by rw [hW114]; simp [go_sem]
   have dF : W114.cell? ⟨w5.heap.size, 1, none⟩ = some (.int .i64 0) := by rw [hW114]; simp [go_sem]
   have dG : W114.cell? ⟨w5.heap.size, 2, none⟩ = some (.int .i8 0) := by rw [hW114]; simp [go_sem]
   have dH : W114.cell? ⟨w5.heap.size, 3, none⟩ = some (.int .i64 0) := by rw [hW114]; simp [go_sem]
   rw [← hW114]
   clear hW114
   have vW114 := uw5.trans uW114
   clear uW114 uw5
   refine (HM2.out _).mono ?_
   rintro e w6 ⟨rfl, qw6⟩
   obtain ⟨-, a6, dI, dJ, dK, a7, dL, dM, dN, dO, dP, dQ, dR, dS, dT, dU, dV, dW, dX, dY, dZ⟩ := kdP_20 qw6 ⟨Dn.refl _, cY, cZ, d0, d1, d2, d3, d4, d5, d6, d7, d8, d9, dA, dB, dC, dD, dE, dF, dG, dH⟩
   clear cY cZ d0 d1 d2 d3 d4 d5 d6 d7 d8 d9 dA dB dC dD dE dF dG dH
   have uw6 := vW114.trans qw6
   clear qw6 vW114
   have la := lt_of_cell a6
   have lb := lt_of_cell a7
   go_wp2_with fail
   obtain ⟨W155, hW155⟩ : ∃ W155, W155 = w6.alloc (.cells #[.int .i8 0, .int .i64 0, .int .i8 0, .int .i64 0] 29) := ⟨_, rfl⟩
   have uW155 : Dn w6 W155 := by rw [hW155]; exact (Dn.refl _).alloc _
   obtain ⟨-, e0, e1, e2, e3, e4, e5, e6, e7, e8, e9, eD, eE, eF, eG, eH, eI, eJ, eK, eL, eM⟩ := kdP_20 uW155 ⟨Dn.refl _, a6, dI, dJ, dK, a7, dL, dM, dN, dO, dP, dQ, dR, dS, dT, dU, dV, dW, dX, dY, dZ⟩
   clear a6 dI dJ dK a7 dL dM dN dO dP dQ dR dS dT dU dV dW dX dY dZ
   have eN : W155.cell? ⟨w6.heap.size, 0, none⟩ = some (.int .i8 0) := by rw [hW155]; simp [go_sem]
   have eO : W155.cell? ⟨w6.heap.size, 1, none⟩ = some (.int .i64 0) := by rw [hW155]; simp [go_sem]
   have eP : W155.cell? ⟨w6.heap.size, 2, none⟩ = some (.int .i8 0) := by rw [hW155]; simp [go_sem]
   have eQ : W155.cell? ⟨w6.heap.size, 3, none⟩ = some (.int .i64 0) := by rw [hW155]; simp [go_sem]
   rw [← hW155]
   clear hW155
   have vW155 := uw6.trans uW155
   clear uW155 uw6
   have hS180 := kdP_24 (W := W155) (Dn.refl _) ⟨Dn.refl _, e0, e1, e2, e3, e4, e5, e6, e7, e8, e9, eD, eE, eF, eG, eH, eI, eJ, eK, eL, eM, eN, eO, eP, eQ⟩
   have HShS180 := Lib.hid hS180
   clear e0 e1 e2 e3 e4 e5 e6 e7 e8 e9 eD eE eF eG eH eI eJ eK eL eM eN eO eP eQ
   go_region_held3 (fun w' => Dn W155 w' ∧ w'.cell? ⟨w.heap.size, 0, none⟩ = some (.int .i8 a) ∧ w'.cell? ⟨w.heap.size, 1, none⟩ = some (.int .i64 b) ∧ w'.cell? ⟨w.heap.size, 2, none⟩ = some (.int .i8 c) ∧ w'.cell? ⟨w.heap.size, 3, none⟩ = some (.int .i64 d) ∧ w'.cell? ⟨w.heap.size + 1, 0, none⟩ = some (.int .i8 e) ∧ w'.cell? ⟨w.heap.size + 1, 1, none⟩ = some (.int .i64 f) ∧ w'.cell? ⟨w.heap.size + 1, 2, none⟩ = some (.int .i8 g) ∧ w'.cell? ⟨w.heap.size + 1, 3, none⟩ = some (.int .i64 h) ∧ w'.cell? ⟨w3.heap.size, 0, none⟩ = some (.int .i8 0) ∧ w'.cell? ⟨w3.heap.size, 1, none⟩ = some (.int .i64 0) ∧ w'.cell? ⟨w3.heap.size, 2, none⟩ = some (.int .i8 0) ∧ w'.cell? ⟨w3.heap.size, 3, none⟩ = some (.int .i64 0) ∧ w'.cell? ⟨w4.heap.size, 0, none⟩ = some (.int .i8 0) ∧ w'.cell? ⟨w4.heap.size, 1, none⟩ = some (.int .i64 0) ∧ w'.cell? ⟨w4.heap.size, 2, none⟩ = some (.int .i8 0) ∧ w'.cell? ⟨w4.heap.size, 3, none⟩ = some (.int .i64 0) ∧ w'.cell? ⟨w5.heap.size, 0, none⟩ = some (.int .i8 0) ∧ w'.cell? ⟨w5.heap.size, 1, none⟩ = some (.int .i64 0) ∧ w'.cell? ⟨w5.heap.size, 2, none⟩ = some (.int .i8 0) ∧ w'.cell? ⟨w5.heap.size, 3, none⟩ = some (.int .i64 0) ∧ w'.cell? ⟨w6.heap.size, 0, none⟩ = some (.int .i8 0) ∧ w'.cell? ⟨w6.heap.size, 1, none⟩ = some (.int .i64 0) ∧ w'.cell? ⟨w6.heap.size, 2, none⟩ = some (.int .i8 0) ∧ w'.cell? ⟨w6.heap.size, 3, none⟩ = some (.int .i64 0))
    (first | exact kdP_24 ((Dn.refl _).drew) hS180 | exact kdP_24 ‹Dn _ _› ‹_› | exact kdP_24 (Up.dn ‹Up _ _›) ‹_› | assumption | exact kdP_24 ((Dn.refl _).alloc _) ‹_›)
    (first
     | (go_at_call 12; (with_reducible refine (HT1.out _).mono ?_); rintro e wa ⟨rfl, qa⟩)
     | (go_at_call 12; (with_reducible refine (HT2.out _).mono ?_); rintro e wa ⟨rfl, qa⟩)
     | (go_at_call 25; (with_reducible refine (HRJ.out _).mono ?_); rintro e wa ⟨rfl, qa⟩)
     | (go_at_call 26; (with_reducible refine (HRC.out _).mono ?_); rintro e wa ⟨rfl, qa⟩)
     | (go_at_call 24; refine (f9_any _ _ _ _ _ _ _ _ _ _ _ ?_).mono ?_; (first | exact Or.inl ⟨rfl, rfl, rfl, rfl, rfl, rfl⟩ | exact Or.inr ⟨rfl, rfl, rfl, rfl, rfl, rfl⟩); rintro e wa ⟨rfl, qa⟩))
   all_goals
    clear hS180
    obtain ⟨uf205, eR, eS, eT, eU, eV, eW, eX, eY, eZ, f0, f1, f2, hP, hQ, hR, hS, f3, f4, f5, f6, hT, hU, hV, hW⟩ := (‹Dn W155 _ ∧ _› : _ ∧ _)
    obtain ⟨w206, rfl⟩ : ∃ w206 : World, w206 = wa := ⟨_, rfl⟩
    have vuf205 := vW155.trans uf205
    clear uf205 vW155 HShS180
    clear hP hQ hR hS
    clear hT hU hV hW
    go_wp2_with fail
    refine (HW.out _).mono ?_
    rintro e w7 ⟨rfl, qw7⟩
    obtain ⟨-, f7, f8, f9, fA, fB, fC, fD, fE, fF, fG, fH, fI, fJ, fK, fL, fM⟩ := kdP_16 qw7 ⟨Dn.refl _, eR, eS, eT, eU, eV, eW, eX, eY, eZ, f0, f1, f2, f3, f4, f5, f6⟩
    clear eR eS eT eU eV eW eX eY eZ f0 f1 f2 f3 f4 f5 f6
    have uw7 := vuf205.trans qw7
    clear qw7 vuf205
    go_wp2_with fail
    refine (HRW.out _).mono ?_
    rintro e w8 ⟨rfl, qw8⟩
    obtain ⟨-, fN, fO, fP, fQ, fR, fS, fT, fU, fV, fW, fX, fY, fZ, g0, g1, g2⟩ := kdP_16 qw8 ⟨Dn.refl _, f7, f8, f9, fA, fB, fC, fD, fE, fF, fG, fH, fI, fJ, fK, fL, fM⟩
    clear f7 f8 f9 fA fB fC fD fE fF fG fH fI fJ fK fL fM
    have uw8 := uw7.trans qw8
    clear qw8 uw7
    go_wp2_with fail
    refine (HHa.out _).mono ?_
    rintro e w9 ⟨rfl, qw9⟩
    obtain ⟨-, g3, g4, g5, g6, g7, g8, g9, gA, gB, gC, gD, gE, gF, gG, gH, gI⟩ := kdP_16 qw9 ⟨Dn.refl _, fN, fO, fP, fQ, fR, fS, fT, fU, fV, fW, fX, fY, fZ, g0, g1, g2⟩
    clear fN fO fP fQ fR fS fT fU fV fW fX fY fZ g0 g1 g2
    have uw9 := uw8.trans qw9
    clear qw9 uw8
    go_wp2_with fail
    refine (HRH.out _).mono ?_
    rintro e w10 ⟨rfl, qw10⟩
    obtain ⟨-, gJ, gK, gL, gM, gN, gO, gP, gQ, gR, gS, gT, gU, gV, gW, gX, gY⟩ := kdP_16 qw10 ⟨Dn.refl _, g3, g4, g5, g6, g7, g8, g9, gA, gB, gC, gD, gE, gF, gG, gH, gI⟩
    clear g3 g4 g5 g6 g7 g8 g9 gA gB gC gD gE gF gG gH gI
    have uw10 := uw9.trans qw10
    clear qw10 uw9
    go_wp2_with fail
    have hS271 := kdP_12 (W := w10) (Dn.refl _) ⟨Dn.refl _, gJ, gK, gL, gM, gN, gO, gP, gQ, gR, gS, gT, gU⟩
    have gZ := Lib.hid gV
    have h0 := Lib.hid gW
    have h1 := Lib.hid gX
    have h2 := Lib.hid gY
    have HShS271 := Lib.hid hS271
    clear gJ gK gL gM gN gO gP gQ gR gS gT gU gV gW gX gY
    refine wp_region_held_drew (S := fun w' => Dn w10 w' ∧ w'.cell? ⟨w.heap.size, 0, none⟩ = some (.int .i8 a) ∧ w'.cell? ⟨w.heap.size, 1, none⟩ = some (.int .i64 b) ∧ w'.cell? ⟨w.heap.size, 2, none⟩ = some (.int .i8 c) ∧ w'.cell? ⟨w.heap.size, 3, none⟩ = some (.int .i64 d) ∧ w'.cell? ⟨w.heap.size + 1, 0, none⟩ = some (.int .i8 e) ∧ w'.cell? ⟨w.heap.size + 1, 1, none⟩ = some (.int .i64 f) ∧ w'.cell? ⟨w.heap.size + 1, 2, none⟩ = some (.int .i8 g) ∧ w'.cell? ⟨w.heap.size + 1, 3, none⟩ = some (.int .i64 h) ∧ w'.cell? ⟨w3.heap.size, 0, none⟩ = some (.int .i8 0) ∧ w'.cell? ⟨w3.heap.size, 1, none⟩ = some (.int .i64 0) ∧ w'.cell? ⟨w3.heap.size, 2, none⟩ = some (.int .i8 0) ∧ w'.cell? ⟨w3.heap.size, 3, none⟩ = some (.int .i64 0)) (by kernel_rfl) ?_ (fun hHeld => ?_)
    · (try dsimp only); (first | exact kdP_12 ((Dn.refl _).drew) hS271 | exact kdP_12 ‹Dn _ _› ‹_› | exact kdP_12 (Up.dn ‹Up _ _›) ‹_› | assumption | exact kdP_12 ((Dn.refl _).alloc _) ‹_›)
    refine tk 0 ?_ rfl (by kernel_rfl) (fun _ _ _ => id) (by rfl) (by assumption) ?_ ?_
    rotate_left
    · (intro w hSw; (try dsimp only at hSw); go_simp); all_goals with_reducible rfl
    try simp only [Act.put, pL]
    refine tk 1 ?_ rfl (by kernel_rfl) (fun _ _ _ => id) (by rfl) (by assumption) ?_ ?_
    rotate_left
    · (intro w hSw; (try dsimp only at hSw); go_simp); all_goals with_reducible rfl
    try simp only [Act.put, pL]
    refine tu 2 rfl (by kernel_rfl) (fun _ _ _ => id) (by rfl) (by assumption) ?_
    refine tu 3 rfl (by kernel_rfl) (fun _ _ _ => id) (by rfl) (by assumption) ?_
    refine tu 4 rfl (by kernel_rfl) (fun _ _ _ => id) (by rfl) (by assumption) ?_
    try simp only [Act.put, pL]
    refine tu 5 rfl (by kernel_rfl) (fun _ _ _ => id) (by rfl) (by assumption) ?_
    refine tu 6 rfl (by kernel_rfl) (fun _ _ _ => id) (by rfl) (by assumption) ?_
    refine tu 7 rfl (by kernel_rfl) (fun _ _ _ => id) (by rfl) (by assumption) ?_
    try simp only [Act.put, pL]
    refine tu 8 rfl (by kernel_rfl) (fun _ _ _ => id) (by rfl) (by assumption) ?_
    refine tu 9 rfl (by kernel_rfl) (fun _ _ _ => id) (by rfl) (by assumption) ?_
    refine tu 10 rfl (by kernel_rfl) (fun _ _ _ => id) (by rfl) (by assumption) ?_
    try simp only [Act.put, pL]
    refine tu 11 rfl (by kernel_rfl) (fun _ _ _ => id) (by rfl) (by assumption) ?_
    refine tu 12 rfl (by kernel_rfl) (fun _ _ _ => id) (by rfl) (by assumption) ?_
    refine tu 13 rfl (by kernel_rfl) (fun _ _ _ => id) (by rfl) (by assumption) ?_
    try simp only [Act.put, pL]
    refine tk 14 ?_ rfl (by kernel_rfl) (fun _ _ _ => id) (by rfl) (by assumption) ?_ ?_
    rotate_left
    · (intro w hSw; (try dsimp only at hSw); go_simp); all_goals with_reducible rfl
    try simp only [Act.put, pL]
    refine wpAnyH_done (by kernel_rfl) ?_ _
    all_goals skip
    all_goals
     clear hS271
     obtain ⟨uf288, h3, h4, h5, h6, h7, h8, h9, hA, hB, hC, hD, hF⟩ := (‹Dn w10 _ ∧ _› : _ ∧ _)
     obtain ⟨hG, hH, hI, hJ⟩ := mv4 uf288.cell gZ.out h0.out h1.out h2.out
     clear gZ h0 h1 h2
     have vuf288 := uw10.trans uf288
     clear uf288 uw10 HShS271
     go_wp2_with fail
     have hS293 := kdP_12 (W := w10.drew) (Dn.refl _) ⟨Dn.refl _, h3, h4, h5, h6, h7, h8, h9, hA, hG, hH, hI, hJ⟩
     have hL := Lib.hid hB
     have hM := Lib.hid hC
     have hN := Lib.hid hD
     have hO := Lib.hid hF
     have HShS293 := Lib.hid hS293
     clear h3 h4 h5 h6 h7 h8 h9 hA hB hC hD hF hG hH hI hJ
     refine wp_region_held_drew (S := fun w' => Dn w10.drew w' ∧ w'.cell? ⟨w.heap.size, 0, none⟩ = some (.int .i8 a) ∧ w'.cell? ⟨w.heap.size, 1, none⟩ = some (.int .i64 b) ∧ w'.cell? ⟨w.heap.size, 2, none⟩ = some (.int .i8 c) ∧ w'.cell? ⟨w.heap.size, 3, none⟩ = some (.int .i64 d) ∧ w'.cell? ⟨w.heap.size + 1, 0, none⟩ = some (.int .i8 e) ∧ w'.cell? ⟨w.heap.size + 1, 1, none⟩ = some (.int .i64 f) ∧ w'.cell? ⟨w.heap.size + 1, 2, none⟩ = some (.int .i8 g) ∧ w'.cell? ⟨w.heap.size + 1, 3, none⟩ = some (.int .i64 h) ∧ w'.cell? ⟨w5.heap.size, 0, none⟩ = some (.int .i8 0) ∧ w'.cell? ⟨w5.heap.size, 1, none⟩ = some (.int .i64 0) ∧ w'.cell? ⟨w5.heap.size, 2, none⟩ = some (.int .i8 0) ∧ w'.cell? ⟨w5.heap.size, 3, none⟩ = some (.int .i64 0)) (by kernel_rfl) ?_ (fun hHeld => ?_)
     · (try dsimp only); (first | exact kdP_12 ((Dn.refl _).drew) hS293 | exact kdP_12 ‹Dn _ _› ‹_› | exact kdP_12 (Up.dn ‹Up _ _›) ‹_› | assumption | exact kdP_12 ((Dn.refl _).alloc _) ‹_›)
     refine tk 0 ?_ rfl (by kernel_rfl) (fun _ _ _ => id) (by rfl) (by assumption) ?_ ?_
     rotate_left
     · (intro w hSw; (try dsimp only at hSw); go_simp); all_goals with_reducible rfl
     try simp only [Act.put, pL]
     refine tk 1 ?_ rfl (by kernel_rfl) (fun _ _ _ => id) (by rfl) (by assumption) ?_ ?_
     rotate_left
     · (intro w hSw; (try dsimp only at hSw); go_simp); all_goals with_reducible rfl
     try simp only [Act.put, pL]
     refine tk 2 ?_ rfl (by kernel_rfl) (fun _ _ _ => id) (by rfl) (by assumption) ?_ ?_
     rotate_left
     · (intro w hSw; (try dsimp only at hSw); go_simp); all_goals with_reducible rfl
     try simp only [Act.put, pL]
     refine tk 3 ?_ rfl (by kernel_rfl) (fun _ _ _ => id) (by rfl) (by assumption) ?_ ?_
     rotate_left
     · (intro w hSw; (try dsimp only at hSw); go_simp); all_goals with_reducible rfl
     try simp only [Act.put, pL]
     refine tk 4 ?_ rfl (by kernel_rfl) (fun _ _ _ => id) (by rfl) (by assumption) ?_ ?_
     rotate_left
     · (intro w hSw; (try dsimp only at hSw); go_simp); all_goals with_reducible rfl
     try simp only [Act.put, pL]
     refine tu 5 rfl (by kernel_rfl) (fun _ _ _ => id) (by rfl) (by assumption) ?_
     refine tu 6 rfl (by kernel_rfl) (fun _ _ _ => id) (by rfl) (by assumption) ?_
     refine tu 7 rfl (by kernel_rfl) (fun _ _ _ => id) (by rfl) (by assumption) ?_
     try simp only [Act.put, pL]
     refine tk 8 ?_ rfl (by kernel_rfl) (fun _ _ _ => id) (by rfl) (by assumption) ?_ ?_
     rotate_left
     · (intro w hSw; (try dsimp only at hSw); go_simp); all_goals with_reducible rfl
     try simp only [Act.put, pL]
     refine tk 9 ?_ rfl (by kernel_rfl) (fun _ _ _ => id) (by rfl) (by assumption) ?_ ?_
     rotate_left
     · (intro w hSw; (try dsimp only at hSw); go_simp); all_goals with_reducible rfl
     try simp only [Act.put, pL]
     refine tk 10 ?_ rfl (by kernel_rfl) (fun _ _ _ => id) (by rfl) (by assumption) ?_ ?_
     rotate_left
     · (intro w hSw; (try dsimp only at hSw); go_simp); all_goals with_reducible rfl
     try simp only [Act.put, pL]
     refine wpAnyH_ready (rs := [11]) (by kernel_rfl) (by simp) ?_
     refine AllReadyH.cons rfl (fun K hK => ?_) AllReadyH.nil
     go_simp
     (first
       | (go_at_call 9; (with_reducible refine (HHt.out _).mono ?_); rintro e wa ⟨rfl, qa⟩)
       | (go_at_call 9; (with_reducible refine (HHa.out _).mono ?_); rintro e wa ⟨rfl, qa⟩)
       | (go_at_call 9; (with_reducible refine (HHb.out _).mono ?_); rintro e wa ⟨rfl, qa⟩)
       | (go_at_call 14; refine (lives9 _ (hE.dn (Dn.trans vuf288 (‹Dn w10.drew _ ∧ _› : _ ∧ _).1))).mono ?_; rintro e wa ⟨rfl, qa⟩))
     try go_wp2_with fail
     refine hK.out _ _ ?_ (fun hHeld => ?_)
     · (try dsimp only); (first | exact kdP_12 ((Dn.refl _).drew) hS293 | exact kdP_12 ‹Dn _ _› ‹_› | exact kdP_12 (Up.dn ‹Up _ _›) ‹_› | assumption | exact kdP_12 ((Dn.refl _).alloc _) ‹_›)
     clear hK K
     try simp only [Act.put, pL]
     refine tk 12 ?_ rfl (by kernel_rfl) (fun _ _ _ => id) (by rfl) (by assumption) ?_ ?_
     rotate_left
     · (intro w hSw; (try dsimp only at hSw); go_simp); all_goals with_reducible rfl
     try simp only [Act.put, pL]
     refine tu 13 rfl (by kernel_rfl) (fun _ _ _ => id) (by rfl) (by assumption) ?_
     refine tu 14 rfl (by kernel_rfl) (fun _ _ _ => id) (by rfl) (by assumption) ?_
     refine tu 15 rfl (by kernel_rfl) (fun _ _ _ => id) (by rfl) (by assumption) ?_
     try simp only [Act.put, pL]
     refine tk 16 ?_ rfl (by kernel_rfl) (fun _ _ _ => id) (by rfl) (by assumption) ?_ ?_
     rotate_left
     · (intro w hSw; (try dsimp only at hSw); go_simp); all_goals with_reducible rfl
     try simp only [Act.put, pL]
     refine tk 17 ?_ rfl (by kernel_rfl) (fun _ _ _ => id) (by rfl) (by assumption) ?_ ?_
     rotate_left
     · (intro w hSw; (try dsimp only at hSw); go_simp); all_goals with_reducible rfl
     try simp only [Act.put, pL]
     refine tk 18 ?_ rfl (by kernel_rfl) (fun _ _ _ => id) (by rfl) (by assumption) ?_ ?_
     rotate_left
     · (intro w hSw; (try dsimp only at hSw); go_simp); all_goals with_reducible rfl
     try simp only [Act.put, pL]
     refine tk 19 ?_ rfl (by kernel_rfl) (fun _ _ _ => id) (by rfl) (by assumption) ?_ ?_
     rotate_left
     · (intro w hSw; (try dsimp only at hSw); go_simp); all_goals with_reducible rfl
     try simp only [Act.put, pL]
     refine wpAnyH_ready (rs := [20]) (by kernel_rfl) (by simp) ?_
     refine AllReadyH.cons rfl (fun K hK => ?_) AllReadyH.nil
     go_simp
     (first
       | (go_at_call 9; (with_reducible refine (HHt.out _).mono ?_); rintro e wa ⟨rfl, qa⟩)
       | (go_at_call 9; (with_reducible refine (HHa.out _).mono ?_); rintro e wa ⟨rfl, qa⟩)
       | (go_at_call 9; (with_reducible refine (HHb.out _).mono ?_); rintro e wa ⟨rfl, qa⟩)
       | (go_at_call 14; refine (lives9 _ (hE.dn (Dn.trans vuf288 (‹Dn w10.drew _ ∧ _› : _ ∧ _).1))).mono ?_; rintro e wa ⟨rfl, qa⟩))
     try go_wp2_with fail
     refine hK.out _ _ ?_ (fun hHeld => ?_)
     · (try dsimp only); (first | exact kdP_12 ((Dn.refl _).drew) hS293 | exact kdP_12 ‹Dn _ _› ‹_› | exact kdP_12 (Up.dn ‹Up _ _›) ‹_› | assumption | exact kdP_12 ((Dn.refl _).alloc _) ‹_›)
     clear hK K
     try simp only [Act.put, pL]
     refine tk 21 ?_ rfl (by kernel_rfl) (fun _ _ _ => id) (by rfl) (by assumption) ?_ ?_
     rotate_left
     · (intro w hSw; (try dsimp only at hSw); go_simp); all_goals with_reducible rfl
     try simp only [Act.put, pL]
     refine tk 22 ?_ rfl (by kernel_rfl) (fun _ _ _ => id) (by rfl) (by assumption) ?_ ?_
     rotate_left
     · (intro w hSw; (try dsimp only at hSw); go_simp); all_goals with_reducible rfl
     try simp only [Act.put, pL]
     refine wpAnyH_done (by kernel_rfl) ?_ _
     all_goals skip
     all_goals
      clear hS293
      obtain ⟨uf310, hX, hY, hZ, i0, i1, i2, i3, i4, i5, i6, i7, i9⟩ := (‹Dn w10.drew _ ∧ _› : _ ∧ _)
      obtain ⟨w311, rfl⟩ : ∃ w311 : World, w311 = wa := ⟨_, rfl⟩
      obtain ⟨iA, iB, iC, iD⟩ := mv4 uf310.cell hL.out hM.out hN.out hO.out
      clear hL hM hN hO
      have vuf310 := vuf288.trans uf310
      clear uf310 vuf288 HShS293
      go_wp2_with fail
      go_ret
      exact ⟨rfl, vuf310⟩
theorem prs_t1110 (a b c d e f g h day m p0 p1 p2 p3 q0 q1 q2 q3 : Int) (wi hq : Bool) (hm : IntKind.i64.wrap (-m) = -m)  (HCa : Hid (CC 18 #[RV a b c d] (.int .i64 0))) (HCb : Hid (CC 18 #[RV e f g h] (.int .i64 0))) (HKa : Hid (CC 19 #[RV a b c d] (.int .i64 0))) (HKb : Hid (CC 19 #[RV e f g h] (.int .i64 0))) (HP1 : Hid (CC 20 #[RV a b c d, RV e f g h] (.int .i64 m))) (HP2 : Hid (CC 20 #[RV e f g h, RV a b c d] (.int .i64 (-m)))) (HP3 : Hid (CC 21 #[RV a b c d, RV e f g h] (.int .i64 m))) (HT1 : Hid (CC 12 #[RV a b c d, RV e f g h] (.bool true))) (HT2 : Hid (CC 12 #[RV e f g h, RV a b c d] (.bool true))) (HJ1 : Hid (CC 10 #[RV a b c d, RV e f g h] (.tuple #[.agg #[.int .i8 p0, .int .i64 p1, .int .i8 p2, .int .i64 p3], .bool true]))) (HJ2 : Hid (CC 10 #[RV e f g h, RV a b c d] (.tuple #[.agg #[.int .i8 p0, .int .i64 p1, .int .i8 p2, .int .i64 p3], .bool true]))) (HM1 : Hid (CC 11 #[RV a b c d, RV e f g h] (.tuple #[.agg #[.int .i8 q0, .int .i64 q1, .int .i8 q2, .int .i64 q3], .bool true]))) (HM2 : Hid (CC 11 #[RV e f g h, RV a b c d] (.tuple #[.agg #[.int .i8 q0, .int .i64 q1, .int .i8 q2, .int .i64 q3], .bool true]))) (HRJ : Hid (CC 25 #[RV a b c d, RV e f g h] (.agg #[.int .i8 p0, .int .i64 p1, .int .i8 p2, .int .i64 p3]))) (HRC : Hid (CC 26 #[RV a b c d, RV e f g h] (.agg #[.int .i8 q0, .int .i64 q1, .int .i8 q2, .int .i64 q3]))) (HW : Hid (CC 13 #[RV a b c d, RV e f g h] (.bool wi))) (HHa : Hid (CC 9 #[RV a b c d, .int .i64 day] (.bool true))) (HHb : Hid (CC 9 #[RV e f g h, .int .i64 day] (.bool false))) (HHr : Hid (CC 9 #[.agg #[.int .i8 p0, .int .i64 p1, .int .i8 p2, .int .i64 p3], .int .i64 day] (.bool true))) (HHt : Hid (CC 9 #[.agg #[.int .i8 q0, .int .i64 q1, .int .i8 q2, .int .i64 q3], .int .i64 day] (.bool false))) (HRT : Hid (CC 22 #[RV a b c d, RV e f g h] (.bool true))) (HRO : Hid (CC 23 #[RV a b c d, RV e f g h] (.bool true))) (HRW : Hid (CC 27 #[RV a b c d, RV e f g h] (.bool wi))) (HRH : Hid (CC 28 #[RV a b c d, .int .i64 day] (.bool true))) (w : World) (hE : EnvR w) :
  Calls Tryd.prog 5 #[.agg #[.int .i8 a, .int .i64 b, .int .i8 c, .int .i64 d], .agg #[.int .i8 e, .int .i64 f, .int .i8 g, .int .i64 h], .int .i64 day] w fun ro w' => ro = .returned (.bool true) ∧ Dn w w' := by
 go_enter Tryd.func5, Tryd.ntmps5
 go_wp2_with fail
 obtain ⟨W1, hW1, uW1, c2, c3, c4, c5, c6, c7, c8, c9⟩ := prePr47x1 w a b c d e f g h
 rw [← hW1]
 clear hW1
 have hS10 := kdP_8 (W := W1) (Dn.refl _) ⟨Dn.refl _, c2, c3, c4, c5, c6, c7, c8, c9⟩
 have HShS10 := Lib.hid hS10
 clear c2 c3 c4 c5 c6 c7 c8 c9
 go_region_held3 (fun w' => Dn W1 w' ∧ w'.cell? ⟨w.heap.size, 0, none⟩ = some (.int .i8 a) ∧ w'.cell? ⟨w.heap.size, 1, none⟩ = some (.int .i64 b) ∧ w'.cell? ⟨w.heap.size, 2, none⟩ = some (.int .i8 c) ∧ w'.cell? ⟨w.heap.size, 3, none⟩ = some (.int .i64 d) ∧ w'.cell? ⟨w.heap.size + 1, 0, none⟩ = some (.int .i8 e) ∧ w'.cell? ⟨w.heap.size + 1, 1, none⟩ = some (.int .i64 f) ∧ w'.cell? ⟨w.heap.size + 1, 2, none⟩ = some (.int .i8 g) ∧ w'.cell? ⟨w.heap.size + 1, 3, none⟩ = some (.int .i64 h))
  (first | exact kdP_8 ((Dn.refl _).drew) hS10 | exact kdP_8 ‹Dn _ _› ‹_› | exact kdP_8 (Up.dn ‹Up _ _›) ‹_› | assumption | exact kdP_8 ((Dn.refl _).alloc _) ‹_›)
  (first
   | (go_at_call 18; (with_reducible refine (HCa.out _).mono ?_); rintro e wa ⟨rfl, qa⟩)
   | (go_at_call 18; (with_reducible refine (HCb.out _).mono ?_); rintro e wa ⟨rfl, qa⟩))
 all_goals
  clear hS10
  obtain ⟨uf19, a8, a9, aA, aB, aC, aD, aE, aF⟩ := (‹Dn W1 _ ∧ _› : _ ∧ _)
  obtain ⟨w20, rfl⟩ : ∃ w20 : World, w20 = wa := ⟨_, rfl⟩
  have vuf19 := uW1.trans uf19
  clear uf19 uW1 HShS10
  go_wp2_with fail
  have hS21 := kdP_8 (W := w20) (Dn.refl _) ⟨Dn.refl _, a8, a9, aA, aB, aC, aD, aE, aF⟩
  have HShS21 := Lib.hid hS21
  clear a8 a9 aA aB aC aD aE aF
  go_region_held3 (fun w' => Dn w20 w' ∧ w'.cell? ⟨w.heap.size, 0, none⟩ = some (.int .i8 a) ∧ w'.cell? ⟨w.heap.size, 1, none⟩ = some (.int .i64 b) ∧ w'.cell? ⟨w.heap.size, 2, none⟩ = some (.int .i8 c) ∧ w'.cell? ⟨w.heap.size, 3, none⟩ = some (.int .i64 d) ∧ w'.cell? ⟨w.heap.size + 1, 0, none⟩ = some (.int .i8 e) ∧ w'.cell? ⟨w.heap.size + 1, 1, none⟩ = some (.int .i64 f) ∧ w'.cell? ⟨w.heap.size + 1, 2, none⟩ = some (.int .i8 g) ∧ w'.cell? ⟨w.heap.size + 1, 3, none⟩ = some (.int .i64 h))
   (first | exact kdP_8 ((Dn.refl _).drew) hS21 | exact kdP_8 ‹Dn _ _› ‹_› | exact kdP_8 (Up.dn ‹Up _ _›) ‹_› | assumption | exact kdP_8 ((Dn.refl _).alloc _) ‹_›)
   (first
    | (go_at_call 19; (with_reducible refine (HKa.out _).mono ?_); rintro e wa ⟨rfl, qa⟩)
    | (go_at_call 19; (with_reducible refine (HKb.out _).mono ?_); rintro e wa ⟨rfl, qa⟩)
    | (go_at_call 20; (with_reducible refine (HP1.out _).mono ?_); rintro e wa ⟨rfl, qa⟩)
    | (go_at_call 20; (with_reducible refine (HP2.out _).mono ?_); rintro e wa ⟨rfl, qa⟩)
    | (go_at_call 21; (with_reducible refine (HP3.out _).mono ?_); rintro e wa ⟨rfl, qa⟩))
  all_goals
   clear hS21
   obtain ⟨uf30, aG, aH, aI, aJ, aK, aL, aM, aN⟩ := (‹Dn w20 _ ∧ _› : _ ∧ _)
   obtain ⟨w31, rfl⟩ : ∃ w31 : World, w31 = wa := ⟨_, rfl⟩
   have vuf30 := vuf19.trans uf30
   clear uf30 vuf19 HShS21
   go_wp2_with fail
   refine (HRT.out _).mono ?_
   rintro e w1 ⟨rfl, qw1⟩
   obtain ⟨-, aO, aP, aQ, aR, aS, aT, aU, aV⟩ := kdP_8 qw1 ⟨Dn.refl _, aG, aH, aI, aJ, aK, aL, aM, aN⟩
   clear aG aH aI aJ aK aL aM aN
   have uw1 := vuf30.trans qw1
   clear qw1 vuf30
   go_wp2_with fail
   refine (HRO.out _).mono ?_
   rintro e w2 ⟨rfl, qw2⟩
   obtain ⟨-, aW, aX, aY, aZ, b0, b1, b2, b3⟩ := kdP_8 qw2 ⟨Dn.refl _, aO, aP, aQ, aR, aS, aT, aU, aV⟩
   clear aO aP aQ aR aS aT aU aV
   have uw2 := uw1.trans qw2
   clear qw2 uw1
   go_wp2_with fail
   refine (HJ1.out _).mono ?_
   rintro e w3 ⟨rfl, qw3⟩
   obtain ⟨-, a0, b4, b5, b6, a1, b7, b8, b9⟩ := kdP_8 qw3 ⟨Dn.refl _, aW, aX, aY, aZ, b0, b1, b2, b3⟩
   clear aW aX aY aZ b0 b1 b2 b3
   have uw3 := uw2.trans qw3
   clear qw3 uw2
   have la := lt_of_cell a0
   have lb := lt_of_cell a1
   go_wp2_with fail
   obtain ⟨W56, hW56⟩ : ∃ W56, W56 = w3.alloc (.cells #[.int .i8 p0, .int .i64 p1, .int .i8 p2, .int .i64 p3] 29) := ⟨_, rfl⟩
   have uW56 : Dn w3 W56 := by rw [hW56]; exact (Dn.refl _).alloc _
   obtain ⟨-, bA, bB, bC, bD, bE, bF, bG, bH⟩ := kdP_8 uW56 ⟨Dn.refl _, a0, b4, b5, b6, a1, b7, b8, b9⟩
   clear a0 b4 b5 b6 a1 b7 b8 b9
   have bI : W56.cell? ⟨w3.heap.size, 0, none⟩ = some (.int .i8 p0) := by rw [hW56]; simp [go_sem]
   have bJ : W56.cell? ⟨w3.heap.size, 1, none⟩ = some (.int .i64 p1) := by rw [hW56]; simp [go_sem]
   have bK : W56.cell? ⟨w3.heap.size, 2, none⟩ = some (.int .i8 p2) := by rw [hW56]; simp [go_sem]
   have bL : W56.cell? ⟨w3.heap.size, 3, none⟩ = some (.int .i64 p3) := by rw [hW56]; simp [go_sem]
   rw [← hW56]
   clear hW56
   have vW56 := uw3.trans uW56
   clear uW56 uw3
   refine (HJ2.out _).mono ?_
   rintro e w4 ⟨rfl, qw4⟩
   obtain ⟨-, a2, bM, bN, bO, a3, bP, bQ, bR, bS, bT, bU, bV⟩ := kdP_12 qw4 ⟨Dn.refl _, bA, bB, bC, bD, bE, bF, bG, bH, bI, bJ, bK, bL⟩
   clear bA bB bC bD bE bF bG bH bI bJ bK bL
   have uw4 := vW56.trans qw4
   clear qw4 vW56
   have la := lt_of_cell a2
   have lb := lt_of_cell a3
   go_wp2_with fail
   obtain ⟨W81, hW81⟩ : ∃ W81, W81 = w4.alloc (.cells #[.int .i8 p0, .int .i64 p1, .int .i8 p2, .int .i64 p3] 29) := ⟨_, rfl⟩
   have uW81 : Dn w4 W81 := by rw [hW81]; exact (Dn.refl _).alloc _
   obtain ⟨-, bW, bX, bY, bZ, c0, c1, cA, cB, cC, cD, cE, cF⟩ := kdP_12 uW81 ⟨Dn.refl _, a2, bM, bN, bO, a3, bP, bQ, bR, bS, bT, bU, bV⟩
   clear a2 bM bN bO a3 bP bQ bR bS bT bU bV
   have cG : W81.cell? ⟨w4.heap.size, 0, none⟩ = some (.int .i8 p0) := by rw [hW81]; simp [go_sem]
   have cH : W81.cell? ⟨w4.heap.size, 1, none⟩ = some (.int .i64 p1) := by rw [hW81]; simp [go_sem]
   have cI : W81.cell? ⟨w4.heap.size, 2, none⟩ = some (.int .i8 p2) := by rw [hW81]; simp [go_sem]
   have cJ : W81.cell? ⟨w4.heap.size, 3, none⟩ = some (.int .i64 p3) := by rw [hW81]; simp [go_sem]
   rw [← hW81]
   clear hW81
   have vW81 := uw4.trans uW81
   clear uW81 uw4
   refine (HM1.out _).mono ?_
   rintro e w5 ⟨rfl, qw5⟩
   obtain ⟨-, a4, cK, cL, cM, a5, cN, cO, cP, cQ, cR, cS, cT, cU, cV, cW, cX⟩ := kdP_16 qw5 ⟨Dn.refl _, bW, bX, bY, bZ, c0, c1, cA, cB, cC, cD, cE, cF, cG, cH, cI, cJ⟩
   clear bW bX bY bZ c0 c1 cA cB cC cD cE cF cG cH cI cJ
   have uw5 := vW81.trans qw5
   clear qw5 vW81
   have la := lt_of_cell a4
   have lb := lt_of_cell a5
   go_wp2_with fail
   obtain ⟨W114, hW114⟩ : ∃ W114, W114 = w5.alloc (.cells #[.int .i8 q0, .int .i64 q1, .int .i8 q2, .int .i64 q3] 29) := ⟨_, rfl⟩
   have uW114 : Dn w5 W114 := by rw [hW114]; exact (Dn.refl _).alloc _
   obtain ⟨-, cY, cZ, d0, d1, d2, d3, d4, d5, d6, d7, d8, d9, dA, dB, dC, dD⟩ := kdP_16 uW114 ⟨Dn.refl _, a4, cK, cL, cM, a5, cN, cO, cP, cQ, cR, cS, cT, cU, cV, cW, cX⟩
   clear a4 cK cL cM a5 cN cO cP cQ cR cS cT cU cV cW cX
   have dE : W114.cell? ⟨w5.heap.size, 0, none⟩ = some (.int .i8 q0) := by rw [hW114]; simp [go_sem]
   have dF : W114.cell? ⟨w5.heap.size, 1, none⟩ = some (.int .i64 q1) := by rw [hW114]; simp [go_sem]
   have dG : W114.cell? ⟨w5.heap.size, 2, none⟩ = some (.int .i8 q2) := by rw [hW114]; simp [go_sem]
   have dH : W114.cell? ⟨w5.heap.size, 3, none⟩ = some (.int .i64 q3) := by rw [hW114]; simp [go_sem]
   rw [← hW114]
   clear hW114
   have vW114 := uw5.trans uW114
   clear uW114 uw5
   refine (HM2.out _).mono ?_
   rintro e w6 ⟨rfl, qw6⟩
   obtain ⟨-, a6, dI, dJ, dK, a7, dL, dM, dN, dO, dP, dQ, dR, dS, dT, dU, dV, dW, dX, dY, dZ⟩ := kdP_20 qw6 ⟨Dn.refl _, cY, cZ, d0, d1, d2, d3, d4, d5, d6, d7, d8, d9, dA, dB, dC, dD, dE, dF, dG, dH⟩
   clear cY cZ d0 d1 d2 d3 d4 d5 d6 d7 d8 d9 dA dB dC dD dE dF dG dH
   have uw6 := vW114.trans qw6
   clear qw6 vW114
   have la := lt_of_cell a6
   have lb := lt_of_cell a7
   go_wp2_with fail
   obtain ⟨W155, hW155⟩ : ∃ W155, W155 = w6.alloc (.cells #[.int .i8 q0, .int .i64 q1, .int .i8 q2, .int .i64 q3] 29) := ⟨_, rfl⟩
   have uW155 : Dn w6 W155 := by rw [hW155]; exact (Dn.refl _).alloc _
   obtain ⟨-, e0, e1, e2, e3, e4, e5, e6, e7, e8, e9, eD, eE, eF, eG, eH, eI, eJ, eK, eL, eM⟩ := kdP_20 uW155 ⟨Dn.refl _, a6, dI, dJ, dK, a7, dL, dM, dN, dO, dP, dQ, dR, dS, dT, dU, dV, dW, dX, dY, dZ⟩
   clear a6 dI dJ dK a7 dL dM dN dO dP dQ dR dS dT dU dV dW dX dY dZ
   have eN : W155.cell? ⟨w6.heap.size, 0, none⟩ = some (.int .i8 q0) := by rw [hW155]; simp [go_sem]
   have eO : W155.cell? ⟨w6.heap.size, 1, none⟩ = some (.int .i64 q1) := by rw [hW155]; simp [go_sem]
   have eP : W155.cell? ⟨w6.heap.size, 2, none⟩ = some (.int .i8 q2) := by rw [hW155]; simp [go_sem]
   have eQ : W155.cell? ⟨w6.heap.size, 3, none⟩ = some (.int .i64 q3) := by rw [hW155]; simp [go_sem]
   rw [← hW155]
   clear hW155
   have vW155 := uw6.trans uW155
   clear uW155 uw6
   have hS180 := kdP_24 (W := W155) (Dn.refl _) ⟨Dn.refl _, e0, e1, e2, e3, e4, e5, e6, e7, e8, e9, eD, eE, eF, eG, eH, eI, eJ, eK, eL, eM, eN, eO, eP, eQ⟩
   have HShS180 := Lib.hid hS180
   clear e0 e1 e2 e3 e4 e5 e6 e7 e8 e9 eD eE eF eG eH eI eJ eK eL eM eN eO eP eQ
   go_region_held3 (fun w' => Dn W155 w' ∧ w'.cell? ⟨w.heap.size, 0, none⟩ = some (.int .i8 a) ∧ w'.cell? ⟨w.heap.size, 1, none⟩ = some (.int .i64 b) ∧ w'.cell? ⟨w.heap.size, 2, none⟩ = some (.int .i8 c) ∧ w'.cell? ⟨w.heap.size, 3, none⟩ = some (.int .i64 d) ∧ w'.cell? ⟨w.heap.size + 1, 0, none⟩ = some (.int .i8 e) ∧ w'.cell? ⟨w.heap.size + 1, 1, none⟩ = some (.int .i64 f) ∧ w'.cell? ⟨w.heap.size + 1, 2, none⟩ = some (.int .i8 g) ∧ w'.cell? ⟨w.heap.size + 1, 3, none⟩ = some (.int .i64 h) ∧ w'.cell? ⟨w3.heap.size, 0, none⟩ = some (.int .i8 p0) ∧ w'.cell? ⟨w3.heap.size, 1, none⟩ = some (.int .i64 p1) ∧ w'.cell? ⟨w3.heap.size, 2, none⟩ = some (.int .i8 p2) ∧ w'.cell? ⟨w3.heap.size, 3, none⟩ = some (.int .i64 p3) ∧ w'.cell? ⟨w4.heap.size, 0, none⟩ = some (.int .i8 p0) ∧ w'.cell? ⟨w4.heap.size, 1, none⟩ = some (.int .i64 p1) ∧ w'.cell? ⟨w4.heap.size, 2, none⟩ = some (.int .i8 p2) ∧ w'.cell? ⟨w4.heap.size, 3, none⟩ = some (.int .i64 p3) ∧ w'.cell? ⟨w5.heap.size, 0, none⟩ = some (.int .i8 q0) ∧ w'.cell? ⟨w5.heap.size, 1, none⟩ = some (.int .i64 q1) ∧ w'.cell? ⟨w5.heap.size, 2, none⟩ = some (.int .i8 q2) ∧ w'.cell? ⟨w5.heap.size, 3, none⟩ = some (.int .i64 q3) ∧ w'.cell? ⟨w6.heap.size, 0, none⟩ = some (.int .i8 q0) ∧ w'.cell? ⟨w6.heap.size, 1, none⟩ = some (.int .i64 q1) ∧ w'.cell? ⟨w6.heap.size, 2, none⟩ = some (.int .i8 q2) ∧ w'.cell? ⟨w6.heap.size, 3, none⟩ = some (.int .i64 q3))
    (first | exact kdP_24 ((Dn.refl _).drew) hS180 | exact kdP_24 ‹Dn _ _› ‹_› | exact kdP_24 (Up.dn ‹Up _ _›) ‹_› | assumption | exact kdP_24 ((Dn.refl _).alloc _) ‹_›)
    (first
     | (go_at_call 12; (with_reducible refine (HT1.out _).mono ?_); rintro e wa ⟨rfl, qa⟩)
     | (go_at_call 12; (with_reducible refine (HT2.out _).mono ?_); rintro e wa ⟨rfl, qa⟩)
     | (go_at_call 25; (with_reducible refine (HRJ.out _).mono ?_); rintro e wa ⟨rfl, qa⟩)
     | (go_at_call 26; (with_reducible refine (HRC.out _).mono ?_); rintro e wa ⟨rfl, qa⟩)
     | (go_at_call 24; refine (f9_any _ _ _ _ _ _ _ _ _ _ _ ?_).mono ?_; (first | exact Or.inl ⟨rfl, rfl, rfl, rfl, rfl, rfl⟩ | exact Or.inr ⟨rfl, rfl, rfl, rfl, rfl, rfl⟩); rintro e wa ⟨rfl, qa⟩))
   all_goals
    clear hS180
    obtain ⟨uf205, eR, eS, eT, eU, eV, eW, eX, eY, eZ, f0, f1, f2, hP, hQ, hR, hS, f3, f4, f5, f6, hT, hU, hV, hW⟩ := (‹Dn W155 _ ∧ _› : _ ∧ _)
    obtain ⟨w206, rfl⟩ : ∃ w206 : World, w206 = wa := ⟨_, rfl⟩
    have vuf205 := vW155.trans uf205
    clear uf205 vW155 HShS180
    clear hP hQ hR hS
    clear hT hU hV hW
    go_wp2_with fail
    refine (HW.out _).mono ?_
    rintro e w7 ⟨rfl, qw7⟩
    obtain ⟨-, f7, f8, f9, fA, fB, fC, fD, fE, fF, fG, fH, fI, fJ, fK, fL, fM⟩ := kdP_16 qw7 ⟨Dn.refl _, eR, eS, eT, eU, eV, eW, eX, eY, eZ, f0, f1, f2, f3, f4, f5, f6⟩
    clear eR eS eT eU eV eW eX eY eZ f0 f1 f2 f3 f4 f5 f6
    have uw7 := vuf205.trans qw7
    clear qw7 vuf205
    go_wp2_with fail
    refine (HRW.out _).mono ?_
    rintro e w8 ⟨rfl, qw8⟩
    obtain ⟨-, fN, fO, fP, fQ, fR, fS, fT, fU, fV, fW, fX, fY, fZ, g0, g1, g2⟩ := kdP_16 qw8 ⟨Dn.refl _, f7, f8, f9, fA, fB, fC, fD, fE, fF, fG, fH, fI, fJ, fK, fL, fM⟩
    clear f7 f8 f9 fA fB fC fD fE fF fG fH fI fJ fK fL fM
    have uw8 := uw7.trans qw8
    clear qw8 uw7
    go_wp2_with fail
    refine (HHa.out _).mono ?_
    rintro e w9 ⟨rfl, qw9⟩
    obtain ⟨-, g3, g4, g5, g6, g7, g8, g9, gA, gB, gC, gD, gE, gF, gG, gH, gI⟩ := kdP_16 qw9 ⟨Dn.refl _, fN, fO, fP, fQ, fR, fS, fT, fU, fV, fW, fX, fY, fZ, g0, g1, g2⟩
    clear fN fO fP fQ fR fS fT fU fV fW fX fY fZ g0 g1 g2
    have uw9 := uw8.trans qw9
    clear qw9 uw8
    go_wp2_with fail
    refine (HRH.out _).mono ?_
    rintro e w10 ⟨rfl, qw10⟩
    obtain ⟨-, gJ, gK, gL, gM, gN, gO, gP, gQ, gR, gS, gT, gU, gV, gW, gX, gY⟩ := kdP_16 qw10 ⟨Dn.refl _, g3, g4, g5, g6, g7, g8, g9, gA, gB, gC, gD, gE, gF, gG, gH, gI⟩
    clear g3 g4 g5 g6 g7 g8 g9 gA gB gC gD gE gF gG gH gI
    have uw10 := uw9.trans qw10
    clear qw10 uw9
    go_wp2_with fail
    have hS271 := kdP_12 (W := w10) (Dn.refl _) ⟨Dn.refl _, gJ, gK, gL, gM, gN, gO, gP, gQ, gR, gS, gT, gU⟩
    have gZ := Lib.hid gV
    have h0 := Lib.hid gW
    have h1 := Lib.hid gX
    have h2 := Lib.hid gY
    have HShS271 := Lib.hid hS271
    clear gJ gK gL gM gN gO gP gQ gR gS gT gU gV gW gX gY
    refine wp_region_held_drew (S := fun w' => Dn w10 w' ∧ w'.cell? ⟨w.heap.size, 0, none⟩ = some (.int .i8 a) ∧ w'.cell? ⟨w.heap.size, 1, none⟩ = some (.int .i64 b) ∧ w'.cell? ⟨w.heap.size, 2, none⟩ = some (.int .i8 c) ∧ w'.cell? ⟨w.heap.size, 3, none⟩ = some (.int .i64 d) ∧ w'.cell? ⟨w.heap.size + 1, 0, none⟩ = some (.int .i8 e) ∧ w'.cell? ⟨w.heap.size + 1, 1, none⟩ = some (.int .i64 f) ∧ w'.cell? ⟨w.heap.size + 1, 2, none⟩ = some (.int .i8 g) ∧ w'.cell? ⟨w.heap.size + 1, 3, none⟩ = some (.int .i64 h) ∧ w'.cell? ⟨w3.heap.size, 0, none⟩ = some (.int .i8 p0) ∧ w'.cell? ⟨w3.heap.size, 1, none⟩ = some (.int .i64 p1) ∧ w'.cell? ⟨w3.heap.size, 2, none⟩ = some (.int .i8 p2) ∧ w'.cell? ⟨w3.heap.size, 3, none⟩ = some (.int .i64 p3)) (by kernel_rfl) ?_ (fun hHeld => ?_)
    · (try dsimp only); (first | exact kdP_12 ((Dn.refl _).drew) hS271 | exact kdP_12 ‹Dn _ _› ‹_› | exact kdP_12 (Up.dn ‹Up _ _›) ‹_› | assumption | exact kdP_12 ((Dn.refl _).alloc _) ‹_›)
    refine tk 0 ?_ rfl (by kernel_rfl) (fun _ _ _ => id) (by rfl) (by assumption) ?_ ?_
    rotate_left
    · (intro w hSw; (try dsimp only at hSw); go_simp); all_goals with_reducible rfl
    try simp only [Act.put, pL]
    refine tk 1 ?_ rfl (by kernel_rfl) (fun _ _ _ => id) (by rfl) (by assumption) ?_ ?_
    rotate_left
    · (intro w hSw; (try dsimp only at hSw); go_simp); all_goals with_reducible rfl
    try simp only [Act.put, pL]
    refine tk 2 ?_ rfl (by kernel_rfl) (fun _ _ _ => id) (by rfl) (by assumption) ?_ ?_
    rotate_left
    · (intro w hSw; (try dsimp only at hSw); go_simp); all_goals with_reducible rfl
    try simp only [Act.put, pL]
    refine tk 3 ?_ rfl (by kernel_rfl) (fun _ _ _ => id) (by rfl) (by assumption) ?_ ?_
    rotate_left
    · (intro w hSw; (try dsimp only at hSw); go_simp); all_goals with_reducible rfl
    try simp only [Act.put, pL]
    refine tk 5 ?_ rfl (by kernel_rfl) (fun _ _ _ => id) (by rfl) (by assumption) ?_ ?_
    rotate_left
    · (intro w hSw; (try dsimp only at hSw); go_simp); all_goals with_reducible rfl
    try simp only [Act.put, pL]
    refine tk 6 ?_ rfl (by kernel_rfl) (fun _ _ _ => id) (by rfl) (by assumption) ?_ ?_
    rotate_left
    · (intro w hSw; (try dsimp only at hSw); go_simp); all_goals with_reducible rfl
    try simp only [Act.put, pL]
    refine wpAnyH_ready (rs := [4]) (by kernel_rfl) (by simp) ?_
    refine AllReadyH.cons rfl (fun K hK => ?_) AllReadyH.nil
    go_simp
    (first
      | (go_at_call 9; (with_reducible refine (HHr.out _).mono ?_); rintro e wa ⟨rfl, qa⟩)
      | (go_at_call 9; (with_reducible refine (HHa.out _).mono ?_); rintro e wa ⟨rfl, qa⟩)
      | (go_at_call 9; (with_reducible refine (HHb.out _).mono ?_); rintro e wa ⟨rfl, qa⟩))
    try go_wp2_with fail
    refine hK.out _ _ ?_ (fun hHeld => ?_)
    · (try dsimp only); (first | exact kdP_12 ((Dn.refl _).drew) hS271 | exact kdP_12 ‹Dn _ _› ‹_› | exact kdP_12 (Up.dn ‹Up _ _›) ‹_› | assumption | exact kdP_12 ((Dn.refl _).alloc _) ‹_›)
    clear hK K
    try simp only [Act.put, pL]
    refine wpAnyH_ready (rs := [7]) (by kernel_rfl) (by simp) ?_
    refine AllReadyH.cons rfl (fun K hK => ?_) AllReadyH.nil
    go_simp
    (first
      | (go_at_call 9; (with_reducible refine (HHr.out _).mono ?_); rintro e wa ⟨rfl, qa⟩)
      | (go_at_call 9; (with_reducible refine (HHa.out _).mono ?_); rintro e wa ⟨rfl, qa⟩)
      | (go_at_call 9; (with_reducible refine (HHb.out _).mono ?_); rintro e wa ⟨rfl, qa⟩))
    try go_wp2_with fail
    refine hK.out _ _ ?_ (fun hHeld => ?_)
    · (try dsimp only); (first | exact kdP_12 ((Dn.refl _).drew) hS271 | exact kdP_12 ‹Dn _ _› ‹_› | exact kdP_12 (Up.dn ‹Up _ _›) ‹_› | assumption | exact kdP_12 ((Dn.refl _).alloc _) ‹_›)
    clear hK K
    try simp only [Act.put, pL]
    refine tk 8 ?_ rfl (by kernel_rfl) (fun _ _ _ => id) (by rfl) (by assumption) ?_ ?_
    rotate_left
    · (intro w hSw; (try dsimp only at hSw); go_simp); all_goals with_reducible rfl
    try simp only [Act.put, pL]
    refine tu 9 rfl (by kernel_rfl) (fun _ _ _ => id) (by rfl) (by assumption) ?_
    refine tu 10 rfl (by kernel_rfl) (fun _ _ _ => id) (by rfl) (by assumption) ?_
    refine tu 11 rfl (by kernel_rfl) (fun _ _ _ => id) (by rfl) (by assumption) ?_
    try simp only [Act.put, pL]
    refine tk 12 ?_ rfl (by kernel_rfl) (fun _ _ _ => id) (by rfl) (by assumption) ?_ ?_
    rotate_left
    · (intro w hSw; (try dsimp only at hSw); go_simp); all_goals with_reducible rfl
    try simp only [Act.put, pL]
    refine tk 13 ?_ rfl (by kernel_rfl) (fun _ _ _ => id) (by rfl) (by assumption) ?_ ?_
    rotate_left
    · (intro w hSw; (try dsimp only at hSw); go_simp); all_goals with_reducible rfl
    try simp only [Act.put, pL]
    refine tk 14 ?_ rfl (by kernel_rfl) (fun _ _ _ => id) (by rfl) (by assumption) ?_ ?_
    rotate_left
    · (intro w hSw; (try dsimp only at hSw); go_simp); all_goals with_reducible rfl
    try simp only [Act.put, pL]
    refine wpAnyH_done (by kernel_rfl) ?_ _
    all_goals skip
    all_goals
     clear hS271
     obtain ⟨uf288, h3, h4, h5, h6, h7, h8, h9, hA, hB, hC, hD, hF⟩ := (‹Dn w10 _ ∧ _› : _ ∧ _)
     obtain ⟨w289, rfl⟩ : ∃ w289 : World, w289 = wa := ⟨_, rfl⟩
     obtain ⟨hG, hH, hI, hJ⟩ := mv4 uf288.cell gZ.out h0.out h1.out h2.out
     clear gZ h0 h1 h2
     have vuf288 := uw10.trans uf288
     clear uf288 uw10 HShS271
     go_wp2_with fail
     have hS294 := kdP_12 (W := w289) (Dn.refl _) ⟨Dn.refl _, h3, h4, h5, h6, h7, h8, h9, hA, hG, hH, hI, hJ⟩
     have hL := Lib.hid hB
     have hM := Lib.hid hC
     have hN := Lib.hid hD
     have hO := Lib.hid hF
     have HShS294 := Lib.hid hS294
     clear h3 h4 h5 h6 h7 h8 h9 hA hB hC hD hF hG hH hI hJ
     refine wp_region_held_drew (S := fun w' => Dn w289 w' ∧ w'.cell? ⟨w.heap.size, 0, none⟩ = some (.int .i8 a) ∧ w'.cell? ⟨w.heap.size, 1, none⟩ = some (.int .i64 b) ∧ w'.cell? ⟨w.heap.size, 2, none⟩ = some (.int .i8 c) ∧ w'.cell? ⟨w.heap.size, 3, none⟩ = some (.int .i64 d) ∧ w'.cell? ⟨w.heap.size + 1, 0, none⟩ = some (.int .i8 e) ∧ w'.cell? ⟨w.heap.size + 1, 1, none⟩ = some (.int .i64 f) ∧ w'.cell? ⟨w.heap.size + 1, 2, none⟩ = some (.int .i8 g) ∧ w'.cell? ⟨w.heap.size + 1, 3, none⟩ = some (.int .i64 h) ∧ w'.cell? ⟨w5.heap.size, 0, none⟩ = some (.int .i8 q0) ∧ w'.cell? ⟨w5.heap.size, 1, none⟩ = some (.int .i64 q1) ∧ w'.cell? ⟨w5.heap.size, 2, none⟩ = some (.int .i8 q2) ∧ w'.cell? ⟨w5.heap.size, 3, none⟩ = some (.int .i64 q3)) (by kernel_rfl) ?_ (fun hHeld => ?_)
     · (try dsimp only); (first | exact kdP_12 ((Dn.refl _).drew) hS294 | exact kdP_12 ‹Dn _ _› ‹_› | exact kdP_12 (Up.dn ‹Up _ _›) ‹_› | assumption | exact kdP_12 ((Dn.refl _).alloc _) ‹_›)
     refine tk 0 ?_ rfl (by kernel_rfl) (fun _ _ _ => id) (by rfl) (by assumption) ?_ ?_
     rotate_left
     · (intro w hSw; (try dsimp only at hSw); go_simp); all_goals with_reducible rfl
     try simp only [Act.put, pL]
     refine tk 1 ?_ rfl (by kernel_rfl) (fun _ _ _ => id) (by rfl) (by assumption) ?_ ?_
     rotate_left
     · (intro w hSw; (try dsimp only at hSw); go_simp); all_goals with_reducible rfl
     try simp only [Act.put, pL]
     refine tk 2 ?_ rfl (by kernel_rfl) (fun _ _ _ => id) (by rfl) (by assumption) ?_ ?_
     rotate_left
     · (intro w hSw; (try dsimp only at hSw); go_simp); all_goals with_reducible rfl
     try simp only [Act.put, pL]
     refine tk 3 ?_ rfl (by kernel_rfl) (fun _ _ _ => id) (by rfl) (by assumption) ?_ ?_
     rotate_left
     · (intro w hSw; (try dsimp only at hSw); go_simp); all_goals with_reducible rfl
     try simp only [Act.put, pL]
     refine tk 4 ?_ rfl (by kernel_rfl) (fun _ _ _ => id) (by rfl) (by assumption) ?_ ?_
     rotate_left
     · (intro w hSw; (try dsimp only at hSw); go_simp); all_goals with_reducible rfl
     try simp only [Act.put, pL]
     refine tk 5 ?_ rfl (by kernel_rfl) (fun _ _ _ => id) (by rfl) (by assumption) ?_ ?_
     rotate_left
     · (intro w hSw; (try dsimp only at hSw); go_simp); all_goals with_reducible rfl
     try simp only [Act.put, pL]
     refine tk 6 ?_ rfl (by kernel_rfl) (fun _ _ _ => id) (by rfl) (by assumption) ?_ ?_
     rotate_left
     · (intro w hSw; (try dsimp only at hSw); go_simp); all_goals with_reducible rfl
     try simp only [Act.put, pL]
     refine tk 9 ?_ rfl (by kernel_rfl) (fun _ _ _ => id) (by rfl) (by assumption) ?_ ?_
     rotate_left
     · (intro w hSw; (try dsimp only at hSw); go_simp); all_goals with_reducible rfl
     try simp only [Act.put, pL]
     refine tk 10 ?_ rfl (by kernel_rfl) (fun _ _ _ => id) (by rfl) (by assumption) ?_ ?_
     rotate_left
     · (intro w hSw; (try dsimp only at hSw); go_simp); all_goals with_reducible rfl
     try simp only [Act.put, pL]
     refine wpAnyH_ready (rs := [7]) (by kernel_rfl) (by simp) ?_
     refine AllReadyH.cons rfl (fun K hK => ?_) AllReadyH.nil
     go_simp
     (first
       | (go_at_call 9; (with_reducible refine (HHt.out _).mono ?_); rintro e wa ⟨rfl, qa⟩)
       | (go_at_call 9; (with_reducible refine (HHa.out _).mono ?_); rintro e wa ⟨rfl, qa⟩)
       | (go_at_call 9; (with_reducible refine (HHb.out _).mono ?_); rintro e wa ⟨rfl, qa⟩)
       | (go_at_call 14; refine (lives9 _ (hE.dn (Dn.trans vuf288 (‹Dn w289 _ ∧ _› : _ ∧ _).1))).mono ?_; rintro e wa ⟨rfl, qa⟩))
     try go_wp2_with fail
     refine hK.out _ _ ?_ (fun hHeld => ?_)
     · (try dsimp only); (first | exact kdP_12 ((Dn.refl _).drew) hS294 | exact kdP_12 ‹Dn _ _› ‹_› | exact kdP_12 (Up.dn ‹Up _ _›) ‹_› | assumption | exact kdP_12 ((Dn.refl _).alloc _) ‹_›)
     clear hK K
     try simp only [Act.put, pL]
     refine tk 8 ?_ rfl (by kernel_rfl) (fun _ _ _ => id) (by rfl) (by assumption) ?_ ?_
     rotate_left
     · (intro w hSw; (try dsimp only at hSw); go_simp); all_goals with_reducible rfl
     try simp only [Act.put, pL]
     refine wpAnyH_ready (rs := [11]) (by kernel_rfl) (by simp) ?_
     refine AllReadyH.cons rfl (fun K hK => ?_) AllReadyH.nil
     go_simp
     (first
       | (go_at_call 9; (with_reducible refine (HHt.out _).mono ?_); rintro e wa ⟨rfl, qa⟩)
       | (go_at_call 9; (with_reducible refine (HHa.out _).mono ?_); rintro e wa ⟨rfl, qa⟩)
       | (go_at_call 9; (with_reducible refine (HHb.out _).mono ?_); rintro e wa ⟨rfl, qa⟩)
       | (go_at_call 14; refine (lives9 _ (hE.dn (Dn.trans vuf288 (‹Dn w289 _ ∧ _› : _ ∧ _).1))).mono ?_; rintro e wa ⟨rfl, qa⟩))
     try go_wp2_with fail
     refine hK.out _ _ ?_ (fun hHeld => ?_)
     · (try dsimp only); (first | exact kdP_12 ((Dn.refl _).drew) hS294 | exact kdP_12 ‹Dn _ _› ‹_› | exact kdP_12 (Up.dn ‹Up _ _›) ‹_› | assumption | exact kdP_12 ((Dn.refl _).alloc _) ‹_›)
     clear hK K
     try simp only [Act.put, pL]
     refine tk 12 ?_ rfl (by kernel_rfl) (fun _ _ _ => id) (by rfl) (by assumption) ?_ ?_
     rotate_left
     · (intro w hSw; (try dsimp only at hSw); go_simp); all_goals with_reducible rfl
     try simp only [Act.put, pL]
     refine tk 13 ?_ rfl (by kernel_rfl) (fun _ _ _ => id) (by rfl) (by assumption) ?_ ?_
     rotate_left
     · (intro w hSw; (try dsimp only at hSw); go_simp); all_goals with_reducible rfl
     try simp only [Act.put, pL]
     refine tk 14 ?_ rfl (by kernel_rfl) (fun _ _ _ => id) (by rfl) (by assumption) ?_ ?_
     rotate_left
     · (intro w hSw; (try dsimp only at hSw); go_simp); all_goals with_reducible rfl
     try simp only [Act.put, pL]
     refine wpAnyH_ready (rs := [15]) (by kernel_rfl) (by simp) ?_
     refine AllReadyH.cons rfl (fun K hK => ?_) AllReadyH.nil
     go_simp
     (first
       | (go_at_call 9; (with_reducible refine (HHt.out _).mono ?_); rintro e wa ⟨rfl, qa⟩)
       | (go_at_call 9; (with_reducible refine (HHa.out _).mono ?_); rintro e wa ⟨rfl, qa⟩)
       | (go_at_call 9; (with_reducible refine (HHb.out _).mono ?_); rintro e wa ⟨rfl, qa⟩)
       | (go_at_call 14; refine (lives9 _ (hE.dn (Dn.trans vuf288 (‹Dn w289 _ ∧ _› : _ ∧ _).1))).mono ?_; rintro e wa ⟨rfl, qa⟩))
     try go_wp2_with fail
     refine hK.out _ _ ?_ (fun hHeld => ?_)
     · (try dsimp only); (first | exact kdP_12 ((Dn.refl _).drew) hS294 | exact kdP_12 ‹Dn _ _› ‹_› | exact kdP_12 (Up.dn ‹Up _ _›) ‹_› | assumption | exact kdP_12 ((Dn.refl _).alloc _) ‹_›)
     clear hK K
     try simp only [Act.put, pL]
     refine tk 16 ?_ rfl (by kernel_rfl) (fun _ _ _ => id) (by rfl) (by assumption) ?_ ?_
     rotate_left
     · (intro w hSw; (try dsimp only at hSw); go_simp); all_goals with_reducible rfl
     try simp only [Act.put, pL]
     refine tk 17 ?_ rfl (by kernel_rfl) (fun _ _ _ => id) (by rfl) (by assumption) ?_ ?_
     rotate_left
     · (intro w hSw; (try dsimp only at hSw); go_simp); all_goals with_reducible rfl
     try simp only [Act.put, pL]
     refine tk 18 ?_ rfl (by kernel_rfl) (fun _ _ _ => id) (by rfl) (by assumption) ?_ ?_
     rotate_left
     · (intro w hSw; (try dsimp only at hSw); go_simp); all_goals with_reducible rfl
     try simp only [Act.put, pL]
     refine tk 19 ?_ rfl (by kernel_rfl) (fun _ _ _ => id) (by rfl) (by assumption) ?_ ?_
     rotate_left
     · (intro w hSw; (try dsimp only at hSw); go_simp); all_goals with_reducible rfl
     try simp only [Act.put, pL]
     refine wpAnyH_ready (rs := [20]) (by kernel_rfl) (by simp) ?_
     refine AllReadyH.cons rfl (fun K hK => ?_) AllReadyH.nil
     go_simp
     (first
       | (go_at_call 9; (with_reducible refine (HHt.out _).mono ?_); rintro e wa ⟨rfl, qa⟩)
       | (go_at_call 9; (with_reducible refine (HHa.out _).mono ?_); rintro e wa ⟨rfl, qa⟩)
       | (go_at_call 9; (with_reducible refine (HHb.out _).mono ?_); rintro e wa ⟨rfl, qa⟩)
       | (go_at_call 14; refine (lives9 _ (hE.dn (Dn.trans vuf288 (‹Dn w289 _ ∧ _› : _ ∧ _).1))).mono ?_; rintro e wa ⟨rfl, qa⟩))
     try go_wp2_with fail
     refine hK.out _ _ ?_ (fun hHeld => ?_)
     · (try dsimp only); (first | exact kdP_12 ((Dn.refl _).drew) hS294 | exact kdP_12 ‹Dn _ _› ‹_› | exact kdP_12 (Up.dn ‹Up _ _›) ‹_› | assumption | exact kdP_12 ((Dn.refl _).alloc _) ‹_›)
     clear hK K
     try simp only [Act.put, pL]
     refine tk 21 ?_ rfl (by kernel_rfl) (fun _ _ _ => id) (by rfl) (by assumption) ?_ ?_
     rotate_left
     · (intro w hSw; (try dsimp only at hSw); go_simp); all_goals with_reducible rfl
     try simp only [Act.put, pL]
     refine tk 22 ?_ rfl (by kernel_rfl) (fun _ _ _ => id) (by rfl) (by assumption) ?_ ?_
     rotate_left
     · (intro w hSw; (try dsimp only at hSw); go_simp); all_goals with_reducible rfl
     try simp only [Act.put, pL]
     refine wpAnyH_done (by kernel_rfl) ?_ _
     all_goals skip
     all_goals
      clear hS294
      obtain ⟨uf311, hX, hY, hZ, i0, i1, i2, i3, i4, i5, i6, i7, i9⟩ := (‹Dn w289 _ ∧ _› : _ ∧ _)
      obtain ⟨w312, rfl⟩ : ∃ w312 : World, w312 = wa := ⟨_, rfl⟩
      obtain ⟨iA, iB, iC, iD⟩ := mv4 uf311.cell hL.out hM.out hN.out hO.out
      clear hL hM hN hO
      have vuf311 := vuf288.trans uf311
      clear uf311 vuf288 HShS294
      go_wp2_with fail
      go_ret
      exact ⟨rfl, vuf311⟩
end Go.Proofs.YtcdkeiolblifkaaDoor
