/- Walks and laws that the claim's theorem leans on: part 19. -/
import Derived.Test.YtcdkeiolblifkaaDoorZPr1
import Derived.Test.YtcdkeiolblifkaaDoorZPr7
import Derived.Test.YtcdkeiolblifkaaDoorZPr9
import Derived.Test.YtcdkeiolblifkaaDoorZPr11
import Derived.Test.YtcdkeiolblifkaaDoorZPr12
import Derived.Test.YtcdkeiolblifkaaDoorZPr13
import Derived.Test.YtcdkeiolblifkaaDoorZPr14
import Derived.Test.YtcdkeiolblifkaaDoorZPr15
import Derived.Test.YtcdkeiolblifkaaDoorZPr16
import Derived.Test.YtcdkeiolblifkaaDoorZPr17
import Derived.Test.YtcdkeiolblifkaaDoorZPr18
import Derived.ProofKit
import Derived.OpenShut
import Derived.Lib.SmallJoins
import Derived.LaidMore
import Derived.Stop.Joined
import Derived.Lib.LaidTab
import Derived.Shelf.Vars
namespace Go.Proofs.YtcdkeiolblifkaaDoor
set_option maxHeartbeats 40000000
set_option maxRecDepth 100000
open Go.RowKit
set_option linter.unusedVariables false
set_option linter.unusedSimpArgs false
theorem prePr50x1 (w : World) (a b c d e f g h : Int) : ∃ W1, W1 = (w.alloc (.cells #[.int .i8 a, .int .i64 b, .int .i8 c, .int .i64 d] 29)).alloc (.cells #[.int .i8 e, .int .i64 f, .int .i8 g, .int .i64 h] 29) ∧ (Dn w W1) ∧ (W1.cell? ⟨w.heap.size, 0, none⟩ = some (.int .i8 a)) ∧ (W1.cell? ⟨w.heap.size, 1, none⟩ = some (.int .i64 b)) ∧ (W1.cell? ⟨w.heap.size, 2, none⟩ = some (.int .i8 c)) ∧ (W1.cell? ⟨w.heap.size, 3, none⟩ = some (.int .i64 d)) ∧ (W1.cell? ⟨w.heap.size + 1, 0, none⟩ = some (.int .i8 e)) ∧ (W1.cell? ⟨w.heap.size + 1, 1, none⟩ = some (.int .i64 f)) ∧ (W1.cell? ⟨w.heap.size + 1, 2, none⟩ = some (.int .i8 g)) ∧ (W1.cell? ⟨w.heap.size + 1, 3, none⟩ = some (.int .i64 h)) := by
  obtain ⟨W1, hW1⟩ : ∃ W1, W1 = (w.alloc (.cells #[.int .i8 a, .int .i64 b, .int .i8 c, .int .i64 d] 29)).alloc (.cells #[.int .i8 e, .int .i64 f, .int .i8 g, .int .i64 h] 29) := ⟨_, rfl⟩
  exact ⟨W1, hW1, (by rw [hW1]; exact ((Dn.refl _).alloc _).alloc _), (by rw [hW1]; simp [go_sem]), (by rw [hW1]; simp [go_sem]), (by rw [hW1]; simp [go_sem]), (by rw [hW1]; simp [go_sem]), (by rw [hW1]; simp [go_sem]), (by rw [hW1]; simp [go_sem]), (by rw [hW1]; simp [go_sem]), (by rw [hW1]; simp [go_sem])⟩
theorem prs_t1001 (a b c d e f g h day m p0 p1 p2 p3 q0 q1 q2 q3 : Int) (wi hq : Bool) (hm : IntKind.i64.wrap (-m) = -m)  (HCa : Hid (CC 18 #[RV a b c d] (.int .i64 0))) (HCb : Hid (CC 18 #[RV e f g h] (.int .i64 0))) (HKa : Hid (CC 19 #[RV a b c d] (.int .i64 0))) (HKb : Hid (CC 19 #[RV e f g h] (.int .i64 0))) (HP1 : Hid (CC 20 #[RV a b c d, RV e f g h] (.int .i64 m))) (HP2 : Hid (CC 20 #[RV e f g h, RV a b c d] (.int .i64 (-m)))) (HP3 : Hid (CC 21 #[RV a b c d, RV e f g h] (.int .i64 m))) (HT1 : Hid (CC 12 #[RV a b c d, RV e f g h] (.bool true))) (HT2 : Hid (CC 12 #[RV e f g h, RV a b c d] (.bool true))) (HJ1 : Hid (CC 10 #[RV a b c d, RV e f g h] (.tuple #[.agg #[.int .i8 p0, .int .i64 p1, .int .i8 p2, .int .i64 p3], .bool true]))) (HJ2 : Hid (CC 10 #[RV e f g h, RV a b c d] (.tuple #[.agg #[.int .i8 p0, .int .i64 p1, .int .i8 p2, .int .i64 p3], .bool true]))) (HM1 : Hid (CC 11 #[RV a b c d, RV e f g h] (.tuple #[.agg #[.int .i8 0, .int .i64 0, .int .i8 0, .int .i64 0], .bool false]))) (HM2 : Hid (CC 11 #[RV e f g h, RV a b c d] (.tuple #[.agg #[.int .i8 0, .int .i64 0, .int .i8 0, .int .i64 0], .bool false]))) (HRJ : Hid (CC 25 #[RV a b c d, RV e f g h] (.agg #[.int .i8 p0, .int .i64 p1, .int .i8 p2, .int .i64 p3]))) (HRC : Hid (CC 26 #[RV a b c d, RV e f g h] (.agg #[.int .i8 q0, .int .i64 q1, .int .i8 q2, .int .i64 q3]))) (HW : Hid (CC 13 #[RV a b c d, RV e f g h] (.bool wi))) (HHa : Hid (CC 9 #[RV a b c d, .int .i64 day] (.bool false))) (HHb : Hid (CC 9 #[RV e f g h, .int .i64 day] (.bool true))) (HHr : Hid (CC 9 #[.agg #[.int .i8 p0, .int .i64 p1, .int .i8 p2, .int .i64 p3], .int .i64 day] (.bool true))) (HRT : Hid (CC 22 #[RV a b c d, RV e f g h] (.bool true))) (HRO : Hid (CC 23 #[RV a b c d, RV e f g h] (.bool false))) (HRW : Hid (CC 27 #[RV a b c d, RV e f g h] (.bool wi))) (HRH : Hid (CC 28 #[RV a b c d, .int .i64 day] (.bool false))) (w : World) (hE : EnvR w) :
  Calls Tryd.prog 5 #[.agg #[.int .i8 a, .int .i64 b, .int .i8 c, .int .i64 d], .agg #[.int .i8 e, .int .i64 f, .int .i8 g, .int .i64 h], .int .i64 day] w fun ro w' => ro = .returned (.bool true) ∧ Dn w w' := by
 go_enter Tryd.func5, Tryd.ntmps5
 go_wp2_with fail
 obtain ⟨W1, hW1, uW1, c2, c3, c4, c5, c6, c7, c8, c9⟩ := prePr50x1 w a b c d e f g h
 rw [← hW1]
 clear hW1
 have hS10 := kdP_8 (W := W1) (Dn.refl _) ⟨Dn.refl _, c2, c3, c4, c5, c6, c7, c8, c9⟩
 have HShS10 := Lib.hid hS10
 clear c2 c3 c4 c5 c6 c7 c8 c9
 go_region_held3 (fun w' => Dn W1 w' ∧ w'.cell? ⟨w.heap.size, 0, none⟩ = some (.int .i8 a) ∧ w'.cell? ⟨w.heap.size, 1, none⟩ = some (.int .i64 b) ∧ w'.cell? ⟨w.heap.size, 2, none⟩ = some (.int .i8 c) ∧ w'.cell? ⟨w.heap.size, 3, none⟩ = some (.int .i64 d) ∧ w'.cell? ⟨w.heap.size + 1, 0, none⟩ = some (.int .i8 e) ∧ w'.cell? ⟨w.heap.size + 1, 1, none⟩ = some (.int .i64 f) ∧ w'.cell? ⟨w.heap.size + 1, 2, none⟩ = some (.int .i8 g) ∧ w'.cell? ⟨w.heap.size + 1, 3, none⟩ = some (.int .i64 h))
  (first | exact kdP_8 ((Dn.refl _).drew) hS10 | exact kdP_8 ‹Dn _ _› ‹_› | exact kdP_8 (Up.dn ‹Up _ _›) ‹_› | assumption | exact kdP_8 ((Dn.refl _).alloc _) ‹_›)
  (first
   | (go_at_call 18; (with_reducible refine (HCa.out _).mono ?_); rintro e wa ⟨rfl, qa⟩)
   | (go_at_call 18; (with_reducible refine (HCb.out _).mono ?_); rintro e wa ⟨rfl, qa⟩))
 all_goals
  clear hS10
  obtain ⟨uf19, a8, a9, aA, aB, aC, aD, aE, aF⟩ := (‹Dn W1 _ ∧ _› : _ ∧ _)
  obtain ⟨w20, rfl⟩ : ∃ w20 : World, w20 = wa := ⟨_, rfl⟩
  have vuf19 := uW1.trans uf19
  clear uf19 uW1 HShS10
  go_wp2_with fail
  have hS21 := kdP_8 (W := w20) (Dn.refl _) ⟨Dn.refl _, a8, a9, aA, aB, aC, aD, aE, aF⟩
  have HShS21 := Lib.hid hS21
  clear a8 a9 aA aB aC aD aE aF
  go_region_held3 (fun w' => Dn w20 w' ∧ w'.cell? ⟨w.heap.size, 0, none⟩ = some (.int .i8 a) ∧ w'.cell? ⟨w.heap.size, 1, none⟩ = some (.int .i64 b) ∧ w'.cell? ⟨w.heap.size, 2, none⟩ = some (.int .i8 c) ∧ w'.cell? ⟨w.heap.size, 3, none⟩ = some (.int .i64 d) ∧ w'.cell? ⟨w.heap.size + 1, 0, none⟩ = some (.int .i8 e) ∧ w'.cell? ⟨w.heap.size + 1, 1, none⟩ = some (.int .i64 f) ∧ w'.cell? ⟨w.heap.size + 1, 2, none⟩ = some (.int .i8 g) ∧ w'.cell? ⟨w.heap.size + 1, 3, none⟩ = some (.int .i64 h))
   (first | exact kdP_8 ((Dn.refl _).drew) hS21 | exact kdP_8 ‹Dn _ _› ‹_› | exact kdP_8 (Up.dn ‹Up _ _›) ‹_› | assumption | exact kdP_8 ((Dn.refl _).alloc _) ‹_›)
   (first
    | (go_at_call 19; (with_reducible refine (HKa.out _).mono ?_); rintro e wa ⟨rfl, qa⟩)
    | (go_at_call 19; (with_reducible refine (HKb.out _).mono ?_); rintro e wa ⟨rfl, qa⟩)
    | (go_at_call 20; (with_reducible refine (HP1.out _).mono ?_); rintro e wa ⟨rfl, qa⟩)
    | (go_at_call 20; (with_reducible refine (HP2.out _).mono ?_); rintro e wa ⟨rfl, qa⟩)
    | (go_at_call 21; (with_reducible refine (HP3.out _).mono ?_); rintro e wa ⟨rfl, qa⟩))
  all_goals
   clear hS21
   obtain ⟨uf30, aG, aH, aI, aJ, aK, aL, aM, aN⟩ := (‹Dn w20 _ ∧ _› : _ ∧ _)
   obtain ⟨w31, rfl⟩ : ∃ w31 : World, w31 = wa := ⟨_, rfl⟩
   have vuf30 := vuf19.trans uf30
   clear uf30 vuf19 HShS21
   go_wp2_with fail
   refine (HRT.out _).mono ?_
   rintro e w1 ⟨rfl, qw1⟩
   obtain ⟨-, aO, aP, aQ, aR, aS, aT, aU, aV⟩ := kdP_8 qw1 ⟨Dn.refl _, aG, aH, aI, aJ, aK, aL, aM, aN⟩
   clear aG aH aI aJ aK aL aM aN
   have uw1 := vuf30.trans qw1
   clear qw1 vuf30
   go_wp2_with fail
   refine (HRO.out _).mono ?_
   rintro e w2 ⟨rfl, qw2⟩
   obtain ⟨-, aW, aX, aY, aZ, b0, b1, b2, b3⟩ := kdP_8 qw2 ⟨Dn.refl _, aO, aP, aQ, aR, aS, aT, aU, aV⟩
   clear aO aP aQ aR aS aT aU aV
   have uw2 := uw1.trans qw2
   clear qw2 uw1
   go_wp2_with fail
   refine (HJ1.out _).mono ?_
   rintro e w3 ⟨rfl, qw3⟩
   obtain ⟨-, a0, b4, b5, b6, a1, b7, b8, b9⟩ := kdP_8 qw3 ⟨Dn.refl _, aW, aX, aY, aZ, b0, b1, b2, b3⟩
   clear aW aX aY aZ b0 b1 b2 b3
   have uw3 := uw2.trans qw3
   clear qw3 uw2
   have la := lt_of_cell a0
   have lb := lt_of_cell a1
   go_wp2_with fail
   obtain ⟨W56, hW56⟩ : ∃ W56, W56 = w3.alloc (.cells #[.int .i8 p0, .int .i64 p1, .int .i8 p2, .int .i64 p3] 29) := ⟨_, rfl⟩
   have uW56 : Dn w3 W56 := by rw [hW56]; exact (Dn.refl _).alloc _
   obtain ⟨-, bA, bB, bC, bD, bE, bF, bG, bH⟩ := kdP_8 uW56 ⟨Dn.refl _, a0, b4, b5, b6, a1, b7, b8, b9⟩
   clear a0 b4 b5 b6 a1 b7 b8 b9
   have bI : W56.cell? ⟨w3.heap.size, 0, none⟩ = some (.int .i8 p0) := by rw [hW56]; simp [go_sem]
   have bJ : W56.cell? ⟨w3.heap.size, 1, none⟩ = some (.int .i64 p1) := by rw [hW56]; simp [go_sem]
   have bK : W56.cell? ⟨w3.heap.size, 2, none⟩ = some (.int .i8 p2) := by rw [hW56]; simp [go_sem]
   have bL : W56.cell? ⟨w3.heap.size, 3, none⟩ = some (.int .i64 p3) := by rw [hW56]; simp [go_sem]
   rw [← hW56]
   clear hW56
   have vW56 := uw3.trans uW56
   clear uW56 uw3
   refine (HJ2.out _).mono ?_
   rintro e w4 ⟨rfl, qw4⟩
   obtain ⟨-, a2, bM, bN, bO, a3, bP, bQ, bR, bS, bT, bU, bV⟩ := kdP_12 qw4 ⟨Dn.refl _, bA, bB, bC, bD, bE, bF, bG, bH, bI, bJ, bK, bL⟩
   clear bA bB bC bD bE bF bG bH bI bJ bK bL
   have uw4 := vW56.trans qw4
   clear qw4 vW56
   have la := lt_of_cell a2
   have lb := lt_of_cell a3
   go_wp2_with fail
   obtain ⟨W81, hW81⟩ : ∃ W81, W81 = w4.alloc (.cells #[.int .i8 p0, .int .i64 p1, .int .i8 p2, .int .i64 p3] 29) := ⟨_, rfl⟩
   have uW81 : Dn w4 W81 := by rw [hW81]; exact (Dn.refl _).alloc _
   obtain ⟨-, bW, bX, bY, bZ, c0, c1, cA, cB, cC, cD, cE, cF⟩ := kdP_12 uW81 ⟨Dn.refl _, a2, bM, bN, bO, a3, bP, bQ, bR, bS, bT, bU, bV⟩
   clear a2 bM bN bO a3 bP bQ bR bS bT bU bV
   have cG : W81.cell? ⟨w4.heap.size, 0, none⟩ = some (.int .i8 p0) := by rw [hW81]; simp [go_sem]
   have cH : W81.cell? ⟨w4.heap.size, 1, none⟩ = some (.int .i64 p1) := by rw [hW81]; simp [go_sem]
   have cI : W81.cell? ⟨w4.heap.size, 2, none⟩ = some (.int .i8 p2) := by rw [hW81]; simp [go_sem]
   have cJ : W81.cell? ⟨w4.heap.size, 3, none⟩ = some (.int .i64 p3) := by rw [hW81]; simp [go_sem]
   rw [← hW81]
   clear hW81
   have vW81 := uw4.trans uW81
   clear uW81 uw4
   refine (HM1.out _).mono ?_
   rintro e w5 ⟨rfl, qw5⟩
   obtain ⟨-, a4, cK, cL, cM, a5, cN, cO, cP, cQ, cR, cS, cT, cU, cV, cW, cX⟩ := kdP_16 qw5 ⟨Dn.refl _, bW, bX, bY, bZ, c0, c1, cA, cB, cC, cD, cE, cF, cG, cH, cI, cJ⟩
   clear bW bX bY bZ c0 c1 cA cB cC cD cE cF cG cH cI cJ
   have uw5 := vW81.trans qw5
   clear qw5 vW81
   have la := lt_of_cell a4
   have lb := lt_of_cell a5
   go_wp2_with fail
   obtain ⟨W114, hW114⟩ : ∃ W114, W114 = w5.alloc (.cells #[.int .i8 0, .int .i64 0, .int .i8 0, .int .i64 0] 29) := ⟨_, rfl⟩
   have uW114 : Dn w5 W114 := by rw [hW114]; exact (Dn.refl _).alloc _
   obtain ⟨-, cY, cZ, d0, d1, d2, d3, d4, d5, d6, d7, d8, d9, dA, dB, dC, dD⟩ := kdP_16 uW114 ⟨Dn.refl _, a4, cK, cL, cM, a5, cN, cO, cP, cQ, cR, cS, cT, cU, cV, cW, cX⟩
   clear a4 cK cL cM a5 cN cO cP cQ cR cS cT cU cV cW cX
   have dE : W114.cell? ⟨w5.heap.size, 0, none⟩ = some (.int .i8 0) := by rw [hW114]; simp [go_sem]
   have dF : W114.cell? ⟨w5.heap.size, 1, none⟩ = some (.int .i64 0) := by rw [hW114]; simp [go_sem]
   have dG : W114.cell? ⟨w5.heap.size, 2, none⟩ = some (.int .i8 0) := by rw [hW114]; simp [go_sem]
   have dH : W114.cell? ⟨w5.heap.size, 3, none⟩ = some (.int .i64 0) := by rw [hW114]; simp [go_sem]
   rw [← hW114]
   clear hW114
   have vW114 := uw5.trans uW114
   clear uW114 uw5
   refine (HM2.out _).mono ?_
   rintro e w6 ⟨rfl, qw6⟩
   obtain ⟨-, a6, dI, dJ, dK, a7, dL, dM, dN, dO, dP, dQ, dR, dS, dT, dU, dV, dW, dX, dY, dZ⟩ := kdP_20 qw6 ⟨Dn.refl _, cY, cZ, d0, d1, d2, d3, d4, d5, d6, d7, d8, d9, dA, dB, dC, dD, dE, dF, dG, dH⟩
   clear cY cZ d0 d1 d2 d3 d4 d5 d6 d7 d8 d9 dA dB dC dD dE dF dG dH
   have uw6 := vW114.trans qw6
   clear qw6 vW114
   have la := lt_of_cell a6
   have lb := lt_of_cell a7
   go_wp2_with fail
   obtain ⟨W155, hW155⟩ : ∃ W155, W155 = w6.alloc (.cells #[.int .i8 0, .int .i64 0, .int .i8 0, .int .i64 0] 29) := ⟨_, rfl⟩
   have uW155 : Dn w6 W155 := by rw [hW155]; exact (Dn.refl _).alloc _
   obtain ⟨-, e0, e1, e2, e3, e4, e5, e6, e7, e8, e9, eD, eE, eF, eG, eH, eI, eJ, eK, eL, eM⟩ := kdP_20 uW155 ⟨Dn.refl _, a6, dI, dJ, dK, a7, dL, dM, dN, dO, dP, dQ, dR, dS, dT, dU, dV, dW, dX, dY, dZ⟩
   clear a6 dI dJ dK a7 dL dM dN dO dP dQ dR dS dT dU dV dW dX dY dZ
   have eN : W155.cell? ⟨w6.heap.size, 0, none⟩ = some (.int .i8 0) := by rw [hW155]; simp [go_sem]
   have eO : W155.cell? ⟨w6.heap.size, 1, none⟩ = some (.int .i64 0) := by rw [hW155]; simp [go_sem]
   have eP : W155.cell? ⟨w6.heap.size, 2, none⟩ = some (.int .i8 0) := by rw [hW155]; simp [go_sem]
   have eQ : W155.cell? ⟨w6.heap.size, 3, none⟩ = some (.int .i64 0) := by rw [hW155]; simp [go_sem]
   rw [← hW155]
   clear hW155
   have vW155 := uw6.trans uW155
   clear uW155 uw6
   have hS180 := kdP_24 (W := W155) (Dn.refl _) ⟨Dn.refl _, e0, e1, e2, e3, e4, e5, e6, e7, e8, e9, eD, eE, eF, eG, eH, eI, eJ, eK, eL, eM, eN, eO, eP, eQ⟩
   have HShS180 := Lib.hid hS180
   clear e0 e1 e2 e3 e4 e5 e6 e7 e8 e9 eD eE eF eG eH eI eJ eK eL eM eN eO eP eQ
   go_region_held3 (fun w' => Dn W155 w' ∧ w'.cell? ⟨w.heap.size, 0, none⟩ = some (.int .i8 a) ∧ w'.cell? ⟨w.heap.size, 1, none⟩ = some (.int .i64 b) ∧ w'.cell? ⟨w.heap.size, 2, none⟩ = some (.int .i8 c) ∧ w'.cell? ⟨w.heap.size, 3, none⟩ = some (.int .i64 d) ∧ w'.cell? ⟨w.heap.size + 1, 0, none⟩ = some (.int .i8 e) ∧ w'.cell? ⟨w.heap.size + 1, 1, none⟩ = some (.int .i64 f) ∧ w'.cell? ⟨w.heap.size + 1, 2, none⟩ = some (.int .i8 g) ∧ w'.cell? ⟨w.heap.size + 1, 3, none⟩ = some (.int .i64 h) ∧ w'.cell? ⟨w3.heap.size, 0, none⟩ = some (.int .i8 p0) ∧ w'.cell? ⟨w3.heap.size, 1, none⟩ = some (.int .i64 p1) ∧ w'.cell? ⟨w3.heap.size, 2, none⟩ = some (.int .i8 p2) ∧ w'.cell? ⟨w3.heap.size, 3, none⟩ = some (.int .i64 p3) ∧ w'.cell? ⟨w4.heap.size, 0, none⟩ = some (.int .i8 p0) ∧ w'.cell? ⟨w4.heap.size, 1, none⟩ = some (.int .i64 p1) ∧ w'.cell? ⟨w4.heap.size, 2, none⟩ = some (.int .i8 p2) ∧ w'.cell? ⟨w4.heap.size, 3, none⟩ = some (.int .i64 p3) ∧ w'.cell? ⟨w5.heap.size, 0, none⟩ = some (.int .i8 0) ∧ w'.cell? ⟨w5.heap.size, 1, none⟩ = some (.int .i64 0) ∧ w'.cell? ⟨w5.heap.size, 2, none⟩ = some (.int .i8 0) ∧ w'.cell? ⟨w5.heap.size, 3, none⟩ = some (.int .i64 0) ∧ w'.cell? ⟨w6.heap.size, 0, none⟩ = some (.int .i8 0) ∧ w'.cell? ⟨w6.heap.size, 1, none⟩ = some (.int .i64 0) ∧ w'.cell? ⟨w6.heap.size, 2, none⟩ = some (.int .i8 0) ∧ w'.cell? ⟨w6.heap.size, 3, none⟩ = some (.int .i64 0))
    (first | exact kdP_24 ((Dn.refl _).drew) hS180 | exact kdP_24 ‹Dn _ _› ‹_› | exact kdP_24 (Up.dn ‹Up _ _›) ‹_› | assumption | exact kdP_24 ((Dn.refl _).alloc _) ‹_›)
    (first
     | (go_at_call 12; (with_reducible refine (HT1.out _).mono ?_); rintro e wa ⟨rfl, qa⟩)
     | (go_at_call 12; (with_reducible refine (HT2.out _).mono ?_); rintro e wa ⟨rfl, qa⟩)
     | (go_at_call 25; (with_reducible refine (HRJ.out _).mono ?_); rintro e wa ⟨rfl, qa⟩)
     | (go_at_call 26; (with_reducible refine (HRC.out _).mono ?_); rintro e wa ⟨rfl, qa⟩)
     | (go_at_call 24; refine (f9_any _ _ _ _ _ _ _ _ _ _ _ ?_).mono ?_; (first | exact Or.inl ⟨rfl, rfl, rfl, rfl, rfl, rfl⟩ | exact Or.inr ⟨rfl, rfl, rfl, rfl, rfl, rfl⟩); rintro e wa ⟨rfl, qa⟩))
   all_goals
    clear hS180
    obtain ⟨uf205, eR, eS, eT, eU, eV, eW, eX, eY, eZ, f0, f1, f2, hP, hQ, hR, hS, f3, f4, f5, f6, hT, hU, hV, hW⟩ := (‹Dn W155 _ ∧ _› : _ ∧ _)
    obtain ⟨w206, rfl⟩ : ∃ w206 : World, w206 = wa := ⟨_, rfl⟩
    have vuf205 := vW155.trans uf205
    clear uf205 vW155 HShS180
    clear hP hQ hR hS
    clear hT hU hV hW
    go_wp2_with fail
    refine (HW.out _).mono ?_
    rintro e w7 ⟨rfl, qw7⟩
    obtain ⟨-, f7, f8, f9, fA, fB, fC, fD, fE, fF, fG, fH, fI, fJ, fK, fL, fM⟩ := kdP_16 qw7 ⟨Dn.refl _, eR, eS, eT, eU, eV, eW, eX, eY, eZ, f0, f1, f2, f3, f4, f5, f6⟩
    clear eR eS eT eU eV eW eX eY eZ f0 f1 f2 f3 f4 f5 f6
    have uw7 := vuf205.trans qw7
    clear qw7 vuf205
    go_wp2_with fail
    refine (HRW.out _).mono ?_
    rintro e w8 ⟨rfl, qw8⟩
    obtain ⟨-, fN, fO, fP, fQ, fR, fS, fT, fU, fV, fW, fX, fY, fZ, g0, g1, g2⟩ := kdP_16 qw8 ⟨Dn.refl _, f7, f8, f9, fA, fB, fC, fD, fE, fF, fG, fH, fI, fJ, fK, fL, fM⟩
    clear f7 f8 f9 fA fB fC fD fE fF fG fH fI fJ fK fL fM
    have uw8 := uw7.trans qw8
    clear qw8 uw7
    go_wp2_with fail
    refine (HHa.out _).mono ?_
    rintro e w9 ⟨rfl, qw9⟩
    obtain ⟨-, g3, g4, g5, g6, g7, g8, g9, gA, gB, gC, gD, gE, gF, gG, gH, gI⟩ := kdP_16 qw9 ⟨Dn.refl _, fN, fO, fP, fQ, fR, fS, fT, fU, fV, fW, fX, fY, fZ, g0, g1, g2⟩
    clear fN fO fP fQ fR fS fT fU fV fW fX fY fZ g0 g1 g2
    have uw9 := uw8.trans qw9
    clear qw9 uw8
    go_wp2_with fail
    refine (HRH.out _).mono ?_
    rintro e w10 ⟨rfl, qw10⟩
    obtain ⟨-, gJ, gK, gL, gM, gN, gO, gP, gQ, gR, gS, gT, gU, gV, gW, gX, gY⟩ := kdP_16 qw10 ⟨Dn.refl _, g3, g4, g5, g6, g7, g8, g9, gA, gB, gC, gD, gE, gF, gG, gH, gI⟩
    clear g3 g4 g5 g6 g7 g8 g9 gA gB gC gD gE gF gG gH gI
    have uw10 := uw9.trans qw10
    clear qw10 uw9
    go_wp2_with fail
    have hS271 := kdP_12 (W := w10) (Dn.refl _) ⟨Dn.refl _, gJ, gK, gL, gM, gN, gO, gP, gQ, gR, gS, gT, gU⟩
    have gZ := Lib.hid gV
    have h0 := Lib.hid gW
    have h1 := Lib.hid gX
    have h2 := Lib.hid gY
    have HShS271 := Lib.hid hS271
    clear gJ gK gL gM gN gO gP gQ gR gS gT gU gV gW gX gY
    refine wp_region_held_drew (S := fun w' => Dn w10 w' ∧ w'.cell? ⟨w.heap.size, 0, none⟩ = some (.int .i8 a) ∧ w'.cell? ⟨w.heap.size, 1, none⟩ = some (.int .i64 b) ∧ w'.cell? ⟨w.heap.size, 2, none⟩ = some (.int .i8 c) ∧ w'.cell? ⟨w.heap.size, 3, none⟩ = some (.int .i64 d) ∧ w'.cell? ⟨w.heap.size + 1, 0, none⟩ = some (.int .i8 e) ∧ w'.cell? ⟨w.heap.size + 1, 1, none⟩ = some (.int .i64 f) ∧ w'.cell? ⟨w.heap.size + 1, 2, none⟩ = some (.int .i8 g) ∧ w'.cell? ⟨w.heap.size + 1, 3, none⟩ = some (.int .i64 h) ∧ w'.cell? ⟨w3.heap.size, 0, none⟩ = some (.int .i8 p0) ∧ w'.cell? ⟨w3.heap.size, 1, none⟩ = some (.int .i64 p1) ∧ w'.cell? ⟨w3.heap.size, 2, none⟩ = some (.int .i8 p2) ∧ w'.cell? ⟨w3.heap.size, 3, none⟩ = some (.int .i64 p3)) (by kernel_rfl) ?_ (fun hHeld => ?_)
    · (try dsimp only); (first | exact kdP_12 ((Dn.refl _).drew) hS271 | exact kdP_12 ‹Dn _ _› ‹_› | exact kdP_12 (Up.dn ‹Up _ _›) ‹_› | assumption | exact kdP_12 ((Dn.refl _).alloc _) ‹_›)
    refine tk 0 ?_ rfl (by kernel_rfl) (fun _ _ _ => id) (by rfl) (by assumption) ?_ ?_
    rotate_left
    · (intro w hSw; (try dsimp only at hSw); go_simp); all_goals with_reducible rfl
    try simp only [Act.put, pL]
    refine tk 1 ?_ rfl (by kernel_rfl) (fun _ _ _ => id) (by rfl) (by assumption) ?_ ?_
    rotate_left
    · (intro w hSw; (try dsimp only at hSw); go_simp); all_goals with_reducible rfl
    try simp only [Act.put, pL]
    refine tk 2 ?_ rfl (by kernel_rfl) (fun _ _ _ => id) (by rfl) (by assumption) ?_ ?_
    rotate_left
    · (intro w hSw; (try dsimp only at hSw); go_simp); all_goals with_reducible rfl
    try simp only [Act.put, pL]
    refine tk 3 ?_ rfl (by kernel_rfl) (fun _ _ _ => id) (by rfl) (by assumption) ?_ ?_
    rotate_left
    · (intro w hSw; (try dsimp only at hSw); go_simp); all_goals with_reducible rfl
    try simp only [Act.put, pL]
    refine tk 5 ?_ rfl (by kernel_rfl) (fun _ _ _ => id) (by rfl) (by assumption) ?_ ?_
    rotate_left
    · (intro w hSw; (try dsimp only at hSw); go_simp); all_goals with_reducible rfl
    try simp only [Act.put, pL]
    refine tk 6 ?_ rfl (by kernel_rfl) (fun _ _ _ => id) (by rfl) (by assumption) ?_ ?_
    rotate_left
    · (intro w hSw; (try dsimp only at hSw); go_simp); all_goals with_reducible rfl
    try simp only [Act.put, pL]
    refine wpAnyH_ready (rs := [4]) (by kernel_rfl) (by simp) ?_
    refine AllReadyH.cons rfl (fun K hK => ?_) AllReadyH.nil
    go_simp
    (first
      | (go_at_call 9; (with_reducible refine (HHr.out _).mono ?_); rintro e wa ⟨rfl, qa⟩)
      | (go_at_call 9; (with_reducible refine (HHa.out _).mono ?_); rintro e wa ⟨rfl, qa⟩)
      | (go_at_call 9; (with_reducible refine (HHb.out _).mono ?_); rintro e wa ⟨rfl, qa⟩))
    try go_wp2_with fail
    refine hK.out _ _ ?_ (fun hHeld => ?_)
    · (try dsimp only); (first | exact kdP_12 ((Dn.refl _).drew) hS271 | exact kdP_12 ‹Dn _ _› ‹_› | exact kdP_12 (Up.dn ‹Up _ _›) ‹_› | assumption | exact kdP_12 ((Dn.refl _).alloc _) ‹_›)
    clear hK K
    try simp only [Act.put, pL]
    refine wpAnyH_ready (rs := [7]) (by kernel_rfl) (by simp) ?_
    refine AllReadyH.cons rfl (fun K hK => ?_) AllReadyH.nil
    go_simp
    (first
      | (go_at_call 9; (with_reducible refine (HHr.out _).mono ?_); rintro e wa ⟨rfl, qa⟩)
      | (go_at_call 9; (with_reducible refine (HHa.out _).mono ?_); rintro e wa ⟨rfl, qa⟩)
      | (go_at_call 9; (with_reducible refine (HHb.out _).mono ?_); rintro e wa ⟨rfl, qa⟩))
    try go_wp2_with fail
    refine hK.out _ _ ?_ (fun hHeld => ?_)
    · (try dsimp only); (first | exact kdP_12 ((Dn.refl _).drew) hS271 | exact kdP_12 ‹Dn _ _› ‹_› | exact kdP_12 (Up.dn ‹Up _ _›) ‹_› | assumption | exact kdP_12 ((Dn.refl _).alloc _) ‹_›)
    clear hK K
    try simp only [Act.put, pL]
    refine tk 8 ?_ rfl (by kernel_rfl) (fun _ _ _ => id) (by rfl) (by assumption) ?_ ?_
    rotate_left
    · (intro w hSw; (try dsimp only at hSw); go_simp); all_goals with_reducible rfl
    try simp only [Act.put, pL]
    refine tk 9 ?_ rfl (by kernel_rfl) (fun _ _ _ => id) (by rfl) (by assumption) ?_ ?_
    rotate_left
    · (intro w hSw; (try dsimp only at hSw); go_simp); all_goals with_reducible rfl
    try simp only [Act.put, pL]
    refine tk 10 ?_ rfl (by kernel_rfl) (fun _ _ _ => id) (by rfl) (by assumption) ?_ ?_
    rotate_left
    · (intro w hSw; (try dsimp only at hSw); go_simp); all_goals with_reducible rfl
    try simp only [Act.put, pL]
    refine wpAnyH_ready (rs := [11]) (by kernel_rfl) (by simp) ?_
    refine AllReadyH.cons rfl (fun K hK => ?_) AllReadyH.nil
    go_simp
    (first
      | (go_at_call 9; (with_reducible refine (HHr.out _).mono ?_); rintro e wa ⟨rfl, qa⟩)
      | (go_at_call 9; (with_reducible refine (HHa.out _).mono ?_); rintro e wa ⟨rfl, qa⟩)
      | (go_at_call 9; (with_reducible refine (HHb.out _).mono ?_); rintro e wa ⟨rfl, qa⟩))
    try go_wp2_with fail
    refine hK.out _ _ ?_ (fun hHeld => ?_)
    · (try dsimp only); (first | exact kdP_12 ((Dn.refl _).drew) hS271 | exact kdP_12 ‹Dn _ _› ‹_› | exact kdP_12 (Up.dn ‹Up _ _›) ‹_› | assumption | exact kdP_12 ((Dn.refl _).alloc _) ‹_›)
    clear hK K
    try simp only [Act.put, pL]
    refine tk 12 ?_ rfl (by kernel_rfl) (fun _ _ _ => id) (by rfl) (by assumption) ?_ ?_
    rotate_left
    · (intro w hSw; (try dsimp only at hSw); go_simp); all_goals with_reducible rfl
    try simp only [Act.put, pL]
    refine tk 13 ?_ rfl (by kernel_rfl) (fun _ _ _ => id) (by rfl) (by assumption) ?_ ?_
    rotate_left
    · (intro w hSw; (try dsimp only at hSw); go_simp); all_goals with_reducible rfl
    try simp only [Act.put, pL]
    refine tk 14 ?_ rfl (by kernel_rfl) (fun _ _ _ => id) (by rfl) (by assumption) ?_ ?_
    rotate_left
    · (intro w hSw; (try dsimp only at hSw); go_simp); all_goals with_reducible rfl
    try simp only [Act.put, pL]
    refine wpAnyH_done (by kernel_rfl) ?_ _
    all_goals skip
    all_goals
     clear hS271
     obtain ⟨uf288, h3, h4, h5, h6, h7, h8, h9, hA, hB, hC, hD, hF⟩ := (‹Dn w10 _ ∧ _› : _ ∧ _)
     obtain ⟨w289, rfl⟩ : ∃ w289 : World, w289 = wa := ⟨_, rfl⟩
     obtain ⟨hG, hH, hI, hJ⟩ := mv4 uf288.cell gZ.out h0.out h1.out h2.out
     clear gZ h0 h1 h2
     have vuf288 := uw10.trans uf288
     clear uf288 uw10 HShS271
     go_wp2_with fail
     have hS294 := kdP_12 (W := w289) (Dn.refl _) ⟨Dn.refl _, h3, h4, h5, h6, h7, h8, h9, hA, hG, hH, hI, hJ⟩
     have hL := Lib.hid hB
     have hM := Lib.hid hC
     have hN := Lib.hid hD
     have hO := Lib.hid hF
     have HShS294 := Lib.hid hS294
     clear h3 h4 h5 h6 h7 h8 h9 hA hB hC hD hF hG hH hI hJ
     refine wp_region_held_drew (S := fun w' => Dn w289 w' ∧ w'.cell? ⟨w.heap.size, 0, none⟩ = some (.int .i8 a) ∧ w'.cell? ⟨w.heap.size, 1, none⟩ = some (.int .i64 b) ∧ w'.cell? ⟨w.heap.size, 2, none⟩ = some (.int .i8 c) ∧ w'.cell? ⟨w.heap.size, 3, none⟩ = some (.int .i64 d) ∧ w'.cell? ⟨w.heap.size + 1, 0, none⟩ = some (.int .i8 e) ∧ w'.cell? ⟨w.heap.size + 1, 1, none⟩ = some (.int .i64 f) ∧ w'.cell? ⟨w.heap.size + 1, 2, none⟩ = some (.int .i8 g) ∧ w'.cell? ⟨w.heap.size + 1, 3, none⟩ = some (.int .i64 h) ∧ w'.cell? ⟨w5.heap.size, 0, none⟩ = some (.int .i8 0) ∧ w'.cell? ⟨w5.heap.size, 1, none⟩ = some (.int .i64 0) ∧ w'.cell? ⟨w5.heap.size, 2, none⟩ = some (.int .i8 0) ∧ w'.cell? ⟨w5.heap.size, 3, none⟩ = some (.int .i64 0)) (by kernel_rfl) ?_ (fun hHeld => ?_)
     · (try dsimp only); (first | exact kdP_12 ((Dn.refl _).drew) hS294 | exact kdP_12 ‹Dn _ _› ‹_› | exact kdP_12 (Up.dn ‹Up _ _›) ‹_› | assumption | exact kdP_12 ((Dn.refl _).alloc _) ‹_›)
     refine tk 0 ?_ rfl (by kernel_rfl) (fun _ _ _ => id) (by rfl) (by assumption) ?_ ?_
     rotate_left
     · (intro w hSw; (try dsimp only at hSw); go_simp); all_goals with_reducible rfl
     try simp only [Act.put, pL]
     refine tk 1 ?_ rfl (by kernel_rfl) (fun _ _ _ => id) (by rfl) (by assumption) ?_ ?_
     rotate_left
     · (intro w hSw; (try dsimp only at hSw); go_simp); all_goals with_reducible rfl
     try simp only [Act.put, pL]
     refine tk 2 ?_ rfl (by kernel_rfl) (fun _ _ _ => id) (by rfl) (by assumption) ?_ ?_
     rotate_left
     · (intro w hSw; (try dsimp only at hSw); go_simp); all_goals with_reducible rfl
     try simp only [Act.put, pL]
     refine tk 3 ?_ rfl (by kernel_rfl) (fun _ _ _ => id) (by rfl) (by assumption) ?_ ?_
     rotate_left
     · (intro w hSw; (try dsimp only at hSw); go_simp); all_goals with_reducible rfl
     try simp only [Act.put, pL]
     refine tk 4 ?_ rfl (by kernel_rfl) (fun _ _ _ => id) (by rfl) (by assumption) ?_ ?_
     rotate_left
     · (intro w hSw; (try dsimp only at hSw); go_simp); all_goals with_reducible rfl
     try simp only [Act.put, pL]
     refine tu 5 rfl (by kernel_rfl) (fun _ _ _ => id) (by rfl) (by assumption) ?_
     refine tu 6 rfl (by kernel_rfl) (fun _ _ _ => id) (by rfl) (by assumption) ?_
     refine tu 7 rfl (by kernel_rfl) (fun _ _ _ => id) (by rfl) (by assumption) ?_
     try simp only [Act.put, pL]
     refine tk 8 ?_ rfl (by kernel_rfl) (fun _ _ _ => id) (by rfl) (by assumption) ?_ ?_
     rotate_left
     · (intro w hSw; (try dsimp only at hSw); go_simp); all_goals with_reducible rfl
     try simp only [Act.put, pL]
     refine tk 9 ?_ rfl (by kernel_rfl) (fun _ _ _ => id) (by rfl) (by assumption) ?_ ?_
     rotate_left
     · (intro w hSw; (try dsimp only at hSw); go_simp); all_goals with_reducible rfl
     try simp only [Act.put, pL]
     refine tk 10 ?_ rfl (by kernel_rfl) (fun _ _ _ => id) (by rfl) (by assumption) ?_ ?_
     rotate_left
     · (intro w hSw; (try dsimp only at hSw); go_simp); all_goals with_reducible rfl
     try simp only [Act.put, pL]
     refine wpAnyH_ready (rs := [11]) (by kernel_rfl) (by simp) ?_
     refine AllReadyH.cons rfl (fun K hK => ?_) AllReadyH.nil
     go_simp
     (first
       | (go_at_call 9; (with_reducible refine (HHt.out _).mono ?_); rintro e wa ⟨rfl, qa⟩)
       | (go_at_call 9; (with_reducible refine (HHa.out _).mono ?_); rintro e wa ⟨rfl, qa⟩)
       | (go_at_call 9; (with_reducible refine (HHb.out _).mono ?_); rintro e wa ⟨rfl, qa⟩)
       | (go_at_call 14; refine (lives9 _ (hE.dn (Dn.trans vuf288 (‹Dn w289 _ ∧ _› : _ ∧ _).1))).mono ?_; rintro e wa ⟨rfl, qa⟩))
     try go_wp2_with fail
     refine hK.out _ _ ?_ (fun hHeld => ?_)
     · (try dsimp only); (first | exact kdP_12 ((Dn.refl _).drew) hS294 | exact kdP_12 ‹Dn _ _› ‹_› | exact kdP_12 (Up.dn ‹Up _ _›) ‹_› | assumption | exact kdP_12 ((Dn.refl _).alloc _) ‹_›)
     clear hK K
     try simp only [Act.put, pL]
     refine tk 12 ?_ rfl (by kernel_rfl) (fun _ _ _ => id) (by rfl) (by assumption) ?_ ?_
     rotate_left
     · (intro w hSw; (try dsimp only at hSw); go_simp); all_goals with_reducible rfl
     try simp only [Act.put, pL]
     refine tu 13 rfl (by kernel_rfl) (fun _ _ _ => id) (by rfl) (by assumption) ?_
     refine tu 14 rfl (by kernel_rfl) (fun _ _ _ => id) (by rfl) (by assumption) ?_
     refine tu 15 rfl (by kernel_rfl) (fun _ _ _ => id) (by rfl) (by assumption) ?_
     try simp only [Act.put, pL]
     refine tk 16 ?_ rfl (by kernel_rfl) (fun _ _ _ => id) (by rfl) (by assumption) ?_ ?_
     rotate_left
     · (intro w hSw; (try dsimp only at hSw); go_simp); all_goals with_reducible rfl
     try simp only [Act.put, pL]
     refine tk 17 ?_ rfl (by kernel_rfl) (fun _ _ _ => id) (by rfl) (by assumption) ?_ ?_
     rotate_left
     · (intro w hSw; (try dsimp only at hSw); go_simp); all_goals with_reducible rfl
     try simp only [Act.put, pL]
     refine tk 18 ?_ rfl (by kernel_rfl) (fun _ _ _ => id) (by rfl) (by assumption) ?_ ?_
     rotate_left
     · (intro w hSw; (try dsimp only at hSw); go_simp); all_goals with_reducible rfl
     try simp only [Act.put, pL]
     refine tk 19 ?_ rfl (by kernel_rfl) (fun _ _ _ => id) (by rfl) (by assumption) ?_ ?_
     rotate_left
     · (intro w hSw; (try dsimp only at hSw); go_simp); all_goals with_reducible rfl
     try simp only [Act.put, pL]
     refine wpAnyH_ready (rs := [20]) (by kernel_rfl) (by simp) ?_
     refine AllReadyH.cons rfl (fun K hK => ?_) AllReadyH.nil
     go_simp
     (first
       | (go_at_call 9; (with_reducible refine (HHt.out _).mono ?_); rintro e wa ⟨rfl, qa⟩)
       | (go_at_call 9; (with_reducible refine (HHa.out _).mono ?_); rintro e wa ⟨rfl, qa⟩)
       | (go_at_call 9; (with_reducible refine (HHb.out _).mono ?_); rintro e wa ⟨rfl, qa⟩)
       | (go_at_call 14; refine (lives9 _ (hE.dn (Dn.trans vuf288 (‹Dn w289 _ ∧ _› : _ ∧ _).1))).mono ?_; rintro e wa ⟨rfl, qa⟩))
     try go_wp2_with fail
     refine hK.out _ _ ?_ (fun hHeld => ?_)
     · (try dsimp only); (first | exact kdP_12 ((Dn.refl _).drew) hS294 | exact kdP_12 ‹Dn _ _› ‹_› | exact kdP_12 (Up.dn ‹Up _ _›) ‹_› | assumption | exact kdP_12 ((Dn.refl _).alloc _) ‹_›)
     clear hK K
     try simp only [Act.put, pL]
     refine tk 21 ?_ rfl (by kernel_rfl) (fun _ _ _ => id) (by rfl) (by assumption) ?_ ?_
     rotate_left
     · (intro w hSw; (try dsimp only at hSw); go_simp); all_goals with_reducible rfl
     try simp only [Act.put, pL]
     refine tk 22 ?_ rfl (by kernel_rfl) (fun _ _ _ => id) (by rfl) (by assumption) ?_ ?_
     rotate_left
     · (intro w hSw; (try dsimp only at hSw); go_simp); all_goals with_reducible rfl
     try simp only [Act.put, pL]
     refine wpAnyH_done (by kernel_rfl) ?_ _
     all_goals skip
     all_goals
      clear hS294
      obtain ⟨uf311, hX, hY, hZ, i0, i1, i2, i3, i4, i5, i6, i7, i9⟩ := (‹Dn w289 _ ∧ _› : _ ∧ _)
      obtain ⟨w312, rfl⟩ : ∃ w312 : World, w312 = wa := ⟨_, rfl⟩
      obtain ⟨iA, iB, iC, iD⟩ := mv4 uf311.cell hL.out hM.out hN.out hO.out
      clear hL hM hN hO
      have vuf311 := vuf288.trans uf311
      clear uf311 vuf288 HShS294
      go_wp2_with fail
      go_ret
      exact ⟨rfl, vuf311⟩
theorem eC_swap (i d j f : Int) : eC j f i d = -eC i d j f := by
 unfold eC c3
 repeat' split
 all_goals omega
theorem or2_swap (x y : Int) : or2 (-x) (-y) = -or2 x y := by
 unfold or2
 by_cases h : x = 0
 · rw [if_neg (by omega), if_neg (by omega)]
 · rw [if_pos (by omega), if_pos (by omega)]
theorem or2_bnd (x y : Int) (h1 : -1 ≤ x ∧ x ≤ 1) (h2 : -1 ≤ y ∧ y ≤ 1) : -1 ≤ or2 x y ∧ or2 x y ≤ 1 := by
 unfold or2
 split <;> assumption
theorem eC_bnd (i d j f : Int) : -1 ≤ eC i d j f ∧ eC i d j f ≤ 1 := by
 unfold eC c3
 repeat' split
 all_goals omega
theorem mn_swap (i d j f : Int) : mnI i d j f = mnI j f i d ∧ mnD i d j f = mnD j f i d := by
 unfold mnI mnD eC c3
 repeat' split
 all_goals omega
theorem mx_swap (i d j f : Int) : mxI i d j f = mxI j f i d ∧ mxD i d j f = mxD j f i d := by
 unfold mxI mxD eC c3
 repeat' split
 all_goals omega
theorem rnErr_nn (a b c d : Int) : 0 ≤ rnErr a b c d ∧ rnErr a b c d ≤ 12 := by
 unfold rnErr
 repeat' split
 all_goals omega
theorem wi_day {a b c d day : Int} (h : RnOk a b c d) : Wi 0 day 0 day a b c d ↔ key a b ≤ key 0 day ∧ key 0 day ≤ key c d := by
 unfold Wi
 constructor
 · rintro ⟨_, _, h1, h2⟩; exact ⟨h1, h2⟩
 · rintro ⟨h1, h2⟩; exact ⟨⟨Or.inl rfl, Or.inl rfl, Int.le_refl _, Int.le_refl _, Int.le_refl _⟩, h, h1, h2⟩
theorem wi_has {a b c d day : Int} (hb : I64 b) (hd : I64 d) (hy : I64 day) (h : RnOk a b c d) : Wi 0 day 0 day a b c d ↔ HasP a b c d day := by
 rw [wi_day h]
 obtain ⟨o1, o2, o3, o4, o5⟩ := h
 unfold HasP
 unfold I64 eOk key at *
 omega
theorem join_ok {a b c d e f g h : Int} (hb : I64 b) (hd : I64 d) (hf : I64 f) (hh : I64 h) (h1 : RnOk a b c d) (h2 : RnOk e f g h) : RnOk (mnI a b e f) (mnD a b e f) (mxI c d g h) (mxD c d g h) := by
 have k1 := mn_key (i := a) (j := e) hb hf
 have k2 := mx_key (i := c) (j := g) hd hh
 refine ⟨mn_ok h1.1 h2.1, mx_ok h1.2.1 h2.2.1, ?_, ?_, ?_⟩
 · have := h1.2.2.1; have := h2.2.2.1; unfold mnI; split <;> assumption
 · have := h1.2.2.2.1; have := h2.2.2.2.1; unfold mxI; split <;> assumption
 · rw [k1, k2]
   have := h1.2.2.2.2
   have := h2.2.2.2.2
   omega
theorem join_has {a b c d e f g h day : Int} (hb : I64 b) (hd : I64 d) (hf : I64 f) (hh : I64 h) (t : Tch a b c d e f g h) :
  Wi 0 day 0 day (mnI a b e f) (mnD a b e f) (mxI c d g h) (mxD c d g h) ↔ Wi 0 day 0 day a b c d ∨ Wi 0 day 0 day e f g h := by
 obtain ⟨h1, h2, h3, h4⟩ := t
 rw [wi_day (join_ok hb hd hf hh h1 h2), wi_day h1, wi_day h2, mn_key hb hf, mx_key hd hh]
 have := h1.2.2.2.2
 have := h2.2.2.2.2
 omega
theorem common_has {a b c d e f g h day : Int} (hb : I64 b) (hd : I64 d) (hf : I64 f) (hh : I64 h) (t : Meet a b c d e f g h) :
  Wi 0 day 0 day (mxI a b e f) (mxD a b e f) (mnI c d g h) (mnD c d g h) ↔ Wi 0 day 0 day a b c d ∧ Wi 0 day 0 day e f g h := by
 obtain ⟨h1, h2, h3, h4⟩ := t
 rw [wi_day ((common_ok hb hd hf hh h1 h2).2 ⟨h1, h2, h3, h4⟩), wi_day h1, wi_day h2, mx_key hb hf, mn_key hd hh]
 omega
theorem tch_swap (a b c d e f g h : Int) : Tch e f g h a b c d ↔ Tch a b c d e f g h := by
 unfold Tch
 constructor <;> rintro ⟨x, y, z, u⟩ <;> exact ⟨y, x, u, z⟩
theorem meet_swap (a b c d e f g h : Int) : Meet e f g h a b c d ↔ Meet a b c d e f g h := by
 unfold Meet
 constructor <;> rintro ⟨x, y, z, u⟩ <;> exact ⟨y, x, u, z⟩
theorem meet_tch {a b c d e f g h : Int} (k : Meet a b c d e f g h) : Tch a b c d e f g h := ⟨k.1, k.2.1, by have := k.2.2.1; omega, by have := k.2.2.2; omega⟩
theorem runsPairs_true (a b c d e f g h day : Int) (w : World) (hb : I64 b) (hd : I64 d) (hf : I64 f) (hh : I64 h) (hy : I64 day) (hE : EnvR w) :
   Calls Tryd.prog 5 #[.agg #[.int .i8 a, .int .i64 b, .int .i8 c, .int .i64 d], .agg #[.int .i8 e, .int .i64 f, .int .i8 g, .int .i64 h], .int .i64 day] w fun ro w' => ro = .returned (.bool true) ∧ Dn w w' := by
 have HCa := Lib.hid (rfChk a b c d)
 have HCb := Lib.hid (rfChk e f g h)
 have HKa := Lib.hid (rnChk a b c d)
 have HKb := Lib.hid (rnChk e f g h)
 have HP1 := Lib.hid (fun W => rnCmp a b c d e f g h W)
 have HP3 := Lib.hid (fun W => rfCmp a b c d e f g h W)
 have HP2 := Lib.hid (fun W => rnCmp e f g h a b c d W)
 rw [eC_swap a b e f, eC_swap c d g h, or2_swap] at HP2
 have hm : IntKind.i64.wrap (-or2 (eC a b e f) (eC c d g h)) = -or2 (eC a b e f) (eC c d g h) := IntWalk.i64_in _ (by have := or2_bnd _ _ (eC_bnd a b e f) (eC_bnd c d g h); omega)
 generalize or2 (eC a b e f) (eC c d g h) = m at *
 have HT1 := Lib.hid (fun W => rnTouch a b c d e f g h W hb hd hf hh)
 have HT2 := Lib.hid (fun W => rnTouch e f g h a b c d W hf hh hb hd)
 rw [decide_eq_decide.2 (tch_swap a b c d e f g h)] at HT2
 have HRJ := Lib.hid (fun W => rfJoin a b c d e f g h W)
 have HRC := Lib.hid (fun W => rfCommon a b c d e f g h W)
 have HW := Lib.hid (fun W => rnWithin a b c d e f g h W hb hd hf hh)
 have HHa := Lib.hid (fun W => rnHas a b c d day W hb hd hy)
 have HHb := Lib.hid (fun W => rnHas e f g h day W hf hh hy)
 have j1 := mn_swap a b e f
 have j2 := mx_swap c d g h
 have j3 := mx_swap a b e f
 have j4 := mn_swap c d g h
 have ex := rnErr_ok (a := a) (c := c) hb hd
 have ey := rnErr_ok (a := e) (c := g) hf hh
 have ix := rnErr_nn a b c d
 have iy := rnErr_nn e f g h
 by_cases ok : RnOk a b c d ∧ RnOk e f g h
 · obtain ⟨o1, o2⟩ := ok
   rw [ex.2 o1] at HCa HKa
   rw [ey.2 o2] at HCb HKb
   have HRT := Lib.hid (fun W => rfTouch a b c d e f g h W hb hd hf hh o1 o2)
   have HRO := Lib.hid (fun W => rfMeet a b c d e f g h W hb hd hf hh o1 o2)
   have HRW := Lib.hid (fun W => rfWithin a b c d e f g h W hb hd hf hh o1 o2)
   have HRH := Lib.hid (fun W => rfHas a b c d day W)
   rw [← decide_eq_decide.2 (wi_has hb hd hy o1)] at HRH
   by_cases t : Tch a b c d e f g h
   · rw [decide_eq_true t] at HT1 HT2 HRT
     have HJ1 := Lib.hid (fun W => rnJoin a b c d e f g h _ _ _ _ _ W hb hd hf hh (Or.inl ⟨t, rfl, rfl, rfl, rfl, rfl⟩))
     have HJ2 := Lib.hid (fun W => rnJoin e f g h a b c d _ _ _ _ _ W hf hh hb hd (Or.inl ⟨(tch_swap a b c d e f g h).2 t, rfl, j1.1, j1.2, j2.1, j2.2⟩))
     have HHr := Lib.hid (fun W r => rnHas_at (mnI a b e f) (mnD a b e f) (mxI c d g h) (mxD c d g h) day r W (mn_i64 hb hf) (mx_i64 hd hh) hy)
     have jh := join_has (day := day) hb hd hf hh t
     by_cases k : Meet a b c d e f g h
     · rw [decide_eq_true k] at HRO
       have HM1 := Lib.hid (fun W => rnCommon a b c d e f g h _ _ _ _ _ W hb hd hf hh (Or.inl ⟨k, rfl, rfl, rfl, rfl, rfl⟩))
       have HM2 := Lib.hid (fun W => rnCommon e f g h a b c d _ _ _ _ _ W hf hh hb hd (Or.inl ⟨(meet_swap a b c d e f g h).2 k, rfl, j3.1, j3.2, j4.1, j4.2⟩))
       have HHt := Lib.hid (fun W r => rnHas_at (mxI a b e f) (mxD a b e f) (mnI c d g h) (mnD c d g h) day r W (mx_i64 hb hf) (mn_i64 hd hh) hy)
       have ch := common_has (day := day) hb hd hf hh k
       by_cases p : Wi 0 day 0 day a b c d
       · rw [decide_eq_true p] at HHa HRH
         by_cases q : Wi 0 day 0 day e f g h
         · rw [decide_eq_true q] at HHb
           exact prs_t1111 a b c d e f g h day m _ _ _ _ _ _ _ _ _ true hm HCa HCb HKa HKb HP1 HP2 HP3 HT1 HT2 HJ1 HJ2 HM1 HM2 HRJ HRC HW HHa HHb (Lib.hid fun W => HHr.out W true (decide_eq_true (jh.2 (Or.inl p)))) (Lib.hid fun W => HHt.out W true (decide_eq_true (ch.2 ⟨p, q⟩))) HRT HRO HRW HRH w hE
         · rw [decide_eq_false q] at HHb
           exact prs_t1110 a b c d e f g h day m _ _ _ _ _ _ _ _ _ true hm HCa HCb HKa HKb HP1 HP2 HP3 HT1 HT2 HJ1 HJ2 HM1 HM2 HRJ HRC HW HHa HHb (Lib.hid fun W => HHr.out W true (decide_eq_true (jh.2 (Or.inl p)))) (Lib.hid fun W => HHt.out W false (decide_eq_false (fun hc => q (ch.1 hc).2))) HRT HRO HRW HRH w hE
       · rw [decide_eq_false p] at HHa HRH
         by_cases q : Wi 0 day 0 day e f g h
         · rw [decide_eq_true q] at HHb
           exact prs_t1101 a b c d e f g h day m _ _ _ _ _ _ _ _ _ true hm HCa HCb HKa HKb HP1 HP2 HP3 HT1 HT2 HJ1 HJ2 HM1 HM2 HRJ HRC HW HHa HHb (Lib.hid fun W => HHr.out W true (decide_eq_true (jh.2 (Or.inr q)))) (Lib.hid fun W => HHt.out W false (decide_eq_false (fun hc => p (ch.1 hc).1))) HRT HRO HRW HRH w hE
         · rw [decide_eq_false q] at HHb
           exact prs_t1100 a b c d e f g h day m _ _ _ _ _ _ _ _ _ true hm HCa HCb HKa HKb HP1 HP2 HP3 HT1 HT2 HJ1 HJ2 HM1 HM2 HRJ HRC HW HHa HHb (Lib.hid fun W => HHr.out W false (decide_eq_false (fun hc => (jh.1 hc).elim p q))) (Lib.hid fun W => HHt.out W false (decide_eq_false (fun hc => p (ch.1 hc).1))) HRT HRO HRW HRH w hE
     · rw [decide_eq_false k] at HRO
       have HM1 := Lib.hid (fun W => rnCommon a b c d e f g h _ _ _ _ _ W hb hd hf hh (Or.inr ⟨k, rfl, rfl, rfl, rfl, rfl⟩))
       have HM2 := Lib.hid (fun W => rnCommon e f g h a b c d _ _ _ _ _ W hf hh hb hd (Or.inr ⟨fun hc => k ((meet_swap a b c d e f g h).1 hc), rfl, rfl, rfl, rfl, rfl⟩))
       have nb : ¬ (Wi 0 day 0 day a b c d ∧ Wi 0 day 0 day e f g h) := fun ⟨x, y⟩ => k ⟨o1, o2, by have := (wi_day o1).1 x; have := (wi_day o2).1 y; omega, by have := (wi_day o1).1 x; have := (wi_day o2).1 y; omega⟩
       by_cases p : Wi 0 day 0 day a b c d
       · have q : ¬ Wi 0 day 0 day e f g h := fun q => nb ⟨p, q⟩
         rw [decide_eq_true p] at HHa HRH
         rw [decide_eq_false q] at HHb
         exact prs_t1010 a b c d e f g h day m _ _ _ _ _ _ _ _ _ true hm HCa HCb HKa HKb HP1 HP2 HP3 HT1 HT2 HJ1 HJ2 HM1 HM2 HRJ HRC HW HHa HHb (Lib.hid fun W => HHr.out W true (decide_eq_true (jh.2 (Or.inl p)))) HRT HRO HRW HRH w hE
       · rw [decide_eq_false p] at HHa HRH
         by_cases q : Wi 0 day 0 day e f g h
         · rw [decide_eq_true q] at HHb
           exact prs_t1001 a b c d e f g h day m _ _ _ _ _ _ _ _ _ true hm HCa HCb HKa HKb HP1 HP2 HP3 HT1 HT2 HJ1 HJ2 HM1 HM2 HRJ HRC HW HHa HHb (Lib.hid fun W => HHr.out W true (decide_eq_true (jh.2 (Or.inr q)))) HRT HRO HRW HRH w hE
         · rw [decide_eq_false q] at HHb
           exact prs_t1000 a b c d e f g h day m _ _ _ _ _ _ _ _ _ true hm HCa HCb HKa HKb HP1 HP2 HP3 HT1 HT2 HJ1 HJ2 HM1 HM2 HRJ HRC HW HHa HHb (Lib.hid fun W => HHr.out W false (decide_eq_false (fun hc => (jh.1 hc).elim p q))) HRT HRO HRW HRH w hE
   · have k : ¬ Meet a b c d e f g h := fun k => t (meet_tch k)
     rw [decide_eq_false t] at HT1 HT2 HRT
     rw [decide_eq_false k] at HRO
     have HJ1 := Lib.hid (fun W => rnJoin a b c d e f g h _ _ _ _ _ W hb hd hf hh (Or.inr ⟨t, rfl, rfl, rfl, rfl, rfl⟩))
     have HJ2 := Lib.hid (fun W => rnJoin e f g h a b c d _ _ _ _ _ W hf hh hb hd (Or.inr ⟨fun hc => t ((tch_swap a b c d e f g h).1 hc), rfl, rfl, rfl, rfl, rfl⟩))
     have HM1 := Lib.hid (fun W => rnCommon a b c d e f g h _ _ _ _ _ W hb hd hf hh (Or.inr ⟨k, rfl, rfl, rfl, rfl, rfl⟩))
     have HM2 := Lib.hid (fun W => rnCommon e f g h a b c d _ _ _ _ _ W hf hh hb hd (Or.inr ⟨fun hc => k ((meet_swap a b c d e f g h).1 hc), rfl, rfl, rfl, rfl, rfl⟩))
     have nb : ¬ (Wi 0 day 0 day a b c d ∧ Wi 0 day 0 day e f g h) := fun ⟨x, y⟩ => k ⟨o1, o2, by have := (wi_day o1).1 x; have := (wi_day o2).1 y; omega, by have := (wi_day o1).1 x; have := (wi_day o2).1 y; omega⟩
     by_cases p : Wi 0 day 0 day a b c d
     · have q : ¬ Wi 0 day 0 day e f g h := fun q => nb ⟨p, q⟩
       rw [decide_eq_true p] at HHa HRH
       rw [decide_eq_false q] at HHb
       exact prs_t0010 a b c d e f g h day m _ _ _ _ _ _ _ _ _ true hm HCa HCb HKa HKb HP1 HP2 HP3 HT1 HT2 HJ1 HJ2 HM1 HM2 HRJ HRC HW HHa HHb HRT HRO HRW HRH w hE
     · rw [decide_eq_false p] at HHa HRH
       by_cases q : Wi 0 day 0 day e f g h
       · rw [decide_eq_true q] at HHb
         exact prs_t0001 a b c d e f g h day m _ _ _ _ _ _ _ _ _ true hm HCa HCb HKa HKb HP1 HP2 HP3 HT1 HT2 HJ1 HJ2 HM1 HM2 HRJ HRC HW HHa HHb HRT HRO HRW HRH w hE
       · rw [decide_eq_false q] at HHb
         exact prs_t0000 a b c d e f g h day m _ _ _ _ _ _ _ _ _ true hm HCa HCb HKa HKb HP1 HP2 HP3 HT1 HT2 HJ1 HJ2 HM1 HM2 HRJ HRC HW HHa HHb HRT HRO HRW HRH w hE
 · have t : ¬ Tch a b c d e f g h := fun k => ok ⟨k.1, k.2.1⟩
   have k : ¬ Meet a b c d e f g h := fun k => ok ⟨k.1, k.2.1⟩
   rw [decide_eq_false t] at HT1 HT2
   rw [decide_eq_false (fun k : Wi a b c d e f g h => ok ⟨k.1, k.2.1⟩)] at HW
   have HJ1 := Lib.hid (fun W => rnJoin a b c d e f g h _ _ _ _ _ W hb hd hf hh (Or.inr ⟨t, rfl, rfl, rfl, rfl, rfl⟩))
   have HJ2 := Lib.hid (fun W => rnJoin e f g h a b c d _ _ _ _ _ W hf hh hb hd (Or.inr ⟨fun hc => t ((tch_swap a b c d e f g h).1 hc), rfl, rfl, rfl, rfl, rfl⟩))
   have HM1 := Lib.hid (fun W => rnCommon a b c d e f g h _ _ _ _ _ W hb hd hf hh (Or.inr ⟨k, rfl, rfl, rfl, rfl, rfl⟩))
   have HM2 := Lib.hid (fun W => rnCommon e f g h a b c d _ _ _ _ _ W hf hh hb hd (Or.inr ⟨fun hc => k ((meet_swap a b c d e f g h).1 hc), rfl, rfl, rfl, rfl, rfl⟩))
   by_cases hx : rnErr a b c d = 0
   · have hyy : rnErr e f g h ≠ 0 := fun hc => ok ⟨ex.1 hx, ey.1 hc⟩
     rw [hx] at HCa HKa
     have HRH := Lib.hid (fun W => rfHas a b c d day W)
     rw [← decide_eq_decide.2 (wi_has hb hd hy (ex.1 hx))] at HRH
     exact prs_n2 a b c d e f g h day m _ _ _ _ _ _ _ _ false _ 0 _ hm (IntWalk.i64_in _ (by omega)) hyy HCa HCb HKa HKb HP1 HP2 HP3 HT1 HT2 HJ1 HJ2 HM1 HM2 HRJ HRC HW HHa HRH w hE
   · rw [decide_eq_false (fun k : Wi 0 day 0 day a b c d => hx (ex.2 k.2.1))] at HHa
     exact prs_n1 a b c d e f g h day m _ _ _ _ _ _ _ _ false true _ _ hm (IntWalk.i64_in _ (by omega)) hx (by omega) HCa HCb HKa HKb HP1 HP2 HP3 HT1 HT2 HJ1 HJ2 HM1 HM2 HRJ HRC HW HHa w hE
open Go.ChangeShapes Go.WideShapes Go.ChangeAt Go.RowKit Go.Joins Go.Deep
variable {H : Type} {enc : TypeId × Value → H} {P : Program} {W : World} {r : Reach} {b0 : Nat} {t e : TypeId} {v : Value} {d : DataW H} {p : List MemPlace} {sp : Nat → Bool} {hd : Bool} {base : Nat}
theorem open_i64 (ht : P.underlying t = some (.int .i64)) (hv : Value.okWide P W r b0 t v) (h : DataW.Trod enc P W base sp hd t v d p) : ∃ a, v = .int .i64 a ∧ I64 a := by
 obtain ⟨a, rfl, _, _, w⟩ := open_int ht hv h
 exact ⟨a, rfl, i64_of_wf w⟩
theorem cell_i64 {n : Nat} {c : Value} {y : DataW H × List MemPlace} (he : P.underlying e = some (.int .i64)) (h : DataW.trod enc P W base sp hd n e [c] = some y) : ∃ a, c = .int .i64 a ∧ I64 a := by
 obtain ⟨a, ha, _, w⟩ := DataW.trod_int he h
 simp at ha
 exact ⟨a, ha, i64_of_wf w⟩
open Go.ChangeShapes Go.WideShapes Go.ChangeAt Go.RowKit Go.Joins Go.Deep
variable {H : Type} {enc : TypeId × Value → H} {P : Program} {W : World} {r : Reach} {b0 : Nat} {t e : TypeId} {v : Value} {d : DataW H} {p : List MemPlace} {sp : Nat → Bool} {hd : Bool} {base : Nat}
theorem cell_i8 {n : Nat} {c : Value} {y : DataW H × List MemPlace} (he : P.underlying e = some (.int .i8)) (h : DataW.trod enc P W base sp hd n e [c] = some y) : ∃ a, c = .int .i8 a := by
 obtain ⟨a, ha, _, _⟩ := DataW.trod_int he h
 simp at ha
 exact ⟨a, ha⟩
theorem end_cells {n : Nat} {g0 g1 : Field} {c0 c1 : Value} {y : DataW H × List MemPlace} (ht : P.underlying e = some (.struct #[g0, g1])) (o0 : g0.offset = 0) (o1 : g1.offset = 1) (k0 : P.cellsOf g0.type = 1) (k1 : P.cellsOf g1.type = 1)
   (h0 : P.underlying g0.type = some (.int .i8)) (h1 : P.underlying g1.type = some (.int .i64)) (h : DataW.trod enc P W base sp hd n e [c0, c1] = some y) :
   ∃ i a, c0 = .int .i8 i ∧ c1 = .int .i64 a ∧ I64 a := by
 obtain ⟨xs, m, _, _, _, hl, hel⟩ := DataW.trod_struct ht h
 match xs, hl with
 | [y0, y1], _ =>
   have z0 := hel 0 g0 rfl
   have z1 := hel 1 g1 rfl
   rw [o0, k0] at z0
   rw [o1, k1] at z1
   simp at z0 z1
   obtain ⟨i, rfl⟩ := cell_i8 h0 z0
   obtain ⟨a, rfl, ha⟩ := cell_i64 h1 z1
   exact ⟨i, a, rfl, rfl, ha⟩
theorem open_run {f0 f1 g0 g1 q0 q1 : Field} (ht : P.underlying t = some (.struct #[f0, f1])) (hct : P.cellsOf t = 4) (o0 : f0.offset = 0) (o1 : f1.offset = 2) (k0 : P.cellsOf f0.type = 2) (k1 : P.cellsOf f1.type = 2)
   (he0 : P.underlying f0.type = some (.struct #[g0, g1])) (a0 : g0.offset = 0) (a1 : g1.offset = 1) (b0 : P.cellsOf g0.type = 1) (b1 : P.cellsOf g1.type = 1) (h0 : P.underlying g0.type = some (.int .i8)) (h1 : P.underlying g1.type = some (.int .i64))
   (he1 : P.underlying f1.type = some (.struct #[q0, q1])) (a2 : q0.offset = 0) (a3 : q1.offset = 1) (b2 : P.cellsOf q0.type = 1) (b3 : P.cellsOf q1.type = 1) (h2 : P.underlying q0.type = some (.int .i8)) (h3 : P.underlying q1.type = some (.int .i64))
   {bb : Nat} (hv : Value.okWide P W r bb t v) (h : DataW.Trod enc P W base sp hd t v d p) :
   ∃ i a j b, v = .agg #[.int .i8 i, .int .i64 a, .int .i8 j, .int .i64 b] ∧ I64 a ∧ I64 b := by
 obtain ⟨cs, rfl, hsz⟩ := okWide_struct ht hv
 obtain ⟨c0, c1, c2, c3, rfl⟩ := array4 (hsz.trans hct)
 obtain ⟨fuel, hf⟩ := h
 obtain ⟨xs, m, _, _, _, hl, hel⟩ := DataW.trod_struct ht hf
 match xs, hl with
 | [y0, y1], _ =>
   have z0 := hel 0 f0 rfl
   have z1 := hel 1 f1 rfl
   rw [o0, k0] at z0
   rw [o1, k1] at z1
   simp [Value.cells] at z0 z1
   obtain ⟨i, a, rfl, rfl, ha⟩ := end_cells he0 a0 a1 b0 b1 h0 h1 z0
   obtain ⟨j, b, rfl, rfl, hb⟩ := end_cells he1 a2 a3 b2 b3 h2 h3 z1
   exact ⟨i, a, j, b, rfl, ha, hb⟩
open Go.ChangeShapes Go.WideShapes Go.ChangeAt Go.RowKit
theorem gTab : Tryd.prog.globalNamed "internal/strconv.uint64pow10" = some 3 := by kernel_rfl
theorem tTab : (Tryd.prog.globals[3]?).map (·.type) = some 150 := by kernel_rfl
theorem gErr : Tryd.prog.globalNamed "strconv.ErrRange" = some 2 := by kernel_rfl
theorem tErr : (Tryd.prog.globals[2]?).map (·.type) = some 121 := by kernel_rfl
theorem cU64 : Tryd.prog.cellsOf 119 = 1 := by kernel_rfl
theorem cTab : Tryd.prog.cellsOf 150 = 20 := by kernel_rfl
theorem iface_cells {P : Program} {W : World} {t : TypeId} {ms : Array (String × TypeId)} {sp : Nat → Bool} {fuel : Nat} {cs : List Value} {nm : String} {d : DataW Unit} {pl : List MemPlace}
   (ht : P.underlying t = some (.interface ms)) (h : DataW.trod (fun _ => ()) P W 0 sp false fuel t cs = some (.iface nm d, pl)) : ∃ u v, cs = [.iface u v] := by
 cases fuel with
 | zero => simp [DataW.trod] at h
 | succ fuel =>
   unfold DataW.trod at h
   rw [ht] at h
   split at h <;> simp_all
theorem envI_of_laid {W : World} {rest : List (String × DataW Unit)} (hp : (("math/bits.deBruijn32tab", Rows.laid_math_bits_deBruijn32tab) :: ("math/bits.deBruijn64tab", Rows.laid_math_bits_deBruijn64tab) :: ("internal/strconv.uint64pow10", Rows.laid_internal_strconv_uint64pow10) :: ("strconv.ErrRange", Rows.laid_strconv_ErrRange) :: rest : List (String × DataW Unit)).all (fun x => x.2.handleName?.isNone) = true)
   (h : laidMetH Tryd.prog (("math/bits.deBruijn32tab", Rows.laid_math_bits_deBruijn32tab) :: ("math/bits.deBruijn64tab", Rows.laid_math_bits_deBruijn64tab) :: ("internal/strconv.uint64pow10", Rows.laid_internal_strconv_uint64pow10) :: ("strconv.ErrRange", Rows.laid_strconv_ErrRange) :: rest) W) : EnvI W := by
 rw [MakeChecks.laidMetH_plain _ _ _ hp] at h
 obtain ⟨ps, hl, _⟩ := h
 obtain ⟨g, t, cs, fuel, p, q, _, _, _, _, h2, _⟩ := hl
 obtain ⟨g, t, cs, fuel, p, q, _, _, _, _, h3, _⟩ := h2
 obtain ⟨g, t, cs, fuel, p, q, hg, ht, hv, hd, h4, _⟩ := h3
 obtain rfl := Option.some.inj (gTab.symm.trans hg)
 obtain rfl := Option.some.inj (tTab.symm.trans ht)
 refine ⟨?_, ?_⟩
 · have hd' : DataW.trod (fun _ => ()) Tryd.prog W 0 (fun _ => true) false fuel 150 cs.toList = some (Lib.tabData .u64 Lib.pow10Tab, p) := hd
   have e := Lib.cells_of_tab Tryd.underlying150 Tryd.underlying119 cU64 cTab hd'
   unfold Lib.TabIs
   rw [hv, ← e]
 · obtain ⟨g, t, cs, fuel, p, q, hg, ht, hv, hd, _, _⟩ := h4
   obtain rfl := Option.some.inj (gErr.symm.trans hg)
   obtain rfl := Option.some.inj (tErr.symm.trans ht)
   obtain ⟨u, v, e⟩ := iface_cells Tryd.underlying121 hd
   refine ⟨u, v, ?_⟩
   rw [hv]
   congr 1
   apply Array.ext'
   exact e
open Go.ChangeShapes Go.WideShapes Go.ChangeAt Go.RowKit
theorem envR_of_laid {W : World} {rest : List (String × DataW Unit)} (hp : (("math/bits.deBruijn32tab", Rows.laid_math_bits_deBruijn32tab) :: ("math/bits.deBruijn64tab", Rows.laid_math_bits_deBruijn64tab) :: ("internal/strconv.uint64pow10", Rows.laid_internal_strconv_uint64pow10) :: ("strconv.ErrRange", Rows.laid_strconv_ErrRange) :: rest : List (String × DataW Unit)).all (fun x => x.2.handleName?.isNone) = true)
  (h : laidMetH Tryd.prog (("math/bits.deBruijn32tab", Rows.laid_math_bits_deBruijn32tab) :: ("math/bits.deBruijn64tab", Rows.laid_math_bits_deBruijn64tab) :: ("internal/strconv.uint64pow10", Rows.laid_internal_strconv_uint64pow10) :: ("strconv.ErrRange", Rows.laid_strconv_ErrRange) :: rest) W) (hs : W.ShapedOpen Tryd.prog) : EnvR W :=
 ⟨envI_of_laid hp h, cell_of_shapedOpen_int (t := 3) (zero := #[.int .i64 0]) hs (by decide +kernel) (by kernel_rfl) rfl (by kernel_rfl) (by kernel_rfl) Tryd.underlying3⟩
theorem handed_shaped {H : Type} {enc : TypeId × Value → H} {a : Assume} {C : Checked} {os : Os} {f : FuncId} {fn : Func} {s : ChangeSpec} {conds : List PathCond} {apart fresh handsOn again : Bool} {X : World → Array Value → Prop}
  (hX : ∀ (w w' : World) (args : Array Value), w.heap = w'.heap → X w args → X w' args)
  (own : ownKnob C.prog.godebug = none) (started : os.Started) (noInit : C.prog.inits.idxOf? f = none) (hfn : C.prog.funcs[f]? = some fn)
  (witness : ∃ (w : World) (tape : Tape) (i : Input), w.os = os ∧ (w.forCall tape i).Shaped C.prog ∧ i.vars = [] ∧ Input.okWide C.prog (w.forCall tape i) .any w.heap.size f i ∧
   ((s.pre enc C.prog fn conds apart (w.forCall tape i).memory i.args ∧ X (w.forCall tape i).memory i.args) ∧ sizedMet enc C.prog fn (OpenSpec.ofChange s) apart (w.forCall tape i).memory i.args) ∧ a.holds C.prog (lone (Frame.enter C.prog f i.args .normal) [] (w.forCall tape i)))
  (contract : ∀ (W : World) (base : Nat) (args : Array Value) (ds gs : List (DataW H)) (before : List MemPlace), W.ShapedOpen C.prog →
   (∀ (j : Nat) t v, fn.params[j]? = some t → args[j]? = some v → Value.okWide C.prog W .any base t v) →
   DataW.Whole enc C.prog fn.params.toList s.vars apart W args.toList ds gs before →
   conds.all (PathCond.test C.prog ⟨fn.params.toList, ds, s.plain.varTypes C.prog, gs⟩) = true →
   (DataW.weightsEach C.prog (fn.params.toList ++ s.plain.varTypes C.prog) (ds ++ gs)).all (· ≤ reachBytes) = true → X W args →
   a.holds C.prog (lone (Frame.enter C.prog f args .normal) [] W) →
   Calls C.prog f args W fun e W' => ∃ v, e = .returned v ∧ s.post enc C.prog fn apart fresh handsOn again W args v W') :
  ReturnsInHanded a C os f .any (fun w args => (s.pre enc C.prog fn conds apart w args ∧ X w args) ∧ sizedMet enc C.prog fn (OpenSpec.ofChange s) apart w args) (s.post enc C.prog fn apart fresh handsOn again) := by
 refine returnsInHanded_of_calls own started noInit witness fun w tape i _ hsh _ hok hpre hholds => ?_
 obtain ⟨_, _, _, fn', hfn', _, _, _, _, hval⟩ := hok
 obtain rfl : fn' = fn := Option.some.inj (hfn'.symm.trans hfn)
 obtain ⟨⟨⟨ds, gs, before, hw, hc⟩, hx⟩, hz⟩ := hpre
 refine (contract _ w.heap.size i.args ds gs before hsh hval (DataW.Whole.of_heap (w' := w.forCall tape i) (by rfl) hw) hc (hz.weights hw) (hX _ _ _ (by rfl) hx) hholds).mono fun e W' ⟨v, he, hp⟩ => ?_
 subst he
 exact ChangeSpec.post_blind hp
end Go.Proofs.YtcdkeiolblifkaaDoor
