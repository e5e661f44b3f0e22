/- Walks and laws that the claim's theorem leans on: part 12. -/
import Derived.Test.YtoghoddjkdoohaaGreatDoorZKn1
import Derived.Test.YtoghoddjkdoohaaGreatDoorZKn9
import Derived.Test.YtoghoddjkdoohaaGreatDoorZKn11
namespace Go.Proofs.YtoghoddjkdoohaaGreatDoor
set_option maxHeartbeats 4000000
set_option maxRecDepth 100000
open Go.RowKit
set_option linter.unusedVariables false
set_option linter.unusedSimpArgs false
theorem rsCheck (p : Option Addr) (cap : Nat) (L : List Rq) (w : World) (hl : L.length <= 1000000) (hI : I6 L) (hR : Row w p L) :
   Calls Tryz.prog 14 #[.slice p L.length cap] w fun ro w' => ro = .returned (.int .i64 (chkL L)) /\ Dn w w' := by
 have HI := Lib.hid hI
 clear hI
 by_cases h4 : 4096 < L.length
 · have d0 : decide ((L.length : Int) > 4096) = true := by simp; omega
   have e0 : chkL L = 3 := by unfold chkL; rw [if_pos h4]
   rw [e0]; go_enter Tryz.func14, Tryz.ntmps14; go_wp2_with fail; go_ret; exact ⟨rfl, Dn.refl _⟩
 have d0 : decide ((L.length : Int) > 4096) = false := by simp; omega
 have e0 : chkL L = chkFrom (prv L 0) (L.drop 0) := by unfold chkL; rw [if_neg h4]; rfl
 rw [e0]
 have HE := Lib.hid e0
 clear e0
 go_enter Tryz.func14, Tryz.ntmps14
 go_wp2_with fail
 go_loopw [2, 11] (fun rv i wr => rv = .int .i64 0 /\ ∃ k : Nat, k <= L.length /\ i = .int .i64 k /\ chkFrom (prv L 0) (L.drop 0) = chkFrom (prv L k) (L.drop k) /\ OkTo L k /\ Row wr p L /\ Dn w wr) (fun _ i _ => L.length - (intOf i).toNat)
 case atStart => exact ⟨rfl, 0, by omega, rfl, rfl, OkTo.zero _, hR, Dn.refl _⟩
 case round =>
   obtain ⟨rfl, k, hk, rfl, he, hok, hr, hu⟩ := hrel; have HOK := Lib.hid hok; clear hok; have HF := Lib.hid he; clear he
   by_cases hlt : k < L.length
   · have d1 : decide ((k : Int) < L.length) = true := by simp; omega
     obtain ⟨x, hx⟩ : ∃ x, L[k]? = some x := ⟨L[k], by simp [hlt]⟩; obtain ⟨g, o, rfl, hc⟩ := hr.cs (by omega); clear hr; have HX := Lib.hid hx; have hA : Hid (ChkIs x.a x.b x.c x.d (rnErr x.a x.b x.c x.d)) := Lib.hid (rnChk x.a x.b x.c x.d); obtain ⟨a0, a1, a2, a3⟩ := hc.el _ _ hx; clear hx
     by_cases hb : rnErr x.a x.b x.c x.d = 0
     rotate_left
     · have cb : (rnErr x.a x.b x.c x.d != 0) = true := by simpa using hb
       have HB := Lib.hid hb; clear hb; go_wp2_with fail; clear a0 a1 a2 a3; obtain ⟨W1, hW1⟩ : ∃ W1, W1 = wr.alloc (.cells #[.int .i8 x.a, .int .i64 x.b, .int .i8 x.c, .int .i64 x.d] 45) := ⟨_, rfl⟩; have uW1 : Dn wr W1 := (by rw [hW1]; exact (Dn.refl _).alloc _); replace hc := hc.dn uW1; have c2 : W1.cell? ⟨wr.heap.size, 0, none⟩ = some (.int .i8 x.a) := (by rw [hW1]; simp [go_sem]); have c3 : W1.cell? ⟨wr.heap.size, 1, none⟩ = some (.int .i64 x.b) := (by rw [hW1]; simp [go_sem]); have c4 : W1.cell? ⟨wr.heap.size, 2, none⟩ = some (.int .i8 x.c) := (by rw [hW1]; simp [go_sem]); have c5 : W1.cell? ⟨wr.heap.size, 3, none⟩ = some (.int .i64 x.d) := (by rw [hW1]; simp [go_sem]); have l6 : wr.heap.size < W1.heap.size := (by rw [hW1]; simp <;> omega); rw [<- hW1]; clear hW1; have vW1 := hu.trans uW1; clear uW1 hu; refine (hA.out _).mono ?_; rintro e w1 ⟨rfl, qw1⟩; replace hc := hc.dn qw1; have l7 := nlt l6 qw1.size; obtain ⟨c8, c9, a4, a5⟩ := mv4 qw1.cell c2 c3 c4 c5; clear l6 c2 c3 c4 c5; have uw1 := vW1.trans qw1; clear qw1 vW1; have HE2 := Lib.hid (HF.out.trans (chk_bad HX.out HB.out)); go_wp2_with fail; go_ret; exact ⟨ret1_i HE2.out.symm, uw1⟩
     · have HB := Lib.hid hb
       rw [hb] at hA; clear hb; rcases Nat.eq_zero_or_pos k with hk0' | hk0
       · have d2 : decide (0 < k) = false := by rw [decide_eq_false_iff_not]; omega
         have hk0 := Lib.hid hk0'; clear hk0'; go_wp2_with fail; clear a0 a1 a2 a3; obtain ⟨W1, hW1⟩ : ∃ W1, W1 = wr.alloc (.cells #[.int .i8 x.a, .int .i64 x.b, .int .i8 x.c, .int .i64 x.d] 45) := ⟨_, rfl⟩; have uW1 : Dn wr W1 := (by rw [hW1]; exact (Dn.refl _).alloc _); replace hc := hc.dn uW1; have c2 : W1.cell? ⟨wr.heap.size, 0, none⟩ = some (.int .i8 x.a) := (by rw [hW1]; simp [go_sem]); have c3 : W1.cell? ⟨wr.heap.size, 1, none⟩ = some (.int .i64 x.b) := (by rw [hW1]; simp [go_sem]); have c4 : W1.cell? ⟨wr.heap.size, 2, none⟩ = some (.int .i8 x.c) := (by rw [hW1]; simp [go_sem]); have c5 : W1.cell? ⟨wr.heap.size, 3, none⟩ = some (.int .i64 x.d) := (by rw [hW1]; simp [go_sem]); have l6 : wr.heap.size < W1.heap.size := (by rw [hW1]; simp <;> omega); rw [<- hW1]; clear hW1; have vW1 := hu.trans uW1; clear uW1 hu; refine (hA.out _).mono ?_; rintro e w1 ⟨rfl, qw1⟩; replace hc := hc.dn qw1; have l7 := nlt l6 qw1.size; obtain ⟨c8, c9, a4, a5⟩ := mv4 qw1.cell c2 c3 c4 c5; clear l6 c2 c3 c4 c5; have uw1 := vW1.trans qw1; clear qw1 vW1; go_wp2_with fail; have hS12 := kd_4 (W := w1) (Dn.refl _) ⟨Dn.refl _, c8, c9, a4, a5⟩; have HShS12 := Lib.hid hS12; clear c8 c9 a4 a5; refine wp_region_held_drew (S := fun w' => Dn w1 w' /\ w'.cell? ⟨wr.heap.size, 0, none⟩ = some (.int .i8 x.a) /\ w'.cell? ⟨wr.heap.size, 1, none⟩ = some (.int .i64 x.b) /\ w'.cell? ⟨wr.heap.size, 2, none⟩ = some (.int .i8 x.c) /\ w'.cell? ⟨wr.heap.size, 3, none⟩ = some (.int .i64 x.d)) (by kernel_rfl) ?_ (fun hHeld => ?_)
         · (try dsimp only); (exact ke kd_4)
         refine tS 0 rfl ?_; refine tS 1 rfl ?_; refine tS 2 rfl ?_; refine tV 3 rfl ?_; refine tV 4 rfl ?_; refine tV 5 rfl ?_; refine tV 6 rfl ?_; refine tV 7 rfl ?_; refine tV 8 rfl ?_; refine tV 9 rfl ?_; refine tV 10 rfl ?_; refine tV 11 rfl ?_; refine tV 12 rfl ?_; refine tV 13 rfl ?_; refine tV 14 rfl ?_; refine tV 15 rfl ?_; refine tV 16 rfl ?_; refine tV 17 rfl ?_; refine tV 18 rfl ?_; refine tV 19 rfl ?_; refine tS 20 rfl ?_; refine wpAnyH_done (by kernel_rfl) ?_ _
         all_goals skip
         all_goals
           clear hS12; obtain ⟨uf17, a6, a7, a8, a9⟩ := (‹Dn w1 _ /\ _› : _ /\ _); have aG := nlt l7 uf17.size; clear l7; replace hc := hc.dn uf17; have vuf17 := uw1.trans uf17; clear uf17 uw1 HShS12; go_wp2_with fail; go_roundw
           case rel => exact ⟨rfl, k + 1, by omega, by simp, by rw [HF.out]; exact chk_first HX.out hk0.out HB.out, HOK.out.step HX.out ((rq_err (HI.out.at HX.out).1 (HI.out.at HX.out).2).1 HB.out), hc.row, vuf17⟩
           case measure => simp [intOf]; omega
       · obtain ⟨m, rfl⟩ : ∃ m, k = m + 1 := ⟨k - 1, by omega⟩
         have d2 : decide (0 < (m : Int) + 1) = true := (by rw [decide_eq_true_iff]; omega); have hwm : IntKind.i64.wrap (m : Int) = m := IntWalk.i64_in _ (by omega); have hmL : (m : Int) < L.length := (by omega); obtain ⟨q, hq⟩ : ∃ q, L[m]? = some q := ⟨L[m], by simp [show m < L.length by omega]⟩; have HQ := Lib.hid hq; clear hq; have i1 := HI.out.at HX.out; have i2 := HI.out.at HQ.out; have hC := Lib.hid (fun W => rnCmp q.a q.b q.c q.d x.a x.b x.c x.d W); have hT := Lib.hid (fun W => rnTouch q.a q.b q.c q.d x.a x.b x.c x.d W i2.1 i2.2 i1.1 i1.2); have hL := Lib.hid (cmp_ltR i1 i2); have hti := Lib.hid (tch_iff i2 i1); have HXK : Hid x.ok := Lib.hid ((rq_err i1.1 i1.2).1 HB.out); have HQK : Hid q.ok := Lib.hid (HOK.out _ _ HQ.out (by omega)); have HI1 := Lib.hid i1; have HI2 := Lib.hid i2; clear i1 i2 hk0
         by_cases hcmp : 0 < or2 (eC q.a q.b x.a x.b) (eC q.c q.d x.c x.d)
         rotate_left
         by_cases htch : Tch q.a q.b q.c q.d x.a x.b x.c x.d
         · have d3 : decide (0 < or2 (eC q.a q.b x.a x.b) (eC q.c q.d x.c x.d)) = false := by simpa using hcmp
           have HO := Lib.hid (fun h => hcmp (hL.out.2 h)); have HTT := Lib.hid (hti.out.1 htch); rw [decide_eq_true htch] at hT; clear hcmp htch hL hti; generalize or2 (eC q.a q.b x.a x.b) (eC q.c q.d x.c x.d) = n at *; go_wp2_with fail; clear a0 a1 a2 a3; obtain ⟨W1, hW1⟩ : ∃ W1, W1 = wr.alloc (.cells #[.int .i8 x.a, .int .i64 x.b, .int .i8 x.c, .int .i64 x.d] 45) := ⟨_, rfl⟩; have uW1 : Dn wr W1 := (by rw [hW1]; exact (Dn.refl _).alloc _); replace hc := hc.dn uW1; have c2 : W1.cell? ⟨wr.heap.size, 0, none⟩ = some (.int .i8 x.a) := (by rw [hW1]; simp [go_sem]); have c3 : W1.cell? ⟨wr.heap.size, 1, none⟩ = some (.int .i64 x.b) := (by rw [hW1]; simp [go_sem]); have c4 : W1.cell? ⟨wr.heap.size, 2, none⟩ = some (.int .i8 x.c) := (by rw [hW1]; simp [go_sem]); have c5 : W1.cell? ⟨wr.heap.size, 3, none⟩ = some (.int .i64 x.d) := (by rw [hW1]; simp [go_sem]); have l6 : wr.heap.size < W1.heap.size := (by rw [hW1]; simp <;> omega); rw [<- hW1]; clear hW1; have vW1 := hu.trans uW1; clear uW1 hu; refine (hA.out _).mono ?_; rintro e w1 ⟨rfl, qw1⟩; replace hc := hc.dn qw1; have l7 := nlt l6 qw1.size; obtain ⟨c8, c9, a4, a5⟩ := mv4 qw1.cell c2 c3 c4 c5; clear l6 c2 c3 c4 c5; have uw1 := vW1.trans qw1; clear qw1 vW1; go_wp2_with fail; obtain ⟨b0, b1, b2, b3⟩ := hc.el _ _ HQ.out; have bl := hc.lt; have hS12 := kd_8 (W := w1) (Dn.refl _) ⟨Dn.refl _, c8, c9, a4, a5, b0, b1, b2, b3⟩; have HShS12 := Lib.hid hS12; clear c8 c9 a4 a5 b0 b1 b2 b3; refine wp_region_held_drew (S := fun w' => Dn w1 w' /\ w'.cell? ⟨wr.heap.size, 0, none⟩ = some (.int .i8 x.a) /\ w'.cell? ⟨wr.heap.size, 1, none⟩ = some (.int .i64 x.b) /\ w'.cell? ⟨wr.heap.size, 2, none⟩ = some (.int .i8 x.c) /\ w'.cell? ⟨wr.heap.size, 3, none⟩ = some (.int .i64 x.d) /\ w'.cell? ⟨g, o + m * 4, none⟩ = some (.int .i8 q.a) /\ w'.cell? ⟨g, o + m * 4 + 1, none⟩ = some (.int .i64 q.b) /\ w'.cell? ⟨g, o + m * 4 + 2, none⟩ = some (.int .i8 q.c) /\ w'.cell? ⟨g, o + m * 4 + 3, none⟩ = some (.int .i64 q.d)) (by kernel_rfl) ?_ (fun hHeld => ?_)
           · (try dsimp only); (exact ke kd_8)
           refine tS 0 rfl ?_; refine tS 1 rfl ?_; refine tS 2 rfl ?_; refine tS 3 rfl ?_; refine tS 4 rfl ?_; refine tS 5 rfl ?_; refine tS 6 rfl ?_; refine tS 7 rfl ?_; refine tS 8 rfl ?_; refine rD 9 rfl (fun K hK => ?_); go_simp
           (first | (go_at_call 43; refine (hC.out _).mono ?_; rintro e wa ⟨rfl, qa⟩) | (go_at_call 47; refine (hT.out _).mono ?_; rintro e wa ⟨rfl, qa⟩))
           try go_wp2_with fail
           refine hK.out _ _ ?_ (fun hHeld => ?_)
           · (try dsimp only); (exact ke kd_8)
           clear hK K
           try simp only [Act.put, pL]
           refine tS 10 rfl ?_; refine tS 11 rfl ?_; refine tS 12 rfl ?_; refine tS 13 rfl ?_; refine tS 14 rfl ?_; refine tS 15 rfl ?_; refine tS 16 rfl ?_; refine tS 17 rfl ?_; refine rD 18 rfl (fun K hK => ?_); go_simp
           (first | (go_at_call 43; refine (hC.out _).mono ?_; rintro e wa ⟨rfl, qa⟩) | (go_at_call 47; refine (hT.out _).mono ?_; rintro e wa ⟨rfl, qa⟩))
           try go_wp2_with fail
           refine hK.out _ _ ?_ (fun hHeld => ?_)
           · (try dsimp only); (exact ke kd_8)
           clear hK K
           try simp only [Act.put, pL]
           refine tS 19 rfl ?_; refine tS 20 rfl ?_; refine wpAnyH_done (by kernel_rfl) ?_ _
           all_goals skip
           all_goals
             clear hS12; obtain ⟨uf21, a6, a7, a8, a9, aA, aB, aC, aD⟩ := (‹Dn w1 _ /\ _› : _ /\ _); obtain ⟨w22, rfl⟩ : ∃ w22 : World, w22 = wa := ⟨_, rfl⟩; have aE := nlt l7 uf21.size; clear l7; have aF := nlt bl uf21.size; clear bl; replace hc := hc.dn uf21; have vuf21 := uw1.trans uf21; clear uf21 uw1 HShS12; have HE2 := Lib.hid (HF.out.trans (chk_order HX.out (by omega) HQ.out HB.out ((order_prog HQK.out HXK.out).1 (.inr HTT.out)))); go_wp2_with fail; go_ret; exact ⟨ret1_i HE2.out.symm, vuf21⟩
         · have d3 : decide (0 < or2 (eC q.a q.b x.a x.b) (eC q.c q.d x.c x.d)) = false := by simpa using hcmp
           have HO := Lib.hid (fun h => hcmp (hL.out.2 h)); have HTT := Lib.hid (fun h => htch (hti.out.2 h)); rw [decide_eq_false htch] at hT; clear hcmp htch hL hti; generalize or2 (eC q.a q.b x.a x.b) (eC q.c q.d x.c x.d) = n at *; go_wp2_with fail; clear a0 a1 a2 a3; obtain ⟨W1, hW1⟩ : ∃ W1, W1 = wr.alloc (.cells #[.int .i8 x.a, .int .i64 x.b, .int .i8 x.c, .int .i64 x.d] 45) := ⟨_, rfl⟩; have uW1 : Dn wr W1 := (by rw [hW1]; exact (Dn.refl _).alloc _); replace hc := hc.dn uW1; have c2 : W1.cell? ⟨wr.heap.size, 0, none⟩ = some (.int .i8 x.a) := (by rw [hW1]; simp [go_sem]); have c3 : W1.cell? ⟨wr.heap.size, 1, none⟩ = some (.int .i64 x.b) := (by rw [hW1]; simp [go_sem]); have c4 : W1.cell? ⟨wr.heap.size, 2, none⟩ = some (.int .i8 x.c) := (by rw [hW1]; simp [go_sem]); have c5 : W1.cell? ⟨wr.heap.size, 3, none⟩ = some (.int .i64 x.d) := (by rw [hW1]; simp [go_sem]); have l6 : wr.heap.size < W1.heap.size := (by rw [hW1]; simp <;> omega); rw [<- hW1]; clear hW1; have vW1 := hu.trans uW1; clear uW1 hu; refine (hA.out _).mono ?_; rintro e w1 ⟨rfl, qw1⟩; replace hc := hc.dn qw1; have l7 := nlt l6 qw1.size; obtain ⟨c8, c9, a4, a5⟩ := mv4 qw1.cell c2 c3 c4 c5; clear l6 c2 c3 c4 c5; have uw1 := vW1.trans qw1; clear qw1 vW1; go_wp2_with fail; obtain ⟨b0, b1, b2, b3⟩ := hc.el _ _ HQ.out; have bl := hc.lt; have hS12 := kd_8 (W := w1) (Dn.refl _) ⟨Dn.refl _, c8, c9, a4, a5, b0, b1, b2, b3⟩; have HShS12 := Lib.hid hS12; clear c8 c9 a4 a5 b0 b1 b2 b3; refine wp_region_held_drew (S := fun w' => Dn w1 w' /\ w'.cell? ⟨wr.heap.size, 0, none⟩ = some (.int .i8 x.a) /\ w'.cell? ⟨wr.heap.size, 1, none⟩ = some (.int .i64 x.b) /\ w'.cell? ⟨wr.heap.size, 2, none⟩ = some (.int .i8 x.c) /\ w'.cell? ⟨wr.heap.size, 3, none⟩ = some (.int .i64 x.d) /\ w'.cell? ⟨g, o + m * 4, none⟩ = some (.int .i8 q.a) /\ w'.cell? ⟨g, o + m * 4 + 1, none⟩ = some (.int .i64 q.b) /\ w'.cell? ⟨g, o + m * 4 + 2, none⟩ = some (.int .i8 q.c) /\ w'.cell? ⟨g, o + m * 4 + 3, none⟩ = some (.int .i64 q.d)) (by kernel_rfl) ?_ (fun hHeld => ?_)
           · (try dsimp only); (exact ke kd_8)
           refine tS 0 rfl ?_; refine tS 1 rfl ?_; refine tS 2 rfl ?_; refine tS 3 rfl ?_; refine tS 4 rfl ?_; refine tS 5 rfl ?_; refine tS 6 rfl ?_; refine tS 7 rfl ?_; refine tS 8 rfl ?_; refine rD 9 rfl (fun K hK => ?_); go_simp
           (first | (go_at_call 43; refine (hC.out _).mono ?_; rintro e wa ⟨rfl, qa⟩) | (go_at_call 47; refine (hT.out _).mono ?_; rintro e wa ⟨rfl, qa⟩))
           try go_wp2_with fail
           refine hK.out _ _ ?_ (fun hHeld => ?_)
           · (try dsimp only); (exact ke kd_8)
           clear hK K
           try simp only [Act.put, pL]
           refine tS 10 rfl ?_; refine tS 11 rfl ?_; refine tS 12 rfl ?_; refine tS 13 rfl ?_; refine tS 14 rfl ?_; refine tS 15 rfl ?_; refine tS 16 rfl ?_; refine tS 17 rfl ?_; refine rD 18 rfl (fun K hK => ?_); go_simp
           (first | (go_at_call 43; refine (hC.out _).mono ?_; rintro e wa ⟨rfl, qa⟩) | (go_at_call 47; refine (hT.out _).mono ?_; rintro e wa ⟨rfl, qa⟩))
           try go_wp2_with fail
           refine hK.out _ _ ?_ (fun hHeld => ?_)
           · (try dsimp only); (exact ke kd_8)
           clear hK K
           try simp only [Act.put, pL]
           refine tS 19 rfl ?_; refine tS 20 rfl ?_; refine wpAnyH_done (by kernel_rfl) ?_ _
           all_goals skip
           all_goals
             clear hS12; obtain ⟨uf21, a6, a7, a8, a9, aA, aB, aC, aD⟩ := (‹Dn w1 _ /\ _› : _ /\ _); obtain ⟨w22, rfl⟩ : ∃ w22 : World, w22 = wa := ⟨_, rfl⟩; have aE := nlt l7 uf21.size; clear l7; have aF := nlt bl uf21.size; clear bl; replace hc := hc.dn uf21; have vuf21 := uw1.trans uf21; clear uf21 uw1 HShS12; go_wp2_with fail; go_roundw
             case rel => exact ⟨rfl, m + 1 + 1, by omega, by simp, by rw [HF.out]; exact chk_next HX.out (by omega) HQ.out HB.out (Classical.not_not.1 fun h => (((order_prog HQK.out HXK.out).2 h).elim HO.out HTT.out)), HOK.out.step HX.out ((rq_err (HI.out.at HX.out).1 (HI.out.at HX.out).2).1 HB.out), hc.row, vuf21⟩
             case measure => simp [intOf]; omega
         · have d3 : decide (0 < or2 (eC q.a q.b x.a x.b) (eC q.c q.d x.c x.d)) = true := by simpa using hcmp
           have HO := Lib.hid (hL.out.1 hcmp); clear hcmp hL hti; generalize or2 (eC q.a q.b x.a x.b) (eC q.c q.d x.c x.d) = n at *; go_wp2_with fail; clear a0 a1 a2 a3; obtain ⟨W1, hW1⟩ : ∃ W1, W1 = wr.alloc (.cells #[.int .i8 x.a, .int .i64 x.b, .int .i8 x.c, .int .i64 x.d] 45) := ⟨_, rfl⟩; have uW1 : Dn wr W1 := (by rw [hW1]; exact (Dn.refl _).alloc _); replace hc := hc.dn uW1; have c2 : W1.cell? ⟨wr.heap.size, 0, none⟩ = some (.int .i8 x.a) := (by rw [hW1]; simp [go_sem]); have c3 : W1.cell? ⟨wr.heap.size, 1, none⟩ = some (.int .i64 x.b) := (by rw [hW1]; simp [go_sem]); have c4 : W1.cell? ⟨wr.heap.size, 2, none⟩ = some (.int .i8 x.c) := (by rw [hW1]; simp [go_sem]); have c5 : W1.cell? ⟨wr.heap.size, 3, none⟩ = some (.int .i64 x.d) := (by rw [hW1]; simp [go_sem]); have l6 : wr.heap.size < W1.heap.size := (by rw [hW1]; simp <;> omega); rw [<- hW1]; clear hW1; have vW1 := hu.trans uW1; clear uW1 hu; refine (hA.out _).mono ?_; rintro e w1 ⟨rfl, qw1⟩; replace hc := hc.dn qw1; have l7 := nlt l6 qw1.size; obtain ⟨c8, c9, a4, a5⟩ := mv4 qw1.cell c2 c3 c4 c5; clear l6 c2 c3 c4 c5; have uw1 := vW1.trans qw1; clear qw1 vW1; go_wp2_with fail; obtain ⟨b0, b1, b2, b3⟩ := hc.el _ _ HQ.out; have bl := hc.lt; have hS12 := kd_8 (W := w1) (Dn.refl _) ⟨Dn.refl _, c8, c9, a4, a5, b0, b1, b2, b3⟩; have HShS12 := Lib.hid hS12; clear c8 c9 a4 a5 b0 b1 b2 b3; refine wp_region_held_drew (S := fun w' => Dn w1 w' /\ w'.cell? ⟨wr.heap.size, 0, none⟩ = some (.int .i8 x.a) /\ w'.cell? ⟨wr.heap.size, 1, none⟩ = some (.int .i64 x.b) /\ w'.cell? ⟨wr.heap.size, 2, none⟩ = some (.int .i8 x.c) /\ w'.cell? ⟨wr.heap.size, 3, none⟩ = some (.int .i64 x.d) /\ w'.cell? ⟨g, o + m * 4, none⟩ = some (.int .i8 q.a) /\ w'.cell? ⟨g, o + m * 4 + 1, none⟩ = some (.int .i64 q.b) /\ w'.cell? ⟨g, o + m * 4 + 2, none⟩ = some (.int .i8 q.c) /\ w'.cell? ⟨g, o + m * 4 + 3, none⟩ = some (.int .i64 q.d)) (by kernel_rfl) ?_ (fun hHeld => ?_)
           · (try dsimp only); (exact ke kd_8)
           refine tS 0 rfl ?_; refine tS 1 rfl ?_; refine tS 2 rfl ?_; refine tS 3 rfl ?_; refine tS 4 rfl ?_; refine tS 5 rfl ?_; refine tS 6 rfl ?_; refine tS 7 rfl ?_; refine tS 8 rfl ?_; refine rD 9 rfl (fun K hK => ?_); go_simp
           (first | (go_at_call 43; refine (hC.out _).mono ?_; rintro e wa ⟨rfl, qa⟩) | (go_at_call 47; refine (hT.out _).mono ?_; rintro e wa ⟨rfl, qa⟩))
           try go_wp2_with fail
           refine hK.out _ _ ?_ (fun hHeld => ?_)
           · (try dsimp only); (exact ke kd_8)
           clear hK K
           try simp only [Act.put, pL]
           refine tS 10 rfl ?_; refine tS 11 rfl ?_; refine tV 12 rfl ?_; refine tV 13 rfl ?_; refine tV 14 rfl ?_; refine tV 15 rfl ?_; refine tV 16 rfl ?_; refine tV 17 rfl ?_; refine tV 18 rfl ?_; refine tS 19 rfl ?_; refine tS 20 rfl ?_; refine wpAnyH_done (by kernel_rfl) ?_ _
           all_goals skip
           all_goals
             clear hS12; obtain ⟨uf21, a6, a7, a8, a9, aA, aB, aC, aD⟩ := (‹Dn w1 _ /\ _› : _ /\ _); obtain ⟨w22, rfl⟩ : ∃ w22 : World, w22 = wa := ⟨_, rfl⟩; have aE := nlt l7 uf21.size; clear l7; have aF := nlt bl uf21.size; clear bl; replace hc := hc.dn uf21; have vuf21 := uw1.trans uf21; clear uf21 uw1 HShS12; have HE2 := Lib.hid (HF.out.trans (chk_order HX.out (by omega) HQ.out HB.out ((order_prog HQK.out HXK.out).1 (.inl HO.out)))); go_wp2_with fail; go_ret; exact ⟨ret1_i HE2.out.symm, vuf21⟩
   · obtain rfl : k = L.length := by omega
     have d1 : decide ((L.length : Int) < L.length) = false := (by simp); have hend := Lib.hid (HF.out.trans chk_end); go_wp2_with fail; go_ret; exact ⟨ret1_i hend.out.symm, hu⟩
set_option maxHeartbeats 4000000
set_option maxRecDepth 100000
theorem rfCheck (p : Option Addr) (cap : Nat) (L : List Rq) (w : World) (hl : L.length <= 1000000) (hI : I6 L) (hR : Row w p L) :
   Calls Tryz.prog 15 #[.slice p L.length cap] w fun ro w' => ro = .returned (.int .i64 (chkL L)) /\ Dn w w' := by
 have HI := Lib.hid hI
 clear hI
 by_cases h4 : 4096 < L.length
 · have d0 : decide ((L.length : Int) > 4096) = true := by simp; omega
   have e0 : chkL L = 3 := by unfold chkL; rw [if_pos h4]
   rw [e0]; go_enter Tryz.func15, Tryz.ntmps15; go_wp2_with fail; go_ret; exact ⟨rfl, Dn.refl _⟩
 have d0 : decide ((L.length : Int) > 4096) = false := by simp; omega
 have e0 : chkL L = chkFrom (prv L 0) (L.drop 0) := by unfold chkL; rw [if_neg h4]; rfl
 rw [e0]
 have HE := Lib.hid e0
 clear e0
 go_enter Tryz.func15, Tryz.ntmps15
 go_wp2_with fail
 go_loopw [2, 3] (fun rv i wr => rv = .int .i64 0 /\ ∃ k : Nat, k <= L.length /\ i = .int .i64 k /\ chkFrom (prv L 0) (L.drop 0) = chkFrom (prv L k) (L.drop k) /\ OkTo L k /\ Row wr p L /\ Dn w wr) (fun _ i _ => L.length - (intOf i).toNat)
 case atStart => exact ⟨rfl, 0, by omega, rfl, rfl, OkTo.zero _, hR, Dn.refl _⟩
 case round =>
   obtain ⟨rfl, k, hk, rfl, he, hok, hr, hu⟩ := hrel; have HOK := Lib.hid hok; have HF := Lib.hid he; clear he hok
   by_cases hlt : k < L.length
   · have d1 : decide ((k : Int) < L.length) = true := by simp; omega
     obtain ⟨x, hx⟩ : ∃ x, L[k]? = some x := ⟨L[k], by simp [hlt]⟩; obtain ⟨g, o, rfl, hc⟩ := hr.cs (by omega); clear hr; have HX := Lib.hid hx; have hA : Hid (∀ W, Calls Tryz.prog 44 #[.agg #[.int .i8 x.a, .int .i64 x.b, .int .i8 x.c, .int .i64 x.d]] W fun e w' => e = .returned (.int .i64 (rnErr x.a x.b x.c x.d)) /\ Dn W w') := Lib.hid (rfChk x.a x.b x.c x.d); obtain ⟨a0, a1, a2, a3⟩ := hc.el _ _ hx; clear hx
     by_cases hb : rnErr x.a x.b x.c x.d = 0
     rotate_left
     · have cb : (rnErr x.a x.b x.c x.d != 0) = true := by simpa using hb
       have HB := Lib.hid hb; clear hb; go_wp2_with fail; refine (hA.out _).mono ?_; rintro e w1 ⟨rfl, qw1⟩; replace hc := hc.dn qw1; have uw1 := hu.trans qw1; clear qw1 hu; clear a0 a1 a2 a3; have HE2 := Lib.hid (HF.out.trans (chk_bad HX.out HB.out)); go_wp2_with fail; go_ret; exact ⟨ret1_i HE2.out.symm, uw1⟩
     · have HB := Lib.hid hb
       rw [hb] at hA; clear hb; rcases Nat.eq_zero_or_pos k with hk0' | hk0
       · have d2 : decide (0 < k) = false := by rw [decide_eq_false_iff_not]; omega
         have hk0 := Lib.hid hk0'; clear hk0'; go_wp2_with fail; refine (hA.out _).mono ?_; rintro e w1 ⟨rfl, qw1⟩; replace hc := hc.dn qw1; have uw1 := hu.trans qw1; clear qw1 hu; clear a0 a1 a2 a3; go_wp2_with fail; obtain ⟨x0, x1, x2, x3⟩ := hc.el _ _ HX.out; have xl := hc.lt; have hS1 := kd_4 (W := w1) (Dn.refl _) ⟨Dn.refl _, x0, x1, x2, x3⟩; have HShS1 := Lib.hid hS1; clear x0 x1 x2 x3; refine wp_region_held_drew (S := fun w' => Dn w1 w' /\ w'.cell? ⟨g, o + k * 4, none⟩ = some (.int .i8 x.a) /\ w'.cell? ⟨g, o + k * 4 + 1, none⟩ = some (.int .i64 x.b) /\ w'.cell? ⟨g, o + k * 4 + 2, none⟩ = some (.int .i8 x.c) /\ w'.cell? ⟨g, o + k * 4 + 3, none⟩ = some (.int .i64 x.d)) (by kernel_rfl) ?_ (fun hHeld => ?_)
         · (try dsimp only); (exact ke kd_4)
         refine tS 0 rfl ?_; refine tS 1 rfl ?_; refine tS 2 rfl ?_; refine tV 3 rfl ?_; refine tV 4 rfl ?_; refine tV 5 rfl ?_; refine tV 6 rfl ?_; refine tV 7 rfl ?_; refine tV 8 rfl ?_; refine tV 9 rfl ?_; refine tV 10 rfl ?_; refine tV 11 rfl ?_; refine tV 12 rfl ?_; refine tV 13 rfl ?_; refine tV 14 rfl ?_; refine tV 15 rfl ?_; refine tV 16 rfl ?_; refine tV 17 rfl ?_; refine tV 18 rfl ?_; refine tV 19 rfl ?_; refine tV 20 rfl ?_; refine tV 21 rfl ?_; refine tV 22 rfl ?_; refine tV 23 rfl ?_; refine tV 24 rfl ?_; refine tV 25 rfl ?_; refine tV 26 rfl ?_; refine tV 27 rfl ?_; refine tS 28 rfl ?_; refine wpAnyH_done (by kernel_rfl) ?_ _
         all_goals skip
         all_goals
           clear hS1; obtain ⟨uf6, c2, c3, c4, c5⟩ := (‹Dn w1 _ /\ _› : _ /\ _); have l7 := nlt xl uf6.size; clear xl; replace hc := hc.dn uf6; have vuf6 := uw1.trans uf6; clear uf6 uw1 HShS1; go_wp2_with fail; go_roundw
           case rel => exact ⟨rfl, k + 1, by omega, by simp, by rw [HF.out]; exact chk_first HX.out hk0.out HB.out, HOK.out.step HX.out ((rq_err (HI.out.at HX.out).1 (HI.out.at HX.out).2).1 HB.out), hc.row, vuf6⟩
           case measure => simp [intOf]; omega
       · obtain ⟨m, rfl⟩ : ∃ m, k = m + 1 := ⟨k - 1, by omega⟩
         have d2 : decide (0 < (m : Int) + 1) = true := (by rw [decide_eq_true_iff]; omega); have hwm : IntKind.i64.wrap (m : Int) = m := IntWalk.i64_in _ (by omega); have hmL : (m : Int) < L.length := (by omega); have hm0 : (0 : Int) <= (m : Int) + 1 := (by omega); obtain ⟨q, hq⟩ : ∃ q, L[m]? = some q := ⟨L[m], by simp [show m < L.length by omega]⟩; have HQ := Lib.hid hq; clear hq; have i1 := HI.out.at HX.out; have i2 := HI.out.at HQ.out; have hC := Lib.hid (fun W => rCmp8 q.c q.d x.a x.b W); have HXK : Hid x.ok := Lib.hid ((rq_err i1.1 i1.2).1 HB.out); have HQK : Hid q.ok := Lib.hid (HOK.out _ _ HQ.out (by omega)); have hT := Lib.hid (fun W => rfTouch q.a q.b q.c q.d x.a x.b x.c x.d W i2.1 i2.2 i1.1 i1.2 HQK.out.2.2 HXK.out.2.2); have hL : Hid (0 <= eC q.c q.d x.a x.b ↔ x.lo <= q.hi) := Lib.hid (by have := eC_lt (i := q.c) (j := x.a) i2.2 i1.1; unfold Rq.lo Rq.hi; omega); have hti := Lib.hid (tch_iff i2 i1); clear i1 i2 hk0
         by_cases hcmp : 0 <= eC q.c q.d x.a x.b
         rotate_left
         by_cases htch : Tch q.a q.b q.c q.d x.a x.b x.c x.d
         · have d3 : decide (0 <= eC q.c q.d x.a x.b) = false := by simpa using hcmp
           have HO := Lib.hid (fun h => hcmp (hL.out.2 h)); have HTT := Lib.hid (hti.out.1 htch); rw [decide_eq_true htch] at hT; clear hcmp htch hL hti; generalize eC q.c q.d x.a x.b = n at *; go_wp2_with fail; refine (hA.out _).mono ?_; rintro e w1 ⟨rfl, qw1⟩; replace hc := hc.dn qw1; have uw1 := hu.trans qw1; clear qw1 hu; clear a0 a1 a2 a3; go_wp2_with fail; obtain ⟨b0, b1, b2, b3⟩ := hc.el _ _ HQ.out; have bl := hc.lt; obtain ⟨a0, a1, a2, a3⟩ := hc.el _ _ HX.out; have al := hc.lt; have hS1 := kd_8 (W := w1) (Dn.refl _) ⟨Dn.refl _, b0, b1, b2, b3, a0, a1, a2, a3⟩; have HShS1 := Lib.hid hS1; clear b0 b1 b2 b3 a0 a1 a2 a3; refine wp_region_held_drew (S := fun w' => Dn w1 w' /\ w'.cell? ⟨g, o + m * 4, none⟩ = some (.int .i8 q.a) /\ w'.cell? ⟨g, o + m * 4 + 1, none⟩ = some (.int .i64 q.b) /\ w'.cell? ⟨g, o + m * 4 + 2, none⟩ = some (.int .i8 q.c) /\ w'.cell? ⟨g, o + m * 4 + 3, none⟩ = some (.int .i64 q.d) /\ w'.cell? ⟨g, o + (m + 1) * 4, none⟩ = some (.int .i8 x.a) /\ w'.cell? ⟨g, o + (m + 1) * 4 + 1, none⟩ = some (.int .i64 x.b) /\ w'.cell? ⟨g, o + (m + 1) * 4 + 2, none⟩ = some (.int .i8 x.c) /\ w'.cell? ⟨g, o + (m + 1) * 4 + 3, none⟩ = some (.int .i64 x.d)) (by kernel_rfl) ?_ (fun hHeld => ?_)
           · (try dsimp only); (exact ke kd_8)
           refine tS 0 rfl ?_; refine tS 1 rfl ?_; refine tS 2 rfl ?_; refine tS 3 rfl ?_; refine tS 4 rfl ?_; refine tS 5 rfl ?_; refine tS 6 rfl ?_; refine tS 7 rfl ?_; refine tS 8 rfl ?_; refine tS 9 rfl ?_; refine tS 10 rfl ?_; refine tS 11 rfl ?_; refine tS 12 rfl ?_; refine tS 13 rfl ?_; refine rD 14 rfl (fun K hK => ?_); go_simp
           (first | (go_at_call 48; refine (hC.out _).mono ?_; rintro e wa ⟨rfl, qa⟩; replace qa := Up.dn qa) | (go_at_call 49; refine (hT.out _).mono ?_; rintro e wa ⟨rfl, qa⟩))
           try go_wp2_with fail
           refine hK.out _ _ ?_ (fun hHeld => ?_)
           · (try dsimp only); (exact ke kd_8)
           clear hK K
           try simp only [Act.put, pL]
           refine tS 15 rfl ?_; refine tS 16 rfl ?_; refine tS 17 rfl ?_; refine tS 18 rfl ?_; refine tS 19 rfl ?_; refine tS 20 rfl ?_; refine tS 21 rfl ?_; refine tS 22 rfl ?_; refine tS 23 rfl ?_; refine tS 24 rfl ?_; refine tS 25 rfl ?_; refine rD 26 rfl (fun K hK => ?_); go_simp
           (first | (go_at_call 48; refine (hC.out _).mono ?_; rintro e wa ⟨rfl, qa⟩; replace qa := Up.dn qa) | (go_at_call 49; refine (hT.out _).mono ?_; rintro e wa ⟨rfl, qa⟩))
           try go_wp2_with fail
           refine hK.out _ _ ?_ (fun hHeld => ?_)
           · (try dsimp only); (exact ke kd_8)
           clear hK K
           try simp only [Act.put, pL]
           refine tS 27 rfl ?_; refine tS 28 rfl ?_; refine wpAnyH_done (by kernel_rfl) ?_ _
           all_goals skip
           all_goals
             clear hS1; obtain ⟨uf10, c2, c3, c4, c5, c6, c7, c8, c9⟩ := (‹Dn w1 _ /\ _› : _ /\ _); obtain ⟨w11, rfl⟩ : ∃ w11 : World, w11 = wa := ⟨_, rfl⟩; have l12 := nlt bl uf10.size; clear bl; have l13 := nlt al uf10.size; clear al; replace hc := hc.dn uf10; have vuf10 := uw1.trans uf10; clear uf10 uw1 HShS1; have HE2 := Lib.hid (HF.out.trans (chk_order HX.out (by omega) HQ.out HB.out ((order_ref HQK.out HXK.out).1 (.inr HTT.out)))); go_wp2_with fail; go_ret; exact ⟨ret1_i HE2.out.symm, vuf10⟩
         · have d3 : decide (0 <= eC q.c q.d x.a x.b) = false := by simpa using hcmp
           have HO := Lib.hid (fun h => hcmp (hL.out.2 h)); have HTT := Lib.hid (fun h => htch (hti.out.2 h)); rw [decide_eq_false htch] at hT; clear hcmp htch hL hti; generalize eC q.c q.d x.a x.b = n at *; go_wp2_with fail; refine (hA.out _).mono ?_; rintro e w1 ⟨rfl, qw1⟩; replace hc := hc.dn qw1; have uw1 := hu.trans qw1; clear qw1 hu; clear a0 a1 a2 a3; go_wp2_with fail; obtain ⟨b0, b1, b2, b3⟩ := hc.el _ _ HQ.out; have bl := hc.lt; obtain ⟨a0, a1, a2, a3⟩ := hc.el _ _ HX.out; have al := hc.lt; have hS1 := kd_8 (W := w1) (Dn.refl _) ⟨Dn.refl _, b0, b1, b2, b3, a0, a1, a2, a3⟩; have HShS1 := Lib.hid hS1; clear b0 b1 b2 b3 a0 a1 a2 a3; refine wp_region_held_drew (S := fun w' => Dn w1 w' /\ w'.cell? ⟨g, o + m * 4, none⟩ = some (.int .i8 q.a) /\ w'.cell? ⟨g, o + m * 4 + 1, none⟩ = some (.int .i64 q.b) /\ w'.cell? ⟨g, o + m * 4 + 2, none⟩ = some (.int .i8 q.c) /\ w'.cell? ⟨g, o + m * 4 + 3, none⟩ = some (.int .i64 q.d) /\ w'.cell? ⟨g, o + (m + 1) * 4, none⟩ = some (.int .i8 x.a) /\ w'.cell? ⟨g, o + (m + 1) * 4 + 1, none⟩ = some (.int .i64 x.b) /\ w'.cell? ⟨g, o + (m + 1) * 4 + 2, none⟩ = some (.int .i8 x.c) /\ w'.cell? ⟨g, o + (m + 1) * 4 + 3, none⟩ = some (.int .i64 x.d)) (by kernel_rfl) ?_ (fun hHeld => ?_)
           · (try dsimp only); (exact ke kd_8)
           refine tS 0 rfl ?_; refine tS 1 rfl ?_; refine tS 2 rfl ?_; refine tS 3 rfl ?_; refine tS 4 rfl ?_; refine tS 5 rfl ?_; refine tS 6 rfl ?_; refine tS 7 rfl ?_; refine tS 8 rfl ?_; refine tS 9 rfl ?_; refine tS 10 rfl ?_; refine tS 11 rfl ?_; refine tS 12 rfl ?_; refine tS 13 rfl ?_; refine rD 14 rfl (fun K hK => ?_); go_simp
           (first | (go_at_call 48; refine (hC.out _).mono ?_; rintro e wa ⟨rfl, qa⟩; replace qa := Up.dn qa) | (go_at_call 49; refine (hT.out _).mono ?_; rintro e wa ⟨rfl, qa⟩))
           try go_wp2_with fail
           refine hK.out _ _ ?_ (fun hHeld => ?_)
           · (try dsimp only); (exact ke kd_8)
           clear hK K
           try simp only [Act.put, pL]
           refine tS 15 rfl ?_; refine tS 16 rfl ?_; refine tS 17 rfl ?_; refine tS 18 rfl ?_; refine tS 19 rfl ?_; refine tS 20 rfl ?_; refine tS 21 rfl ?_; refine tS 22 rfl ?_; refine tS 23 rfl ?_; refine tS 24 rfl ?_; refine tS 25 rfl ?_; refine rD 26 rfl (fun K hK => ?_); go_simp
           (first | (go_at_call 48; refine (hC.out _).mono ?_; rintro e wa ⟨rfl, qa⟩; replace qa := Up.dn qa) | (go_at_call 49; refine (hT.out _).mono ?_; rintro e wa ⟨rfl, qa⟩))
           try go_wp2_with fail
           refine hK.out _ _ ?_ (fun hHeld => ?_)
           · (try dsimp only); (exact ke kd_8)
           clear hK K
           try simp only [Act.put, pL]
           refine tS 27 rfl ?_; refine tS 28 rfl ?_; refine wpAnyH_done (by kernel_rfl) ?_ _
           all_goals skip
           all_goals
             clear hS1; obtain ⟨uf10, c2, c3, c4, c5, c6, c7, c8, c9⟩ := (‹Dn w1 _ /\ _› : _ /\ _); obtain ⟨w11, rfl⟩ : ∃ w11 : World, w11 = wa := ⟨_, rfl⟩; have l12 := nlt bl uf10.size; clear bl; have l13 := nlt al uf10.size; clear al; replace hc := hc.dn uf10; have vuf10 := uw1.trans uf10; clear uf10 uw1 HShS1; go_wp2_with fail; go_roundw
             case rel => exact ⟨rfl, m + 1 + 1, by omega, by simp, by rw [HF.out]; exact chk_next HX.out (by omega) HQ.out HB.out (Classical.not_not.1 fun h => (((order_ref HQK.out HXK.out).2 h).elim HO.out HTT.out)), HOK.out.step HX.out ((rq_err (HI.out.at HX.out).1 (HI.out.at HX.out).2).1 HB.out), hc.row, vuf10⟩
             case measure => simp [intOf]; omega
         · have d3 : decide (0 <= eC q.c q.d x.a x.b) = true := by simpa using hcmp
           have HO := Lib.hid (hL.out.1 hcmp); clear hcmp hL hti; generalize eC q.c q.d x.a x.b = n at *; go_wp2_with fail; refine (hA.out _).mono ?_; rintro e w1 ⟨rfl, qw1⟩; replace hc := hc.dn qw1; have uw1 := hu.trans qw1; clear qw1 hu; clear a0 a1 a2 a3; go_wp2_with fail; obtain ⟨b0, b1, b2, b3⟩ := hc.el _ _ HQ.out; have bl := hc.lt; obtain ⟨a0, a1, a2, a3⟩ := hc.el _ _ HX.out; have al := hc.lt; have hS1 := kd_8 (W := w1) (Dn.refl _) ⟨Dn.refl _, b0, b1, b2, b3, a0, a1, a2, a3⟩; have HShS1 := Lib.hid hS1; clear b0 b1 b2 b3 a0 a1 a2 a3; refine wp_region_held_drew (S := fun w' => Dn w1 w' /\ w'.cell? ⟨g, o + m * 4, none⟩ = some (.int .i8 q.a) /\ w'.cell? ⟨g, o + m * 4 + 1, none⟩ = some (.int .i64 q.b) /\ w'.cell? ⟨g, o + m * 4 + 2, none⟩ = some (.int .i8 q.c) /\ w'.cell? ⟨g, o + m * 4 + 3, none⟩ = some (.int .i64 q.d) /\ w'.cell? ⟨g, o + (m + 1) * 4, none⟩ = some (.int .i8 x.a) /\ w'.cell? ⟨g, o + (m + 1) * 4 + 1, none⟩ = some (.int .i64 x.b) /\ w'.cell? ⟨g, o + (m + 1) * 4 + 2, none⟩ = some (.int .i8 x.c) /\ w'.cell? ⟨g, o + (m + 1) * 4 + 3, none⟩ = some (.int .i64 x.d)) (by kernel_rfl) ?_ (fun hHeld => ?_)
           · (try dsimp only); (exact ke kd_8)
           refine tS 0 rfl ?_; refine tS 1 rfl ?_; refine tS 2 rfl ?_; refine tS 3 rfl ?_; refine tS 4 rfl ?_; refine tS 5 rfl ?_; refine tS 6 rfl ?_; refine tS 7 rfl ?_; refine tS 8 rfl ?_; refine tS 9 rfl ?_; refine tS 10 rfl ?_; refine tS 11 rfl ?_; refine tS 12 rfl ?_; refine tS 13 rfl ?_; refine rD 14 rfl (fun K hK => ?_); go_simp
           (first | (go_at_call 48; refine (hC.out _).mono ?_; rintro e wa ⟨rfl, qa⟩; replace qa := Up.dn qa) | (go_at_call 49; refine (hT.out _).mono ?_; rintro e wa ⟨rfl, qa⟩))
           try go_wp2_with fail
           refine hK.out _ _ ?_ (fun hHeld => ?_)
           · (try dsimp only); (exact ke kd_8)
           clear hK K
           try simp only [Act.put, pL]
           refine tS 15 rfl ?_; refine tS 16 rfl ?_; refine tV 17 rfl ?_; refine tV 18 rfl ?_; refine tV 19 rfl ?_; refine tV 20 rfl ?_; refine tV 21 rfl ?_; refine tV 22 rfl ?_; refine tV 23 rfl ?_; refine tV 24 rfl ?_; refine tV 25 rfl ?_; refine tV 26 rfl ?_; refine tS 27 rfl ?_; refine tS 28 rfl ?_; refine wpAnyH_done (by kernel_rfl) ?_ _
           all_goals skip
           all_goals
             clear hS1; obtain ⟨uf10, c2, c3, c4, c5, c6, c7, c8, c9⟩ := (‹Dn w1 _ /\ _› : _ /\ _); obtain ⟨w11, rfl⟩ : ∃ w11 : World, w11 = wa := ⟨_, rfl⟩; have l12 := nlt bl uf10.size; clear bl; have l13 := nlt al uf10.size; clear al; replace hc := hc.dn uf10; have vuf10 := uw1.trans uf10; clear uf10 uw1 HShS1; have HE2 := Lib.hid (HF.out.trans (chk_order HX.out (by omega) HQ.out HB.out ((order_ref HQK.out HXK.out).1 (.inl HO.out)))); go_wp2_with fail; go_ret; exact ⟨ret1_i HE2.out.symm, vuf10⟩
   · obtain rfl : k = L.length := by omega
     have d1 : decide ((L.length : Int) < L.length) = false := (by simp); have hend := Lib.hid (HF.out.trans chk_end); go_wp2_with fail; go_ret; exact ⟨ret1_i hend.out.symm, hu⟩
end Go.Proofs.YtoghoddjkdoohaaGreatDoor
