/- Walks and laws that the claim's theorem leans on: part 14. -/
import Derived.Test.YtoghoddjkdoohaaGreatDoorZKn1
import Derived.Test.YtoghoddjkdoohaaGreatDoorZKn13
namespace Go.Proofs.YtoghoddjkdoohaaGreatDoor
set_option maxHeartbeats 4000000
set_option maxRecDepth 100000
open Go.RowKit
set_option linter.unusedVariables false
set_option linter.unusedSimpArgs false
theorem both_zero {a b : List Rq} (h : bothL a b = 0) : chkL a = 0 /\ chkL b = 0 := by
 unfold bothL at h; split at h
 · next h0 => exact ⟨h0, h⟩
 · next h0 => exact absurd h h0
theorem chk_len {a : List Rq} (h : chkL a = 0) : a.length <= 4096 := by
 unfold chkL at h; split at h
 · cases h
 · omega
theorem cmRow_at {x y : Rq} {out b : List Rq} {k : Nat} (h : b[k]? = some y) : cmRow x out (b.take (k + 1)) = if MeetR x y then putL (cmRow x out (b.take k)) (inR x y) else cmRow x out (b.take k) := by
 unfold cmRow; rw [take_at h, List.foldl_append]; rfl
theorem cmRow_len (x : Rq) : ∀ (b out : List Rq), (cmRow x out b).length <= out.length + b.length
 | [], out => by simp [cmRow]
 | y :: t, out => by
   have ih := cmRow_len x t (if MeetR x y then putL out (inR x y) else out)
   have h2 : (if MeetR x y then putL out (inR x y) else out).length <= out.length + 1 := by
    split
    · exact putL_len _ _
    · omega
   have e : cmRow x out (y :: t) = cmRow x (if MeetR x y then putL out (inR x y) else out) t := rfl; rw [e]; simp only [List.length_cons]; omega
theorem cmRow_ok (x : Rq) : ∀ (b out : List Rq), (∀ z ∈ out, z.ok) -> ∀ z ∈ cmRow x out b, z.ok
 | [], out, h => h
 | y :: t, out, h => by
   have e : cmRow x out (y :: t) = cmRow x (if MeetR x y then putL out (inR x y) else out) t := rfl; rw [e]; refine cmRow_ok x t _ ?_; split
   · next hm => exact putL_ok h (inR_ok hm)
   · exact h
abbrev cmO (b : List Rq) (a : List Rq) : List Rq := a.foldl (fun o x => cmRow x o b) []
theorem cmO_at {a b : List Rq} {x : Rq} {k : Nat} (h : a[k]? = some x) : cmO b (a.take (k + 1)) = cmRow x (cmO b (a.take k)) b := by
 unfold cmO; rw [take_at h, List.foldl_append]; rfl
theorem cmO_len (b : List Rq) : ∀ (a : List Rq) (n : Nat), a.length <= n -> ∀ z : List Rq, (a.foldl (fun o x => cmRow x o b) z).length <= z.length + n * b.length
 | [], n, _, z => by simp
 | x :: t, n, h, z => by
   obtain ⟨m, rfl⟩ : ∃ m, n = m + 1 := ⟨n - 1, by simp at h; omega⟩; have ih := cmO_len b t m (by simp at h; omega) (cmRow x z b); have h2 := cmRow_len x b z; simp only [List.foldl_cons]; rw [Nat.add_mul]; omega
theorem cmO_ok (b : List Rq) : ∀ (a z : List Rq), (∀ x ∈ z, x.ok) -> ∀ x ∈ a.foldl (fun o x => cmRow x o b) z, x.ok
 | [], z, h => h
 | x :: t, z, h => cmO_ok b t _ (cmRow_ok x b z h)
def inB (x y : Rq) : Bool := decide (Wi x.a x.b x.c x.d y.a y.b y.c y.d)
theorem inB_iff {x y : Rq} (hx : x.ok) (hy : y.ok) : inB x y = true ↔ y.lo <= x.lo /\ x.hi <= y.hi := by
 unfold inB; rw [decide_eq_true_iff]
 exact ⟨fun h => h.2.2, fun h => ⟨hx.2.2, hy.2.2, h⟩⟩
theorem any_at {b : List Rq} {k : Nat} {y x : Rq} (h : b[k]? = some y) : (b.take (k + 1)).any (inB x) = ((b.take k).any (inB x) || inB x y) := by
 rw [take_at h, List.any_append]; simp
theorem wtP_iff {a b : List Rq} (ha : ∀ x ∈ a, x.ok) (hb : ∀ x ∈ b, x.ok) : WtP a b ↔ ∀ x ∈ a, b.any (inB x) = true := by
 unfold WtP
 constructor
 · intro h x hx
   obtain ⟨y, hy, h2⟩ := h x hx; rw [List.any_eq_true]; exact ⟨y, hy, (inB_iff (ha x hx) (hb y hy)).2 h2⟩
 · intro h x hx
   have := h x hx; rw [List.any_eq_true] at this; obtain ⟨y, hy, h2⟩ := this; exact ⟨y, hy, (inB_iff (ha x hx) (hb y hy)).1 h2⟩
instance decWtP (a b : List Rq) : Decidable (WtP a b) := by unfold WtP; infer_instance
instance decHasL (l : List Rq) (k : Int) : Decidable (HasL l k) := by unfold HasL; infer_instance
theorem rfUnion (p : Option Addr) (cap : Nat) (a : List Rq) (q : Option Addr) (cap' : Nat) (b : List Rq) (E : Int) (R : List Rq) (w : World) (hE : E = fin3 (bothL a b) (b.foldl putL a)) (hRR : R = res3 (bothL a b) (b.foldl putL a)) (hl1 : a.length <= 1000000) (hI1 : I6 a) (hR1 : Row w p a) (hl2 : b.length <= 1000000) (hI2 : I6 b) (hR2 : Row w q b) :
   Calls Tryz.prog 29 #[.slice p a.length cap, .slice q b.length cap'] w fun ro w' => ∃ p' cap', ro = .returned (.tuple #[.slice p' R.length cap', .int .i64 E]) /\ Row w' p' R /\ Dn w w' := by
 have HB := Lib.hid (fun W (h : Dn w W) => rfBoth p cap a q cap' b W hl1 hI1 (hR1.dn h) hl2 hI2 (hR2.dn h))
 by_cases hc : bothL a b = 0
 rotate_left
 · obtain rfl : E = bothL a b := by rw [hE, fin3_bad hc]
   obtain rfl : R = [] := by rw [hRR, res3_bad hc]
   clear hE hRR
   have d0 : (bothL a b != 0) = true := by simpa using hc
   clear hc hR1 hR2 hI1 hI2; generalize bothL a b = c at *; go_enter Tryz.func29, Tryz.ntmps29; go_wp2_with fail; refine (HB.out _ (Dn.refl _)).mono ?_; rintro e w1 ⟨rfl, qw1⟩; have uw1 := qw1; clear qw1; go_wp2_with fail; refine (HB.out _ uw1).mono ?_; rintro e w2 ⟨rfl, qw2⟩; have uw2 := uw1.trans qw2; clear qw2 uw1; go_wp2_with fail; go_ret2; exact ⟨none, 0, rfl, rownil _, uw2⟩
 · obtain ⟨hca, hcb⟩ := both_zero hc
   have la := chk_len hca; have lb := chk_len hcb; have sa := Sep.all (chk_ok hI1 hca); have sb := Sep.all (chk_ok hI2 hcb); rw [hc] at HB hE hRR; have HSA := Lib.hid sa; have HSB := Lib.hid sb; clear hc hca hcb hI1 hI2 sa sb; go_enter Tryz.func29, Tryz.ntmps29; go_wp2_with fail; refine (HB.out _ (Dn.refl _)).mono ?_; rintro e w1 ⟨rfl, u1⟩; go_wp2_with fail; go_loopw [6, 7] (fun ov iv wr => ∃ (k : Nat) (p' : Option Addr) (cap2 : Nat), k <= b.length /\ iv = .int .i64 k /\ ov = .slice p' ((b.take k).foldl putL a).length cap2 /\ Row wr p' ((b.take k).foldl putL a) /\ Dn w wr) (fun _ iv _ => b.length - (intOf iv).toNat)
   case atStart => exact ⟨0, p, cap, by omega, rfl, rfl, hR1.dn u1, u1⟩
   case round =>
    obtain ⟨k, p', cap2, hk, rfl, rfl, hr, hu⟩ := hrel
    by_cases hlt : k < b.length
    · have d1 : decide ((k : Int) < b.length) = true := by simp; omega
      obtain ⟨x, hx⟩ : ∃ x, b[k]? = some x := ⟨b[k], by simp [hlt]⟩; obtain ⟨g, o, rfl, hc⟩ := hR2.cs (by omega); obtain ⟨a0, a1, a2, a3⟩ := (hc.dn hu).el _ _ hx; have HX := Lib.hid hx; have hlen := foldP_take b a k; have HP := Lib.hid (rfPut p' cap2 ((b.take k).foldl putL a) x wr (by omega) (foldP_ok _ _ HSA.out (fun z hz => HSB.out z (List.mem_of_mem_take hz))) (HSB.out x (List.mem_of_getElem? hx)) hr); clear hx hc hr hR1 hR2; go_wp2_with fail; refine HP.out.mono ?_; rintro e w2 ⟨p2, cap2, rfl, hr2, q1⟩; go_wp2_with fail; go_roundw
      case rel => exact ⟨k + 1, p2, cap2, by omega, by simp, by rw [fold_at HX.out], by rw [fold_at HX.out]; exact hr2, hu.trans q1⟩
      case measure => simp [intOf]; omega
    · obtain rfl : k = b.length := by omega
      have d1 : decide ((b.length : Int) < b.length) = false := (by simp); rw [List.take_length] at hr ⊢; have HS := Lib.hid (rfShort p' cap2 (b.foldl putL a) wr hr); obtain ⟨E', hE'⟩ : ∃ E', E' = fin3 0 (b.foldl putL a) := ⟨_, rfl⟩; obtain ⟨R', hR'⟩ : ∃ R', R' = res3 0 (b.foldl putL a) := ⟨_, rfl⟩; rw [<- hE', <- hR'] at HS; obtain rfl : E = E' := hE.trans hE'.symm; obtain rfl : R = R' := hRR.trans hR'.symm; clear hE hRR hE' hR' hr; go_wp2_with fail; refine HS.out.mono ?_; rintro e w1 ⟨p2, cap2, rfl, _, hr2, q1⟩; have HR2 := Lib.hid hr2; clear hr2; go_wp2_with fail; go_ret2
      first | exact ⟨p2, cap2, rfl, HR2.out, hu.trans q1⟩ | exact ⟨p2, ⟨cap2, rfl⟩, HR2.out, hu.trans q1⟩
theorem rfCommonS (p : Option Addr) (cap : Nat) (a : List Rq) (q : Option Addr) (cap' : Nat) (b : List Rq) (E : Int) (R : List Rq) (w : World) (hE : E = fin3 (bothL a b) (cmL a b)) (hRR : R = res3 (bothL a b) (cmL a b)) (hab : a.length <= 100) (hbb : b.length <= 100) (hl1 : a.length <= 1000000) (hI1 : I6 a) (hR1 : Row w p a) (hl2 : b.length <= 1000000) (hI2 : I6 b) (hR2 : Row w q b) :
   Calls Tryz.prog 30 #[.slice p a.length cap, .slice q b.length cap'] w fun ro w' => ∃ p' cap', ro = .returned (.tuple #[.slice p' R.length cap', .int .i64 E]) /\ Row w' p' R /\ Dn w w' := by
 have HB := Lib.hid (fun W (h : Dn w W) => rfBoth p cap a q cap' b W hl1 hI1 (hR1.dn h) hl2 hI2 (hR2.dn h))
 by_cases hc : bothL a b = 0
 rotate_left
 · obtain rfl : E = bothL a b := by rw [hE, fin3_bad hc]
   obtain rfl : R = [] := by rw [hRR, res3_bad hc]
   clear hE hRR
   have d0 : (bothL a b != 0) = true := by simpa using hc
   clear hc hR1 hR2 hI1 hI2; generalize bothL a b = c at *; go_enter Tryz.func30, Tryz.ntmps30; go_wp2_with fail; refine (HB.out _ (Dn.refl _)).mono ?_; rintro e w1 ⟨rfl, qw1⟩; have uw1 := qw1; clear qw1; go_wp2_with fail; refine (HB.out _ uw1).mono ?_; rintro e w2 ⟨rfl, qw2⟩; have uw2 := uw1.trans qw2; clear qw2 uw1; go_wp2_with fail; go_ret2; exact ⟨none, 0, rfl, rownil _, uw2⟩
 · obtain ⟨hca, hcb⟩ := both_zero hc
   have la := chk_len hca; have lb := chk_len hcb; have sa := Sep.all (chk_ok hI1 hca); have sb := Sep.all (chk_ok hI2 hcb); rw [hc] at HB hE hRR; have HSA := Lib.hid sa; have HSB := Lib.hid sb; clear hc hca hcb hI1 hI2 sa sb; go_enter Tryz.func30, Tryz.ntmps30; go_wp2_with fail; refine (HB.out _ (Dn.refl _)).mono ?_; rintro e w1 ⟨rfl, u1⟩; go_wp2_with fail; go_loopw [6, 7] (fun ov iv wr => ∃ (k : Nat) (p' : Option Addr) (cap2 : Nat), k <= a.length /\ iv = .int .i64 k /\ ov = .slice p' (cmO b (a.take k)).length cap2 /\ Row wr p' (cmO b (a.take k)) /\ Dn w wr) (fun _ iv _ => a.length - (intOf iv).toNat)
   case atStart => exact ⟨0, none, 0, by omega, rfl, rfl, rownil _, u1⟩
   case round =>
    obtain ⟨k, p', cap2, hk, rfl, rfl, hr, hu⟩ := hrel
    by_cases hlt : k < a.length
    · have d1 : decide ((k : Int) < a.length) = true := by simp; omega
      obtain ⟨wo, rfl⟩ : ∃ wo : World, wo = wr := ⟨_, rfl⟩; obtain ⟨x, hx⟩ : ∃ x, a[k]? = some x := ⟨a[k], by simp [hlt]⟩; obtain ⟨g, o, rfl, hc⟩ := hR1.cs (by omega); have HX := Lib.hid hx; have HC := Lib.hid hc; have hxo := HSA.out x (List.mem_of_getElem? hx); have HXO := Lib.hid hxo; have hlenA : (cmO b (a.take k)).length <= 0 + k * b.length := cmO_len b (a.take k) k (by simp; omega) []; have hokA := Lib.hid (cmO_ok b (a.take k) [] (by simp)); have hmul : k * b.length <= 100 * 100 := Nat.mul_le_mul (by omega) hbb; clear hx hc hxo; go_wp2_with fail; go_loopw [6, 8] (fun ov iv wz => ∃ (j : Nat) (p3 : Option Addr) (cap3 : Nat), j <= b.length /\ iv = .int .i64 j /\ ov = .slice p3 (cmRow x (cmO b (a.take k)) (b.take j)).length cap3 /\ Row wz p3 (cmRow x (cmO b (a.take k)) (b.take j)) /\ Dn wo wz) (fun _ iv _ => b.length - (intOf iv).toNat)
      case atStart => exact ⟨0, p', cap2, by omega, rfl, rfl, hr, Dn.refl _⟩
      case round =>
       obtain ⟨j, p3, cap3, hj, rfl, rfl, hr3, hz⟩ := hrel
       by_cases hlt2 : j < b.length
       · have d2 : decide ((j : Int) < b.length) = true := by simp; omega
         obtain ⟨y, hy⟩ : ∃ y, b[j]? = some y := ⟨b[j], by simp [hlt2]⟩; obtain ⟨g2, o2, rfl, hc2⟩ := hR2.cs (by omega); have HY := Lib.hid hy; have hyo := HSB.out y (List.mem_of_getElem? hy); have hmi := meet_iff (p := x) (x := y) ⟨HXO.out.1, HXO.out.2.1⟩ ⟨hyo.1, hyo.2.1⟩; have hO := Lib.hid (fun W => rfMeet x.a x.b x.c x.d y.a y.b y.c y.d W HXO.out.1 HXO.out.2.1 hyo.1 hyo.2.1 HXO.out.2.2 hyo.2.2); have hCm := Lib.hid (fun W => rfCommon x.a x.b x.c x.d y.a y.b y.c y.d W); have hlenB := cmRow_len x (b.take j) (cmO b (a.take k)); have htk : (b.take j).length <= b.length := (by simp; omega); have hc1 := HC.out.dn (hu.trans hz); replace hc2 := hc2.dn (hu.trans hz); have hokB := Lib.hid (cmRow_ok x (b.take j) _ hokA.out); clear hy hyo
         by_cases hm : MeetR x y
         ·
          have HM := Lib.hid hm; rw [decide_eq_true (hmi.2 hm)] at hO; clear hmi; have HBD : Hid ((cmRow x (cmO b (a.take k)) (b.take j)).length <= 900000) := Lib.hid (by omega); clear hm hlenA hlenB htk hmul; go_wp2_with fail; obtain ⟨a0, a1, a2, a3⟩ := hc1.el _ _ HX.out; have al := hc1.lt; obtain ⟨b0, b1, b2, b3⟩ := hc2.el _ _ HY.out; have bl := hc2.lt; clear hc1 hc2; have hS1 := kd_8 (W := wr) (Dn.refl _) ⟨Dn.refl _, a0, a1, a2, a3, b0, b1, b2, b3⟩; have HShS1 := Lib.hid hS1; clear a0 a1 a2 a3 b0 b1 b2 b3; refine wp_region_held_drew (S := fun w' => Dn wr w' /\ w'.cell? ⟨g, o + k * 4, none⟩ = some (.int .i8 x.a) /\ w'.cell? ⟨g, o + k * 4 + 1, none⟩ = some (.int .i64 x.b) /\ w'.cell? ⟨g, o + k * 4 + 2, none⟩ = some (.int .i8 x.c) /\ w'.cell? ⟨g, o + k * 4 + 3, none⟩ = some (.int .i64 x.d) /\ w'.cell? ⟨g2, o2 + j * 4, none⟩ = some (.int .i8 y.a) /\ w'.cell? ⟨g2, o2 + j * 4 + 1, none⟩ = some (.int .i64 y.b) /\ w'.cell? ⟨g2, o2 + j * 4 + 2, none⟩ = some (.int .i8 y.c) /\ w'.cell? ⟨g2, o2 + j * 4 + 3, none⟩ = some (.int .i64 y.d)) (by kernel_rfl) ?_ (fun hHeld => ?_)
          · (try dsimp only); (exact ke kd_8)
          refine tS 0 rfl ?_; refine tS 1 rfl ?_; refine tS 2 rfl ?_; refine tS 3 rfl ?_; refine tS 4 rfl ?_; refine tS 5 rfl ?_; refine tS 6 rfl ?_; refine tS 7 rfl ?_; refine rD 8 rfl (fun K hK => ?_); go_simp
          (go_at_call 71; refine (hO.out _).mono ?_; rintro e wa ⟨rfl, qa⟩)
          try go_wp2_with fail
          refine hK.out _ _ ?_ (fun hHeld => ?_)
          · (try dsimp only); (exact ke kd_8)
          clear hK K
          try simp only [Act.put, pL]
          refine wpAnyH_done (by kernel_rfl) ?_ _
          all_goals skip
          all_goals
            clear hS1; obtain ⟨uf10, c2, c3, c4, c5, c6, c7, c8, c9⟩ := (‹Dn wr _ /\ _› : _ /\ _); obtain ⟨w11, rfl⟩ : ∃ w11 : World, w11 = wa := ⟨_, rfl⟩; have a4 := nlt al uf10.size; clear al; have a5 := nlt bl uf10.size; clear bl; replace hr3 := hr3.dn uf10; have vuf10 := hz.trans uf10; clear uf10 hz HShS1; go_wp2_with fail
            have HP : Hid (∀ W, Dn w11 W -> Calls Tryz.prog 69 #[.slice p3 (cmRow x (cmO b (a.take k)) (b.take j)).length cap3, .agg #[.int .i8 (mxI x.a x.b y.a y.b), .int .i64 (mxD x.a x.b y.a y.b), .int .i8 (mnI x.c x.d y.c y.d), .int .i64 (mnD x.c x.d y.c y.d)]] W fun ro w' => ∃ p' cap', ro = .returned (.slice p' (putL (cmRow x (cmO b (a.take k)) (b.take j)) (inR x y)).length cap') /\ Row w' p' (putL (cmRow x (cmO b (a.take k)) (b.take j)) (inR x y)) /\ Dn W w') :=
              Lib.hid (fun W h => rfPut p3 cap3 _ (inR x y) W HBD.out hokB.out (inR_ok HM.out) (hr3.dn h))
            have hS14 := kd_8 (W := w11) (Dn.refl _) ⟨Dn.refl _, c2, c3, c4, c5, c6, c7, c8, c9⟩; have HShS14 := Lib.hid hS14; clear c2 c3 c4 c5 c6 c7 c8 c9; refine wp_region_held_drew (S := fun w' => Dn w11 w' /\ w'.cell? ⟨g, o + k * 4, none⟩ = some (.int .i8 x.a) /\ w'.cell? ⟨g, o + k * 4 + 1, none⟩ = some (.int .i64 x.b) /\ w'.cell? ⟨g, o + k * 4 + 2, none⟩ = some (.int .i8 x.c) /\ w'.cell? ⟨g, o + k * 4 + 3, none⟩ = some (.int .i64 x.d) /\ w'.cell? ⟨g2, o2 + j * 4, none⟩ = some (.int .i8 y.a) /\ w'.cell? ⟨g2, o2 + j * 4 + 1, none⟩ = some (.int .i64 y.b) /\ w'.cell? ⟨g2, o2 + j * 4 + 2, none⟩ = some (.int .i8 y.c) /\ w'.cell? ⟨g2, o2 + j * 4 + 3, none⟩ = some (.int .i64 y.d)) (by kernel_rfl) ?_ (fun hHeld => ?_)
            · (try dsimp only); (exact ke kd_8)
            refine tS 0 rfl ?_; refine tS 1 rfl ?_; refine tS 2 rfl ?_; refine tS 3 rfl ?_; refine tS 4 rfl ?_; refine tS 5 rfl ?_; refine tS 6 rfl ?_; refine tS 7 rfl ?_; refine tS 8 rfl ?_; refine rD 9 rfl (fun K hK => ?_); go_simp
            (first | (go_at_call 72; refine (hCm.out _).mono ?_; rintro e wa ⟨rfl, qa⟩) | (go_at_call 69; refine (HP.out _ ((‹Dn w11 _ /\ _› : _ /\ _).1)).mono ?_; rintro e wa ⟨p2, cap2, rfl, hr2, qa⟩))
            try go_wp2_with fail
            refine hK.out _ _ ?_ (fun hHeld => ?_)
            · (try dsimp only); (exact ke kd_8)
            clear hK K
            try simp only [Act.put, pL]
            refine rD 10 rfl (fun K hK => ?_); go_simp
            (first | (go_at_call 72; refine (hCm.out _).mono ?_; rintro e wa ⟨rfl, qa⟩) | (go_at_call 69; refine (HP.out _ ((‹Dn w11 _ /\ _› : _ /\ _).1)).mono ?_; rintro e wa ⟨p2, cap2, rfl, hr2, qa⟩))
            try go_wp2_with fail
            refine hK.out _ _ ?_ (fun hHeld => ?_)
            · (try dsimp only); (exact ke kd_8)
            clear hK K
            try simp only [Act.put, pL]
            refine tS 11 rfl ?_; refine wpAnyH_done (by kernel_rfl) ?_ _
            all_goals skip
            all_goals
              clear hS14; obtain ⟨uf23, a6, a7, a8, a9, aA, aB, aC, aD⟩ := (‹Dn w11 _ /\ _› : _ /\ _); obtain ⟨w24, rfl⟩ : ∃ w24 : World, w24 = wa := ⟨_, rfl⟩; have aE := nlt a4 uf23.size; clear a4; have aF := nlt a5 uf23.size; clear a5; replace hr3 := hr3.dn uf23; have vuf23 := vuf10.trans uf23; clear uf23 vuf10 HShS14; go_wp2_with fail; go_roundw
              case rel => exact ⟨j + 1, p2, cap2, by omega, by simp, by rw [cmRow_at HY.out, if_pos HM.out], by rw [cmRow_at HY.out, if_pos HM.out]; exact hr2, vuf23⟩
              case measure => simp [intOf]; omega
         ·
          have HM := Lib.hid hm; rw [decide_eq_false (fun h => hm (hmi.1 h))] at hO; clear hmi; have HBD : Hid ((cmRow x (cmO b (a.take k)) (b.take j)).length <= 900000) := Lib.hid (by omega); clear hm hlenA hlenB htk hmul; go_wp2_with fail; obtain ⟨a0, a1, a2, a3⟩ := hc1.el _ _ HX.out; have al := hc1.lt; obtain ⟨b0, b1, b2, b3⟩ := hc2.el _ _ HY.out; have bl := hc2.lt; clear hc1 hc2; have hS1 := kd_8 (W := wr) (Dn.refl _) ⟨Dn.refl _, a0, a1, a2, a3, b0, b1, b2, b3⟩; have HShS1 := Lib.hid hS1; clear a0 a1 a2 a3 b0 b1 b2 b3; refine wp_region_held_drew (S := fun w' => Dn wr w' /\ w'.cell? ⟨g, o + k * 4, none⟩ = some (.int .i8 x.a) /\ w'.cell? ⟨g, o + k * 4 + 1, none⟩ = some (.int .i64 x.b) /\ w'.cell? ⟨g, o + k * 4 + 2, none⟩ = some (.int .i8 x.c) /\ w'.cell? ⟨g, o + k * 4 + 3, none⟩ = some (.int .i64 x.d) /\ w'.cell? ⟨g2, o2 + j * 4, none⟩ = some (.int .i8 y.a) /\ w'.cell? ⟨g2, o2 + j * 4 + 1, none⟩ = some (.int .i64 y.b) /\ w'.cell? ⟨g2, o2 + j * 4 + 2, none⟩ = some (.int .i8 y.c) /\ w'.cell? ⟨g2, o2 + j * 4 + 3, none⟩ = some (.int .i64 y.d)) (by kernel_rfl) ?_ (fun hHeld => ?_)
          · (try dsimp only); (exact ke kd_8)
          refine tS 0 rfl ?_; refine tS 1 rfl ?_; refine tS 2 rfl ?_; refine tS 3 rfl ?_; refine tS 4 rfl ?_; refine tS 5 rfl ?_; refine tS 6 rfl ?_; refine tS 7 rfl ?_; refine rD 8 rfl (fun K hK => ?_); go_simp
          (go_at_call 71; refine (hO.out _).mono ?_; rintro e wa ⟨rfl, qa⟩)
          try go_wp2_with fail
          refine hK.out _ _ ?_ (fun hHeld => ?_)
          · (try dsimp only); (exact ke kd_8)
          clear hK K
          try simp only [Act.put, pL]
          refine wpAnyH_done (by kernel_rfl) ?_ _
          all_goals skip
          all_goals
            clear hS1; obtain ⟨uf10, c2, c3, c4, c5, c6, c7, c8, c9⟩ := (‹Dn wr _ /\ _› : _ /\ _); obtain ⟨w11, rfl⟩ : ∃ w11 : World, w11 = wa := ⟨_, rfl⟩; have a4 := nlt al uf10.size; clear al; have a5 := nlt bl uf10.size; clear bl; replace hr3 := hr3.dn uf10; have vuf10 := hz.trans uf10; clear uf10 hz HShS1; go_wp2_with fail; go_roundw
            case rel => exact ⟨j + 1, p3, cap3, by omega, by simp, by rw [cmRow_at HY.out, if_neg HM.out], by rw [cmRow_at HY.out, if_neg HM.out]; exact hr3, vuf10⟩
            case measure => simp [intOf]; omega
       · obtain rfl : j = b.length := by omega
         have d2 : decide ((b.length : Int) < b.length) = false := (by simp); rw [List.take_length] at hr3 ⊢; go_wp2_with fail; go_roundw
         case rel => exact ⟨k + 1, p3, cap3, by omega, by simp, by rw [cmO_at HX.out], by rw [cmO_at HX.out]; exact hr3, hu.trans hz⟩
         case measure => simp [intOf]; omega
    · obtain rfl : k = a.length := by omega
      have d1 : decide ((a.length : Int) < a.length) = false := (by simp); rw [List.take_length] at hr ⊢; have HS := Lib.hid (rfShort p' cap2 (cmO b a) wr hr); obtain ⟨E', hE'⟩ : ∃ E', E' = fin3 0 (cmO b a) := ⟨_, rfl⟩; obtain ⟨R', hR'⟩ : ∃ R', R' = res3 0 (cmO b a) := ⟨_, rfl⟩; rw [<- hE', <- hR'] at HS; obtain rfl : E = E' := hE.trans hE'.symm; obtain rfl : R = R' := hRR.trans hR'.symm; clear hE hRR hE' hR' hr; go_wp2_with fail; refine HS.out.mono ?_; rintro e w1 ⟨p2, cap2, rfl, _, hr2, q1⟩; have HR2 := Lib.hid hr2; clear hr2; go_wp2_with fail; go_ret2
      first | exact ⟨p2, cap2, rfl, HR2.out, hu.trans q1⟩ | exact ⟨p2, ⟨cap2, rfl⟩, HR2.out, hu.trans q1⟩
theorem rfWithinS (p : Option Addr) (cap : Nat) (a : List Rq) (q : Option Addr) (cap' : Nat) (b : List Rq) (E : Int) (r : Bool) (w : World) (hE : E = bothL a b) (hr : r = if E = 0 then decide (WtP a b) else false) (hl1 : a.length <= 1000000) (hI1 : I6 a) (hR1 : Row w p a) (hl2 : b.length <= 1000000) (hI2 : I6 b) (hR2 : Row w q b) :
   Calls Tryz.prog 32 #[.slice p a.length cap, .slice q b.length cap'] w fun ro w' => ro = .returned (.tuple #[.bool r, .int .i64 E]) /\ Dn w w' := by
 have HB := Lib.hid (fun W (h : Dn w W) => rfBoth p cap a q cap' b W hl1 hI1 (hR1.dn h) hl2 hI2 (hR2.dn h))
 by_cases hc : bothL a b = 0
 rotate_left
 · obtain rfl : E = bothL a b := hE
   obtain rfl : r = false := by rw [hr, if_neg hc]
   clear hr
   have d0 : (bothL a b != 0) = true := by simpa using hc
   clear hc hR1 hR2 hI1 hI2; generalize bothL a b = c at *; go_enter Tryz.func32, Tryz.ntmps32; go_wp2_with fail; refine (HB.out _ (Dn.refl _)).mono ?_; rintro e w1 ⟨rfl, qw1⟩; have uw1 := qw1; clear qw1; go_wp2_with fail; refine (HB.out _ uw1).mono ?_; rintro e w2 ⟨rfl, qw2⟩; have uw2 := uw1.trans qw2; clear qw2 uw1; go_wp2_with fail; go_ret2; exact ⟨rfl, uw2⟩
 · obtain ⟨hca, hcb⟩ := both_zero hc
   have la := chk_len hca; have lb := chk_len hcb; have sa := Sep.all (chk_ok hI1 hca); have sb := Sep.all (chk_ok hI2 hcb); obtain rfl : E = 0 := hE.trans hc
   obtain rfl : r = decide (WtP a b) := by rw [hr, if_pos rfl]
   rw [hc] at HB; have HW := Lib.hid (wtP_iff sa sb); clear hr hE; have HSA := Lib.hid sa; have HSB := Lib.hid sb; clear hc hca hcb hI1 hI2 sa sb; obtain ⟨rr, hrr⟩ : ∃ rr, rr = decide (WtP a b) := ⟨_, rfl⟩; rw [<- hrr]; have HRR := Lib.hid hrr; clear hrr; go_enter Tryz.func32, Tryz.ntmps32; go_wp2_with fail; refine (HB.out _ (Dn.refl _)).mono ?_; rintro e w1 ⟨rfl, u1⟩; go_wp2_with fail; go_loopw [4, 5, 6] (fun r1 r2 iv wr => r1 = .bool false /\ r2 = .int .i64 0 /\ ∃ k : Nat, k <= a.length /\ iv = .int .i64 k /\ (∀ i x, a[i]? = some x -> i < k -> b.any (inB x) = true) /\ Dn w wr) (fun _ _ iv _ => a.length - (intOf iv).toNat)
   case atStart => exact ⟨rfl, rfl, 0, by omega, rfl, fun _ _ _ h => absurd h (by omega), u1⟩
   case round =>
    obtain ⟨rfl, rfl, k, hk, rfl, hn, hu⟩ := hrel; have HN := Lib.hid hn; clear hn
    by_cases hlt : k < a.length
    · have d1 : decide ((k : Int) < a.length) = true := by simp; omega
      obtain ⟨wo, rfl⟩ : ∃ wo : World, wo = wr := ⟨_, rfl⟩; obtain ⟨x, hx⟩ : ∃ x, a[k]? = some x := ⟨a[k], by simp [hlt]⟩; obtain ⟨g, o, rfl, hc⟩ := hR1.cs (by omega); have HX := Lib.hid hx; have HC := Lib.hid hc; have HXO := Lib.hid (HSA.out x (List.mem_of_getElem? hx)); clear hx hc; go_wp2_with fail; go_loopw [7, 8] (fun nv iv wz => ∃ (j : Nat), j <= b.length /\ iv = .int .i64 j /\ nv = .bool ((b.take j).any (inB x)) /\ Dn wo wz) (fun _ iv _ => b.length - (intOf iv).toNat)
      case atStart => exact ⟨0, by omega, rfl, rfl, Dn.refl _⟩
      case round =>
       obtain ⟨j, hj, rfl, rfl, hz⟩ := hrel
       by_cases hlt2 : j < b.length
       · have d2 : decide ((j : Int) < b.length) = true := by simp; omega
         obtain ⟨y, hy⟩ : ∃ y, b[j]? = some y := ⟨b[j], by simp [hlt2]⟩; obtain ⟨g2, o2, rfl, hc2⟩ := hR2.cs (by omega); have HY := Lib.hid hy; have hyo := HSB.out y (List.mem_of_getElem? hy); have hWi : Hid (∀ W, Calls Tryz.prog 74 #[.agg #[.int .i8 x.a, .int .i64 x.b, .int .i8 x.c, .int .i64 x.d], .agg #[.int .i8 y.a, .int .i64 y.b, .int .i8 y.c, .int .i64 y.d]] W fun ro w' => ro = .returned (.bool (inB x y)) /\ Dn W w') := Lib.hid (fun W => rfWithin x.a x.b x.c x.d y.a y.b y.c y.d W HXO.out.1 HXO.out.2.1 hyo.1 hyo.2.1 HXO.out.2.2 hyo.2.2); have hc1 := HC.out.dn (hu.trans hz); replace hc2 := hc2.dn (hu.trans hz); have hany := Lib.hid (any_at (x := x) HY.out); clear hy hyo; generalize (b.take j).any (inB x) = n at *
         cases n
         ·
           generalize inB x y = m at *; go_wp2_with fail; obtain ⟨a0, a1, a2, a3⟩ := hc1.el _ _ HX.out; have al := hc1.lt; obtain ⟨b0, b1, b2, b3⟩ := hc2.el _ _ HY.out; have bl := hc2.lt; clear hc1 hc2; have hS1 := kd_8 (W := wr) (Dn.refl _) ⟨Dn.refl _, a0, a1, a2, a3, b0, b1, b2, b3⟩; have HShS1 := Lib.hid hS1; clear a0 a1 a2 a3 b0 b1 b2 b3; refine wp_region_held_drew (S := fun w' => Dn wr w' /\ w'.cell? ⟨g, o + k * 4, none⟩ = some (.int .i8 x.a) /\ w'.cell? ⟨g, o + k * 4 + 1, none⟩ = some (.int .i64 x.b) /\ w'.cell? ⟨g, o + k * 4 + 2, none⟩ = some (.int .i8 x.c) /\ w'.cell? ⟨g, o + k * 4 + 3, none⟩ = some (.int .i64 x.d) /\ w'.cell? ⟨g2, o2 + j * 4, none⟩ = some (.int .i8 y.a) /\ w'.cell? ⟨g2, o2 + j * 4 + 1, none⟩ = some (.int .i64 y.b) /\ w'.cell? ⟨g2, o2 + j * 4 + 2, none⟩ = some (.int .i8 y.c) /\ w'.cell? ⟨g2, o2 + j * 4 + 3, none⟩ = some (.int .i64 y.d)) (by kernel_rfl) ?_ (fun hHeld => ?_)
           · (try dsimp only); (exact ke kd_8)
           refine tS 0 rfl ?_; refine tS 1 rfl ?_; refine tS 2 rfl ?_; refine tS 3 rfl ?_; refine tS 4 rfl ?_; refine tS 5 rfl ?_; refine tS 6 rfl ?_; refine tS 7 rfl ?_; refine tS 8 rfl ?_; refine tS 9 rfl ?_; refine rD 10 rfl (fun K hK => ?_); go_simp
           (go_at_call 74; refine (hWi.out _).mono ?_; rintro e wa ⟨rfl, qa⟩)
           try go_wp2_with fail
           refine hK.out _ _ ?_ (fun hHeld => ?_)
           · (try dsimp only); (exact ke kd_8)
           clear hK K
           try simp only [Act.put, pL]
           refine tS 11 rfl ?_; refine tS 12 rfl ?_; refine wpAnyH_done (by kernel_rfl) ?_ _
           all_goals skip
           all_goals
             clear hS1; obtain ⟨uf10, c2, c3, c4, c5, c6, c7, c8, c9⟩ := (‹Dn wr _ /\ _› : _ /\ _); obtain ⟨w11, rfl⟩ : ∃ w11 : World, w11 = wa := ⟨_, rfl⟩; have l12 := nlt al uf10.size; clear al; have l13 := nlt bl uf10.size; clear bl; have vuf10 := hz.trans uf10; clear uf10 hz HShS1; go_wp2_with fail; go_roundw
             case rel => exact ⟨j + 1, by omega, by simp, by rw [hany.out]; simp, vuf10⟩
             case measure => simp [intOf]; omega
         ·
           go_wp2_with fail; obtain ⟨a0, a1, a2, a3⟩ := hc1.el _ _ HX.out; have al := hc1.lt; clear hc1 hc2; have hS1 := kd_4 (W := wr) (Dn.refl _) ⟨Dn.refl _, a0, a1, a2, a3⟩; have HShS1 := Lib.hid hS1; clear a0 a1 a2 a3; refine wp_region_held_drew (S := fun w' => Dn wr w' /\ w'.cell? ⟨g, o + k * 4, none⟩ = some (.int .i8 x.a) /\ w'.cell? ⟨g, o + k * 4 + 1, none⟩ = some (.int .i64 x.b) /\ w'.cell? ⟨g, o + k * 4 + 2, none⟩ = some (.int .i8 x.c) /\ w'.cell? ⟨g, o + k * 4 + 3, none⟩ = some (.int .i64 x.d)) (by kernel_rfl) ?_ (fun hHeld => ?_)
           · (try dsimp only); (exact ke kd_4)
           refine tS 0 rfl ?_; refine tS 1 rfl ?_; refine tV 2 rfl ?_; refine tV 3 rfl ?_; refine tV 4 rfl ?_; refine tV 5 rfl ?_; refine tV 6 rfl ?_; refine tV 7 rfl ?_; refine tV 8 rfl ?_; refine tV 9 rfl ?_; refine tV 10 rfl ?_; refine tS 11 rfl ?_; refine tS 12 rfl ?_; refine wpAnyH_done (by kernel_rfl) ?_ _
           all_goals skip
           all_goals
             clear hS1; obtain ⟨uf6, c2, c3, c4, c5⟩ := (‹Dn wr _ /\ _› : _ /\ _); have l7 := nlt al uf6.size; clear al; have vuf6 := hz.trans uf6; clear uf6 hz HShS1; go_wp2_with fail; go_roundw
             case rel => exact ⟨j + 1, by omega, by simp, by rw [hany.out]; simp, vuf6⟩
             case measure => simp [intOf]; omega
       · obtain rfl : j = b.length := by omega
         have d2 : decide ((b.length : Int) < b.length) = false := (by simp); rw [List.take_length]
         by_cases hA : b.any (inB x) = true
         · have HA := Lib.hid hA
           rw [hA]; clear hA; go_wp2_with fail; go_roundw
           case rel => exact ⟨rfl, rfl, k + 1, by omega, by simp, fun i z hz2 hi => (Nat.lt_or_ge i k).elim (HN.out i z hz2) (fun h => by (obtain rfl : i = k := (by omega)); (rw [HX.out] at hz2); (cases hz2); exact HA.out), hu.trans hz⟩
           case measure => simp [intOf]; omega
         · have HA := Lib.hid hA
           have hA2 : b.any (inB x) = false := (by simpa using hA); rw [hA2]; clear hA hA2
           obtain rfl : rr = false := by rw [HRR.out, decide_eq_false_iff_not, HW.out]; exact fun h => HA.out (h x (List.mem_of_getElem? HX.out))
           go_wp2_with fail; go_ret2; exact ⟨rfl, hu.trans hz⟩
    · obtain rfl : k = a.length := by omega
      have d1 : decide ((a.length : Int) < a.length) = false := (by simp)
      obtain rfl : rr = true := by
       rw [HRR.out, decide_eq_true_iff, HW.out]; intro x hx; obtain ⟨i, hi, rfl⟩ := List.getElem_of_mem hx; exact HN.out i _ (by simp [hi]) hi
      go_wp2_with fail; go_ret2; exact ⟨rfl, hu⟩
set_option maxHeartbeats 4000000
set_option maxRecDepth 100000
theorem ret2_bJ {l : IntKind} {a b : Bool} {c : Int} (h : b = a) : Ending.returned (.tuple #[.bool a, .int l c]) = .returned (.tuple #[.bool b, .int l c]) := by rw [h]
theorem Cs.tail {w : World} {g o : Nat} {y : Rq} {t : List Rq} (h : Cs w g o (y :: t)) : Cs w g (o + 4) t := ⟨h.lt, fun k x hx => by
 obtain ⟨h0, h1, h2, h3⟩ := h.el (k + 1) x (by simpa using hx)
 have e : o + (k + 1) * 4 = o + 4 + k * 4 := by omega
 rw [e] at h0 h1 h2 h3
 exact ⟨h0, h1, h2, h3⟩⟩
theorem Cs.head {w : World} {g o : Nat} {y : Rq} {t : List Rq} (h : Cs w g o (y :: t)) : w.cell? ⟨g, o, none⟩ = some (.int .i8 y.a) /\ w.cell? ⟨g, o + 1, none⟩ = some (.int .i64 y.b) /\ w.cell? ⟨g, o + 2, none⟩ = some (.int .i8 y.c) /\ w.cell? ⟨g, o + 3, none⟩ = some (.int .i64 y.d) := by
 have := h.el 0 y rfl
 simpa [El] using this
theorem row_tail {w : World} {g o cap : Nat} {y : Rq} {t : List Rq} (h : Cs w g o (y :: t)) (hc : t.length + 1 <= cap) : Row w (if cap = 1 then some ⟨g, o, none⟩ else some ⟨g, o + 4, none⟩) t := by
 cases t with
 | nil => exact Row.nil _ _
 | cons z t =>
   rw [if_neg (by simp at hc; omega)]; exact h.tail.row
theorem wtn_at {a c : List Rq} {k : Nat} {x : Rq} (h : a[k]? = some x) : wtn (a.drop k) c = match dropB x.lo c with
  | [] => false
  | y :: t => if y.lo <= x.lo /\ x.hi <= y.hi then wtn (a.drop (k + 1)) (y :: t) else false := by
 obtain ⟨hl, rfl⟩ := List.getElem?_eq_some_iff.1 h
 rw [List.drop_eq_getElem_cons hl, wtn]
 rfl
theorem rsWithinS (p : Option Addr) (cap : Nat) (a : List Rq) (q : Option Addr) (cap' : Nat) (b : List Rq) (E : Int) (r : Bool) (w : World) (hE : E = bothL a b) (hr : r = if E = 0 then wtn a b else false) (hcap2 : b.length <= cap') (hmx2 : cap' <= 9223372036854775807) (hl1 : a.length <= 1000000) (hI1 : I6 a) (hR1 : Row w p a) (hl2 : b.length <= 1000000) (hI2 : I6 b) (hR2 : Row w q b) :
   Calls Tryz.prog 27 #[.slice p a.length cap, .slice q b.length cap'] w fun ro w' => ro = .returned (.tuple #[.bool r, .int .i64 E]) /\ Dn w w' := by
 have HB := Lib.hid (fun W (h : Dn w W) => rsChecked p cap a q cap' b W hl1 hI1 (hR1.dn h) hl2 hI2 (hR2.dn h))
 by_cases hc : bothL a b = 0
 rotate_left
 · obtain rfl : E = bothL a b := hE
   obtain rfl : r = false := by rw [hr, if_neg hc]
   have d0 : (bothL a b != 0) = true := by simpa using hc
   clear hr hc hR1 hR2 hI1 hI2; generalize bothL a b = c at *; go_enter Tryz.func27, Tryz.ntmps27; go_wp2_with fail; refine (HB.out _ (Dn.refl _)).mono ?_; rintro e w1 ⟨rfl, qw1⟩; have uw1 := qw1; clear qw1; go_wp2_with fail; go_ret2; exact ⟨rfl, uw1⟩
 · obtain ⟨hca, hcb⟩ := both_zero hc
   have sa := Sep.all (chk_ok hI1 hca); have sb := Sep.all (chk_ok hI2 hcb); obtain rfl : E = 0 := hE.trans hc
   obtain rfl : r = wtn a b := by rw [hr, if_pos rfl]
   rw [hc] at HB; have HSA := Lib.hid sa; have HSB := Lib.hid sb; clear hr hE hc hca hcb hI1 hI2 sa sb; obtain ⟨rr, hrr⟩ : ∃ rr, rr = wtn a b := ⟨_, rfl⟩; rw [<- hrr]; have HRR := Lib.hid hrr; clear hrr; go_enter Tryz.func27, Tryz.ntmps27; go_wp2_with fail; refine (HB.out _ (Dn.refl _)).mono ?_; rintro e w1 ⟨rfl, u1⟩; go_wp2_with fail; go_loopw [1, 4, 5, 17] (fun bv r1 r2 iv wr => r1 = .bool false /\ r2 = .int .i64 0 /\ ∃ (k : Nat) (c : List Rq) (p' : Option Addr) (cap2 : Nat), k <= a.length /\ iv = .int .i64 k /\ bv = .slice p' c.length cap2 /\ c.length <= cap2 /\ cap2 <= 9223372036854775807 /\ Row wr p' c /\ (∀ x ∈ c, x.ok) /\ c.length <= b.length /\ wtn a b = wtn (a.drop k) c /\ Dn w wr) (fun _ _ _ iv _ => a.length - (intOf iv).toNat)
   case atStart => exact ⟨rfl, rfl, 0, b, q, cap', by omega, rfl, rfl, hcap2, hmx2, hR2.dn u1, HSB.out, Nat.le_refl _, rfl, u1⟩
   case round =>
    obtain ⟨rfl, rfl, k, c, p', cap2, hk, rfl, rfl, hcc, hcm, hrc, hok, hcl, hw, hu⟩ := hrel; have HW := Lib.hid hw; have HOK := Lib.hid hok; clear hw hok
    by_cases hlt : k < a.length
    · have d1 : decide ((k : Int) < a.length) = true := by simp; omega
      obtain ⟨x, hx⟩ : ∃ x, a[k]? = some x := ⟨a[k], by simp [hlt]⟩; obtain ⟨g, o, rfl, hc⟩ := hR1.cs (by omega); have HX := Lib.hid hx; have HXO := Lib.hid (HSA.out x (List.mem_of_getElem? hx)); obtain ⟨a0, a1, a2, a3⟩ := (hc.dn hu).el _ _ hx; clear hx hc; obtain ⟨wo, rfl⟩ : ∃ wo : World, wo = wr := ⟨_, rfl⟩; go_upto_region 7 with fail; clear a0 a1 a2 a3; obtain ⟨W1, hW1⟩ : ∃ W1, W1 = wo.alloc (.cells #[.int .i8 x.a, .int .i64 x.b, .int .i8 x.c, .int .i64 x.d] 45) := ⟨_, rfl⟩; have uW1 : Dn wo W1 := (by rw [hW1]; exact (Dn.refl _).alloc _); replace hrc := hrc.dn uW1; have c2 : W1.cell? ⟨wo.heap.size, 0, none⟩ = some (.int .i8 x.a) := (by rw [hW1]; simp [go_sem]); have c3 : W1.cell? ⟨wo.heap.size, 1, none⟩ = some (.int .i64 x.b) := (by rw [hW1]; simp [go_sem]); have c4 : W1.cell? ⟨wo.heap.size, 2, none⟩ = some (.int .i8 x.c) := (by rw [hW1]; simp [go_sem]); have c5 : W1.cell? ⟨wo.heap.size, 3, none⟩ = some (.int .i64 x.d) := (by rw [hW1]; simp [go_sem]); have l6 : wo.heap.size < W1.heap.size := (by rw [hW1]; simp <;> omega); rw [<- hW1]; clear hW1; have vW1 := hu.trans uW1; clear uW1 hu; have HU1 := Lib.hid vW1; go_loopw [1] (fun bv wz => ∃ (d : List Rq) (p3 : Option Addr) (cap3 : Nat), bv = .slice p3 d.length cap3 /\ d.length <= cap3 /\ cap3 <= 9223372036854775807 /\ Row wz p3 d /\ (∀ x ∈ d, x.ok) /\ d.length <= c.length /\ dropB x.lo c = dropB x.lo d /\ wz.cell? ⟨wo.heap.size, 0, none⟩ = some (.int .i8 x.a) /\ wz.cell? ⟨wo.heap.size, 1, none⟩ = some (.int .i64 x.b) /\ wz.cell? ⟨wo.heap.size, 2, none⟩ = some (.int .i8 x.c) /\ wz.cell? ⟨wo.heap.size, 3, none⟩ = some (.int .i64 x.d) /\ Dn W1 wz) (fun bv _ => lenOf bv)
      case atStart => exact ⟨c, p', cap2, rfl, hcc, hcm, hrc, HOK.out, Nat.le_refl _, rfl, c2, c3, c4, c5, Dn.refl _⟩
      case round =>
       obtain ⟨d, p3, cap3, rfl, hd3, hm3, hr3, hok3, hl3, hdr, xc0, xc1, xc2, xc3, hz⟩ := hrel; have HD := Lib.hid hdr; have HOK3 := Lib.hid hok3; clear hdr hok3 hrc c2 c3 c4 c5; rcases d with _ | ⟨y, t⟩
       · simp only [List.length_nil]
         clear hr3; go_wp2_with fail; have rl := World.block_lt_of_cell? _ _ xc0; have hS1 := kd_4 (W := wr) (Dn.refl _) ⟨Dn.refl _, xc0, xc1, xc2, xc3⟩; have HShS1 := Lib.hid hS1; clear xc0 xc1 xc2 xc3; refine wp_region_held_drew (S := fun w' => Dn wr w' /\ w'.cell? ⟨wo.heap.size, 0, none⟩ = some (.int .i8 x.a) /\ w'.cell? ⟨wo.heap.size, 1, none⟩ = some (.int .i64 x.b) /\ w'.cell? ⟨wo.heap.size, 2, none⟩ = some (.int .i8 x.c) /\ w'.cell? ⟨wo.heap.size, 3, none⟩ = some (.int .i64 x.d)) (by kernel_rfl) ?_ (fun hHeld => ?_)
         · (try dsimp only); (exact ke kd_4)
         refine tS 0 rfl ?_; refine tS 1 rfl ?_; refine tS 2 rfl ?_; refine tS 3 rfl ?_; refine tV 4 rfl ?_; refine tV 5 rfl ?_; refine tV 6 rfl ?_; refine tV 7 rfl ?_; refine tV 8 rfl ?_; refine tV 9 rfl ?_; refine tV 10 rfl ?_; refine tV 11 rfl ?_; refine tS 12 rfl ?_; refine wpAnyH_done (by kernel_rfl) ?_ _
         all_goals skip
         all_goals
           clear hS1; obtain ⟨uf6, c2, c3, c4, c5⟩ := (‹Dn wr _ /\ _› : _ /\ _); have l7 := nlt rl uf6.size; clear rl; have vuf6 := hz.trans uf6; clear uf6 hz HShS1; go_wp2_with fail; have hS8 := kd_4 (W := wr.drew) (Dn.refl _) ⟨Dn.refl _, c2, c3, c4, c5⟩; have HShS8 := Lib.hid hS8; clear c2 c3 c4 c5; refine wp_region_held_drew (S := fun w' => Dn wr.drew w' /\ w'.cell? ⟨wo.heap.size, 0, none⟩ = some (.int .i8 x.a) /\ w'.cell? ⟨wo.heap.size, 1, none⟩ = some (.int .i64 x.b) /\ w'.cell? ⟨wo.heap.size, 2, none⟩ = some (.int .i8 x.c) /\ w'.cell? ⟨wo.heap.size, 3, none⟩ = some (.int .i64 x.d)) (by kernel_rfl) ?_ (fun hHeld => ?_)
           · (try dsimp only); (exact ke kd_4)
           refine tS 0 rfl ?_; refine tS 1 rfl ?_; refine tS 2 rfl ?_; refine tS 3 rfl ?_; refine tV 4 rfl ?_; refine tV 5 rfl ?_; refine tV 6 rfl ?_; refine tV 7 rfl ?_; refine tV 8 rfl ?_; refine tV 9 rfl ?_; refine tS 10 rfl ?_; refine wpAnyH_done (by kernel_rfl) ?_ _
           all_goals skip
           all_goals
             clear hS8; obtain ⟨uf13, c9, aG, aH, aI⟩ := (‹Dn wr.drew _ /\ _› : _ /\ _); have aJ := nlt l7 uf13.size; clear l7; have vuf13 := vuf6.trans uf13; clear uf13 vuf6 HShS8; go_wp2_with fail; go_ret2; exact ⟨ret2_bJ (by rw [HRR.out, HW.out, wtn_at HX.out, HD.out]; rfl), HU1.out.trans vuf13⟩
       · obtain ⟨g3, o3, rfl, hc3⟩ := hr3.cs (by simp)
         have hyo := HOK3.out y List.mem_cons_self; obtain ⟨y0, y1, y2, y3⟩ := hc3.head; have hC := Lib.hid (fun W => eCmp y.c y.d x.a x.b W); have hlt2 := eC_lt (i := y.c) (j := x.a) hyo.2.1 HXO.out.1; have hL : (y :: t).length = t.length + 1 := rfl; rw [hL] at hd3 ⊢; have dl : decide (0 < (t.length : Int) + 1) = true := (by rw [decide_eq_true_iff]; omega); have dl0 : (((t.length : Int) + 1) == 0) = false := (by simp; omega); clear hr3
         by_cases hcmp : eC y.c y.d x.a x.b < 0
         · have dc : decide (eC y.c y.d x.a x.b < 0) = true := by simpa using hcmp
           have HCM := Lib.hid (hlt2.1 hcmp); clear hcmp hlt2; generalize eC y.c y.d x.a x.b = n at *; go_wp2_with fail; have rl := World.block_lt_of_cell? _ _ xc0; have yl := World.block_lt_of_cell? _ _ y0; have hS1 := kd_8 (W := wr) (Dn.refl _) ⟨Dn.refl _, xc0, xc1, xc2, xc3, y0, y1, y2, y3⟩; have HShS1 := Lib.hid hS1; clear xc0 xc1 xc2 xc3 y0 y1 y2 y3; refine wp_region_held_drew (S := fun w' => Dn wr w' /\ w'.cell? ⟨wo.heap.size, 0, none⟩ = some (.int .i8 x.a) /\ w'.cell? ⟨wo.heap.size, 1, none⟩ = some (.int .i64 x.b) /\ w'.cell? ⟨wo.heap.size, 2, none⟩ = some (.int .i8 x.c) /\ w'.cell? ⟨wo.heap.size, 3, none⟩ = some (.int .i64 x.d) /\ w'.cell? ⟨g3, o3, none⟩ = some (.int .i8 y.a) /\ w'.cell? ⟨g3, o3 + 1, none⟩ = some (.int .i64 y.b) /\ w'.cell? ⟨g3, o3 + 2, none⟩ = some (.int .i8 y.c) /\ w'.cell? ⟨g3, o3 + 3, none⟩ = some (.int .i64 y.d)) (by kernel_rfl) ?_ (fun hHeld => ?_)
           · (try dsimp only); (exact ke kd_8)
           refine tS 0 rfl ?_; refine tS 1 rfl ?_; refine tS 2 rfl ?_; refine tS 3 rfl ?_; refine tS 4 rfl ?_; refine tS 5 rfl ?_; refine tS 6 rfl ?_; refine tS 7 rfl ?_; refine tS 8 rfl ?_; refine tS 9 rfl ?_; refine rD 10 rfl (fun K hK => ?_); go_simp
           (go_at_call 66; refine (hC.out _).mono ?_; rintro e wa ⟨rfl, qa⟩; replace qa := Up.dn qa)
           try go_wp2_with fail
           refine hK.out _ _ ?_ (fun hHeld => ?_)
           · (try dsimp only); (exact ke kd_8)
           clear hK K
           try simp only [Act.put, pL]
           refine tS 11 rfl ?_; refine tS 12 rfl ?_; refine wpAnyH_done (by kernel_rfl) ?_ _
           all_goals skip
           all_goals
             clear hS1; obtain ⟨uf10, c2, c3, c4, c5, c6, c7, c8, c9⟩ := (‹Dn wr _ /\ _› : _ /\ _); obtain ⟨w11, rfl⟩ : ∃ w11 : World, w11 = wa := ⟨_, rfl⟩; have a4 := nlt rl uf10.size; clear rl; have a5 := nlt yl uf10.size; clear yl; replace hc3 := hc3.dn uf10; have vuf10 := hz.trans uf10; clear uf10 hz HShS1; go_wp2_with fail; go_roundw
             case rel => exact ⟨t, _, cap3 - 1, rfl, by omega, by omega, row_tail hc3 hd3, fun z hz2 => HOK3.out z (List.mem_cons_of_mem _ hz2), by simp at hl3; omega, HD.out.trans (by rw [dropB, if_pos (show y.hi < x.lo from HCM.out)]), c2, c3, c4, c5, vuf10⟩
             case measure => simp only [lenOf]; omega
         · have dc : decide (eC y.c y.d x.a x.b < 0) = false := by simpa using hcmp
           have HCM := Lib.hid (fun h => hcmp (hlt2.2 h)); clear hcmp hlt2; generalize eC y.c y.d x.a x.b = n at *; go_wp2_with fail; have rl := World.block_lt_of_cell? _ _ xc0; have yl := World.block_lt_of_cell? _ _ y0; have hS1 := kd_8 (W := wr) (Dn.refl _) ⟨Dn.refl _, xc0, xc1, xc2, xc3, y0, y1, y2, y3⟩; have HShS1 := Lib.hid hS1; clear xc0 xc1 xc2 xc3 y0 y1 y2 y3; refine wp_region_held_drew (S := fun w' => Dn wr w' /\ w'.cell? ⟨wo.heap.size, 0, none⟩ = some (.int .i8 x.a) /\ w'.cell? ⟨wo.heap.size, 1, none⟩ = some (.int .i64 x.b) /\ w'.cell? ⟨wo.heap.size, 2, none⟩ = some (.int .i8 x.c) /\ w'.cell? ⟨wo.heap.size, 3, none⟩ = some (.int .i64 x.d) /\ w'.cell? ⟨g3, o3, none⟩ = some (.int .i8 y.a) /\ w'.cell? ⟨g3, o3 + 1, none⟩ = some (.int .i64 y.b) /\ w'.cell? ⟨g3, o3 + 2, none⟩ = some (.int .i8 y.c) /\ w'.cell? ⟨g3, o3 + 3, none⟩ = some (.int .i64 y.d)) (by kernel_rfl) ?_ (fun hHeld => ?_)
           · (try dsimp only); (exact ke kd_8)
           refine tS 0 rfl ?_; refine tS 1 rfl ?_; refine tS 2 rfl ?_; refine tS 3 rfl ?_; refine tS 4 rfl ?_; refine tS 5 rfl ?_; refine tS 6 rfl ?_; refine tS 7 rfl ?_; refine tS 8 rfl ?_; refine tS 9 rfl ?_; refine rD 10 rfl (fun K hK => ?_); go_simp
           (go_at_call 66; refine (hC.out _).mono ?_; rintro e wa ⟨rfl, qa⟩; replace qa := Up.dn qa)
           try go_wp2_with fail
           refine hK.out _ _ ?_ (fun hHeld => ?_)
           · (try dsimp only); (exact ke kd_8)
           clear hK K
           try simp only [Act.put, pL]
           refine tS 11 rfl ?_; refine tS 12 rfl ?_; refine wpAnyH_done (by kernel_rfl) ?_ _
           all_goals skip
           all_goals
             clear hS1; obtain ⟨uf10, c2, c3, c4, c5, c6, c7, c8, c9⟩ := (‹Dn wr _ /\ _› : _ /\ _); obtain ⟨w11, rfl⟩ : ∃ w11 : World, w11 = wa := ⟨_, rfl⟩; have a4 := nlt rl uf10.size; clear rl; have a5 := nlt yl uf10.size; clear yl; replace hc3 := hc3.dn uf10; have vuf10 := hz.trans uf10; clear uf10 hz HShS1; go_wp2_with fail; have HDD := Lib.hid (HD.out.trans (show dropB x.lo (y :: t) = y :: t by rw [dropB, if_neg (show ¬ y.hi < x.lo from HCM.out)])); have hWi : Hid (∀ W, Calls Tryz.prog 67 #[.agg #[.int .i8 x.a, .int .i64 x.b, .int .i8 x.c, .int .i64 x.d], .agg #[.int .i8 y.a, .int .i64 y.b, .int .i8 y.c, .int .i64 y.d]] W fun ro w' => ro = .returned (.bool (inB x y)) /\ Dn W w') := Lib.hid (fun W => rnWithin x.a x.b x.c x.d y.a y.b y.c y.d W HXO.out.1 HXO.out.2.1 hyo.1 hyo.2.1); have hib := inB_iff HXO.out hyo
             by_cases hin : inB x y = true
             · have HIN := Lib.hid (hib.1 hin)
               rw [hin] at hWi; clear hib hin; have hS14 := kd_8 (W := w11) (Dn.refl _) ⟨Dn.refl _, c2, c3, c4, c5, c6, c7, c8, c9⟩; have HShS14 := Lib.hid hS14; clear c2 c3 c4 c5 c6 c7 c8 c9; refine wp_region_held_drew (S := fun w' => Dn w11 w' /\ w'.cell? ⟨wo.heap.size, 0, none⟩ = some (.int .i8 x.a) /\ w'.cell? ⟨wo.heap.size, 1, none⟩ = some (.int .i64 x.b) /\ w'.cell? ⟨wo.heap.size, 2, none⟩ = some (.int .i8 x.c) /\ w'.cell? ⟨wo.heap.size, 3, none⟩ = some (.int .i64 x.d) /\ w'.cell? ⟨g3, o3, none⟩ = some (.int .i8 y.a) /\ w'.cell? ⟨g3, o3 + 1, none⟩ = some (.int .i64 y.b) /\ w'.cell? ⟨g3, o3 + 2, none⟩ = some (.int .i8 y.c) /\ w'.cell? ⟨g3, o3 + 3, none⟩ = some (.int .i64 y.d)) (by kernel_rfl) ?_ (fun hHeld => ?_)
               · (try dsimp only); (exact ke kd_8)
               refine tS 0 rfl ?_; refine tS 1 rfl ?_; refine tS 2 rfl ?_; refine tS 3 rfl ?_; refine tS 4 rfl ?_; refine tS 5 rfl ?_; refine tS 6 rfl ?_; refine tS 7 rfl ?_; refine rD 8 rfl (fun K hK => ?_); go_simp
               (go_at_call 67; refine (hWi.out _).mono ?_; rintro e wa ⟨rfl, qa⟩)
               try go_wp2_with fail
               refine hK.out _ _ ?_ (fun hHeld => ?_)
               · (try dsimp only); (exact ke kd_8)
               clear hK K
               try simp only [Act.put, pL]
               refine tS 9 rfl ?_; refine tS 10 rfl ?_; refine wpAnyH_done (by kernel_rfl) ?_ _
               all_goals skip
               all_goals
                 clear hS14; obtain ⟨uf23, a6, a7, a8, a9, aA, aB, aC, aD⟩ := (‹Dn w11 _ /\ _› : _ /\ _); obtain ⟨w24, rfl⟩ : ∃ w24 : World, w24 = wa := ⟨_, rfl⟩; have aE := nlt a4 uf23.size; clear a4; have aF := nlt a5 uf23.size; clear a5; replace hc3 := hc3.dn uf23; have vuf23 := vuf10.trans uf23; clear uf23 vuf10 HShS14; go_wp2_with fail; go_roundw
                 case rel => exact ⟨rfl, rfl, k + 1, y :: t, _, cap3, by omega, by simp, rfl, hd3, by omega, hc3.row, HOK3.out, by simp at hl3 ⊢; omega, by rw [HW.out, wtn_at HX.out, HDD.out]; exact if_pos HIN.out, HU1.out.trans vuf23⟩
                 case measure => simp [intOf]; omega
             · have HIN := Lib.hid (fun h => hin (hib.2 h))
               rw [show inB x y = false by simpa using hin] at hWi; clear hib hin; have hS14 := kd_8 (W := w11) (Dn.refl _) ⟨Dn.refl _, c2, c3, c4, c5, c6, c7, c8, c9⟩; have HShS14 := Lib.hid hS14; clear c2 c3 c4 c5 c6 c7 c8 c9; refine wp_region_held_drew (S := fun w' => Dn w11 w' /\ w'.cell? ⟨wo.heap.size, 0, none⟩ = some (.int .i8 x.a) /\ w'.cell? ⟨wo.heap.size, 1, none⟩ = some (.int .i64 x.b) /\ w'.cell? ⟨wo.heap.size, 2, none⟩ = some (.int .i8 x.c) /\ w'.cell? ⟨wo.heap.size, 3, none⟩ = some (.int .i64 x.d) /\ w'.cell? ⟨g3, o3, none⟩ = some (.int .i8 y.a) /\ w'.cell? ⟨g3, o3 + 1, none⟩ = some (.int .i64 y.b) /\ w'.cell? ⟨g3, o3 + 2, none⟩ = some (.int .i8 y.c) /\ w'.cell? ⟨g3, o3 + 3, none⟩ = some (.int .i64 y.d)) (by kernel_rfl) ?_ (fun hHeld => ?_)
               · (try dsimp only); (exact ke kd_8)
               refine tS 0 rfl ?_; refine tS 1 rfl ?_; refine tS 2 rfl ?_; refine tS 3 rfl ?_; refine tS 4 rfl ?_; refine tS 5 rfl ?_; refine tS 6 rfl ?_; refine tS 7 rfl ?_; refine rD 8 rfl (fun K hK => ?_); go_simp
               (go_at_call 67; refine (hWi.out _).mono ?_; rintro e wa ⟨rfl, qa⟩)
               try go_wp2_with fail
               refine hK.out _ _ ?_ (fun hHeld => ?_)
               · (try dsimp only); (exact ke kd_8)
               clear hK K
               try simp only [Act.put, pL]
               refine tS 9 rfl ?_; refine tS 10 rfl ?_; refine wpAnyH_done (by kernel_rfl) ?_ _
               all_goals skip
               all_goals
                 clear hS14; obtain ⟨uf23, a6, a7, a8, a9, aA, aB, aC, aD⟩ := (‹Dn w11 _ /\ _› : _ /\ _); obtain ⟨w24, rfl⟩ : ∃ w24 : World, w24 = wa := ⟨_, rfl⟩; have aE := nlt a4 uf23.size; clear a4; have aF := nlt a5 uf23.size; clear a5; replace hc3 := hc3.dn uf23; have vuf23 := vuf10.trans uf23; clear uf23 vuf10 HShS14; go_wp2_with fail; go_ret2; exact ⟨ret2_bJ (by rw [HRR.out, HW.out, wtn_at HX.out, HDD.out]; exact if_neg HIN.out), HU1.out.trans vuf23⟩
    · obtain rfl : k = a.length := by omega
      have d1 : decide ((a.length : Int) < a.length) = false := (by simp)
      obtain rfl : rr = true := by rw [HRR.out, HW.out]; simp [wtn]
      go_wp2_with fail; go_ret2; exact ⟨rfl, hu⟩
theorem wi_has {x : Rq} {day : Int} (hd : I64 day) (hx : I64 x.b /\ I64 x.d) : Wi 0 day 0 day x.a x.b x.c x.d ↔ x.ok /\ x.lo <= day /\ day <= x.hi := by
 have k : key 0 day = day := by unfold key; omega
 have hr : RnOk 0 day 0 day := ⟨.inl rfl, .inl rfl, Int.le_refl _, Int.le_refl _, Int.le_refl _⟩
 unfold Wi
 rw [k]
 exact ⟨fun h => ⟨⟨hx.1, hx.2, h.2.1⟩, h.2.2⟩, fun h => ⟨hr, h.1.2.2, h.2⟩⟩
def hasB (day : Int) (x : Rq) : Bool := decide (x.ok /\ x.lo <= day /\ day <= x.hi)
def infB (x : Rq) : Bool := decide (x.a ≠ 0 \/ x.c ≠ 0)
theorem hasL_any (L : List Rq) (day : Int) : decide (HasL L day) = L.any (hasB day) := by
 rw [Bool.eq_iff_iff, decide_eq_true_iff, List.any_eq_true]
 unfold HasL hasB
 simp
theorem rsHas1 (x : Rq) (B : Nat) (day : Int) (w : World) (hx : I64 x.b /\ I64 x.d) (hd : I64 day) (hB : w.cell? ⟨B, 0, none⟩ = some (.int .i64 day)) :
  Calls Tryz.prog 51 #[.agg #[.int .i8 x.a, .int .i64 x.b, .int .i8 x.c, .int .i64 x.d], .pointer (some ⟨B, 0, none⟩)] w fun ro w' => ro = .returned (.bool (hasB day x)) /\ Dn w w' := by
 have HH := Lib.hid (fun W => rnHas x.a x.b x.c x.d day W hx.1 hx.2 hd)
 have hw := wi_has hd hx
 rw [show decide (Wi 0 day 0 day x.a x.b x.c x.d) = hasB day x from decide_eq_decide.2 hw] at HH
 generalize hasB day x = m at *
 clear hw hd hx
 have hlb := World.block_lt_of_cell? _ _ hB
 go_enter Tryz.func51, Tryz.ntmps51
 go_wp2_with fail
 obtain ⟨W1, hW1⟩ : ∃ W1, W1 = w.alloc (.cells #[.int .i8 x.a, .int .i64 x.b, .int .i8 x.c, .int .i64 x.d] 45) := ⟨_, rfl⟩
 have uW1 : Dn w W1 := by rw [hW1]; exact (Dn.refl _).alloc _
 rw [<- hW1]
 clear hW1
 refine (HH.out _).mono ?_
 rintro e w1 ⟨rfl, qw1⟩
 have uw1 := uW1.trans qw1
 clear qw1 uW1
 go_wp2_with fail
 go_ret
 exact ⟨rfl, uw1⟩
theorem rsCount1 (x : Rq) (w : World) :
   Calls Tryz.prog 55 #[.agg #[.int .i8 x.a, .int .i64 x.b, .int .i8 x.c, .int .i64 x.d]] w fun ro w' => ro = .returned (.bool (infB x)) /\ Dn w w' := by
 by_cases ha : x.a = 0
 · by_cases hc : x.c = 0
   ·
    have e0 : infB x = false := (by unfold infB; simp [ha, hc]); have d0 : (x.a != 0) = false := (by simp [ha]); have d1 : (x.c != 0) = false := (by simp [hc]); rw [e0]; clear e0 ha hc; go_enter Tryz.func55, Tryz.ntmps55; go_wp2_with fail; go_ret; exact ⟨rfl, (Dn.refl _).alloc _⟩
   ·
    have e0 : infB x = true := (by unfold infB; simp [hc]); have d0 : (x.a != 0) = false := (by simp [ha]); have d1 : (x.c != 0) = true := (by simpa using hc); rw [e0]; clear e0 ha hc; go_enter Tryz.func55, Tryz.ntmps55; go_wp2_with fail; go_ret; exact ⟨rfl, (Dn.refl _).alloc _⟩
 ·
   have e0 : infB x = true := by unfold infB; simp [ha]
   have d0 : (x.a != 0) = true := by simpa using ha
   rw [e0]; clear e0 ha; go_enter Tryz.func55, Tryz.ntmps55; go_wp2_with fail; go_ret; exact ⟨rfl, (Dn.refl _).alloc _⟩
theorem slIdxH (p : Option Addr) (cap : Nat) (L : List Rq)(B : Nat) (day : Int) (w : World) (hl : L.length <= 1000000) (hR : Row w p L) (hd : I64 day) (hB : w.cell? ⟨B, 0, none⟩ = some (.int .i64 day)) (hI : I6 L) :
  Calls Tryz.prog 92 #[.slice p L.length cap, .func (.func 51) #[] #[.pointer (some ⟨B, 0, none⟩)]] w fun ro w' => ∃ i : Int, ro = .returned (.int .i64 i) /\ (0 <= i ↔ L.any (hasB day) = true) /\ Dn w w' := by
 have HI := Lib.hid hI
 have HDD := Lib.hid hd
 have HB := Lib.hid hB
 clear hI hd hB
 go_enter Tryz.func92, Tryz.ntmps92
 go_wp2_with fail
 go_loopw [4, 8] (fun rv iv wr => rv = .int .i64 0 /\ ∃ k : Nat, k <= L.length /\ iv = .int .i64 k /\ (L.take k).any (hasB day) = false /\ Dn w wr) (fun _ iv _ => L.length - (intOf iv).toNat)
 case atStart => exact ⟨rfl, 0, by omega, rfl, rfl, Dn.refl _⟩
 case round =>
  obtain ⟨rfl, k, hk, rfl, hn, hu⟩ := hrel; have HN := Lib.hid hn; clear hn
  by_cases hlt : k < L.length
  · have d1 : decide ((k : Int) < L.length) = true := by simp; omega
    obtain ⟨x, hx⟩ : ∃ x, L[k]? = some x := ⟨L[k], by simp [hlt]⟩; obtain ⟨g, o, rfl, hc⟩ := hR.cs (by omega); have HX := Lib.hid hx; obtain ⟨a0, a1, a2, a3⟩ := (hc.dn hu).el _ _ hx; have HP := Lib.hid (fun W (h : Dn w W) => rsHas1 x B day W (HI.out.at HX.out) HDD.out (h.cell HB.out)); have hat : (L.take (k + 1)).any (hasB day) = ((L.take k).any (hasB day) || (hasB day) x) := (by rw [take_at hx, List.any_append]; simp); rw [HN.out, Bool.false_or] at hat; have HAT := Lib.hid hat
    have hall : L.any (hasB day) = true \/ (hasB day) x = false := by
      cases h : (hasB day) x with
      | false => exact .inr rfl
      | true => left; rw [List.any_eq_true]; exact ⟨x, List.mem_of_getElem? hx, h⟩
    have HALL := Lib.hid hall; clear hx hc hR hat hall; generalize (hasB day) x = m at *
    cases m
    · go_wp2_with fail
      refine (HP.out _ hu).mono ?_; rintro e w1 ⟨rfl, q1⟩; go_wp2_with fail; go_roundw
      case rel => exact ⟨rfl, k + 1, by omega, by simp, HAT.out, hu.trans q1⟩
      case measure => simp [intOf]; omega
    · go_wp2_with fail
      refine (HP.out _ hu).mono ?_; rintro e w1 ⟨rfl, q1⟩; go_wp2_with fail; go_ret; exact ⟨k, rfl, by have := HALL.out; simp at this; simp [this], hu.trans q1⟩
  · obtain rfl : k = L.length := by omega
    have d1 : decide ((L.length : Int) < L.length) = false := (by simp); go_wp2_with fail; go_ret; exact ⟨-1, rfl, by have := HN.out; rw [List.take_length] at this; rw [this]; simp, hu⟩
theorem slContH (p : Option Addr) (cap : Nat) (L : List Rq)(B : Nat) (day : Int) (w : World) (hl : L.length <= 1000000) (hR : Row w p L) (hd : I64 day) (hB : w.cell? ⟨B, 0, none⟩ = some (.int .i64 day)) (hI : I6 L) :
  Calls Tryz.prog 50 #[.slice p L.length cap, .func (.func 51) #[] #[.pointer (some ⟨B, 0, none⟩)]] w fun ro w' => ro = .returned (.bool (L.any (hasB day))) /\ Dn w w' := by
 have HS := Lib.hid (slIdxH p cap L B day w hl hR hd hB hI)
 clear hd hB hI
 go_enter Tryz.func50, Tryz.ntmps50
 go_wp2_with fail
 refine HS.out.mono ?_
 rintro e w1 ⟨i, rfl, hi, q1⟩
 have HI2 := Lib.hid hi
 clear hi
 go_wp2_with fail
 go_ret
 exact ⟨retb (by rw [Bool.eq_iff_iff, decide_eq_true_iff]; exact HI2.out), q1⟩
theorem slIdxC (p : Option Addr) (cap : Nat) (L : List Rq) (w : World) (hl : L.length <= 1000000) (hR : Row w p L) :
  Calls Tryz.prog 92 #[.slice p L.length cap, .func (.func 55) #[] #[]] w fun ro w' => ∃ i : Int, ro = .returned (.int .i64 i) /\ (0 <= i ↔ L.any (infB) = true) /\ Dn w w' := by
 go_enter Tryz.func92, Tryz.ntmps92
 go_wp2_with fail
 go_loopw [4, 8] (fun rv iv wr => rv = .int .i64 0 /\ ∃ k : Nat, k <= L.length /\ iv = .int .i64 k /\ (L.take k).any (infB) = false /\ Dn w wr) (fun _ iv _ => L.length - (intOf iv).toNat)
 case atStart => exact ⟨rfl, 0, by omega, rfl, rfl, Dn.refl _⟩
 case round =>
  obtain ⟨rfl, k, hk, rfl, hn, hu⟩ := hrel; have HN := Lib.hid hn; clear hn
  by_cases hlt : k < L.length
  · have d1 : decide ((k : Int) < L.length) = true := by simp; omega
    obtain ⟨x, hx⟩ : ∃ x, L[k]? = some x := ⟨L[k], by simp [hlt]⟩; obtain ⟨g, o, rfl, hc⟩ := hR.cs (by omega); have HX := Lib.hid hx; obtain ⟨a0, a1, a2, a3⟩ := (hc.dn hu).el _ _ hx; have HP := Lib.hid (fun W (h : Dn w W) => rsCount1 x W); have hat : (L.take (k + 1)).any (infB) = ((L.take k).any (infB) || (infB) x) := (by rw [take_at hx, List.any_append]; simp); rw [HN.out, Bool.false_or] at hat; have HAT := Lib.hid hat
    have hall : L.any (infB) = true \/ (infB) x = false := by
      cases h : (infB) x with
      | false => exact .inr rfl
      | true => left; rw [List.any_eq_true]; exact ⟨x, List.mem_of_getElem? hx, h⟩
    have HALL := Lib.hid hall; clear hx hc hR hat hall; generalize (infB) x = m at *
    cases m
    · go_wp2_with fail
      refine (HP.out _ hu).mono ?_; rintro e w1 ⟨rfl, q1⟩; go_wp2_with fail; go_roundw
      case rel => exact ⟨rfl, k + 1, by omega, by simp, HAT.out, hu.trans q1⟩
      case measure => simp [intOf]; omega
    · go_wp2_with fail
      refine (HP.out _ hu).mono ?_; rintro e w1 ⟨rfl, q1⟩; go_wp2_with fail; go_ret; exact ⟨k, rfl, by have := HALL.out; simp at this; simp [this], hu.trans q1⟩
  · obtain rfl : k = L.length := by omega
    have d1 : decide ((L.length : Int) < L.length) = false := (by simp); go_wp2_with fail; go_ret; exact ⟨-1, rfl, by have := HN.out; rw [List.take_length] at this; rw [this]; simp, hu⟩
theorem slContC (p : Option Addr) (cap : Nat) (L : List Rq) (w : World) (hl : L.length <= 1000000) (hR : Row w p L) :
  Calls Tryz.prog 50 #[.slice p L.length cap, .func (.func 55) #[] #[]] w fun ro w' => ro = .returned (.bool (L.any (infB))) /\ Dn w w' := by
 have HS := Lib.hid (slIdxC p cap L  w hl hR )
 go_enter Tryz.func50, Tryz.ntmps50
 go_wp2_with fail
 refine HS.out.mono ?_
 rintro e w1 ⟨i, rfl, hi, q1⟩
 have HI2 := Lib.hid hi
 clear hi
 go_wp2_with fail
 go_ret
 exact ⟨retb (by rw [Bool.eq_iff_iff, decide_eq_true_iff]; exact HI2.out), q1⟩
theorem rsHasS (p : Option Addr) (cap : Nat) (L : List Rq) (day : Int) (m : Bool) (w : World) (hd : I64 day) (hm : m = decide (HasL L day)) (hl : L.length <= 1000000) (hI : I6 L) (hR : Row w p L) :
  Calls Tryz.prog 16 #[.slice p L.length cap, .int .i64 day] w fun ro w' => ro = .returned (.bool m) /\ Dn w w' := by
 rw [hm, hasL_any]
 have HC : Hid (∀ W, Dn w W -> ∀ B, W.cell? ⟨B, 0, none⟩ = some (.int .i64 day) -> Calls Tryz.prog 50 #[.slice p L.length cap, .func (.func 51) #[] #[.pointer (some ⟨B, 0, none⟩)]] W fun ro w' => ro = .returned (.bool (L.any (hasB day))) /\ Dn W w') := Lib.hid (fun W h B hB => slContH p cap L B day W hl (hR.dn h) hd hB hI)
 clear hm hI hR hd
 generalize L.any (hasB day) = r at *
 go_enter Tryz.func16, Tryz.ntmps16
 go_wp2_with fail
 obtain ⟨W1, hW1⟩ : ∃ W1, W1 = w.alloc (.cells #[.int .i64 day] 2) := ⟨_, rfl⟩
 have uW1 : Dn w W1 := by rw [hW1]; exact (Dn.refl _).alloc _
 have cB : W1.cell? ⟨w.heap.size, 0, none⟩ = some (.int .i64 day) := by rw [hW1]; simp [go_sem]
 rw [<- hW1]
 clear hW1
 refine (HC.out _ uW1 _ cB).mono ?_
 rintro e w1 ⟨rfl, qw1⟩
 have uw1 := uW1.trans qw1
 clear qw1 uW1
 go_wp2_with fail
 go_ret
 exact ⟨rfl, uw1⟩
end Go.Proofs.YtoghoddjkdoohaaGreatDoor
