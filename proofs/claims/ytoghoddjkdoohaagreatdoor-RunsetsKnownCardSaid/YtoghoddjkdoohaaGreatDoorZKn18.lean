/- Walks and laws that the claim's theorem leans on: part 18. -/
import Derived.Test.YtoghoddjkdoohaaGreatDoorZKn1
import Derived.Test.YtoghoddjkdoohaaGreatDoorZKn9
import Derived.Test.YtoghoddjkdoohaaGreatDoorZKn13
import Derived.Test.YtoghoddjkdoohaaGreatDoorZKn16
import Derived.Test.YtoghoddjkdoohaaGreatDoorZKn17
import Derived.Test.YtoghoddjkdoohaaGreatDoorShSort
import Derived.Test.YtoghoddjkdoohaaGreatDoorShGrow
namespace Go.Proofs.YtoghoddjkdoohaaGreatDoor
set_option maxHeartbeats 4000000
set_option maxRecDepth 100000
open Go.RowKit
set_option linter.unusedVariables false
set_option linter.unusedSimpArgs false
theorem step_cat {ops : Array Oper} {o : Oper} {a : Act} {K : Act -> World -> Prop} {Q : Exit -> Act -> World -> Prop} {E : Prop} (hgd : o.guard = none) (s x : Operand)
   (ho : o.op = .call { callee := .builtin .append, args := #[s, x], argTypes := #[22, 22] }) (w : World) (base : Nat) (v : Value) (L : List Rq) (u : Value) (R : List Rq) (hs : a.eval s = v) (hown : OwnQ w base v L)
   (hx : a.eval x = u) (hu : LsR w u R) (hl : L.length + R.length <= 1000000) (hb : base <= w.heap.size)
   (h : ∀ v' w', OwnQ w' base v' (L ++ R) -> (∀ w0, Dn w0 w -> w0.heap.size <= base -> Dn w0 w') -> K (a.put o.dst v') w') :
   if Region.wanted o (yielded ops a.tmps) = true then Oper.wp Tryz.prog o a w K Q else E := by
 have hw : Region.wanted o (yielded ops a.tmps) = true := by simp [Region.wanted, hgd]
 rw [if_pos hw]
 obtain ⟨i0, hi, hz0, hz1, hz2⟩ := info_parts infoRun
 rcases hu with ⟨rfl, rfl⟩ | ⟨g, q, cap, rfl, hc⟩
 · have hrun := run_append_owned_none (P := Tryz.prog) (w := w) base 22 o.type 45 i0 4 Tryz.underlying22 hi v _ _ hown.own
   unfold Oper.wp; simp [execOp, ho, resolve, invoke, builtin, hs, hx, hrun, Result.andThen]; exact h v w (by simpa using hown) (fun w0 hd _ => hd)
 · refine wp_append_own w s x 22 ho base 45 i0 _ 4 32 Tryz.underlying22 hi hz0 hz1 hz2 rfl (by decide) v _ _ hs hown.own ⟨g, q, none⟩ R.length cap (R.flatMap qc) hx (qc_len R) ?_ ?_ ?_ ?_ hb ?_
   · intro j u hj
     have hj2 : j < R.length * 4 := by
       obtain ⟨h1, _⟩ := List.getElem?_eq_some_iff.1 hj; rw [qc_len] at h1; exact h1
     obtain ⟨i, t, ht, rfl⟩ : ∃ i t, t < 4 /\ j = i * 4 + t := ⟨j / 4, j % 4, by omega, by omega⟩; obtain ⟨r, hr⟩ : ∃ r, R[i]? = some r := ⟨R[i]'(by omega), by simp [show i < R.length by omega]⟩; rw [qc_get R i t r hr ht] at hj; obtain ⟨e0, e1, e2, e3⟩ := hc.el i r hr; have hadd : (⟨g, q, none⟩ : Addr).add (i * 4 + t) = ⟨g, q + i * 4 + t, none⟩ := (by unfold Addr.add; split <;> simp_all <;> omega); rw [hadd]
     match t, hj with
     | 0, hj => simp [qc] at hj; subst hj; exact e0
     | 1, hj => simp [qc] at hj; subst hj; exact e1
     | 2, hj => simp [qc] at hj; subst hj; exact e2
     | 3, hj => simp [qc] at hj; subst hj; exact e3
     | n + 4, hj => simp [qc] at hj
   · intro u hu
     simp only [List.mem_flatMap] at hu; obtain ⟨r, _, hu⟩ := hu
     simp [qc] at hu; rcases hu with rfl | rfl | rfl | rfl <;> rfl
   · unfold maxLen; omega
   · omega
   · intro v' w' k1 k2 _
     refine h v' w' ⟨?_⟩ ?_
     · simpa using k1
     · intro w0 hd e
       exact ⟨hd.below.trans ⟨k2.os, k2.tape, k2.output, k2.size, fun i hi => k2.block i (Nat.lt_of_lt_of_le hi hd.size) (fun e2 => by have := (hown.own.lt i e2.symm).1; omega)⟩⟩
theorem woL_at {a b : List Rq} {k : Nat} {y : Rq} (h : b[k]? = some y) : woL a (b.take (k + 1)) = (woL a (b.take k)).flatMap (lessR · y) := by
 unfold woL; rw [take_at h, List.foldl_append]; rfl
theorem fm_at {l : List Rq} {k : Nat} {x y : Rq} (h : l[k]? = some x) : (l.take (k + 1)).flatMap (lessR · y) = (l.take k).flatMap (lessR · y) ++ lessR x y := by
 rw [take_at h, List.flatMap_append]; simp
theorem less_len (x y : Rq) : (lessR x y).length <= 2 := by
 unfold lessR
 split
 · rw [List.length_append]
   have h1 : ∀ (p : Prop) [Decidable p] (z : Rq), (if p then [z] else []).length <= 1 := fun p _ z => by split <;> simp
   have e1 := h1 (y.a = 0 /\ -9223372036854775808 < y.b /\ x.lo <= y.b - 1) ⟨x.a, x.b, 0, y.b - 1⟩; have e2 := h1 (y.c = 0 /\ y.d < 9223372036854775807 /\ y.d + 1 <= x.hi) ⟨0, y.d + 1, x.c, x.d⟩; omega
 · simp
theorem fm_len (y : Rq) : ∀ l : List Rq, (l.flatMap (lessR · y)).length <= 2 * l.length
 | [] => by simp
 | x :: t => by
   have ih := fm_len y t; have h1 := less_len x y; simp only [List.flatMap_cons, List.length_append, List.length_cons]; omega
theorem wo_take {a b : List Rq} (ha : Sep a) (hb : ∀ x ∈ b, x.ok) (k : Nat) : Sep (woL a (b.take k)) := (wo_law ha (fun x hx => hb x (List.mem_of_mem_take hx))).1
theorem rfWithoutS (p : Option Addr) (cap : Nat) (a : List Rq) (q : Option Addr) (cap' : Nat) (b : List Rq) (E : Int) (R : List Rq) (w : World) (hE : E = fin3 (bothL a b) (woL a b)) (hRR : R = res3 (bothL a b) (woL a b)) (hbound : bothL a b = 0 -> ∀ k, (woL a (b.take k)).length <= 300000) (hl1 : a.length <= 100000) (hI1 : I6 a) (hR1 : Row w p a) (hl2 : b.length <= 100000) (hI2 : I6 b) (hR2 : Row w q b) :
   Calls Tryz.prog 31 #[.slice p a.length cap, .slice q b.length cap'] w fun ro w' => ∃ p' cap', ro = .returned (.tuple #[.slice p' R.length cap', .int .i64 E]) /\ Row w' p' R /\ Dn w w' := by
 have HB := Lib.hid (fun W (h : Dn w W) => rfBoth p cap a q cap' b W (by omega) hI1 (hR1.dn h) (by omega) hI2 (hR2.dn h))
 by_cases hc : bothL a b = 0
 rotate_left
 · obtain rfl : E = bothL a b := by rw [hE, fin3_bad hc]
   obtain rfl : R = [] := by rw [hRR, res3_bad hc]
   have d0 : (bothL a b != 0) = true := by simpa using hc
   clear hE hRR hc hR1 hR2 hI1 hI2 hbound; generalize bothL a b = c at *; go_enter Tryz.func31, Tryz.ntmps31; go_wp2_with fail; refine (HB.out _ (Dn.refl _)).mono ?_; rintro e w1 ⟨rfl, qw1⟩; have uw1 := qw1; clear qw1; go_wp2_with fail; refine (HB.out _ uw1).mono ?_; rintro e w2 ⟨rfl, qw2⟩; have uw2 := uw1.trans qw2; clear qw2 uw1; go_wp2_with fail; go_ret2; exact ⟨none, 0, rfl, rownil _, uw2⟩
 · obtain ⟨hca, hcb⟩ := both_zero hc
   have la := chk_len hca; have lb := chk_len hcb; have ssa := chk_ok hI1 hca; have sb := Sep.all (chk_ok hI2 hcb); rw [hc] at HB hE hRR; have HSA := Lib.hid ssa; have HSB := Lib.hid sb; have HBD := Lib.hid (hbound hc); clear hc hca hcb hI1 hI2 ssa sb hbound; go_enter Tryz.func31, Tryz.ntmps31; go_wp2_with fail; refine (HB.out _ (Dn.refl _)).mono ?_; rintro e w1 ⟨rfl, u1⟩; go_wp2_with fail; go_loopw [6, 7] (fun ov iv wr => ∃ (k : Nat) (p' : Option Addr) (cap2 : Nat), k <= b.length /\ iv = .int .i64 k /\ ov = .slice p' (woL a (b.take k)).length cap2 /\ Row wr p' (woL a (b.take k)) /\ Dn w wr) (fun _ iv _ => b.length - (intOf iv).toNat)
   case atStart => exact ⟨0, p, cap, by omega, rfl, rfl, hR1.dn u1, u1⟩
   case round =>
    obtain ⟨k, p', cap2, hk, rfl, rfl, hr, hu⟩ := hrel
    by_cases hlt : k < b.length
    · have d1 : decide ((k : Int) < b.length) = true := by simp; omega
      obtain ⟨wo, rfl⟩ : ∃ wo : World, wo = wr := ⟨_, rfl⟩; obtain ⟨y, hy⟩ : ∃ y, b[k]? = some y := ⟨b[k], by simp [hlt]⟩; obtain ⟨g2, o2, rfl, hc2⟩ := hR2.cs (by omega); have HY := Lib.hid hy; have HC2 := Lib.hid (hc2.dn hu); have hyo := HSB.out y (List.mem_of_getElem? hy); have HYO := Lib.hid hyo; have hsl := wo_take HSA.out HSB.out k; have hbd := HBD.out k; have HAT := Lib.hid (woL_at (a := a) hy); generalize woL a (b.take k) = l at *; have HSL := Lib.hid (Sep.all hsl); have HR := Lib.hid hr; clear hy hc2 hyo hsl hr; go_wp2_with fail; go_loopw [8, 9] (fun nv iv wz => ∃ (i : Nat), i <= l.length /\ iv = .int .i64 i /\ OwnQ wz wo.heap.size nv ((l.take i).flatMap (lessR · y)) /\ Dn wo wz) (fun _ iv _ => l.length - (intOf iv).toNat)
      case atStart => exact ⟨0, by omega, rfl, by simpa using OwnQ.nil _ _, Dn.refl _⟩
      case round =>
       obtain ⟨i, hi, rfl, hown, hz⟩ := hrel
       by_cases hlt2 : i < l.length
       · have d2 : decide ((i : Int) < l.length) = true := by simp; omega
         obtain ⟨x, hx⟩ : ∃ x, l[i]? = some x := ⟨l[i], by simp [hlt2]⟩; obtain ⟨g, o, rfl, hcl⟩ := HR.out.cs (by omega); have HX := Lib.hid hx; have HXO := Lib.hid (HSL.out x (List.mem_of_getElem? hx))
         have hS : ∀ w', Dn wo w' -> Dn wo w' /\ w'.cell? ⟨g, o + i * 4, none⟩ = some (.int .i8 x.a) /\ w'.cell? ⟨g, o + i * 4 + 1, none⟩ = some (.int .i64 x.b) /\ w'.cell? ⟨g, o + i * 4 + 2, none⟩ = some (.int .i8 x.c) /\ w'.cell? ⟨g, o + i * 4 + 3, none⟩ = some (.int .i64 x.d) /\ w'.cell? ⟨g2, o2 + k * 4, none⟩ = some (.int .i8 y.a) /\ w'.cell? ⟨g2, o2 + k * 4 + 1, none⟩ = some (.int .i64 y.b) /\ w'.cell? ⟨g2, o2 + k * 4 + 2, none⟩ = some (.int .i8 y.c) /\ w'.cell? ⟨g2, o2 + k * 4 + 3, none⟩ = some (.int .i64 y.d) := fun w' h => by
           obtain ⟨e0, e1, e2, e3⟩ := (hcl.dn h).el _ _ HX.out; obtain ⟨f0, f1, f2, f3⟩ := (HC2.out.dn h).el _ _ HY.out; exact ⟨h, e0, e1, e2, e3, f0, f1, f2, f3⟩
         have HS := Lib.hid hS; have hL := Lib.hid (fun W => rfLess x y W HXO.out HYO.out); have hlen := fm_len y (l.take i); have hll := less_len x y; have htk : (l.take i).length <= l.length := (by simp; omega); have HLEN : Hid (((l.take i).flatMap (lessR · y)).length + (lessR x y).length <= 1000000) := Lib.hid (by omega); have HOWN := Lib.hid hown; have HZ := Lib.hid hz; clear hx hcl hS hlen hll htk hown hz; go_wp2_with fail; refine wp_region_held_drew (S := fun w' => Dn wo w' /\ w'.cell? ⟨g, o + i * 4, none⟩ = some (.int .i8 x.a) /\ w'.cell? ⟨g, o + i * 4 + 1, none⟩ = some (.int .i64 x.b) /\ w'.cell? ⟨g, o + i * 4 + 2, none⟩ = some (.int .i8 x.c) /\ w'.cell? ⟨g, o + i * 4 + 3, none⟩ = some (.int .i64 x.d) /\ w'.cell? ⟨g2, o2 + k * 4, none⟩ = some (.int .i8 y.a) /\ w'.cell? ⟨g2, o2 + k * 4 + 1, none⟩ = some (.int .i64 y.b) /\ w'.cell? ⟨g2, o2 + k * 4 + 2, none⟩ = some (.int .i8 y.c) /\ w'.cell? ⟨g2, o2 + k * 4 + 3, none⟩ = some (.int .i64 y.d)) (by kernel_rfl) ?_ (fun hHeld => ?_)
         · (try dsimp only); exact HS.out _ HZ.out.drew
         refine tS 0 rfl ?_; refine tS 1 rfl ?_; refine tS 2 rfl ?_; refine tS 3 rfl ?_; refine tS 4 rfl ?_; refine tS 5 rfl ?_; refine tS 6 rfl ?_; refine tS 7 rfl ?_; refine tS 8 rfl ?_; refine rD 9 rfl (fun K hK => ?_); go_simp
         (go_at_call 73; refine (hL.out _).mono ?_; rintro e wa ⟨v, rfl, hv, qa⟩)
         try go_wp2_with fail
         have hq9 := hHeld.1.trans qa; have HV := Lib.hid hv; have HQ9 := Lib.hid hq9; have HOWN9 := Lib.hid (HOWN.out.dn (((Dn.refl _).drew).trans qa)); refine hK.out _ _ ?_ (fun hHeld => ?_)
         · (try dsimp only); exact HS.out _ HQ9.out
         clear hK K
         try simp only [Act.put, pL]
         refine rD 10 rfl (fun K hK => ?_); refine step_cat (by rfl) _ _ (by rfl) _ wo.heap.size u8 _ v _ (by rfl) HOWN9.out (by rfl) HV.out HLEN.out HQ9.out.size ?_; intro v2 w2 hown2 hdn2; have hq2 := hdn2 wo HQ9.out (Nat.le_refl _); have HQ2 := Lib.hid hq2; have HOWN2 := Lib.hid hown2; clear hown2 hdn2 hq2; refine hK.out _ _ ?_ (fun hHeld => ?_)
         · (try dsimp only); exact HS.out _ HQ2.out
         clear hK K
         try simp only [Act.put, pL]
         refine tS 11 rfl ?_; refine wpAnyH_done (by kernel_rfl) ?_ _; go_wp2_with fail; go_roundw
         case rel => exact ⟨i + 1, by omega, by simp, by rw [fm_at HX.out]; exact HOWN2.out, HQ2.out⟩
         case measure => simp [intOf]; omega
       · obtain rfl : i = l.length := by omega
         have d2 : decide ((l.length : Int) < l.length) = false := (by simp); rw [List.take_length] at hown; obtain ⟨p3, cap3, rfl, hcap3, hrow3⟩ := hown.rowOf; clear hown; go_wp2_with fail; go_roundw
         case rel => exact ⟨k + 1, p3, cap3, by omega, by simp, by rw [HAT.out], by rw [HAT.out]; exact hrow3, hu.trans hz⟩
         case measure => simp [intOf]; omega
    · obtain rfl : k = b.length := by omega
      have d1 : decide ((b.length : Int) < b.length) = false := (by simp); rw [List.take_length] at hr ⊢; have HS := Lib.hid (rfShort p' cap2 (woL a b) wr hr); obtain ⟨E', hE'⟩ : ∃ E', E' = fin3 0 (woL a b) := ⟨_, rfl⟩; obtain ⟨R', hR'⟩ : ∃ R', R' = res3 0 (woL a b) := ⟨_, rfl⟩; rw [<- hE', <- hR'] at HS; obtain rfl : E = E' := hE.trans hE'.symm; obtain rfl : R = R' := hRR.trans hR'.symm; clear hE hRR hE' hR' hr; go_wp2_with fail; refine HS.out.mono ?_; rintro e w1 ⟨p2, cap2, rfl, _, hr2, q1⟩; have HR2 := Lib.hid hr2; clear hr2; go_wp2_with fail; go_ret2
      first | exact ⟨p2, cap2, rfl, HR2.out, hu.trans q1⟩ | exact ⟨p2, ⟨cap2, rfl⟩, HR2.out, hu.trans q1⟩
theorem preKn60x1 (w : World) : ∃ W1, W1 = w.alloc (.cells #[.int .i8 (-1), .int .i64 0, .int .i8 1, .int .i64 0] 45) /\ (Dn w W1) /\ (W1.cell? ⟨w.heap.size, 0, none⟩ = some (.int .i8 (-1))) /\ (W1.cell? ⟨w.heap.size, 1, none⟩ = some (.int .i64 0)) /\ (W1.cell? ⟨w.heap.size, 2, none⟩ = some (.int .i8 1)) /\ (W1.cell? ⟨w.heap.size, 3, none⟩ = some (.int .i64 0)) /\ (w.heap.size < W1.heap.size) := by
 obtain ⟨W1, hW1⟩ : ∃ W1, W1 = w.alloc (.cells #[.int .i8 (-1), .int .i64 0, .int .i8 1, .int .i64 0] 45) := ⟨_, rfl⟩
 refine ⟨W1, hW1, (by rw [hW1]; exact (Dn.refl _).alloc _), ?_, ?_, ?_, ?_, ?_⟩ <;> rw [hW1] <;> first | (simp [go_sem]; done) | (simp <;> omega)
theorem rfComplementS (p : Option Addr) (cap : Nat) (L : List Rq) (E : Int) (R : List Rq) (w : World) (hE : E = fin3 (chkL L) (woL [⟨-1, 0, 1, 0⟩] L)) (hRR : R = res3 (chkL L) (woL [⟨-1, 0, 1, 0⟩] L)) (hbound : chkL L = 0 -> ∀ k, (woL [⟨-1, 0, 1, 0⟩] (L.take k)).length <= 300000) (hl : L.length <= 100000) (hI : I6 L) (hR : Row w p L) :
  Calls Tryz.prog 18 #[.slice p L.length cap] w fun ro w' => ∃ p' cap', ro = .returned (.tuple #[.slice p' R.length cap', .int .i64 E]) /\ Row w' p' R /\ Dn w w' := by
 have hb0 : bothL [⟨-1, 0, 1, 0⟩] L = chkL L := by
  unfold bothL; rw [if_pos (by decide +kernel)]
 have HW := Lib.hid (fun W q c (hr : Row W q [⟨-1, 0, 1, 0⟩]) (h : Dn w W) => rfWithoutS q c [⟨-1, 0, 1, 0⟩] p cap L E R W (by rw [hb0]; exact hE) (by rw [hb0]; exact hRR) (by rw [hb0]; exact hbound) (by simp) (by intro x hx; simp at hx; subst hx; decide) hr hl hI (hR.dn h))
 clear hb0 hE hRR hI hR hbound
 go_enter Tryz.func18, Tryz.ntmps18
 go_wp2_with fail
 obtain ⟨W1, hW1, uW1, c2, c3, c4, c5, l6⟩ := preKn60x1 w 
 rw [<- hW1]
 clear hW1
 have hr1 : Row W1 (some ⟨w.heap.size, 0, none⟩) [⟨-1, 0, 1, 0⟩] := ⟨.inr ⟨_, 0, rfl, l6, fun k x hx => by
  cases k with
  | zero => simp at hx; subst hx; exact ⟨by simpa using c2, by simpa using c3, by simpa using c4, by simpa using c5⟩
  | succ k => simp at hx⟩⟩
 refine (HW.out _ _ _ hr1 uW1).mono ?_
 rintro e w1 ⟨p2, cap2, rfl, hr2, q1⟩
 have HR2 := Lib.hid hr2
 clear hr2
 go_wp2_with fail
 go_ret2
 first | exact ⟨p2, cap2, rfl, HR2.out, uW1.trans q1⟩ | exact ⟨p2, ⟨cap2, rfl⟩, HR2.out, uW1.trans q1⟩
open Go.RowKit Go.Sort Go.Proofs
instance inhRq : Inhabited Rq := ⟨⟨0, 0, 0, 0⟩⟩
theorem swoR : SWO (Go.Proofs.ltOf cmpR) := ⟨cmpR_irrefl, cmpR_trans, cmpR_ntrans⟩
theorem grownB {w : World} {g n : Nat} {os : Array Obj} (F : Array Value) : w.grownBy (grow (putRow id (Go.Sort.ahead w n) g 0 F) os) (some g) := by
 refine ⟨rfl, rfl, rfl, by simp, fun k hk hne => ?_⟩
 rw [heap_grow_old _ _ (by simpa using hk)]
 have : g ≠ k := fun e => hne (by rw [e])
 simp [putRow, mapBlock, Go.Sort.ahead, Array.getElem?_modify, this]
theorem holdsQ {w : World} {base g cap : Nat} {L : List Rq} (h : OwnQ w base (.slice (some ⟨g, 0, none⟩) L.length cap) L) : HoldsK qc 4 w g 0 L.toArray := by
 intro j hj
 have hj2 : j < L.length * 4 := by simpa using hj
 refine ⟨?_, by simpa using h.own.frozenAt (0 + j)⟩
 have e := h.own.cellAt j (by simpa using hj2)
 rw [Nat.zero_add, e]
 obtain ⟨i, t, ht, rfl⟩ : ∃ i t, t < 4 /\ j = i * 4 + t := ⟨j / 4, j % 4, by omega, by omega⟩
 obtain ⟨r, hr⟩ : ∃ r, L[i]? = some r := ⟨L[i]'(by omega), by simp [show i < L.length by omega]⟩
 rw [qc_get L i t r hr ht, get_flatK _ _ _ _ (by simpa using hj2)]
 have e1 : (i * 4 + t) / 4 = i := by omega
 have e2 : (i * 4 + t) % 4 = t := by omega
 obtain ⟨hl, hri⟩ := List.getElem?_eq_some_iff.1 hr
 have e3 : (L.toArray)[i]! = r := by simp [hl, hri]
 rw [e1, e2, e3]
 match t, ht with
 | 0, _ => rfl
 | 1, _ => rfl
 | 2, _ => rfl
 | 3, _ => rfl
theorem rowQ {w : World} {g : Nat} {M : List Rq} (hg : g < w.heap.size) (h : HoldsK qc 4 w g 0 M.toArray) : Cs w g 0 M := ⟨hg, fun k x hx => by
 obtain ⟨hl, hri⟩ := List.getElem?_eq_some_iff.1 hx
 have e3 : (M.toArray)[k]! = x := by simp [hl, hri]
 have c0 := (h.cell (i := k) (c := 0) (by simpa using hl) (by omega)).1
 have c1 := (h.cell (i := k) (c := 1) (by simpa using hl) (by omega)).1
 have c2 := (h.cell (i := k) (c := 2) (by simpa using hl) (by omega)).1
 have c3 := (h.cell (i := k) (c := 3) (by simpa using hl) (by omega)).1
 rw [e3] at c0 c1 c2 c3
 exact ⟨c0, c1, c2, c3⟩⟩
theorem aggR (w : World) : (isAgg 45).run Tryz.prog w = .ok true w := by kernel_rfl
theorem sizR (w : World) : (Go.sizeOf 45).run Tryz.prog w = .ok 4 w := by kernel_rfl
theorem cmpLaysR (blk off size : Nat) (w : World) : Go.Proofs.CmpLays Tryz.prog 43 #[] qc 4 cmpR blk off size w := by
 intro m os dk _ x y
 refine (rnCmpU x.a x.b x.c x.d y.a y.b y.c y.d (sortWorldK qc 4 w blk off m dk os)).mono ?_
 rintro e w' ⟨rfl, hu⟩
 exact ⟨rfl, hu.grow⟩
theorem slSort (base g cap : Nat) (L : List Rq) (w : World) (hown : OwnQ w base (.slice (some ⟨g, 0, none⟩) L.length cap) L) (hl : L.length <= 1000000) :
   Calls Tryz.prog 64 #[.slice (some ⟨g, 0, none⟩) L.length cap, .func (.func 43) #[] #[]] w fun ro w' => ro = .returned (.tuple #[]) /\ Row w' (some ⟨g, 0, none⟩) (srt L) /\ ∀ w0, Dn w0 w -> w0.heap.size <= base -> Dn w0 w' := by
 have hgr := hown.row g rfl
 have hH := holdsQ hown
 have eg : ∀ args w, (callFunc 43 args).run Tryz.prog w = .ok (.enter 43 args) w := enters_of Tryz.func43 (by kernel_rfl) rfl
 have hc := AnyQ.slices_SortFunc_total Tryz.sortR 4 aggR sizR qc (fun _ => rfl) (fun x v hv => by simp [qc] at hv; rcases hv with rfl | rfl | rfl | rfl <;> rfl) cmpR swoR 43 #[] g 0 cap L.toArray w eg (cmpLaysR g 0 L.toArray.size w) hH hgr.2 (by simp; omega) cmpR_total
 have hc2 : Calls Tryz.prog 64 #[.slice (some ⟨g, 0, none⟩) L.length cap, .func (.func 43) #[] #[]] w _ := hc
 refine hc2.mono ?_
 rintro e w' ⟨rfl, n, os, rfl⟩
 refine ⟨rfl, ?_, ?_⟩
 · have hH2 := holdsK_sortWorldK_c qc 4 w g 0 L.toArray (srt L).toArray n os hH hgr.2 (by simp [srt_len])
   exact (rowQ (Nat.lt_of_lt_of_le hgr.2 (size_sortWorldK_c qc 4 w g 0 n _ os)) hH2).row
 · intro w0 hd hb
   have hg := grownB (w := w) (g := g) (n := n) (os := os) (flatK qc 4 (srt L).toArray); exact ⟨hd.below.trans ⟨hg.os, hg.tape, hg.output, hg.size, fun i hi => hg.block i (Nat.lt_of_lt_of_le hi hd.size) (fun e => by cases e; omega)⟩⟩
set_option maxHeartbeats 4000000
set_option maxRecDepth 100000
theorem slGrow (n : Nat) (w : World) (hn : n <= 1000000) : Calls Tryz.prog 101 #[.slice none 0 0, .int .i64 n] w fun ro w' => ∃ v, ro = .returned v /\ OwnQ w' w.heap.size v [] /\ Dn w w' := by
 obtain ⟨i0, hi, hz0, hz1, hz2⟩ := info_parts infoRun
 rcases Nat.eq_zero_or_pos n with h0 | h0
 · subst h0
   have h := Any8.slices_Grow_room Tryz.growR none 0 0 0 w (Nat.le_refl _) (by decide) (by decide) (Nat.le_refl _); refine Calls.mono (show Calls Tryz.prog 101 _ w _ from h) ?_; rintro e w' ⟨rfl, rfl⟩; exact ⟨_, rfl, OwnQ.nil _ _, Dn.refl _⟩
 · have h := Any8.slices_Grow_grow Tryz.growR i0 _ hi hz0 (by omega) none 0 0 n [] w (Nat.le_refl _) (by omega) (by rw [hz2]; omega) (by omega) (by simp) (fun _ => rfl) (fun a e => by cases e)
   refine Calls.mono (show Calls Tryz.prog 101 _ w _ from h) ?_; rintro e w' ⟨rfl, rfl⟩; refine ⟨_, rfl, ⟨by simp, .inr ⟨_, _, _, rfl, Nat.le_refl _, heap_alloc_new _ _, by simp, grownCap_le_maxLen w _ _ _ (by unfold maxLen; omega), ?_, by simp⟩⟩, (Dn.refl _).drew.alloc _⟩; have hge2 : n <= grownCap w n 0 (Tryz.growR_ren.t 25) := grownCap_ge w n 0 _; simp [Builtin.zeroCells, Value.cells]; omega
theorem list_manyR {ops : Array Oper} {rest : List Oper} {o : Oper} {a : Act} {Q : Exit -> Act -> World -> Prop} (hgd : o.guard = none) (s x : Operand)
   (ho : o.op = .call { callee := .builtin .append, args := #[s, x], argTypes := #[22, 22] }) (w : World) (base : Nat) (v : Value) (L M : List Rq) (p : Option Addr) (cap : Nat) (hs : a.eval s = v) (hown : OwnQ w base v L)
   (hx : a.eval x = .slice p M.length cap) (hr : Row w p M) (hn : p = none -> cap = 0) (hl : L.length + M.length <= 1000000) (hb : base <= w.heap.size)
   (h : ∀ v' w', OwnQ w' base v' (L ++ M) -> (∀ w0, Dn w0 w -> w0.heap.size <= base -> Dn w0 w') -> wpList Tryz.prog ops Q rest (a.put o.dst v') w') :
   wpList Tryz.prog ops Q (o :: rest) a w := by
 obtain ⟨i0, hi, hz0, hz1, hz2⟩ := info_parts infoRun
 have key : ∀ v' w', w'.ownsRow base 45 4 v' (L.length + M.length) (L.flatMap qc ++ M.flatMap qc) -> w.grownBy w' v.ownBlock -> wpList Tryz.prog ops Q rest (a.put o.dst v') w' := by
   intro v' w' k1 k2; refine h v' w' ⟨by simpa using k1⟩ ?_; intro w0 hd e; exact ⟨hd.below.trans ⟨k2.os, k2.tape, k2.output, k2.size, fun i hi => k2.block i (Nat.lt_of_lt_of_le hi hd.size) (fun e2 => by have := (hown.own.lt i e2.symm).1; omega)⟩⟩
 cases p with
 | none =>
   have hM : M = [] := by
     rcases Nat.eq_zero_or_pos M.length with h0 | h0
     · exact List.length_eq_zero_iff.1 h0
     · obtain ⟨g, q, e, _⟩ := hr.at h0
       cases e
   subst hM; have hc := hn rfl; subst hc; exact wpList_append_own_none hgd s x 22 ho base 45 i0 4 Tryz.underlying22 hi v _ _ hs hown.own hx (h v w (by simpa using hown) (fun w0 hd _ => hd))
 | some ad =>
   refine wpList_append_own w hgd s x 22 ho base 45 i0 _ 4 32 Tryz.underlying22 hi hz0 hz1 hz2 rfl (by decide) v _ _ hs hown.own ad M.length cap (M.flatMap qc) hx (qc_len M) ?_ ?_ ?_ ?_ hb (fun v' w' k1 k2 _ => key v' w' k1 k2)
   · intro j u hj
     have hj2 : j < M.length * 4 := by
       obtain ⟨h1, _⟩ := List.getElem?_eq_some_iff.1 hj; rw [qc_len] at h1; exact h1
     obtain ⟨g, q, e, _, hel⟩ := hr.at (by omega)
     cases e
     obtain ⟨i, t, ht, rfl⟩ : ∃ i t, t < 4 /\ j = i * 4 + t := ⟨j / 4, j % 4, by omega, by omega⟩; obtain ⟨r, hr2⟩ : ∃ r, M[i]? = some r := ⟨M[i]'(by omega), by simp [show i < M.length by omega]⟩; rw [qc_get M i t r hr2 ht] at hj; obtain ⟨e0, e1, e2, e3⟩ := hel i r hr2; have hadd : (⟨g, q, none⟩ : Addr).add (i * 4 + t) = ⟨g, q + i * 4 + t, none⟩ := (by unfold Addr.add; split <;> simp_all <;> omega); rw [hadd]
     match t, hj with
     | 0, hj => simp [qc] at hj; subst hj; exact e0
     | 1, hj => simp [qc] at hj; subst hj; exact e1
     | 2, hj => simp [qc] at hj; subst hj; exact e2
     | 3, hj => simp [qc] at hj; subst hj; exact e3
     | n + 4, hj => simp [qc] at hj
   · intro u hu
     simp only [List.mem_flatMap] at hu; obtain ⟨r, _, hu⟩ := hu
     simp [qc] at hu; rcases hu with rfl | rfl | rfl | rfl <;> rfl
   · unfold maxLen; omega
   · omega
theorem rsConcat (B : Nat) (p : Option Addr) (cap : Nat) (a : List Rq) (q : Option Addr) (cap' : Nat) (b : List Rq)  (w : World) (h0 : w.cell? ⟨B, 0, none⟩ = some (.slice p a.length cap)) (h1 : w.cell? ⟨B, 1, none⟩ = some (.slice q b.length cap')) (hab : a.length + b.length <= 200000) (hn1 : p = none -> cap = 0) (hn2 : q = none -> cap' = 0) (hR1 : Row w p a) (hR2 : Row w q b) :
  Calls Tryz.prog 63 #[.slice (some ⟨B, 0, none⟩) 2 2] w fun ro w' => ∃ v, ro = .returned v /\ OwnQ w' w.heap.size v (a ++ b) /\ Dn w w' := by
 have z0 : ¬ ((a.length : Int) < 0) := by omega
 have z1 : ¬ ((a.length : Int) + (b.length : Int) < 0) := by omega
 have hw0 : IntKind.i64.wrap (a.length : Int) = a.length := IntWalk.i64_in _ (by omega)
 have hw1 : IntKind.i64.wrap ((a.length : Int) + (b.length : Int)) = (a.length : Int) + b.length := IntWalk.i64_in _ (by omega)
 have HR1 := Lib.hid hR1
 have HR2 := Lib.hid hR2
 clear hR1 hR2
 go_enter Tryz.func63, Tryz.ntmps63
 go_wp2_with fail
 refine wp_loop_rounds 3 ?_
 rw [rounds_succ]
 go_wp2_with fail
 rw [rounds_succ]
 go_wp2_with fail
 rw [rounds_succ]
 go_wp2_with fail
 have HG := Lib.hid (slGrow (a.length + b.length) w (by omega))
 have hsum : ((a.length : Int) + (b.length : Int)) = ((a.length + b.length : Nat) : Int) := by omega
 rw [hsum]
 clear hsum
 refine HG.out.mono ?_
 rintro e w1 ⟨v, rfl, hown, q1⟩
 have f0 := q1.cell h0
 have f1 := q1.cell h1
 have HQ1 := Lib.hid q1
 have h1' := h1
 clear h0 h1 q1
 have H1' := Lib.hid h1'
 clear h1'
 have HL := Lib.hid (show ([] : List Rq).length + a.length <= 1000000 by simp; omega)
 have HL2 := Lib.hid (show (([] : List Rq) ++ a).length + b.length <= 1000000 by simp; omega)
 go_wp2_with fail
 refine wp_loop_rounds 3 ?_
 rw [rounds_succ]
 go_wp2_with (at_builtin; refine list_manyR rfl _ _ rfl w1 w.heap.size v [] a p cap rfl hown rfl (HR1.out.dn HQ1.out) hn1 HL.out HQ1.out.size ?_)
 intro v2 w2 hown2 hdn2
 have hd2 := hdn2 w HQ1.out (Nat.le_refl _)
 have HD2 := Lib.hid hd2
 have HOWN2 := Lib.hid hown2
 have g1 := (show w2.cell? ⟨B, 1, none⟩ = some (.slice q b.length cap') from hd2.cell H1'.out)
 clear hdn2 hown2 hown f0 f1 hd2
 go_wp2_with fail
 rw [rounds_succ]
 go_wp2_with (at_builtin; refine list_manyR rfl _ _ rfl w2 w.heap.size v2 ([] ++ a) b q cap' rfl HOWN2.out rfl (HR2.out.dn HD2.out) hn2 HL2.out HD2.out.size ?_)
 intro v3 w3 hown3 hdn3
 have HD3 := Lib.hid (hdn3 w HD2.out (Nat.le_refl _))
 have HOWN3 := Lib.hid hown3
 clear hdn3 hown3 g1
 go_wp2_with fail
 rw [rounds_succ]
 go_wp2_with fail
 go_ret
 exact ⟨v3, rfl, HOWN3.out, HD3.out⟩
theorem srt_nil : srt [] = [] := by simp [srt]
theorem slSortV (base : Nat) (v : Value) (L : List Rq) (w : World) (hown : OwnQ w base v L) (hl : L.length <= 1000000) :
   Calls Tryz.prog 64 #[v, .func (.func 43) #[] #[]] w fun ro w' => ro = .returned (.tuple #[]) /\ (∃ p cap, v = .slice p (srt L).length cap /\ Row w' p (srt L)) /\ ∀ w0, Dn w0 w -> w0.heap.size <= base -> Dn w0 w' := by
 rcases hown.form with ⟨rfl, rfl⟩ | ⟨g, cap, rfl, _, _, _, _⟩
 · have h := AnyF.slices_SortFunc_none Tryz.sortR none 0 (.func (.func 43) #[] #[]) w
   refine Calls.mono (show Calls Tryz.prog 64 _ w _ from h) ?_; rintro e w' ⟨rfl, rfl⟩; exact ⟨rfl, ⟨none, 0, by rw [srt_nil]; rfl, by rw [srt_nil]; exact Row.nil _ _⟩, fun w0 hd _ => hd⟩
 · refine (slSort base g cap L w hown hl).mono ?_
   rintro e w' ⟨rfl, h1, h2⟩; exact ⟨rfl, ⟨_, cap, by rw [srt_len], h1⟩, h2⟩
theorem rsUnionS (p : Option Addr) (cap : Nat) (a : List Rq) (q : Option Addr) (cap' : Nat) (b : List Rq) (E : Int) (R : List Rq) (w : World) (hE : E = fin3 (bothL a b) (joinedL (srt (a ++ b)))) (hRR : R = res3 (bothL a b) (joinedL (srt (a ++ b)))) (hn1 : p = none -> cap = 0) (hn2 : q = none -> cap' = 0) (hl1 : a.length <= 100000) (hI1 : I6 a) (hR1 : Row w p a) (hl2 : b.length <= 100000) (hI2 : I6 b) (hR2 : Row w q b) :
   Calls Tryz.prog 24 #[.slice p a.length cap, .slice q b.length cap'] w fun ro w' => ∃ p', ro = .returned (.tuple #[.slice p' R.length R.length, .int .i64 E]) /\ Row w' p' R /\ Dn w w' := by
 have HB := Lib.hid (fun W (h : Dn w W) => rsChecked p cap a q cap' b W (by omega) hI1 (hR1.dn h) (by omega) hI2 (hR2.dn h))
 by_cases hc : bothL a b = 0
 rotate_left
 · obtain rfl : E = bothL a b := by rw [hE, fin3_bad hc]
   obtain rfl : R = [] := by rw [hRR, res3_bad hc]
   have d0 : (bothL a b != 0) = true := by simpa using hc
   clear hE hRR hc hR1 hR2 hI1 hI2; generalize bothL a b = c at *; go_enter Tryz.func24, Tryz.ntmps24; go_wp2_with fail; refine (HB.out _ (Dn.refl _)).mono ?_; rintro e w1 ⟨rfl, qw1⟩; have uw1 := qw1; clear qw1; go_wp2_with fail; go_ret2; exact ⟨none, rfl, rownil _, uw1⟩
 · obtain ⟨hca, hcb⟩ := both_zero hc
   have la := chk_len hca; have lb := chk_len hcb
   have hi6 : I6 (srt (a ++ b)) := fun x hx => by
    have h := (srt_mem _ x).1 hx; rcases List.mem_append.1 h with h | h
    · exact hI1 x h
    · exact hI2 x h
   have hsl : (srt (a ++ b)).length <= 9000 := by rw [srt_len, List.length_append]; omega
   rw [hc] at HB hE hRR; have HC := Lib.hid (fun W B (h : Dn w W) (h0 : W.cell? ⟨B, 0, none⟩ = some (.slice p a.length cap)) (h1 : W.cell? ⟨B, 1, none⟩ = some (.slice q b.length cap')) => rsConcat B p cap a q cap' b W h0 h1 (by omega) hn1 hn2 (hR1.dn h) (hR2.dn h)); have HS := Lib.hid (fun W base v (h : OwnQ W base v (a ++ b)) => slSortV base v (a ++ b) W h (by rw [List.length_append]; omega)); have HJ := Lib.hid (fun W p' c' (hr : Row W p' (srt (a ++ b))) => rsJoined p' c' (srt (a ++ b)) W (by omega) hi6 hr); have HL := Lib.hid (fun W p' cp (h1 : (joinedL (srt (a ++ b))).length <= cp) (h2 : cp <= 9223372036854775807) hr => lim_ok p' cp (joinedL (srt (a ++ b))) W E R hE hRR h1 h2 hr); have HJL := Lib.hid (show (joinedL (srt (a ++ b))).length <= 9223372036854775807 by have := joined_le (srt (a ++ b)); omega); clear hc hca hcb hI1 hI2 hE hRR hR1 hR2 hi6 hsl; generalize a ++ b = ab at *; generalize joinedL (srt ab) = M at *; go_enter Tryz.func24, Tryz.ntmps24; go_wp2_with fail; refine (HB.out _ (Dn.refl _)).mono ?_; rintro e w1 ⟨rfl, qw1⟩; have uw1 := qw1; clear qw1; go_wp2_with fail; obtain ⟨W1, hW1⟩ : ∃ W1, W1 = w1.alloc (.cells #[.slice p a.length cap, .slice q b.length cap'] 22) := ⟨_, rfl⟩
   have uW1 : Dn w1 W1 := by rw [hW1]; exact (Dn.refl _).alloc _
   have c2 : W1.cell? ⟨w1.heap.size, 0, none⟩ = some (.slice p a.length cap) := by rw [hW1]; simp [go_sem]
   have c3 : W1.cell? ⟨w1.heap.size, 1, none⟩ = some (.slice q b.length cap') := by rw [hW1]; simp [go_sem]
   have l4 : w1.heap.size < W1.heap.size := by rw [hW1]; simp <;> omega
   rw [<- hW1]; clear hW1; have vW1 := uw1.trans uW1; clear uW1 uw1; refine (HC.out _ _ vW1 c2 c3).mono ?_; rintro e wc ⟨v, rfl, hown, qc⟩; have HOWN := Lib.hid hown; have uc := vW1.trans qc; have HSZ := Lib.hid vW1.size; clear hown qc vW1 c2 c3 l4; go_wp2_with fail; refine (HS.out _ _ v HOWN.out).mono ?_; rintro e ws ⟨rfl, ⟨p3, c3, rfl, hrs⟩, hdn⟩; have us := hdn w uc HSZ.out; have HRS := Lib.hid hrs; clear hrs hdn uc; go_wp2_with fail; refine (HJ.out _ p3 c3 HRS.out).mono ?_; rintro e wj ⟨pj, rfl, hrj, qj⟩; have HRJ := Lib.hid hrj; clear hrj; have uj := us.trans qj; go_wp2_with fail; refine (HL.out _ pj _ (Nat.le_refl _) HJL.out HRJ.out).mono ?_; rintro e wl ⟨p2, rfl, hr2, ql⟩; have HR2 := Lib.hid hr2; clear hr2; go_wp2_with fail; go_ret2
   first | exact ⟨p2, rfl, HR2.out, uj.trans ql⟩ | exact ⟨⟨p2, rfl⟩, HR2.out, uj.trans ql⟩
set_option maxHeartbeats 4000000
set_option maxRecDepth 100000
theorem neqR (x y : Rq) (w : World) : (binOp .neq 45 (.agg #[.int .i8 x.a, .int .i64 x.b, .int .i8 x.c, .int .i64 x.d]) (.agg #[.int .i8 y.a, .int .i64 y.b, .int .i8 y.c, .int .i64 y.d])).run Tryz.prog w = .ok (.bool (decide (x ≠ y))) w := by
 have e : x = y ↔ x.a = y.a /\ x.b = y.b /\ x.c = y.c /\ x.d = y.d := by
  cases x; cases y; simp
 by_cases h1 : x.a = y.a <;> by_cases h2 : x.b = y.b <;> by_cases h3 : x.c = y.c <;> by_cases h4 : x.d = y.d <;>
  simp [go_sem, e, h1, h2, h3, h4]
theorem pre_eq {a b : List Rq} (hl : a.length = b.length) (h : ∀ i x y, a[i]? = some x -> b[i]? = some y -> i < a.length -> x = y) : a = b := by
 apply List.ext_getElem hl
 intro i h1 h2
 exact h i _ _ (by simp [h1]) (by simp [h2]) h1
theorem rfSame (p : Option Addr) (cap : Nat) (a : List Rq) (q : Option Addr) (cap' : Nat) (b : List Rq) (m : Bool) (w : World) (hm : m = decide (a = b)) (hl1 : a.length <= 1000000) (hl2 : b.length <= 1000000) (hR1 : Row w p a) (hR2 : Row w q b) :
   Calls Tryz.prog 28 #[.slice p a.length cap, .slice q b.length cap'] w fun ro w' => ro = .returned (.bool m) /\ Dn w w' := by
 have HM := Lib.hid hm
 clear hm
 by_cases hlen : a.length = b.length
 rotate_left
 · have d0 : ((a.length : Int) != (b.length : Int)) = true := by simp; omega
   obtain rfl : m = false := by rw [HM.out, decide_eq_false_iff_not]; exact fun h => hlen (by rw [h])
   go_enter Tryz.func28, Tryz.ntmps28; go_wp2_with fail; go_ret; exact ⟨rfl, Dn.refl _⟩
 · have d0 : ((a.length : Int) != (b.length : Int)) = false := by simp; omega
   have HL := Lib.hid hlen; rw [hlen]; go_enter Tryz.func28, Tryz.ntmps28; go_wp2_with fail; go_loopw [4, 5] (fun rv iv wr => rv = .bool false /\ ∃ k : Nat, k <= b.length /\ iv = .int .i64 k /\ (∀ i x y, a[i]? = some x -> b[i]? = some y -> i < k -> x = y) /\ Dn w wr) (fun _ iv _ => b.length - (intOf iv).toNat)
   case atStart => exact ⟨rfl, 0, by omega, rfl, fun _ _ _ _ _ h => absurd h (by omega), Dn.refl _⟩
   case round =>
    obtain ⟨rfl, k, hk, rfl, hn, hu⟩ := hrel; have HN := Lib.hid hn; clear hn
    by_cases hlt : k < b.length
    · have d1 : decide ((k : Int) < b.length) = true := by simp; omega
      obtain ⟨x, hx⟩ : ∃ x, a[k]? = some x := ⟨a[k], by simp [show k < a.length by omega]⟩; obtain ⟨y, hy⟩ : ∃ y, b[k]? = some y := ⟨b[k], by simp [hlt]⟩; obtain ⟨g, o, rfl, hc⟩ := hR1.cs (by omega); obtain ⟨g2, o2, rfl, hc2⟩ := hR2.cs (by omega); have HX := Lib.hid hx; have HY := Lib.hid hy; obtain ⟨a0, a1, a2, a3⟩ := (hc.dn hu).el _ _ hx; obtain ⟨b0, b1, b2, b3⟩ := (hc2.dn hu).el _ _ hy; clear hx hy hc hc2 hR1 hR2
      by_cases hxy : x = y
      · have hNE := fun W => neqR x y W
        have HXY := Lib.hid hxy; rw [decide_eq_false (fun h => h hxy)] at hNE; clear hxy; go_wp2_with fail; go_quiet (fail); clear hNE; go_wp2_with fail; go_roundw
        case rel => exact ⟨rfl, k + 1, by omega, by simp, fun i x' y' h1 h2 h3 => (Nat.lt_or_ge i k).elim (HN.out i x' y' h1 h2) (fun h => by (obtain rfl : i = k := (by omega)); (rw [HX.out] at h1); (rw [HY.out] at h2); (cases h1); (cases h2); exact HXY.out), by first | exact hu.drewN _ | exact hu | trivial⟩
        case measure => simp [intOf]; omega
      · have hNE := fun W => neqR x y W
        rw [decide_eq_true hxy] at hNE
        obtain rfl : m = false := by
         rw [HM.out, decide_eq_false_iff_not]; intro h; have h1 := HX.out; rw [h, HY.out] at h1; exact hxy (Option.some.inj h1).symm
        clear hxy; go_wp2_with fail; go_quiet (fail); clear hNE; go_wp2_with fail; go_ret; exact ⟨rfl, by first | exact hu.drewN _ | exact hu | trivial⟩
    · obtain rfl : k = b.length := by omega
      have d1 : decide ((b.length : Int) < b.length) = false := (by simp)
      obtain rfl : m = true := by
        rw [HM.out, decide_eq_true_iff]; exact pre_eq HL.out (fun i x y h1 h2 h3 => HN.out i x y h1 h2 (by have := HL.out; omega))
      go_wp2_with fail; go_ret; exact ⟨rfl, hu⟩
theorem slEqual (p : Option Addr) (cap : Nat) (a : List Rq) (q : Option Addr) (cap' : Nat) (b : List Rq) (m : Bool) (w : World) (hm : m = decide (a = b)) (hl1 : a.length <= 1000000) (hl2 : b.length <= 1000000) (hR1 : Row w p a) (hR2 : Row w q b) :
   Calls Tryz.prog 75 #[.slice p a.length cap, .slice q b.length cap'] w fun ro w' => ro = .returned (.bool m) /\ Dn w w' := by
 have HM := Lib.hid hm
 clear hm
 by_cases hlen : a.length = b.length
 rotate_left
 · have d0 : ((a.length : Int) != (b.length : Int)) = true := by simp; omega
   obtain rfl : m = false := by rw [HM.out, decide_eq_false_iff_not]; exact fun h => hlen (by rw [h])
   go_enter Tryz.func75, Tryz.ntmps75; go_wp2_with fail; go_ret; exact ⟨rfl, Dn.refl _⟩
 · have d0 : ((a.length : Int) != (b.length : Int)) = false := by simp; omega
   have HL := Lib.hid hlen; rw [hlen]; go_enter Tryz.func75, Tryz.ntmps75; go_wp2_with fail; go_loopw [4, 13] (fun rv iv wr => rv = .bool false /\ ∃ k : Nat, k <= b.length /\ iv = .int .i64 k /\ (∀ i x y, a[i]? = some x -> b[i]? = some y -> i < k -> x = y) /\ Dn w wr) (fun _ iv _ => b.length - (intOf iv).toNat)
   case atStart => exact ⟨rfl, 0, by omega, rfl, fun _ _ _ _ _ h => absurd h (by omega), Dn.refl _⟩
   case round =>
    obtain ⟨rfl, k, hk, rfl, hn, hu⟩ := hrel; have HN := Lib.hid hn; clear hn
    by_cases hlt : k < b.length
    · have d1 : decide ((k : Int) < b.length) = true := by simp; omega
      obtain ⟨x, hx⟩ : ∃ x, a[k]? = some x := ⟨a[k], by simp [show k < a.length by omega]⟩; obtain ⟨y, hy⟩ : ∃ y, b[k]? = some y := ⟨b[k], by simp [hlt]⟩; obtain ⟨g, o, rfl, hc⟩ := hR1.cs (by omega); obtain ⟨g2, o2, rfl, hc2⟩ := hR2.cs (by omega); have HX := Lib.hid hx; have HY := Lib.hid hy; obtain ⟨a0, a1, a2, a3⟩ := (hc.dn hu).el _ _ hx; obtain ⟨b0, b1, b2, b3⟩ := (hc2.dn hu).el _ _ hy; clear hx hy hc hc2 hR1 hR2
      by_cases hxy : x = y
      · have hNE := fun W => neqR x y W
        have HXY := Lib.hid hxy; rw [decide_eq_false (fun h => h hxy)] at hNE; clear hxy; go_wp2_with fail; go_quiet (fail); clear hNE; go_wp2_with fail; go_roundw
        case rel => exact ⟨rfl, k + 1, by omega, by simp, fun i x' y' h1 h2 h3 => (Nat.lt_or_ge i k).elim (HN.out i x' y' h1 h2) (fun h => by (obtain rfl : i = k := (by omega)); (rw [HX.out] at h1); (rw [HY.out] at h2); (cases h1); (cases h2); exact HXY.out), by first | exact hu.drewN _ | exact hu | trivial⟩
        case measure => simp [intOf]; omega
      · have hNE := fun W => neqR x y W
        rw [decide_eq_true hxy] at hNE
        obtain rfl : m = false := by
         rw [HM.out, decide_eq_false_iff_not]; intro h; have h1 := HX.out; rw [h, HY.out] at h1; exact hxy (Option.some.inj h1).symm
        clear hxy; go_wp2_with fail; go_quiet (fail); clear hNE; go_wp2_with fail; go_ret; exact ⟨rfl, by first | exact hu.drewN _ | exact hu | trivial⟩
    · obtain rfl : k = b.length := by omega
      have d1 : decide ((b.length : Int) < b.length) = false := (by simp)
      obtain rfl : m = true := by
        rw [HM.out, decide_eq_true_iff]; exact pre_eq HL.out (fun i x y h1 h2 h3 => HN.out i x y h1 h2 (by have := HL.out; omega))
      go_wp2_with fail; go_ret; exact ⟨rfl, hu⟩
theorem rsSame (p : Option Addr) (cap : Nat) (a : List Rq) (q : Option Addr) (cap' : Nat) (b : List Rq) (m : Bool) (w : World) (hm : m = decide (a = b)) (hl1 : a.length <= 1000000) (hl2 : b.length <= 1000000) (hR1 : Row w p a) (hR2 : Row w q b) :
  Calls Tryz.prog 33 #[.slice p a.length cap, .slice q b.length cap'] w fun ro w' => ro = .returned (.bool m) /\ Dn w w' := by
 have HE := Lib.hid (slEqual p cap a q cap' b m w hm hl1 hl2 hR1 hR2)
 clear hm hR1 hR2
 go_enter Tryz.func33, Tryz.ntmps33
 go_wp2_with fail
 refine (HE.out).mono ?_
 rintro e w1 ⟨rfl, qw1⟩
 have uw1 := qw1
 clear qw1
 go_wp2_with fail
 go_ret
 exact ⟨rfl, uw1⟩
set_option maxHeartbeats 4000000
set_option maxRecDepth 100000
def GvT (L : List Rq) (cap : Nat) (e : Int) (M : List Rq) (bad : Int) : Prop := (bad = 0 /\ L = M /\ cap = L.length /\ e = 0) \/ (bad ≠ 0 /\ L = [] /\ e = bad)
def setL : List Int -> List Rq
 | x :: y :: t => ⟨0, x, 0, y⟩ :: setL t
 | _ => []
theorem setL_at : ∀ (k : Nat) (ns : List Int) (x y : Int), ns[2 * k]? = some x -> ns[2 * k + 1]? = some y -> setL (ns.take (2 * k + 2)) = setL (ns.take (2 * k)) ++ [⟨0, x, 0, y⟩]
 | 0, a :: b :: t, x, y, hx, hy => by
   simp at hx hy; subst hx; subst hy; simp [setL]
 | 0, [], x, y, hx, hy => by simp at hx
 | 0, [a], x, y, hx, hy => by simp at hy
 | k + 1, a :: b :: t, x, y, hx, hy => by
   have e1 : 2 * (k + 1) = 2 * k + 1 + 1 := by omega
   rw [e1] at hx hy ⊢; have ih := setL_at k t x y (by simpa using hx) (by simpa using hy); rw [show 2 * k + 1 + 1 + 2 = 2 * k + 2 + 1 + 1 by omega]; simp only [List.take_succ_cons, setL]; rw [ih]; rfl
 | k + 1, [], x, y, hx, hy => by simp at hx
 | k + 1, [a], x, y, hx, hy => by simp at hx
structure Ns (w : World) (g : Nat) (ns : List Int) : Prop where
 lt : g < w.heap.size
 at_ : ∀ (k : Nat) (v : Int), ns[k]? = some v -> w.cell? ⟨g, k, none⟩ = some (.int .i64 v)
theorem Ns.dn {w w' : World} {g : Nat} {ns : List Int} (h : Ns w g ns) (q : Dn w w') : Ns w' g ns := ⟨Nat.lt_of_lt_of_le h.lt q.size, fun k v hv => q.cell (h.at_ k v hv)⟩
theorem dn_grown {w wr w2 : World} {row : Option Nat} (h : Dn w wr) (hg : wr.grownBy w2 row) (hr : ∀ k, row = some k -> w.heap.size <= k) : Dn w w2 := ⟨h.below.grown hg h.size hr⟩
theorem ns_new (w : World) (vs : List Int) (arr : Array Value) (h : arr = (vs.map (Value.int .i64 ·)).toArray) : Ns (w.alloc (.cells arr 2)) w.heap.size vs := by
 refine ⟨by simp, fun k v hv => ?_⟩
 subst h
 simp [go_sem, hv]
theorem rq_new (w : World) (L : List Rq) (arr : Array Value) (h : arr = (L.flatMap qc).toArray) : Row (w.alloc (.cells arr 45)) (some ⟨w.heap.size, 0, none⟩) L := by
 refine ⟨.inr ⟨_, _, rfl, by simp, fun k x hx => ?_⟩⟩
 subst h
 have g := fun j hj => qc_get L k j x hx hj
 have g0 := g 0 (by decide); have g1 := g 1 (by decide); have g2 := g 2 (by decide); have g3 := g 3 (by decide)
 simp only [qc, Nat.add_zero] at g0 g1 g2 g3
 refine ⟨?_, ?_, ?_, ?_⟩
 · simp [go_sem]; exact g0
 · simp [go_sem]; exact g1
 · simp [go_sem]; exact g2
 · simp [go_sem]; exact g3
structure Rl (w : World) (p : Option Addr) (cap : Nat) (L : List Rq) : Prop where
 row : Row w p L
 le : L.length <= cap
 mx : cap <= 9223372036854775807
 nl : p = none -> cap = 0
theorem Rl.dn {w w' : World} {p : Option Addr} {cap : Nat} {L : List Rq} (h : Rl w p cap L) (q : Dn w w') : Rl w' p cap L := ⟨h.row.dn q, h.le, h.mx, h.nl⟩
theorem Row.none {w : World} {L : List Rq} (h : Row w none L) : L = [] := by
 cases L with
 | nil => rfl
 | cons x t => obtain ⟨g, o, e, _⟩ := h.cs (by simp); cases e
theorem Row.rl {w : World} {p : Option Addr} {L : List Rq} (h : Row w p L) (hl : L.length <= 1000000) : Rl w p L.length L := ⟨h, Nat.le_refl _, by omega, fun e => by subst e; rw [h.none]; rfl⟩
theorem OwnQ.rl {w : World} {base : Nat} {v : Value} {L : List Rq} (h : OwnQ w base v L) : ∃ p cap, v = .slice p L.length cap /\ Rl w p cap L := by
 rcases h.form with ⟨rfl, rfl⟩ | ⟨g, cap, rfl, _, h1, h2, hc⟩
 · exact ⟨_, _, rfl, Row.nil _ _, Nat.le_refl _, by omega, fun _ => rfl⟩
 · exact ⟨_, _, rfl, hc.row, h1, by unfold maxLen at h2; omega, fun e => by cases e⟩
theorem rsCheckE (p : Option Addr) (cap : Nat) (L : List Rq) (E : Int) (w : World) (hE : E = chkL L) (hl : L.length <= 1000000) (hI : I6 L) (hR : Row w p L) :
  Calls Tryz.prog 14 #[.slice p L.length cap] w fun ro w' => ro = .returned (.int .i64 E) /\ Dn w w' := by
 subst hE; exact rsCheck p cap L w hl hI hR
theorem rfCheckE (p : Option Addr) (cap : Nat) (L : List Rq) (E : Int) (w : World) (hE : E = chkL L) (hl : L.length <= 1000000) (hI : I6 L) (hR : Row w p L) :
  Calls Tryz.prog 15 #[.slice p L.length cap] w fun ro w' => ro = .returned (.int .i64 E) /\ Dn w w' := by
 subst hE; exact rfCheck p cap L w hl hI hR
def SlN (w : World) (x : Value) (n : Nat) (vs : List Int) : Prop := ∃ g, x = .slice (some ⟨g, 0, none⟩) n n /\ Ns w g vs
theorem SlN.dn {w w' : World} {x : Value} {n : Nat} {vs : List Int} (h : SlN w x n vs) (q : Dn w w') : SlN w' x n vs := by obtain ⟨g, e, h⟩ := h; exact ⟨g, e, h.dn q⟩
def SlR (w : World) (x : Value) (L : List Rq) : Prop := ∃ p cap, x = .slice p L.length cap /\ Rl w p cap L
theorem SlR.dn {w w' : World} {x : Value} {L : List Rq} (h : SlR w x L) (q : Dn w w') : SlR w' x L := by obtain ⟨p, c, e, h⟩ := h; exact ⟨p, c, e, h.dn q⟩
theorem step_runQ {ops : Array Oper} {o : Oper} {a : Act} {K : Act -> World -> Prop} {Q : Exit -> Act -> World -> Prop} {E : Prop} (hgd : o.guard = none) (s x : Operand)
   (ho : o.op = .call { callee := .builtin .append, args := #[s, x], argTypes := #[22, 22] }) (w : World) (base : Nat) (v : Value) (L : List Rq) (a0 b0 c0 d0 : Int) (hs : a.eval s = v) (hown : OwnQ w base v L)
   (hx : a.eval x = .slice (some ⟨w.heap.size, 0, none⟩) 1 1) (hl : L.length <= 1000000) (hb : base <= w.heap.size)
   (h : ∀ v' w', OwnQ w' base v' (L ++ [⟨a0, b0, c0, d0⟩]) -> w.grownBy w' v.ownBlock -> K (a.put o.dst v') w') :
   if Region.wanted o (yielded ops a.tmps) = true then Oper.wp Tryz.prog o a ((w.alloc (.cells #[.int .i8 a0, .int .i64 b0, .int .i8 c0, .int .i64 d0] 45)).drew) K Q else E := by
 have hw : Region.wanted o (yielded ops a.tmps) = true := by simp [Region.wanted, hgd]
 rw [if_pos hw]
 obtain ⟨i0, hi, hz0, hz1, hz2⟩ := info_parts infoRun
 refine wp_append_own ((w.alloc (.cells #[.int .i8 a0, .int .i64 b0, .int .i8 c0, .int .i64 d0] 45)).drew) s x 22 ho base 45 i0 _ 4 32 Tryz.underlying22 hi hz0 hz1 hz2 rfl (by decide) v _ _ hs (World.ownsRow.drew (hown.own.alloc _)) ⟨w.heap.size, 0, none⟩ 1 1 (qc ⟨a0, b0, c0, d0⟩) hx rfl ?_ ?_ ?_ ?_ ?_ ?_
 · intro j u hj
   match j, hj with
   | 0, hj => simp [qc] at hj; subst hj; simp [Addr.add]
   | 1, hj => simp [qc] at hj; subst hj; simp [Addr.add]
   | 2, hj => simp [qc] at hj; subst hj; simp [Addr.add]
   | 3, hj => simp [qc] at hj; subst hj; simp [Addr.add]
   | n + 4, hj => simp [qc] at hj
 · intro u hu; simp [qc] at hu; rcases hu with rfl | rfl | rfl | rfl <;> rfl
 · unfold maxLen; omega
 · omega
 · simp; omega
 · intro v' w' k1 k2 _
   refine h v' w' ⟨?_⟩ ?_
   · simpa using k1
   · have := World.grownBy_alloc w (.cells #[.int .i8 a0, .int .i64 b0, .int .i8 c0, .int .i64 d0] 45) v.ownBlock
     exact grown_trans (b := (w.alloc (.cells #[.int .i8 a0, .int .i64 b0, .int .i8 c0, .int .i64 d0] 45)).drew) ⟨this.os, this.tape, this.output, this.size, this.block⟩ k2
theorem gv10 (p : Option Addr) (cap : Nat) (L : List Rq) (e : Int) (q : Option Addr) (cap2 : Nat) (M : List Rq) (bad : Int) (w : World) (h : GvT L cap e M bad) (hl : L.length <= 100000) (hR1 : Row w p L) (hR2 : bad = 0 -> Row w q M) :
   Calls Tryz.prog 13 #[.slice p L.length cap, .int .i64 e, .slice q M.length cap2, .int .i64 bad] w fun ro w' => ro = .returned (.bool true) /\ Dn w w' := by
 rcases h with ⟨rfl, rfl, rfl, rfl⟩ | ⟨hb, rfl, rfl⟩
 · have HS := Lib.hid (fun W (k : Dn w W) => rfSame p L.length L q cap2 L true W (by simp) (by omega) (by omega) (hR1.dn k) ((hR2 rfl).dn k))
   clear hR1 hR2; go_enter Tryz.func13, Tryz.ntmps13; go_wp2_with fail; refine (HS.out _ (Dn.refl _)).mono ?_; rintro e w1 ⟨rfl, q1⟩; go_wp2_with fail; go_ret; exact ⟨rfl, q1⟩
 · have d1 : (e != 0) = true := by simpa using hb
   have d2 : (e == e) = true := by simp
   clear hb hR1 hR2; go_enter Tryz.func13, Tryz.ntmps13; go_wp2_with fail; go_ret; exact ⟨rfl, Dn.refl _⟩
theorem setL_len : ∀ (ns : List Int), (setL ns).length <= ns.length
 | [] => by simp [setL]
 | [a] => by simp [setL]
 | a :: b :: t => by have := setL_len t; simp [setL]; omega
theorem set10 (g : Nat) (n cap : Nat) (ns : List Int) (m : Nat) (w : World) (hn : ns.length = n) (hm : n = 2 * m) (hl : n <= 1000) (hin : Ns w g ns) :
  Calls Tryz.prog 38 #[.slice (some ⟨g, 0, none⟩) n cap] w fun ro w' => ∃ p' cap', ro = .returned (.slice p' (setL ns).length cap') /\ Rl w' p' cap' (setL ns) /\ Dn w w' := by
 have HLEN : Hid (∀ k, (setL (ns.take (2 * k))).length <= 1000000) := Lib.hid (fun k => by have := setL_len (ns.take (2 * k)); simp at this; omega)
 go_enter Tryz.func38, Tryz.ntmps38
 have HIN := Lib.hid hin
 have HN := Lib.hid hn
 have HM := Lib.hid hm
 clear hin hn hm
 go_wp2_with fail
 go_loopw [3, 4] (fun ov iv wr => ∃ (k j : Nat), j = 2 * k /\ k <= m /\ iv = .int .i64 j /\ OwnQ wr w.heap.size ov (setL (ns.take (2 * k))) /\ Dn w wr) (fun _ iv _ => n - (intOf iv).toNat)
 case atStart => exact ⟨0, 0, rfl, Nat.zero_le _, rfl, OwnQ.nil _ _, Dn.refl _⟩
 case round =>
  obtain ⟨k, j, hj, hk, rfl, hown, hu⟩ := hrel
  by_cases hlt : k < m
  · have hm := HM.out
    have hn := HN.out; have d1 : decide ((j : Int) + 1 < n) = true := (by simp; omega); have d3 : (j : Int) + 1 < n := (by omega); have d4 : (j : Int) < n := (by omega); have d5 : j + 1 < n := (by omega); have d6 : j < n := (by omega); have d7 : (0 : Int) <= (j : Int) + 1 := (by omega); have dw : IntKind.i64.wrap ((j : Int) + 1) = ((j + 1 : Nat) : Int) := (by rw [IntWalk.i64_in _ (by omega)]; omega); obtain ⟨x, hx⟩ : ∃ x, ns[2 * k]? = some x := ⟨ns[2 * k]'(by omega), List.getElem?_eq_getElem _⟩; obtain ⟨y, hy⟩ : ∃ y, ns[2 * k + 1]? = some y := ⟨ns[2 * k + 1]'(by omega), List.getElem?_eq_getElem _⟩; clear hm hn; have hset := setL_at k ns x y hx hy; have c0 := (HIN.out.dn hu).at_ _ _ hx; have c1 := (HIN.out.dn hu).at_ _ _ hy; rw [<- hj] at c0 c1; have HOWN := Lib.hid hown; have HU := Lib.hid hu; have HJ := Lib.hid hj; have HLT := Lib.hid hlt; have HSET := Lib.hid hset; have hol : (setL (ns.take (2 * k))).length <= 1000000 := HLEN.out k; have HOL := Lib.hid hol; clear hown hu hj hx hy hset hol hlt hk; go_wp2_with fail; go_region_law (refine step_runQ (by rfl) _ _ (by rfl) wr w.heap.size u3 _ 0 x 0 y (by rfl) HOWN.out (by rfl) HOL.out HU.out.size ?_; intro v2 w2 hown2 hg)
    all_goals
     have hdn : Dn w w2 := dn_grown HU.out hg (fun j e => (HOWN.out.row j e).1); clear hg c0 c1; go_wp2_with fail; go_roundw
     case rel => exact ⟨k + 1, j + 2, by have := HJ.out; omega, HLT.out, by simp, by rw [show 2 * (k + 1) = 2 * k + 2 by omega, HSET.out]; exact hown2, hdn⟩
     case measure => simp [intOf]; omega
  · obtain rfl : k = m := by omega
    have hm := HM.out; have hn := HN.out; have d1 : decide ((j : Int) + 1 < n) = false := (by simp; omega); have d5 : ¬ (j : Int) + 1 < n := (by omega); have d6 : (j : Int) <= 1000 := (by omega); rw [<- hm, <- hn, List.take_length] at hown; clear hm hn hj; obtain ⟨p', cap', rfl, hrow⟩ := hown.rl; clear hown; go_wp2_with fail; go_ret; exact ⟨p', cap', rfl, hrow, hu⟩
end Go.Proofs.YtoghoddjkdoohaaGreatDoor
