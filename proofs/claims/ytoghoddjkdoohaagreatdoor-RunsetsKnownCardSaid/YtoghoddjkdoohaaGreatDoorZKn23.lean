/- Walks and laws that the claim's theorem leans on: part 23. -/
import Derived.Test.YtoghoddjkdoohaaGreatDoorZKn1
import Derived.Test.YtoghoddjkdoohaaGreatDoorZKn12
import Derived.Test.YtoghoddjkdoohaaGreatDoorZKn17
import Derived.Test.YtoghoddjkdoohaaGreatDoorZKn21
namespace Go.Proofs.YtoghoddjkdoohaaGreatDoor
set_option maxHeartbeats 4000000
set_option maxRecDepth 100000
open Go.RowKit
set_option linter.unusedVariables false
set_option linter.unusedSimpArgs false
theorem slCollect (B : Nat) (p : Option Addr) (cap : Nat) (L : List Rq) (w : World) (hl : L.length <= 100000) (hB : w.cell? ⟨B, 0, none⟩ = some (.slice p L.length cap)) (hR : Row w p L) :
  Calls Tryz.prog 85 #[.func (.func 86) #[] #[.pointer (some ⟨B, 0, none⟩)]] w fun e w' => ∃ v : Value, e = .returned v /\ OwnQ w' w.heap.size v L /\ Dn w w' := by
 refine (callsIn_wide (n := 6)).1 ?_
 have e11 : ∀ args w, (callFunc 126 args).run Tryz.prog w = .ok (.enter 126 args) w := enters_of Tryz.func126 (by kernel_rfl) rfl
 have e86 : ∀ args w, (callFunc 86 args).run Tryz.prog w = .ok (.enter 86 args) w := enters_of Tryz.func86 (by kernel_rfl) rfl
 have hseq : ∀ W, Dn w W -> CallsIn Fence.wide 5 Tryz.prog 126 #[.slice none 0 0, .func (.func 86) #[] #[.pointer (some ⟨B, 0, none⟩)]] W fun e w' => ∃ v : Value, e = .returned v /\ OwnQ w' W.heap.size v L /\ Dn W w' := fun W h =>
  slAppendSeq Fence.wide 5 trivial rfl (by omega) 86 #[.pointer (some ⟨B, 0, none⟩)] trivial e86 L hl W (vals_give Fence.wide 4 trivial rfl (by omega) B p cap L W hl (h.cell hB) (hR.dn h))
 have HS := Lib.hid hseq
 clear hseq hB hR
 refine callsIn_of_wp Tryz.func85 rfl trivial ?_ rfl
 simp only [Tryz.ntmps85, List.size_toArray, List.length_cons, List.length_nil, Nat.reduceAdd, Nat.reduceSub, Array.replicate_succ, Array.replicate_zero, List.push_toArray, List.append_toArray, List.nil_append, List.cons_append]
 gi_wp2_with fail
 refine ⟨trivial, (HS.out _ (Dn.refl _)).mono ?_⟩
 rintro e w' ⟨v, rfl, hown, hd⟩
 gi_wp2_with fail
 go_ret
 exact ⟨v, rfl, hown, hd⟩
theorem slValues (p : Option Addr) (cap : Nat) (L : List Rq) (w : World) (hR : Row w p L) :
  Calls Tryz.prog 42 #[.slice p L.length cap] w fun ro w' => ∃ B : Nat, ro = .returned (.func (.func 86) #[] #[.pointer (some ⟨B, 0, none⟩)]) /\ w'.cell? ⟨B, 0, none⟩ = some (.slice p L.length cap) /\ Dn w w' := by
 have HR := Lib.hid hR
 clear hR
 go_enter Tryz.func42, Tryz.ntmps42
 go_wp2_with fail
 obtain ⟨W1, hW1⟩ : ∃ W1, W1 = w.alloc (.cells #[.slice p L.length cap] 22) := ⟨_, rfl⟩
 have u1 : Dn w W1 := by rw [hW1]; exact (Dn.refl _).alloc _
 have cB : W1.cell? ⟨w.heap.size, 0, none⟩ = some (.slice p L.length cap) := by rw [hW1]; simp [go_sem]
 rw [<- hW1]
 clear hW1
 go_ret
 exact ⟨w.heap.size, rfl, cB, u1⟩
theorem slSortedFunc (B : Nat) (p : Option Addr) (cap : Nat) (L : List Rq) (w : World) (hl : L.length <= 100000) (hB : w.cell? ⟨B, 0, none⟩ = some (.slice p L.length cap)) (hR : Row w p L) :
  Calls Tryz.prog 41 #[.func (.func 86) #[] #[.pointer (some ⟨B, 0, none⟩)], .func (.func 43) #[] #[]] w fun ro w' => ∃ p' cap', ro = .returned (.slice p' (srt L).length cap') /\ Row w' p' (srt L) /\ Dn w w' := by
 have HC := Lib.hid (slCollect B p cap L w hl hB hR)
 have HS := Lib.hid (fun W base v (h : OwnQ W base v L) => slSortV base v L W h (by omega))
 clear hB hR
 go_enter Tryz.func41, Tryz.ntmps41
 go_wp2_with fail
 refine HC.out.mono ?_
 rintro e wc ⟨v, rfl, hown, qc⟩
 have HOWN := Lib.hid hown
 clear hown
 go_wp2_with fail
 refine (HS.out _ _ v HOWN.out).mono ?_
 rintro e ws ⟨rfl, ⟨p3, c3, rfl, hrs⟩, hdn⟩
 have us := hdn w qc (Nat.le_refl _)
 have HRS := Lib.hid hrs
 clear hrs hdn
 go_wp2_with fail
 go_ret
 first | exact ⟨p3, c3, rfl, HRS.out, us⟩ | exact ⟨p3, ⟨c3, rfl⟩, HRS.out, us⟩
theorem preKn74x1 (w : World) (v0 v1 v2 v3 : Int) : ∃ W1, W1 = w.alloc (.cells #[.int .i8 v0, .int .i64 v1, .int .i8 v2, .int .i64 v3] 45) /\ (Dn w W1) /\ (W1.cell? ⟨w.heap.size, 0, none⟩ = some (.int .i8 v0)) /\ (W1.cell? ⟨w.heap.size, 1, none⟩ = some (.int .i64 v1)) /\ (W1.cell? ⟨w.heap.size, 2, none⟩ = some (.int .i8 v2)) /\ (W1.cell? ⟨w.heap.size, 3, none⟩ = some (.int .i64 v3)) /\ (w.heap.size < W1.heap.size) := by
 obtain ⟨W1, hW1⟩ : ∃ W1, W1 = w.alloc (.cells #[.int .i8 v0, .int .i64 v1, .int .i8 v2, .int .i64 v3] 45) := ⟨_, rfl⟩
 refine ⟨W1, hW1, (by rw [hW1]; exact (Dn.refl _).alloc _), ?_, ?_, ?_, ?_, ?_⟩ <;> rw [hW1] <;> first | (simp [go_sem]; done) | (simp <;> omega)
theorem rsOf (p : Option Addr) (cap : Nat) (L : List Rq) (E : Int) (R : List Rq) (w : World) (hE : E = ofE L) (hRR : R = if E = 0 then joinedL (srt L) else []) (hl : L.length <= 100000) (hI : I6 L) (hR : Row w p L) :
   Calls Tryz.prog 10 #[.slice p L.length cap] w fun ro w' => ∃ p', ro = .returned (.tuple #[.slice p' R.length R.length, .int .i64 E]) /\ Row w' p' R /\ Dn w w' := by
 have HI := Lib.hid hI
 clear hI
 by_cases h4 : 4096 < L.length
 · have d0 : decide ((L.length : Int) > 4096) = true := by simp; omega
   obtain rfl : E = 3 := by rw [hE]; unfold ofE; rw [if_pos h4]
   obtain rfl : R = [] := by rw [hRR, if_neg (by decide)]
   clear hE hRR; go_enter Tryz.func10, Tryz.ntmps10; go_wp2_with fail; go_ret2; exact ⟨none, rfl, rownil _, Dn.refl _⟩
 have d0 : decide ((L.length : Int) > 4096) = false := by simp; omega
 have HE : Hid (E = errL (L.drop 0)) := Lib.hid (by rw [hE]; unfold ofE; rw [if_neg h4]; rfl)
 have HRR := Lib.hid hRR
 clear hE hRR
 go_enter Tryz.func10, Tryz.ntmps10
 go_wp2_with fail
 go_loopw [2, 3, 12] (fun r1 r2 i wr => r1 = .slice none 0 0 /\ r2 = .int .i64 0 /\ ∃ k : Nat, k <= L.length /\ i = .int .i64 k /\ errL (L.drop 0) = errL (L.drop k) /\ Dn w wr) (fun _ _ i _ => L.length - (intOf i).toNat)
 case atStart => exact ⟨rfl, rfl, 0, by omega, rfl, rfl, Dn.refl _⟩
 case round =>
   obtain ⟨rfl, rfl, k, hk, rfl, he, hu⟩ := hrel; have HF := Lib.hid he; clear he
   by_cases hlt : k < L.length
   · have d1 : decide ((k : Int) < L.length) = true := by simp; omega
     obtain ⟨x, hx⟩ : ∃ x, L[k]? = some x := ⟨L[k], by simp [hlt]⟩; obtain ⟨g, o, rfl, hc⟩ := hR.cs (by omega); have HX := Lib.hid hx; have hA : Hid (ChkIs x.a x.b x.c x.d (rnErr x.a x.b x.c x.d)) := Lib.hid (rnChk x.a x.b x.c x.d); obtain ⟨a0, a1, a2, a3⟩ := (hc.dn hu).el _ _ hx; clear hx hc hR
     by_cases hb : rnErr x.a x.b x.c x.d = 0
     · have HB := Lib.hid hb
       rw [hb] at hA; clear hb; go_wp2_with fail; clear a0 a1 a2 a3; obtain ⟨W1, hW1, uW1, c2, c3, c4, c5, l6⟩ := preKn74x1 wr x.a x.b x.c x.d; rw [<- hW1]; clear hW1; have vW1 := hu.trans uW1; clear uW1 hu; refine (hA.out _).mono ?_; rintro e w1 ⟨rfl, qw1⟩; have l7 := nlt l6 qw1.size; obtain ⟨c8, c9, c10, c11⟩ := mv4 qw1.cell c2 c3 c4 c5; clear l6 c2 c3 c4 c5; have uw1 := vW1.trans qw1; clear qw1 vW1; go_wp2_with fail; go_roundw
       case rel => exact ⟨rfl, rfl, k + 1, by omega, by simp, HF.out.trans (err_ok HX.out HB.out), uw1⟩
       case measure => simp [intOf]; omega
     · have d2 : (rnErr x.a x.b x.c x.d != 0) = true := by simpa using hb
       obtain rfl : E = rnErr x.a x.b x.c x.d := HE.out.trans (HF.out.trans (err_bad HX.out hb))
       obtain rfl : R = [] := by rw [HRR.out, if_neg hb]
       clear hb; go_wp2_with fail; clear a0 a1 a2 a3; obtain ⟨W1, hW1, uW1, c2, c3, c4, c5, l6⟩ := preKn74x1 wr x.a x.b x.c x.d; rw [<- hW1]; clear hW1; have vW1 := hu.trans uW1; clear uW1 hu; refine (hA.out _).mono ?_; rintro e w1 ⟨rfl, qw1⟩; have l7 := nlt l6 qw1.size; obtain ⟨c8, c9, c10, c11⟩ := mv4 qw1.cell c2 c3 c4 c5; clear l6 c2 c3 c4 c5; have uw1 := vW1.trans qw1; clear qw1 vW1; go_wp2_with fail; go_ret2; exact ⟨none, rfl, rownil _, uw1⟩
   · obtain rfl : k = L.length := by omega
     have d1 : decide ((L.length : Int) < L.length) = false := (by simp); have hend := Lib.hid (HF.out.trans err_end); obtain rfl : E = 0 := HE.out.trans hend.out
     obtain rfl : R = joinedL (srt L) := by rw [HRR.out, if_pos rfl]
     clear HE HRR; have HV := Lib.hid (fun W (h : Dn w W) => slValues p cap L W (hR.dn h)); have HS := Lib.hid (fun B W (h : Dn w W) hB => slSortedFunc B p cap L W hl hB (hR.dn h)); have HJ := Lib.hid (fun W p' c' (hr : Row W p' (srt L)) => rsJoined p' c' (srt L) W (by rw [srt_len]; omega) (fun x hx => HI.out x ((srt_mem L x).1 hx)) hr); clear hR; generalize hSL : srt L = SL at *; have hSL' := Lib.hid hSL; clear hSL; go_wp2_with fail; refine (HV.out _ hu).mono ?_; rintro e w1 ⟨B, rfl, hB, q1⟩; have u1 := hu.trans q1; have HB := Lib.hid hB; clear hB q1; go_wp2_with fail; refine (HS.out B _ u1 HB.out).mono ?_; rintro e w2 ⟨p2, c2, rfl, hr2, q2⟩; have HR2 := Lib.hid hr2; have u2 := u1.trans q2; clear hr2 q2; go_wp2_with fail; refine (HJ.out _ p2 c2 HR2.out).mono ?_; rintro e w3 ⟨p3, rfl, hr3, q3⟩; have HR3 := Lib.hid hr3; clear hr3; go_wp2_with fail; go_ret2
     cases hSL'.out
     exact ⟨p3, rfl, HR3.out, u2.trans q3⟩
set_option maxHeartbeats 4000000
set_option maxRecDepth 100000
def ImB (a b : Bool) : Prop := a = true -> b = true
def ImV (a : Bool) (x v : Value) : Prop := a = true -> x = v
def ImF (s : Bool) (p : Prop) : Prop := s = false -> p
def ImT (s : Bool) (p : Prop) : Prop := s = true -> p
def NV (w : World) (x : Value) (z : Int) : Prop := ∃ (b : Bool) (p : Option Addr) (m c : Nat), x = .agg #[.bool b, .slice p m c] /\ IsN w x z
theorem NV.dn {w w' : World} {x : Value} {z : Int} (h : NV w x z) (k : Dn w w') : NV w' x z := by
 obtain ⟨b, p, m, c, e, h⟩ := h
 exact ⟨b, p, m, c, e, h.dn k⟩
def ImN (a s : Bool) (w : World) (x : Value) (z : Int) : Prop := a = true -> s = false -> NV w x z
theorem ImN.dn {a s : Bool} {w w' : World} {x : Value} {z : Int} (h : ImN a s w x z) (k : Dn w w') : ImN a s w' x z := fun h1 h2 => (h h1 h2).dn k
def SmB (w : World) (B : Nat) (z : Int) : Prop := ∃ (b : Bool) (p : Option Addr) (m c : Nat), NBlk w B b (.slice p m c) /\ IsN w (.agg #[.bool b, .slice p m c]) z
theorem SmB.dn {w w' : World} {B : Nat} {z : Int} (h : SmB w B z) (k : Dn w w') : SmB w' B z := by
 obtain ⟨b, p, m, c, h1, h2⟩ := h
 exact ⟨b, p, m, c, h1.dn k, h2.dn k⟩
theorem SmB.drewN {w : World} {B : Nat} {z : Int} (h : SmB w B z) (n : Nat) : SmB (w.drewN n) B z := h.dn ((Dn.refl _).drewN n)
theorem SlD.farB {w : World} {s : Value} {l : List Int} (h : SlD w s l) {B k : Nat} {b : Bool} (hB : w.cell? ⟨B, 0, none⟩ = some (.bool b)) (u : Value) : SlD (w.setCell ⟨B, k, none⟩ u) s l := by
 obtain ⟨p, cap, h1, h2, h3, h4⟩ := h
 refine ⟨p, cap, h1, h2, h3, fun j x hx => ?_⟩
 obtain ⟨g, hg, hc⟩ := h4 j x hx
 refine ⟨g, hg, ?_⟩
 have hlt : 0 < l.length := by have := (List.getElem?_eq_some_iff.1 hx).1; omega
 obtain ⟨g', hg', hc'⟩ := h4 0 l[0] (by simp [hlt])
 have hgg : g' = g := by rw [hg] at hg'; cases hg'; rfl
 subst hgg
 have hne : g' ≠ B := by
  intro e; subst e; rw [hB] at hc'; cases hc'
 rw [World.cell?_setCell_other _ _ _ _ (fun e => hne (by cases e; rfl))]
 exact hc
theorem IsN.farB {w : World} {v : Value} {x : Int} (h : IsN w v x) {B k : Nat} {b : Bool} (hB : w.cell? ⟨B, 0, none⟩ = some (.bool b)) (u : Value) : IsN (w.setCell ⟨B, k, none⟩ u) v x := by
 obtain ⟨s, h1, h2⟩ := h
 exact ⟨s, h1, h2.farB hB u⟩
theorem SmB.fill {w : World} {B : Nat} {z z' : Int} {b : Bool} {p : Option Addr} {m c : Nat} (h : SmB w B z) (hv : IsN w (.agg #[.bool b, .slice p m c]) z') :
  SmB ((w.setCell ⟨B, 0, none⟩ (.bool b)).setCell ⟨B, 1, none⟩ (.slice p m c)) B z' := by
 obtain ⟨b0, p0, m0, c0, h1, _⟩ := h
 have k1 := h1.set0 b
 exact ⟨b, p, m, c, k1.set1 _, (hv.farB h1.c0 _).farB k1.c0 _⟩
theorem sum_take : ∀ {L : List Rq} {k : Nat} {x : Rq}, L[k]? = some x -> sumL (L.take (k + 1)) = sumL (L.take k) + (1 + (x.d + -x.b))
 | [], k, x, h => by simp at h
 | y :: t, 0, x, h => by simp at h; subst h; simp [sumL]; omega
 | y :: t, k + 1, x, h => by
   have ih := sum_take (L := t) (k := k) (x := x) (by simpa using h); simp only [List.take_succ_cons, sumL, ih]; omega
theorem sum_bound : ∀ {L : List Rq} (k : Nat), I6 L -> (sumL (L.take k)).natAbs <= 36893488147419103232 * k
 | [], k, _ => by simp [sumL]
 | y :: t, 0, _ => by simp [sumL]
 | y :: t, k + 1, h => by
   have ih := sum_bound (L := t) k (fun x hx => h x (List.mem_cons_of_mem _ hx)); have hy := h y (List.mem_cons_self ..); have i1 := hy.1.1; have i2 := hy.1.2; have i3 := hy.2.1; have i4 := hy.2.2; simp only [List.take_succ_cons, sumL]; omega
theorem inf_at {L : List Rq} {k : Nat} {x : Rq} (h : L[k]? = some x) (hb : infB x = true) : L.any infB = true := List.any_eq_true.2 ⟨x, List.mem_of_getElem? h, hb⟩
theorem inf_no {L : List Rq} {k : Nat} {x : Rq} (h : L[k]? = some x) (hb : L.any infB = false) : x.a = 0 /\ x.c = 0 := by
 rw [List.any_eq_false] at hb
 have := hb x (List.mem_of_getElem? h)
 unfold infB at this
 simp at this
 exact this
theorem cnt_ref {L : List Rq} (hI : I6 L) (h0 : chkL L = 0) (ha : L.any infB = false) : cntL L = if I64 (sumL L) then (sumL L, 0) else (0, 15) := by
 have hok := Sep.all (chk_ok hI h0)
 unfold cntL
 rw [if_neg (by simpa using h0), if_neg (by rw [ha]; simp)]
 rw [cnt_law (fun x hx => ?_) (by omega) (by decide)]
 · simp
 · obtain ⟨k, hk⟩ := List.mem_iff_getElem?.1 hx
   obtain ⟨e1, e2⟩ := inf_no hk ha; have h3 := (hok x hx).2.2; have h4 := h3.2.2.2.2; unfold key at h4; omega
structure JSum (w wr w' : World) (B g o k len cap : Nat) (z : Int) (x : Rq) (V : Value) (b0 b1 b2 b3 b4 b5 b6 b7 b8 b9 b10 b11 b12 b13 b14 b15 b16 b17 b18 b19 b20 : Bool) (x43 x44 x45 x46 x47 x48 x49 x50 x51 x52 x53 x54 x55 x56 x57 x58 x59 x60 x61 x62 : Value) : Prop where
 q : ImF b20 (Dn wr w')
 fin : ImT b20 (SmB w' B (z + (1 + (x.d + -x.b))) /\ Dn w w')
 e0 : ImB b19 b0
 e1 : ImB b18 b1
 e2 : ImB b4 b2
 e3 : ImB b4 b3
 e4 : ImB b5 b4
 e5 : ImB b6 b5
 e6 : ImB b7 b6
 e7 : ImB b8 b7
 e8 : ImB b17 b8
 e9 : ImB b11 b9
 e10 : ImB b11 b10
 e11 : ImB b12 b11
 e12 : ImB b13 b12
 e13 : ImB b14 b13
 e14 : ImB b15 b14
 e15 : ImB b16 b15
 e16 : ImB b17 b16
 e17 : ImB b18 b17
 e18 : ImB b19 b18
 e19 : ImB b20 b19
 v0 : ImV b0 x43 (V)
 v2 : ImV b2 x45 (.slice (some ⟨g, o, none⟩) len cap)
 v3 : ImV b3 x46 (.int .i64 k)
 v4 : ImV b4 x47 (.pointer (some ⟨g, o + k * 4, none⟩))
 v5 : ImV b5 x48 (.pointer (some ⟨g, o + k * 4 + 2, none⟩))
 v6 : ImV b6 x49 (.pointer (some ⟨g, o + k * 4 + 3, none⟩))
 v7 : ImV b7 x50 (.int .i64 x.d)
 v9 : ImV b9 x52 (.slice (some ⟨g, o, none⟩) len cap)
 v10 : ImV b10 x53 (.int .i64 k)
 v11 : ImV b11 x54 (.pointer (some ⟨g, o + k * 4, none⟩))
 v12 : ImV b12 x55 (.pointer (some ⟨g, o + k * 4, none⟩))
 v13 : ImV b13 x56 (.pointer (some ⟨g, o + k * 4 + 1, none⟩))
 v14 : ImV b14 x57 (.int .i64 x.b)
 n1 : ImN b1 b20 w' x44 (1)
 n8 : ImN b8 b20 w' x51 (x.d)
 n15 : ImN b15 b20 w' x58 (x.b)
 n16 : ImN b16 b20 w' x59 (-x.b)
 n17 : ImN b17 b20 w' x60 (x.d + -x.b)
 n18 : ImN b18 b20 w' x61 (1 + (x.d + -x.b))
 n19 : ImN b19 b20 w' x62 (z + (1 + (x.d + -x.b)))
theorem no_next {L : List Rq} {k : Nat} {x : Rq} (h : L[k]? = some x) (h1 : ∀ y ∈ L.take k, infB y = false) (h2 : infB x = false) : ∀ y ∈ L.take (k + 1), infB y = false := by
 obtain ⟨hk, rfl⟩ := List.getElem?_eq_some_iff.1 h
 intro y hy
 rw [List.take_add_one, List.getElem?_eq_getElem hk] at hy
 rcases List.mem_append.1 hy with hy | hy
 · exact h1 y hy
 · simp at hy; subst hy; exact h2
theorem rfCount (p : Option Addr) (cap : Nat) (L : List Rq) (n E : Int) (w : World) (hn : n = (cntL L).1) (hE : E = (cntL L).2) (hl : L.length <= 100000) (hI : I6 L) (hR : Row w p L) :
    Calls Tryz.prog 20 #[.slice p L.length cap] w fun ro w' => ro = .returned (.tuple #[.int .i64 n, .int .i64 E]) /\ Dn w w' := by
  have HB := Lib.hid (fun W (h : Dn w W) => rfCheck p cap L W (by omega) hI (hR.dn h))
  by_cases hc : chkL L = 0
  rotate_left
  · have d0 : (chkL L != 0) = true := by simpa using hc
    obtain ⟨rfl, rfl⟩ : n = 0 /\ E = chkL L := by unfold cntL at hn hE; rw [if_pos hc] at hn hE; exact ⟨hn, hE⟩
    clear hn hE hc hR hI; generalize chkL L = c at *; go_enter Tryz.func20, Tryz.ntmps20; go_wp2_with fail; refine (HB.out _ (Dn.refl _)).mono ?_; rintro e w1 ⟨rfl, qw1⟩; have uw1 := qw1; clear qw1; go_wp2_with fail; refine (HB.out _ uw1).mono ?_; rintro e w2 ⟨rfl, qw2⟩; have uw2 := uw1.trans qw2; clear qw2 uw1; go_wp2_with fail; go_ret2; exact ⟨rfl, uw2⟩
  rw [hc] at HB; have HOf := Lib.hid (fun n W (h : I64 n) => rOf_b n W h)
  have hlaw : L.any infB = false -> cntL L = if I64 (sumL L) then (sumL L, 0) else (0, 15) := fun ha => cnt_ref hI hc ha
  have hbad : L.any infB = true -> cntL L = (0, 16) := fun ha => by unfold cntL; rw [if_neg (by simpa using hc), if_pos ha]
  have HLAW := Lib.hid hlaw; have HBAD := Lib.hid hbad; have HI := Lib.hid hI; have HN := Lib.hid hn; have HE := Lib.hid hE; clear hn hE hc hI hlaw hbad; go_enter Tryz.func20, Tryz.ntmps20; go_wp2_with fail; refine (HB.out _ (Dn.refl _)).mono ?_; rintro e w1 ⟨rfl, qw1⟩; have uw1 := qw1; clear qw1; go_wp2_with fail; refine (HOf.out 0 _ (by decide)).mono ?_; rintro e w1 ⟨b0, p0, m0, c0, rfl, hN0, q1⟩; have u1 := uw1.trans q1; have HN0 := Lib.hid hN0; clear q1 hN0; go_wp2_with fail; obtain ⟨W1, hW1⟩ : ∃ W1, W1 = w1.alloc (.cells #[.bool b0, .slice p0 m0 c0] 88) := ⟨_, rfl⟩
  have u2 : Dn w W1 := by rw [hW1]; exact u1.alloc _
  have hnb : SmB W1 w1.heap.size 0 := ⟨b0, p0, m0, c0, by rw [hW1]; exact NBlk.new _ _ _ _, by rw [hW1]; exact HN0.out.dn ((Dn.refl _).alloc _)⟩; have hBB : w.heap.size <= w1.heap.size := u1.size; rw [<- hW1]; generalize w1.heap.size = B at *; have HNB := Lib.hid hnb; have HBB := Lib.hid hBB; clear hW1 hnb hBB HN0 u1; go_loopw [2, 3, 5] (fun r1 r2 iv wr => r1 = .int .i64 0 /\ r2 = .int .i64 0 /\ ∃ k : Nat, k <= L.length /\ iv = .int .i64 k /\ (∀ x ∈ L.take k, infB x = false) /\ SmB wr B 0 /\ Dn w wr) (fun _ _ iv _ => L.length - (intOf iv).toNat)
  case atStart => exact ⟨rfl, rfl, 0, by omega, rfl, by simp, HNB.out, u2⟩
  case round =>
    obtain ⟨rfl, rfl, k, hk, rfl, hno, hnb, hu⟩ := hrel; have HNO := Lib.hid hno; have HNB2 := Lib.hid hnb; clear hno hnb
    by_cases hlt : k < L.length
    · have d1 : decide ((k : Int) < L.length) = true := by simp; omega
      obtain ⟨x, hx⟩ : ∃ x, L[k]? = some x := ⟨L[k], by simp [hlt]⟩; obtain ⟨g, o, rfl, hc⟩ := hR.cs (by omega); obtain ⟨a0, a1, a2, a3⟩ := (hc.dn hu).el _ _ hx; have HX := Lib.hid hx; clear hx hc hR
      by_cases hxa : x.a = 0
      · by_cases hxc : x.c = 0
        · have hnx : infB x = false := by unfold infB; simp [hxa, hxc]
          have HNX := Lib.hid hnx; have e1 : (x.a != 0) = false := (by simpa using hxa); have e2 : (x.c != 0) = false := (by simpa using hxc); clear hxa hxc hnx; go_wp2_with fail
          all_goals (go_roundw
                     case rel => exact ⟨rfl, rfl, k + 1, by omega, by simp, no_next HX.out HNO.out HNX.out, by first | exact HNB2.out | exact HNB2.out.drewN _, by first | exact hu | exact hu.drewN _⟩
                     case measure => simp [intOf]; omega)
        · have hbd := HBAD.out (inf_at HX.out (by unfold infB; simp [hxc]))
          obtain ⟨rfl, rfl⟩ : n = 0 /\ E = 16 := by rw [HN.out, HE.out, hbd]; exact ⟨rfl, rfl⟩
          have e1 : (x.a != 0) = false := (by simpa using hxa); have e2 : (x.c != 0) = true := (by simpa using hxc); clear hxa hxc hbd; go_wp2_with fail
          all_goals (go_ret2; exact ⟨rfl, by first | exact hu | exact hu.drewN _⟩)
      · have hbd := HBAD.out (inf_at HX.out (by unfold infB; simp [hxa]))
        obtain ⟨rfl, rfl⟩ : n = 0 /\ E = 16 := by rw [HN.out, HE.out, hbd]; exact ⟨rfl, rfl⟩
        have e1 : (x.a != 0) = true := (by simpa using hxa); clear hxa hbd; go_wp2_with fail
        all_goals (go_ret2; exact ⟨rfl, by first | exact hu | exact hu.drewN _⟩)
    · obtain rfl : k = L.length := by omega
      have d1 : decide ((L.length : Int) < L.length) = false := (by simp)
      have hany : L.any infB = false := by
        rw [List.any_eq_false]; intro x hx; simpa using HNO.out x (by simpa using hx)
      have hlw := HLAW.out hany; have HAN := Lib.hid hany; have HLW := Lib.hid hlw; clear hany hlw HBAD HLAW HNO; have u3 := hu; clear hu; go_wp2_with fail; go_loopw [6] (fun iv wr => ∃ (k : Nat), k <= L.length /\ iv = .int .i64 k /\ SmB wr B (sumL (L.take k)) /\ Dn w wr) (fun iv _ => L.length - (intOf iv).toNat)
      case atStart => exact ⟨0, by omega, rfl, HNB2.out, u3⟩
      case round =>
        obtain ⟨k, hk, rfl, hnb, hu⟩ := hrel; obtain ⟨bs, ps, ms, cs, hs, hz⟩ := hnb
        by_cases hlt : k < L.length
        · have d1 : decide ((k : Int) < L.length) = true := by simp; omega
          obtain ⟨x, hx⟩ : ∃ x, L[k]? = some x := ⟨L[k], by simp [hlt]⟩; obtain ⟨g, o, rfl, hc⟩ := hR.cs (by omega); obtain ⟨a0, a1, a2, a3⟩ := (hc.dn hu).el _ _ hx; have hst := sum_take hx; have HX6 := Lib.hid (HI.out x (List.mem_of_getElem? hx)); have hb := sum_bound k HI.out; have HST := Lib.hid hst
          have HL : Hid (Len x.d /\ Len (-x.b) /\ Len 1 /\ Len (x.d + -x.b) /\ Len (sumL (L.take k)) /\ Len (1 + (x.d + -x.b))) := Lib.hid (by
            have i1 := HX6.out.1.1; have i2 := HX6.out.1.2; have i3 := HX6.out.2.1; have i4 := HX6.out.2.2
            exact ⟨Len.of (by omega), Len.of (by omega), Len.of (by omega), Len.of (by omega), Len.of (by omega), Len.of (by omega)⟩)
          clear hx hc hR hst hb HAN HLW; generalize sumL (L.take k) = z at *; go_upto_region 12 with fail; refine region_inv (fun A l a' w' => ∃ (b0 b1 b2 b3 b4 b5 b6 b7 b8 b9 b10 b11 b12 b13 b14 b15 b16 b17 b18 b19 b20 : Bool) (x43 x44 x45 x46 x47 x48 x49 x50 x51 x52 x53 x54 x55 x56 x57 x58 x59 x60 x61 x62 : Value), l = #[b0, b1, b2, b3, b4, b5, b6, b7, b8, b9, b10, b11, b12, b13, b14, b15, b16, b17, b18, b19, b20] /\ a' = ((((((((((((((((((((A.put (some 43) x43).put (some 44) x44).put (some 45) x45).put (some 46) x46).put (some 47) x47).put (some 48) x48).put (some 49) x49).put (some 50) x50).put (some 51) x51).put (some 52) x52).put (some 53) x53).put (some 54) x54).put (some 55) x55).put (some 56) x56).put (some 57) x57).put (some 58) x58).put (some 59) x59).put (some 60) x60).put (some 61) x61).put (some 62) x62) /\ JSum w wr w' B g o k L.length cap z x (.agg #[.bool bs, .slice ps ms cs]) b0 b1 b2 b3 b4 b5 b6 b7 b8 b9 b10 b11 b12 b13 b14 b15 b16 b17 b18 b19 b20 x43 x44 x45 x46 x47 x48 x49 x50 x51 x52 x53 x54 x55 x56 x57 x58 x59 x60 x61 x62) (by kernel_rfl) ?_ ?_ ?_
          · exact ⟨false, false, false, false, false, false, false, false, false, false, false, false, false, false, false, false, false, false, false, false, false, u43, u44, u45, u46, u47, u48, u49, u50, u51, u52, u53, u54, u55, u56, u57, u58, u59, u60, u61, u62, rfl, by first | (simp only [Act.put, pL]; done) | rfl, ⟨(fun _ => (Dn.refl _).drew), (fun h => by cases h), (fun h => by cases h), (fun h => by cases h), (fun h => by cases h), (fun h => by cases h), (fun h => by cases h), (fun h => by cases h), (fun h => by cases h), (fun h => by cases h), (fun h => by cases h), (fun h => by cases h), (fun h => by cases h), (fun h => by cases h), (fun h => by cases h), (fun h => by cases h), (fun h => by cases h), (fun h => by cases h), (fun h => by cases h), (fun h => by cases h), (fun h => by cases h), (fun h => by cases h), (fun h => by cases h), (fun h => by cases h), (fun h => by cases h), (fun h => by cases h), (fun h => by cases h), (fun h => by cases h), (fun h => by cases h), (fun h => by cases h), (fun h => by cases h), (fun h => by cases h), (fun h => by cases h), (fun h => by cases h), (fun h => by cases h), (fun h => by cases h), (fun h => by cases h), (fun h => by cases h), (fun h => by cases h), (fun h => by cases h), (fun h => by cases h), (fun h => by cases h)⟩⟩
          · rintro l a' w' i ⟨b0, b1, b2, b3, b4, b5, b6, b7, b8, b9, b10, b11, b12, b13, b14, b15, b16, b17, b18, b19, b20, x43, x44, x45, x46, x47, x48, x49, x50, x51, x52, x53, x54, x55, x56, x57, x58, x59, x60, x61, x62, rfl, rfl, hJ⟩ hun hdep hi
            simp only [Act.put, pL]; have hi' : i < 21 := hi; rcases (show i = 0 \/ i = 1 \/ i = 2 \/ i = 3 \/ i = 4 \/ i = 5 \/ i = 6 \/ i = 7 \/ i = 8 \/ i = 9 \/ i = 10 \/ i = 11 \/ i = 12 \/ i = 13 \/ i = 14 \/ i = 15 \/ i = 16 \/ i = 17 \/ i = 18 \/ i = 19 \/ i = 20 by omega) with rfl | rfl | rfl | rfl | rfl | rfl | rfl | rfl | rfl | rfl | rfl | rfl | rfl | rfl | rfl | rfl | rfl | rfl | rfl | rfl | rfl
            ·
              have f0 : b0 = false := (by simpa using hun); subst f0; obtain rfl : b20 = false := (by cases b20 with | false => rfl | true => exact absurd (hJ.e0 (hJ.e19 rfl)) (by simp)); have q := hJ.q rfl; have g0 := q.cell hs.c0; have g1 := q.cell hs.c1; refine wpOp_step rfl (fun K hK => ?_); replace hK := Lib.hid hK; go_simp; exact hK.out _ _ ⟨true, b1, b2, b3, b4, b5, b6, b7, b8, b9, b10, b11, b12, b13, b14, b15, b16, b17, b18, b19, false, .agg #[.bool bs, .slice ps ms cs], x44, x45, x46, x47, x48, x49, x50, x51, x52, x53, x54, x55, x56, x57, x58, x59, x60, x61, x62, rfl, by first | (simp only [Act.put, pL]; done) | rfl, ⟨fun _ => q, (fun h => by cases h), fun _ => rfl, hJ.e1, hJ.e2, hJ.e3, hJ.e4, hJ.e5, hJ.e6, hJ.e7, hJ.e8, hJ.e9, hJ.e10, hJ.e11, hJ.e12, hJ.e13, hJ.e14, hJ.e15, hJ.e16, hJ.e17, hJ.e18, hJ.e19, fun _ => rfl, hJ.v2, hJ.v3, hJ.v4, hJ.v5, hJ.v6, hJ.v7, hJ.v9, hJ.v10, hJ.v11, hJ.v12, hJ.v13, hJ.v14, hJ.n1, hJ.n8, hJ.n15, hJ.n16, hJ.n17, hJ.n18, hJ.n19⟩⟩
            ·
              have f1 : b1 = false := (by simpa using hun); subst f1; obtain rfl : b20 = false := (by cases b20 with | false => rfl | true => exact absurd (hJ.e1 (hJ.e18 (hJ.e19 rfl))) (by simp)); have q := hJ.q rfl; refine wpOp_step rfl (fun K hK => ?_); replace hK := Lib.hid hK; go_simp; go_at_call 58; refine (rOf_b 1 _ (by decide)).mono ?_; rintro e wa ⟨b_1, p_1, m_1, c_1, rfl, n1, qa⟩
              try go_wp2_with fail
              exact hK.out _ _ ⟨b0, true, b2, b3, b4, b5, b6, b7, b8, b9, b10, b11, b12, b13, b14, b15, b16, b17, b18, b19, false, x43, .agg #[.bool b_1, .slice p_1 m_1 c_1], x45, x46, x47, x48, x49, x50, x51, x52, x53, x54, x55, x56, x57, x58, x59, x60, x61, x62, rfl, by first | (simp only [Act.put, pL]; done) | rfl, ⟨fun _ => q.trans qa, (fun h => by cases h), hJ.e0, fun _ => rfl, hJ.e2, hJ.e3, hJ.e4, hJ.e5, hJ.e6, hJ.e7, hJ.e8, hJ.e9, hJ.e10, hJ.e11, hJ.e12, hJ.e13, hJ.e14, hJ.e15, hJ.e16, hJ.e17, hJ.e18, hJ.e19, hJ.v0, hJ.v2, hJ.v3, hJ.v4, hJ.v5, hJ.v6, hJ.v7, hJ.v9, hJ.v10, hJ.v11, hJ.v12, hJ.v13, hJ.v14, fun _ _ => ⟨b_1, p_1, m_1, c_1, rfl, n1⟩, hJ.n8.dn qa, hJ.n15.dn qa, hJ.n16.dn qa, hJ.n17.dn qa, hJ.n18.dn qa, hJ.n19.dn qa⟩⟩
            ·
              have f2 : b2 = false := (by simpa using hun); subst f2; obtain rfl : b20 = false := (by cases b20 with | false => rfl | true => exact absurd (hJ.e2 (hJ.e4 (hJ.e5 (hJ.e6 (hJ.e7 (hJ.e8 (hJ.e17 (hJ.e18 (hJ.e19 rfl))))))))) (by simp)); have q := hJ.q rfl; refine wpOp_step rfl (fun K hK => ?_); replace hK := Lib.hid hK; go_simp; exact hK.out _ _ ⟨b0, b1, true, b3, b4, b5, b6, b7, b8, b9, b10, b11, b12, b13, b14, b15, b16, b17, b18, b19, false, x43, x44, .slice (some ⟨g, o, none⟩) L.length cap, x46, x47, x48, x49, x50, x51, x52, x53, x54, x55, x56, x57, x58, x59, x60, x61, x62, rfl, by first | (simp only [Act.put, pL]; done) | rfl, ⟨fun _ => q, (fun h => by cases h), hJ.e0, hJ.e1, fun _ => rfl, hJ.e3, hJ.e4, hJ.e5, hJ.e6, hJ.e7, hJ.e8, hJ.e9, hJ.e10, hJ.e11, hJ.e12, hJ.e13, hJ.e14, hJ.e15, hJ.e16, hJ.e17, hJ.e18, hJ.e19, hJ.v0, fun _ => rfl, hJ.v3, hJ.v4, hJ.v5, hJ.v6, hJ.v7, hJ.v9, hJ.v10, hJ.v11, hJ.v12, hJ.v13, hJ.v14, hJ.n1, hJ.n8, hJ.n15, hJ.n16, hJ.n17, hJ.n18, hJ.n19⟩⟩
            ·
              have f3 : b3 = false := (by simpa using hun); subst f3; obtain rfl : b20 = false := (by cases b20 with | false => rfl | true => exact absurd (hJ.e3 (hJ.e4 (hJ.e5 (hJ.e6 (hJ.e7 (hJ.e8 (hJ.e17 (hJ.e18 (hJ.e19 rfl))))))))) (by simp)); have q := hJ.q rfl; refine wpOp_step rfl (fun K hK => ?_); replace hK := Lib.hid hK; go_simp; exact hK.out _ _ ⟨b0, b1, b2, true, b4, b5, b6, b7, b8, b9, b10, b11, b12, b13, b14, b15, b16, b17, b18, b19, false, x43, x44, x45, .int .i64 k, x47, x48, x49, x50, x51, x52, x53, x54, x55, x56, x57, x58, x59, x60, x61, x62, rfl, by first | (simp only [Act.put, pL]; done) | rfl, ⟨fun _ => q, (fun h => by cases h), hJ.e0, hJ.e1, hJ.e2, fun _ => rfl, hJ.e4, hJ.e5, hJ.e6, hJ.e7, hJ.e8, hJ.e9, hJ.e10, hJ.e11, hJ.e12, hJ.e13, hJ.e14, hJ.e15, hJ.e16, hJ.e17, hJ.e18, hJ.e19, hJ.v0, hJ.v2, fun _ => rfl, hJ.v4, hJ.v5, hJ.v6, hJ.v7, hJ.v9, hJ.v10, hJ.v11, hJ.v12, hJ.v13, hJ.v14, hJ.n1, hJ.n8, hJ.n15, hJ.n16, hJ.n17, hJ.n18, hJ.n19⟩⟩
            ·
              have e2 : b2 = true := hdep _ rfl ⟨2, .data⟩ (by simp) rfl; have e3 : b3 = true := hdep _ rfl ⟨3, .data⟩ (by simp) rfl; have f4 : b4 = false := (by simpa using hun); subst f4 e2 e3; obtain rfl : b20 = false := (by cases b20 with | false => rfl | true => exact absurd (hJ.e4 (hJ.e5 (hJ.e6 (hJ.e7 (hJ.e8 (hJ.e17 (hJ.e18 (hJ.e19 rfl)))))))) (by simp)); have q := hJ.q rfl; obtain rfl := hJ.v2 rfl; obtain rfl := hJ.v3 rfl; refine wpOp_step rfl (fun K hK => ?_); replace hK := Lib.hid hK; go_simp; exact hK.out _ _ ⟨b0, b1, true, true, true, b5, b6, b7, b8, b9, b10, b11, b12, b13, b14, b15, b16, b17, b18, b19, false, x43, x44, .slice (some ⟨g, o, none⟩) L.length cap, .int .i64 k, .pointer (some ⟨g, o + k * 4, none⟩), x48, x49, x50, x51, x52, x53, x54, x55, x56, x57, x58, x59, x60, x61, x62, rfl, by first | (simp only [Act.put, pL]; done) | rfl, ⟨fun _ => q, (fun h => by cases h), hJ.e0, hJ.e1, fun _ => rfl, fun _ => rfl, fun _ => rfl, hJ.e5, hJ.e6, hJ.e7, hJ.e8, hJ.e9, hJ.e10, hJ.e11, hJ.e12, hJ.e13, hJ.e14, hJ.e15, hJ.e16, hJ.e17, hJ.e18, hJ.e19, hJ.v0, fun _ => rfl, fun _ => rfl, fun _ => rfl, hJ.v5, hJ.v6, hJ.v7, hJ.v9, hJ.v10, hJ.v11, hJ.v12, hJ.v13, hJ.v14, hJ.n1, hJ.n8, hJ.n15, hJ.n16, hJ.n17, hJ.n18, hJ.n19⟩⟩
            ·
              have e4 : b4 = true := hdep _ rfl ⟨4, .data⟩ (by simp) rfl; have f5 : b5 = false := (by simpa using hun); subst f5 e4; obtain rfl : b20 = false := (by cases b20 with | false => rfl | true => exact absurd (hJ.e5 (hJ.e6 (hJ.e7 (hJ.e8 (hJ.e17 (hJ.e18 (hJ.e19 rfl))))))) (by simp)); have q := hJ.q rfl; obtain rfl := hJ.v4 rfl; refine wpOp_step rfl (fun K hK => ?_); replace hK := Lib.hid hK; go_simp; exact hK.out _ _ ⟨b0, b1, b2, b3, true, true, b6, b7, b8, b9, b10, b11, b12, b13, b14, b15, b16, b17, b18, b19, false, x43, x44, x45, x46, .pointer (some ⟨g, o + k * 4, none⟩), .pointer (some ⟨g, o + k * 4 + 2, none⟩), x49, x50, x51, x52, x53, x54, x55, x56, x57, x58, x59, x60, x61, x62, rfl, by first | (simp only [Act.put, pL]; done) | rfl, ⟨fun _ => q, (fun h => by cases h), hJ.e0, hJ.e1, hJ.e2, hJ.e3, fun _ => rfl, fun _ => rfl, hJ.e6, hJ.e7, hJ.e8, hJ.e9, hJ.e10, hJ.e11, hJ.e12, hJ.e13, hJ.e14, hJ.e15, hJ.e16, hJ.e17, hJ.e18, hJ.e19, hJ.v0, hJ.v2, hJ.v3, fun _ => rfl, fun _ => rfl, hJ.v6, hJ.v7, hJ.v9, hJ.v10, hJ.v11, hJ.v12, hJ.v13, hJ.v14, hJ.n1, hJ.n8, hJ.n15, hJ.n16, hJ.n17, hJ.n18, hJ.n19⟩⟩
            ·
              have e5 : b5 = true := hdep _ rfl ⟨5, .data⟩ (by simp) rfl; have f6 : b6 = false := (by simpa using hun); subst f6 e5; obtain rfl : b20 = false := (by cases b20 with | false => rfl | true => exact absurd (hJ.e6 (hJ.e7 (hJ.e8 (hJ.e17 (hJ.e18 (hJ.e19 rfl)))))) (by simp)); have q := hJ.q rfl; obtain rfl := hJ.v5 rfl; refine wpOp_step rfl (fun K hK => ?_); replace hK := Lib.hid hK; go_simp; exact hK.out _ _ ⟨b0, b1, b2, b3, b4, true, true, b7, b8, b9, b10, b11, b12, b13, b14, b15, b16, b17, b18, b19, false, x43, x44, x45, x46, x47, .pointer (some ⟨g, o + k * 4 + 2, none⟩), .pointer (some ⟨g, o + k * 4 + 3, none⟩), x50, x51, x52, x53, x54, x55, x56, x57, x58, x59, x60, x61, x62, rfl, by first | (simp only [Act.put, pL]; done) | rfl, ⟨fun _ => q, (fun h => by cases h), hJ.e0, hJ.e1, hJ.e2, hJ.e3, hJ.e4, fun _ => rfl, fun _ => rfl, hJ.e7, hJ.e8, hJ.e9, hJ.e10, hJ.e11, hJ.e12, hJ.e13, hJ.e14, hJ.e15, hJ.e16, hJ.e17, hJ.e18, hJ.e19, hJ.v0, hJ.v2, hJ.v3, hJ.v4, fun _ => rfl, fun _ => rfl, hJ.v7, hJ.v9, hJ.v10, hJ.v11, hJ.v12, hJ.v13, hJ.v14, hJ.n1, hJ.n8, hJ.n15, hJ.n16, hJ.n17, hJ.n18, hJ.n19⟩⟩
            ·
              have e6 : b6 = true := hdep _ rfl ⟨6, .data⟩ (by simp) rfl; have f7 : b7 = false := (by simpa using hun); subst f7 e6; obtain rfl : b20 = false := (by cases b20 with | false => rfl | true => exact absurd (hJ.e7 (hJ.e8 (hJ.e17 (hJ.e18 (hJ.e19 rfl))))) (by simp)); have q := hJ.q rfl; obtain rfl := hJ.v6 rfl; have g0 := q.cell a3; refine wpOp_step rfl (fun K hK => ?_); replace hK := Lib.hid hK; go_simp; exact hK.out _ _ ⟨b0, b1, b2, b3, b4, b5, true, true, b8, b9, b10, b11, b12, b13, b14, b15, b16, b17, b18, b19, false, x43, x44, x45, x46, x47, x48, .pointer (some ⟨g, o + k * 4 + 3, none⟩), .int .i64 x.d, x51, x52, x53, x54, x55, x56, x57, x58, x59, x60, x61, x62, rfl, by first | (simp only [Act.put, pL]; done) | rfl, ⟨fun _ => q, (fun h => by cases h), hJ.e0, hJ.e1, hJ.e2, hJ.e3, hJ.e4, hJ.e5, fun _ => rfl, fun _ => rfl, hJ.e8, hJ.e9, hJ.e10, hJ.e11, hJ.e12, hJ.e13, hJ.e14, hJ.e15, hJ.e16, hJ.e17, hJ.e18, hJ.e19, hJ.v0, hJ.v2, hJ.v3, hJ.v4, hJ.v5, fun _ => rfl, fun _ => rfl, hJ.v9, hJ.v10, hJ.v11, hJ.v12, hJ.v13, hJ.v14, hJ.n1, hJ.n8, hJ.n15, hJ.n16, hJ.n17, hJ.n18, hJ.n19⟩⟩
            ·
              have e7 : b7 = true := hdep _ rfl ⟨7, .data⟩ (by simp) rfl; have f8 : b8 = false := (by simpa using hun); subst f8 e7; obtain rfl : b20 = false := (by cases b20 with | false => rfl | true => exact absurd (hJ.e8 (hJ.e17 (hJ.e18 (hJ.e19 rfl)))) (by simp)); have q := hJ.q rfl; obtain rfl := hJ.v7 rfl; refine wpOp_step rfl (fun K hK => ?_); replace hK := Lib.hid hK; go_simp; go_at_call 58; refine (rOf_b x.d _ HX6.out.2).mono ?_; rintro e wa ⟨b_8, p_8, m_8, c_8, rfl, n8, qa⟩
              try go_wp2_with fail
              exact hK.out _ _ ⟨b0, b1, b2, b3, b4, b5, b6, true, true, b9, b10, b11, b12, b13, b14, b15, b16, b17, b18, b19, false, x43, x44, x45, x46, x47, x48, x49, .int .i64 x.d, .agg #[.bool b_8, .slice p_8 m_8 c_8], x52, x53, x54, x55, x56, x57, x58, x59, x60, x61, x62, rfl, by first | (simp only [Act.put, pL]; done) | rfl, ⟨fun _ => q.trans qa, (fun h => by cases h), hJ.e0, hJ.e1, hJ.e2, hJ.e3, hJ.e4, hJ.e5, hJ.e6, fun _ => rfl, fun _ => rfl, hJ.e9, hJ.e10, hJ.e11, hJ.e12, hJ.e13, hJ.e14, hJ.e15, hJ.e16, hJ.e17, hJ.e18, hJ.e19, hJ.v0, hJ.v2, hJ.v3, hJ.v4, hJ.v5, hJ.v6, fun _ => rfl, hJ.v9, hJ.v10, hJ.v11, hJ.v12, hJ.v13, hJ.v14, hJ.n1.dn qa, fun _ _ => ⟨b_8, p_8, m_8, c_8, rfl, n8⟩, hJ.n15.dn qa, hJ.n16.dn qa, hJ.n17.dn qa, hJ.n18.dn qa, hJ.n19.dn qa⟩⟩
            ·
              have f9 : b9 = false := (by simpa using hun); subst f9; obtain rfl : b20 = false := (by cases b20 with | false => rfl | true => exact absurd (hJ.e9 (hJ.e11 (hJ.e12 (hJ.e13 (hJ.e14 (hJ.e15 (hJ.e16 (hJ.e17 (hJ.e18 (hJ.e19 rfl)))))))))) (by simp)); have q := hJ.q rfl; refine wpOp_step rfl (fun K hK => ?_); replace hK := Lib.hid hK; go_simp; exact hK.out _ _ ⟨b0, b1, b2, b3, b4, b5, b6, b7, b8, true, b10, b11, b12, b13, b14, b15, b16, b17, b18, b19, false, x43, x44, x45, x46, x47, x48, x49, x50, x51, .slice (some ⟨g, o, none⟩) L.length cap, x53, x54, x55, x56, x57, x58, x59, x60, x61, x62, rfl, by first | (simp only [Act.put, pL]; done) | rfl, ⟨fun _ => q, (fun h => by cases h), hJ.e0, hJ.e1, hJ.e2, hJ.e3, hJ.e4, hJ.e5, hJ.e6, hJ.e7, hJ.e8, fun _ => rfl, hJ.e10, hJ.e11, hJ.e12, hJ.e13, hJ.e14, hJ.e15, hJ.e16, hJ.e17, hJ.e18, hJ.e19, hJ.v0, hJ.v2, hJ.v3, hJ.v4, hJ.v5, hJ.v6, hJ.v7, fun _ => rfl, hJ.v10, hJ.v11, hJ.v12, hJ.v13, hJ.v14, hJ.n1, hJ.n8, hJ.n15, hJ.n16, hJ.n17, hJ.n18, hJ.n19⟩⟩
            ·
              have f10 : b10 = false := (by simpa using hun); subst f10; obtain rfl : b20 = false := (by cases b20 with | false => rfl | true => exact absurd (hJ.e10 (hJ.e11 (hJ.e12 (hJ.e13 (hJ.e14 (hJ.e15 (hJ.e16 (hJ.e17 (hJ.e18 (hJ.e19 rfl)))))))))) (by simp)); have q := hJ.q rfl; refine wpOp_step rfl (fun K hK => ?_); replace hK := Lib.hid hK; go_simp; exact hK.out _ _ ⟨b0, b1, b2, b3, b4, b5, b6, b7, b8, b9, true, b11, b12, b13, b14, b15, b16, b17, b18, b19, false, x43, x44, x45, x46, x47, x48, x49, x50, x51, x52, .int .i64 k, x54, x55, x56, x57, x58, x59, x60, x61, x62, rfl, by first | (simp only [Act.put, pL]; done) | rfl, ⟨fun _ => q, (fun h => by cases h), hJ.e0, hJ.e1, hJ.e2, hJ.e3, hJ.e4, hJ.e5, hJ.e6, hJ.e7, hJ.e8, hJ.e9, fun _ => rfl, hJ.e11, hJ.e12, hJ.e13, hJ.e14, hJ.e15, hJ.e16, hJ.e17, hJ.e18, hJ.e19, hJ.v0, hJ.v2, hJ.v3, hJ.v4, hJ.v5, hJ.v6, hJ.v7, hJ.v9, fun _ => rfl, hJ.v11, hJ.v12, hJ.v13, hJ.v14, hJ.n1, hJ.n8, hJ.n15, hJ.n16, hJ.n17, hJ.n18, hJ.n19⟩⟩
            ·
              have e9 : b9 = true := hdep _ rfl ⟨9, .data⟩ (by simp) rfl; have e10 : b10 = true := hdep _ rfl ⟨10, .data⟩ (by simp) rfl; have f11 : b11 = false := (by simpa using hun); subst f11 e9 e10; obtain rfl : b20 = false := (by cases b20 with | false => rfl | true => exact absurd (hJ.e11 (hJ.e12 (hJ.e13 (hJ.e14 (hJ.e15 (hJ.e16 (hJ.e17 (hJ.e18 (hJ.e19 rfl))))))))) (by simp)); have q := hJ.q rfl; obtain rfl := hJ.v9 rfl; obtain rfl := hJ.v10 rfl; refine wpOp_step rfl (fun K hK => ?_); replace hK := Lib.hid hK; go_simp; exact hK.out _ _ ⟨b0, b1, b2, b3, b4, b5, b6, b7, b8, true, true, true, b12, b13, b14, b15, b16, b17, b18, b19, false, x43, x44, x45, x46, x47, x48, x49, x50, x51, .slice (some ⟨g, o, none⟩) L.length cap, .int .i64 k, .pointer (some ⟨g, o + k * 4, none⟩), x55, x56, x57, x58, x59, x60, x61, x62, rfl, by first | (simp only [Act.put, pL]; done) | rfl, ⟨fun _ => q, (fun h => by cases h), hJ.e0, hJ.e1, hJ.e2, hJ.e3, hJ.e4, hJ.e5, hJ.e6, hJ.e7, hJ.e8, fun _ => rfl, fun _ => rfl, fun _ => rfl, hJ.e12, hJ.e13, hJ.e14, hJ.e15, hJ.e16, hJ.e17, hJ.e18, hJ.e19, hJ.v0, hJ.v2, hJ.v3, hJ.v4, hJ.v5, hJ.v6, hJ.v7, fun _ => rfl, fun _ => rfl, fun _ => rfl, hJ.v12, hJ.v13, hJ.v14, hJ.n1, hJ.n8, hJ.n15, hJ.n16, hJ.n17, hJ.n18, hJ.n19⟩⟩
            ·
              have e11 : b11 = true := hdep _ rfl ⟨11, .data⟩ (by simp) rfl; have f12 : b12 = false := (by simpa using hun); subst f12 e11; obtain rfl : b20 = false := (by cases b20 with | false => rfl | true => exact absurd (hJ.e12 (hJ.e13 (hJ.e14 (hJ.e15 (hJ.e16 (hJ.e17 (hJ.e18 (hJ.e19 rfl)))))))) (by simp)); have q := hJ.q rfl; obtain rfl := hJ.v11 rfl; refine wpOp_step rfl (fun K hK => ?_); replace hK := Lib.hid hK; go_simp; exact hK.out _ _ ⟨b0, b1, b2, b3, b4, b5, b6, b7, b8, b9, b10, true, true, b13, b14, b15, b16, b17, b18, b19, false, x43, x44, x45, x46, x47, x48, x49, x50, x51, x52, x53, .pointer (some ⟨g, o + k * 4, none⟩), .pointer (some ⟨g, o + k * 4, none⟩), x56, x57, x58, x59, x60, x61, x62, rfl, by first | (simp only [Act.put, pL]; done) | rfl, ⟨fun _ => q, (fun h => by cases h), hJ.e0, hJ.e1, hJ.e2, hJ.e3, hJ.e4, hJ.e5, hJ.e6, hJ.e7, hJ.e8, hJ.e9, hJ.e10, fun _ => rfl, fun _ => rfl, hJ.e13, hJ.e14, hJ.e15, hJ.e16, hJ.e17, hJ.e18, hJ.e19, hJ.v0, hJ.v2, hJ.v3, hJ.v4, hJ.v5, hJ.v6, hJ.v7, hJ.v9, hJ.v10, fun _ => rfl, fun _ => rfl, hJ.v13, hJ.v14, hJ.n1, hJ.n8, hJ.n15, hJ.n16, hJ.n17, hJ.n18, hJ.n19⟩⟩
            ·
              have e12 : b12 = true := hdep _ rfl ⟨12, .data⟩ (by simp) rfl; have f13 : b13 = false := (by simpa using hun); subst f13 e12; obtain rfl : b20 = false := (by cases b20 with | false => rfl | true => exact absurd (hJ.e13 (hJ.e14 (hJ.e15 (hJ.e16 (hJ.e17 (hJ.e18 (hJ.e19 rfl))))))) (by simp)); have q := hJ.q rfl; obtain rfl := hJ.v12 rfl; refine wpOp_step rfl (fun K hK => ?_); replace hK := Lib.hid hK; go_simp; exact hK.out _ _ ⟨b0, b1, b2, b3, b4, b5, b6, b7, b8, b9, b10, b11, true, true, b14, b15, b16, b17, b18, b19, false, x43, x44, x45, x46, x47, x48, x49, x50, x51, x52, x53, x54, .pointer (some ⟨g, o + k * 4, none⟩), .pointer (some ⟨g, o + k * 4 + 1, none⟩), x57, x58, x59, x60, x61, x62, rfl, by first | (simp only [Act.put, pL]; done) | rfl, ⟨fun _ => q, (fun h => by cases h), hJ.e0, hJ.e1, hJ.e2, hJ.e3, hJ.e4, hJ.e5, hJ.e6, hJ.e7, hJ.e8, hJ.e9, hJ.e10, hJ.e11, fun _ => rfl, fun _ => rfl, hJ.e14, hJ.e15, hJ.e16, hJ.e17, hJ.e18, hJ.e19, hJ.v0, hJ.v2, hJ.v3, hJ.v4, hJ.v5, hJ.v6, hJ.v7, hJ.v9, hJ.v10, hJ.v11, fun _ => rfl, fun _ => rfl, hJ.v14, hJ.n1, hJ.n8, hJ.n15, hJ.n16, hJ.n17, hJ.n18, hJ.n19⟩⟩
            ·
              have e13 : b13 = true := hdep _ rfl ⟨13, .data⟩ (by simp) rfl; have f14 : b14 = false := (by simpa using hun); subst f14 e13; obtain rfl : b20 = false := (by cases b20 with | false => rfl | true => exact absurd (hJ.e14 (hJ.e15 (hJ.e16 (hJ.e17 (hJ.e18 (hJ.e19 rfl)))))) (by simp)); have q := hJ.q rfl; obtain rfl := hJ.v13 rfl; have g0 := q.cell a1; refine wpOp_step rfl (fun K hK => ?_); replace hK := Lib.hid hK; go_simp; exact hK.out _ _ ⟨b0, b1, b2, b3, b4, b5, b6, b7, b8, b9, b10, b11, b12, true, true, b15, b16, b17, b18, b19, false, x43, x44, x45, x46, x47, x48, x49, x50, x51, x52, x53, x54, x55, .pointer (some ⟨g, o + k * 4 + 1, none⟩), .int .i64 x.b, x58, x59, x60, x61, x62, rfl, by first | (simp only [Act.put, pL]; done) | rfl, ⟨fun _ => q, (fun h => by cases h), hJ.e0, hJ.e1, hJ.e2, hJ.e3, hJ.e4, hJ.e5, hJ.e6, hJ.e7, hJ.e8, hJ.e9, hJ.e10, hJ.e11, hJ.e12, fun _ => rfl, fun _ => rfl, hJ.e15, hJ.e16, hJ.e17, hJ.e18, hJ.e19, hJ.v0, hJ.v2, hJ.v3, hJ.v4, hJ.v5, hJ.v6, hJ.v7, hJ.v9, hJ.v10, hJ.v11, hJ.v12, fun _ => rfl, fun _ => rfl, hJ.n1, hJ.n8, hJ.n15, hJ.n16, hJ.n17, hJ.n18, hJ.n19⟩⟩
            ·
              have e14 : b14 = true := hdep _ rfl ⟨14, .data⟩ (by simp) rfl; have f15 : b15 = false := (by simpa using hun); subst f15 e14; obtain rfl : b20 = false := (by cases b20 with | false => rfl | true => exact absurd (hJ.e15 (hJ.e16 (hJ.e17 (hJ.e18 (hJ.e19 rfl))))) (by simp)); have q := hJ.q rfl; obtain rfl := hJ.v14 rfl; refine wpOp_step rfl (fun K hK => ?_); replace hK := Lib.hid hK; go_simp; go_at_call 58; refine (rOf_b x.b _ HX6.out.1).mono ?_; rintro e wa ⟨b_15, p_15, m_15, c_15, rfl, n15, qa⟩
              try go_wp2_with fail
              exact hK.out _ _ ⟨b0, b1, b2, b3, b4, b5, b6, b7, b8, b9, b10, b11, b12, b13, true, true, b16, b17, b18, b19, false, x43, x44, x45, x46, x47, x48, x49, x50, x51, x52, x53, x54, x55, x56, .int .i64 x.b, .agg #[.bool b_15, .slice p_15 m_15 c_15], x59, x60, x61, x62, rfl, by first | (simp only [Act.put, pL]; done) | rfl, ⟨fun _ => q.trans qa, (fun h => by cases h), hJ.e0, hJ.e1, hJ.e2, hJ.e3, hJ.e4, hJ.e5, hJ.e6, hJ.e7, hJ.e8, hJ.e9, hJ.e10, hJ.e11, hJ.e12, hJ.e13, fun _ => rfl, fun _ => rfl, hJ.e16, hJ.e17, hJ.e18, hJ.e19, hJ.v0, hJ.v2, hJ.v3, hJ.v4, hJ.v5, hJ.v6, hJ.v7, hJ.v9, hJ.v10, hJ.v11, hJ.v12, hJ.v13, fun _ => rfl, hJ.n1.dn qa, hJ.n8.dn qa, fun _ _ => ⟨b_15, p_15, m_15, c_15, rfl, n15⟩, hJ.n16.dn qa, hJ.n17.dn qa, hJ.n18.dn qa, hJ.n19.dn qa⟩⟩
            ·
              have e15 : b15 = true := hdep _ rfl ⟨15, .data⟩ (by simp) rfl; have f16 : b16 = false := (by simpa using hun); subst f16 e15; obtain rfl : b20 = false := (by cases b20 with | false => rfl | true => exact absurd (hJ.e16 (hJ.e17 (hJ.e18 (hJ.e19 rfl)))) (by simp)); have q := hJ.q rfl; have a4 := hJ.n15 rfl rfl; obtain ⟨b_15, p_15, m_15, c_15, rfl, n15⟩ := a4; refine wpOp_step rfl (fun K hK => ?_); replace hK := Lib.hid hK; go_simp; go_at_call 60; refine (rNeg_c _ x.b _ n15).mono ?_; rintro e wa ⟨b_16, p_16, m_16, c_16, rfl, n16, qa⟩
              try go_wp2_with fail
              exact hK.out _ _ ⟨b0, b1, b2, b3, b4, b5, b6, b7, b8, b9, b10, b11, b12, b13, b14, true, true, b17, b18, b19, false, x43, x44, x45, x46, x47, x48, x49, x50, x51, x52, x53, x54, x55, x56, x57, .agg #[.bool b_15, .slice p_15 m_15 c_15], .agg #[.bool b_16, .slice p_16 m_16 c_16], x60, x61, x62, rfl, by first | (simp only [Act.put, pL]; done) | rfl, ⟨fun _ => q.trans qa, (fun h => by cases h), hJ.e0, hJ.e1, hJ.e2, hJ.e3, hJ.e4, hJ.e5, hJ.e6, hJ.e7, hJ.e8, hJ.e9, hJ.e10, hJ.e11, hJ.e12, hJ.e13, hJ.e14, fun _ => rfl, fun _ => rfl, hJ.e17, hJ.e18, hJ.e19, hJ.v0, hJ.v2, hJ.v3, hJ.v4, hJ.v5, hJ.v6, hJ.v7, hJ.v9, hJ.v10, hJ.v11, hJ.v12, hJ.v13, hJ.v14, hJ.n1.dn qa, hJ.n8.dn qa, fun _ _ => ⟨b_15, p_15, m_15, c_15, rfl, n15.dn qa⟩, fun _ _ => ⟨b_16, p_16, m_16, c_16, rfl, n16⟩, hJ.n17.dn qa, hJ.n18.dn qa, hJ.n19.dn qa⟩⟩
            ·
              have e8 : b8 = true := hdep _ rfl ⟨8, .data⟩ (by simp) rfl; have e16 : b16 = true := hdep _ rfl ⟨16, .data⟩ (by simp) rfl; have f17 : b17 = false := (by simpa using hun); subst f17 e8 e16; obtain rfl : b20 = false := (by cases b20 with | false => rfl | true => exact absurd (hJ.e17 (hJ.e18 (hJ.e19 rfl))) (by simp)); have q := hJ.q rfl; have k8 := hJ.n8 rfl rfl; obtain ⟨b_8, p_8, m_8, c_8, rfl, n8⟩ := k8; have a5 := hJ.n16 rfl rfl; obtain ⟨b_16, p_16, m_16, c_16, rfl, n16⟩ := a5; refine wpOp_step rfl (fun K hK => ?_); replace hK := Lib.hid hK; go_simp; go_at_call 59; refine (rAdd_c _ _ x.d (-x.b) _ n8 n16 HL.out.1 HL.out.2.1).mono ?_; rintro e wa ⟨b_17, p_17, m_17, c_17, rfl, n17, qa⟩
              try go_wp2_with fail
              exact hK.out _ _ ⟨b0, b1, b2, b3, b4, b5, b6, b7, true, b9, b10, b11, b12, b13, b14, b15, true, true, b18, b19, false, x43, x44, x45, x46, x47, x48, x49, x50, .agg #[.bool b_8, .slice p_8 m_8 c_8], x52, x53, x54, x55, x56, x57, x58, .agg #[.bool b_16, .slice p_16 m_16 c_16], .agg #[.bool b_17, .slice p_17 m_17 c_17], x61, x62, rfl, by first | (simp only [Act.put, pL]; done) | rfl, ⟨fun _ => q.trans qa, (fun h => by cases h), hJ.e0, hJ.e1, hJ.e2, hJ.e3, hJ.e4, hJ.e5, hJ.e6, hJ.e7, fun _ => rfl, hJ.e9, hJ.e10, hJ.e11, hJ.e12, hJ.e13, hJ.e14, hJ.e15, fun _ => rfl, fun _ => rfl, hJ.e18, hJ.e19, hJ.v0, hJ.v2, hJ.v3, hJ.v4, hJ.v5, hJ.v6, hJ.v7, hJ.v9, hJ.v10, hJ.v11, hJ.v12, hJ.v13, hJ.v14, hJ.n1.dn qa, fun _ _ => ⟨b_8, p_8, m_8, c_8, rfl, n8.dn qa⟩, hJ.n15.dn qa, fun _ _ => ⟨b_16, p_16, m_16, c_16, rfl, n16.dn qa⟩, fun _ _ => ⟨b_17, p_17, m_17, c_17, rfl, n17⟩, hJ.n18.dn qa, hJ.n19.dn qa⟩⟩
            ·
              have e1 : b1 = true := hdep _ rfl ⟨1, .data⟩ (by simp) rfl; have e17 : b17 = true := hdep _ rfl ⟨17, .data⟩ (by simp) rfl; have f18 : b18 = false := (by simpa using hun); subst f18 e1 e17; obtain rfl : b20 = false := (by cases b20 with | false => rfl | true => exact absurd (hJ.e18 (hJ.e19 rfl)) (by simp)); have q := hJ.q rfl; have k1 := hJ.n1 rfl rfl; obtain ⟨b_1, p_1, m_1, c_1, rfl, n1⟩ := k1; have a6 := hJ.n17 rfl rfl; obtain ⟨b_17, p_17, m_17, c_17, rfl, n17⟩ := a6; refine wpOp_step rfl (fun K hK => ?_); replace hK := Lib.hid hK; go_simp; go_at_call 59; refine (rAdd_c _ _ 1 (x.d + -x.b) _ n1 n17 HL.out.2.2.1 HL.out.2.2.2.1).mono ?_; rintro e wa ⟨b_18, p_18, m_18, c_18, rfl, n18, qa⟩
              try go_wp2_with fail
              exact hK.out _ _ ⟨b0, true, b2, b3, b4, b5, b6, b7, b8, b9, b10, b11, b12, b13, b14, b15, b16, true, true, b19, false, x43, .agg #[.bool b_1, .slice p_1 m_1 c_1], x45, x46, x47, x48, x49, x50, x51, x52, x53, x54, x55, x56, x57, x58, x59, .agg #[.bool b_17, .slice p_17 m_17 c_17], .agg #[.bool b_18, .slice p_18 m_18 c_18], x62, rfl, by first | (simp only [Act.put, pL]; done) | rfl, ⟨fun _ => q.trans qa, (fun h => by cases h), hJ.e0, fun _ => rfl, hJ.e2, hJ.e3, hJ.e4, hJ.e5, hJ.e6, hJ.e7, hJ.e8, hJ.e9, hJ.e10, hJ.e11, hJ.e12, hJ.e13, hJ.e14, hJ.e15, hJ.e16, fun _ => rfl, fun _ => rfl, hJ.e19, hJ.v0, hJ.v2, hJ.v3, hJ.v4, hJ.v5, hJ.v6, hJ.v7, hJ.v9, hJ.v10, hJ.v11, hJ.v12, hJ.v13, hJ.v14, fun _ _ => ⟨b_1, p_1, m_1, c_1, rfl, n1.dn qa⟩, hJ.n8.dn qa, hJ.n15.dn qa, hJ.n16.dn qa, fun _ _ => ⟨b_17, p_17, m_17, c_17, rfl, n17.dn qa⟩, fun _ _ => ⟨b_18, p_18, m_18, c_18, rfl, n18⟩, hJ.n19.dn qa⟩⟩
            ·
              have e0 : b0 = true := hdep _ rfl ⟨0, .data⟩ (by simp) rfl; have e18 : b18 = true := hdep _ rfl ⟨18, .data⟩ (by simp) rfl; have f19 : b19 = false := (by simpa using hun); subst f19 e0 e18; obtain rfl : b20 = false := (by cases b20 with | false => rfl | true => exact absurd (hJ.e19 rfl) (by simp)); have q := hJ.q rfl; obtain rfl := hJ.v0 rfl; have a7 := hJ.n18 rfl rfl; obtain ⟨b_18, p_18, m_18, c_18, rfl, n18⟩ := a7; refine wpOp_step rfl (fun K hK => ?_); replace hK := Lib.hid hK; go_simp; go_at_call 59; refine (rAdd_c _ _ z (1 + (x.d + -x.b)) _ (hz.dn q) n18 HL.out.2.2.2.2.1 HL.out.2.2.2.2.2).mono ?_; rintro e wa ⟨b_19, p_19, m_19, c_19, rfl, n19, qa⟩
              try go_wp2_with fail
              exact hK.out _ _ ⟨true, b1, b2, b3, b4, b5, b6, b7, b8, b9, b10, b11, b12, b13, b14, b15, b16, b17, true, true, false, .agg #[.bool bs, .slice ps ms cs], x44, x45, x46, x47, x48, x49, x50, x51, x52, x53, x54, x55, x56, x57, x58, x59, x60, .agg #[.bool b_18, .slice p_18 m_18 c_18], .agg #[.bool b_19, .slice p_19 m_19 c_19], rfl, by first | (simp only [Act.put, pL]; done) | rfl, ⟨fun _ => q.trans qa, (fun h => by cases h), fun _ => rfl, hJ.e1, hJ.e2, hJ.e3, hJ.e4, hJ.e5, hJ.e6, hJ.e7, hJ.e8, hJ.e9, hJ.e10, hJ.e11, hJ.e12, hJ.e13, hJ.e14, hJ.e15, hJ.e16, hJ.e17, fun _ => rfl, fun _ => rfl, fun _ => rfl, hJ.v2, hJ.v3, hJ.v4, hJ.v5, hJ.v6, hJ.v7, hJ.v9, hJ.v10, hJ.v11, hJ.v12, hJ.v13, hJ.v14, hJ.n1.dn qa, hJ.n8.dn qa, hJ.n15.dn qa, hJ.n16.dn qa, hJ.n17.dn qa, fun _ _ => ⟨b_18, p_18, m_18, c_18, rfl, n18.dn qa⟩, fun _ _ => ⟨b_19, p_19, m_19, c_19, rfl, n19⟩⟩⟩
            ·
              have e19 : b19 = true := hdep _ rfl ⟨19, .data⟩ (by simp) rfl; have f20 : b20 = false := (by simpa using hun); subst f20 e19; have q := hJ.q rfl; have a8 := hJ.n19 rfl rfl; obtain ⟨b_19, p_19, m_19, c_19, rfl, n19⟩ := a8; have nb := hs.dn q; obtain ⟨z0, z1, y0, y1, zl⟩ := nb; refine wpOp_step rfl (fun K hK => ?_); replace hK := Lib.hid hK; go_simp; exact hK.out _ _ ⟨b0, b1, b2, b3, b4, b5, b6, b7, b8, b9, b10, b11, b12, b13, b14, b15, b16, b17, b18, true, true, x43, x44, x45, x46, x47, x48, x49, x50, x51, x52, x53, x54, x55, x56, x57, x58, x59, x60, x61, .agg #[.bool b_19, .slice p_19 m_19 c_19], rfl, by first | (simp only [Act.put, pL]; done) | rfl, ⟨(fun h => by cases h), fun _ => ⟨SmB.fill ⟨_, _, _, _, hs.dn q, hz.dn q⟩ n19, ((hu.trans q).setCell HBB.out _).setCell HBB.out _⟩, hJ.e0, hJ.e1, hJ.e2, hJ.e3, hJ.e4, hJ.e5, hJ.e6, hJ.e7, hJ.e8, hJ.e9, hJ.e10, hJ.e11, hJ.e12, hJ.e13, hJ.e14, hJ.e15, hJ.e16, hJ.e17, hJ.e18, fun _ => rfl, hJ.v0, hJ.v2, hJ.v3, hJ.v4, hJ.v5, hJ.v6, hJ.v7, hJ.v9, hJ.v10, hJ.v11, hJ.v12, hJ.v13, hJ.v14, (fun _ h => by cases h), (fun _ h => by cases h), (fun _ h => by cases h), (fun _ h => by cases h), (fun _ h => by cases h), (fun _ h => by cases h), (fun _ h => by cases h)⟩⟩
          · rintro l a' W ⟨b0, b1, b2, b3, b4, b5, b6, b7, b8, b9, b10, b11, b12, b13, b14, b15, b16, b17, b18, b19, b20, x43, x44, x45, x46, x47, x48, x49, x50, x51, x52, x53, x54, x55, x56, x57, x58, x59, x60, x61, x62, rfl, rfl, hJ⟩ hall
            obtain rfl : b0 = true := (by cases b0 with | true => rfl | false => exact nB (hall 0 _ rfl rfl)); obtain rfl : b1 = true := (by cases b1 with | true => rfl | false => exact nB (hall 1 _ rfl rfl)); obtain rfl : b2 = true := (by cases b2 with | true => rfl | false => exact nB (hall 2 _ rfl rfl)); obtain rfl : b3 = true := (by cases b3 with | true => rfl | false => exact nB (hall 3 _ rfl rfl)); obtain rfl : b4 = true := (by cases b4 with | true => rfl | false => exact nB (hall 4 _ rfl rfl)); obtain rfl : b5 = true := (by cases b5 with | true => rfl | false => exact nB (hall 5 _ rfl rfl)); obtain rfl : b6 = true := (by cases b6 with | true => rfl | false => exact nB (hall 6 _ rfl rfl)); obtain rfl : b7 = true := (by cases b7 with | true => rfl | false => exact nB (hall 7 _ rfl rfl)); obtain rfl : b8 = true := (by cases b8 with | true => rfl | false => exact nB (hall 8 _ rfl rfl)); obtain rfl : b9 = true := (by cases b9 with | true => rfl | false => exact nB (hall 9 _ rfl rfl)); obtain rfl : b10 = true := (by cases b10 with | true => rfl | false => exact nB (hall 10 _ rfl rfl)); obtain rfl : b11 = true := (by cases b11 with | true => rfl | false => exact nB (hall 11 _ rfl rfl)); obtain rfl : b12 = true := (by cases b12 with | true => rfl | false => exact nB (hall 12 _ rfl rfl)); obtain rfl : b13 = true := (by cases b13 with | true => rfl | false => exact nB (hall 13 _ rfl rfl)); obtain rfl : b14 = true := (by cases b14 with | true => rfl | false => exact nB (hall 14 _ rfl rfl)); obtain rfl : b15 = true := (by cases b15 with | true => rfl | false => exact nB (hall 15 _ rfl rfl)); obtain rfl : b16 = true := (by cases b16 with | true => rfl | false => exact nB (hall 16 _ rfl rfl)); obtain rfl : b17 = true := (by cases b17 with | true => rfl | false => exact nB (hall 17 _ rfl rfl)); obtain rfl : b18 = true := (by cases b18 with | true => rfl | false => exact nB (hall 18 _ rfl rfl)); obtain rfl : b19 = true := (by cases b19 with | true => rfl | false => exact nB (hall 19 _ rfl rfl)); obtain rfl : b20 = true := (by cases b20 with | true => rfl | false => exact nB (hall 20 _ rfl rfl)); obtain ⟨hsm, hud⟩ := hJ.fin rfl; clear hall hJ; simp only [Act.put, pL]; go_wp2_with fail; go_roundw
            case rel => exact ⟨k + 1, by omega, by simp, by rw [HST.out]; exact hsm, hud⟩
            case measure => simp [intOf]; omega
        · obtain rfl : k = L.length := by omega
          have d1 : decide ((L.length : Int) < L.length) = false := (by simp); rw [List.take_length] at hz; have hlen : Len (sumL L) := Len.of (by have h1 := sum_bound L.length HI.out; rw [List.take_length] at h1; omega)
          by_cases h64 : I64 (sumL L)
          · have hl2 := HLW.out
            rw [if_pos h64] at hl2
            obtain ⟨rfl, rfl⟩ : n = sumL L /\ E = 0 := by rw [HN.out, HE.out, hl2]; exact ⟨rfl, rfl⟩
            have HT := Lib.hid (fun W (q : Dn wr W) => rInt_yes _ _ W (hz.dn q) hlen h64); have c0 := hs.c0; have c1 := hs.c1; clear hl2 hs hz hlen h64 HLW HAN; go_wp2_with fail; refine (HT.out _ (Dn.refl _)).mono ?_; rintro e w9 ⟨rfl, q9⟩; have u9 := hu.trans q9; go_wp2_with fail; go_ret2; exact ⟨rfl, u9⟩
          · have hl2 := HLW.out
            rw [if_neg h64] at hl2
            obtain ⟨rfl, rfl⟩ : n = 0 /\ E = 15 := by rw [HN.out, HE.out, hl2]; exact ⟨rfl, rfl⟩
            have HT := Lib.hid (fun W (q : Dn wr W) => rInt_no _ _ W (hz.dn q) hlen h64); have c0 := hs.c0; have c1 := hs.c1; clear hl2 hs hz hlen h64 HLW HAN; go_wp2_with fail; refine (HT.out _ (Dn.refl _)).mono ?_; rintro e w9 ⟨rfl, q9⟩; have u9 := hu.trans q9; go_wp2_with fail; go_ret2; exact ⟨rfl, u9⟩
end Go.Proofs.YtoghoddjkdoohaaGreatDoor
