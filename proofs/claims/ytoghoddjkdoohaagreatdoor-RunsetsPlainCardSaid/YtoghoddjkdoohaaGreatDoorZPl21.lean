/- Walks and laws that the claim's theorem leans on: part 21. -/
import Derived.Test.YtoghoddjkdoohaaGreatDoorZPl1
import Derived.Test.YtoghoddjkdoohaaGreatDoorZPl11
import Derived.Test.YtoghoddjkdoohaaGreatDoorZPl12
import Derived.Test.YtoghoddjkdoohaaGreatDoorZPl13
import Derived.Test.YtoghoddjkdoohaaGreatDoorZPl16
import Derived.Test.YtoghoddjkdoohaaGreatDoorZPl17
import Derived.Test.YtoghoddjkdoohaaGreatDoorZPl18
import Derived.Test.YtoghoddjkdoohaaGreatDoorZPl19
import Derived.Test.YtoghoddjkdoohaaGreatDoorZPl20
namespace Go.Proofs.YtoghoddjkdoohaaGreatDoor
set_option maxHeartbeats 4000000
set_option maxRecDepth 100000
open Go.RowKit
set_option linter.unusedVariables false
set_option linter.unusedSimpArgs false
theorem slCollect (B : Nat) (p : Option Addr) (cap : Nat) (L : List Rq) (w : World) (hl : L.length ≤ 100000) (hB : w.cell? ⟨B, 0, none⟩ = some (.slice p L.length cap)) (hR : Row w p L) :
  Calls Tryz.prog 85 #[.func (.func 86) #[] #[.pointer (some ⟨B, 0, none⟩)]] w fun e w' => ∃ v : Value, e = .returned v ∧ OwnQ w' w.heap.size v L ∧ Dn w w' := by
 refine (callsIn_wide (n := 6)).1 ?_
 have e11 : ∀ args w, (callFunc 126 args).run Tryz.prog w = .ok (.enter 126 args) w := enters_of Tryz.func126 (by kernel_rfl) rfl
 have e86 : ∀ args w, (callFunc 86 args).run Tryz.prog w = .ok (.enter 86 args) w := enters_of Tryz.func86 (by kernel_rfl) rfl
 have hseq : ∀ W, Dn w W → CallsIn Fence.wide 5 Tryz.prog 126 #[.slice none 0 0, .func (.func 86) #[] #[.pointer (some ⟨B, 0, none⟩)]] W fun e w' => ∃ v : Value, e = .returned v ∧ OwnQ w' W.heap.size v L ∧ Dn W w' := fun W h =>
  slAppendSeq Fence.wide 5 trivial rfl (by omega) 86 #[.pointer (some ⟨B, 0, none⟩)] trivial e86 L hl W (vals_give Fence.wide 4 trivial rfl (by omega) B p cap L W hl (h.cell hB) (hR.dn h))
 have HS := Lib.hid hseq
 clear hseq hB hR
 refine callsIn_of_wp Tryz.func85 rfl trivial ?_ rfl
 simp only [Tryz.ntmps85, List.size_toArray, List.length_cons, List.length_nil, Nat.reduceAdd, Nat.reduceSub, Array.replicate_succ, Array.replicate_zero, List.push_toArray, List.append_toArray, List.nil_append, List.cons_append]
 gi_wp2_with fail
 refine ⟨trivial, (HS.out _ (Dn.refl _)).mono ?_⟩
 rintro e w' ⟨v, rfl, hown, hd⟩
 gi_wp2_with fail
 go_ret
 exact ⟨v, rfl, hown, hd⟩
theorem slValues (p : Option Addr) (cap : Nat) (L : List Rq) (w : World) (hR : Row w p L) :
  Calls Tryz.prog 42 #[.slice p L.length cap] w fun ro w' => ∃ B : Nat, ro = .returned (.func (.func 86) #[] #[.pointer (some ⟨B, 0, none⟩)]) ∧ w'.cell? ⟨B, 0, none⟩ = some (.slice p L.length cap) ∧ Dn w w' := by
 have HR := Lib.hid hR
 clear hR
 go_enter Tryz.func42, Tryz.ntmps42
 go_wp2_with fail
 obtain ⟨W1, hW1⟩ : ∃ W1, W1 = w.alloc (.cells #[.slice p L.length cap] 22) := ⟨_, rfl⟩
 have u1 : Dn w W1 := by rw [hW1]; exact (Dn.refl _).alloc _
 have cB : W1.cell? ⟨w.heap.size, 0, none⟩ = some (.slice p L.length cap) := by rw [hW1]; simp [go_sem]
 rw [← hW1]
 clear hW1
 go_ret
 exact ⟨w.heap.size, rfl, cB, u1⟩
theorem slSortedFunc (B : Nat) (p : Option Addr) (cap : Nat) (L : List Rq) (w : World) (hl : L.length ≤ 100000) (hB : w.cell? ⟨B, 0, none⟩ = some (.slice p L.length cap)) (hR : Row w p L) :
  Calls Tryz.prog 41 #[.func (.func 86) #[] #[.pointer (some ⟨B, 0, none⟩)], .func (.func 43) #[] #[]] w fun ro w' => ∃ p' cap', ro = .returned (.slice p' (srt L).length cap') ∧ Row w' p' (srt L) ∧ Dn w w' := by
 have HC := Lib.hid (slCollect B p cap L w hl hB hR)
 have HS := Lib.hid (fun W base v (h : OwnQ W base v L) => slSortV base v L W h (by omega))
 clear hB hR
 go_enter Tryz.func41, Tryz.ntmps41
 go_wp2_with fail
 refine HC.out.mono ?_
 rintro e wc ⟨v, rfl, hown, qc⟩
 have HOWN := Lib.hid hown
 clear hown
 go_wp2_with fail
 refine (HS.out _ _ v HOWN.out).mono ?_
 rintro e ws ⟨rfl, ⟨p3, c3, rfl, hrs⟩, hdn⟩
 have us := hdn w qc (Nat.le_refl _)
 have HRS := Lib.hid hrs
 clear hrs hdn
 go_wp2_with fail
 go_ret
 first | exact ⟨p3, c3, rfl, HRS.out, us⟩ | exact ⟨p3, ⟨c3, rfl⟩, HRS.out, us⟩
theorem rsOf (p : Option Addr) (cap : Nat) (L : List Rq) (E : Int) (R : List Rq) (w : World) (hE : E = ofE L) (hRR : R = if E = 0 then joinedL (srt L) else []) (hl : L.length ≤ 100000) (hI : I6 L) (hR : Row w p L) :
   Calls Tryz.prog 10 #[.slice p L.length cap] w fun ro w' => ∃ p', ro = .returned (.tuple #[.slice p' R.length R.length, .int .i64 E]) ∧ Row w' p' R ∧ Dn w w' := by
 have HI := Lib.hid hI
 clear hI
 by_cases h4 : 4096 < L.length
 · have d0 : decide ((L.length : Int) > 4096) = true := by simp; omega
   obtain rfl : E = 3 := by rw [hE]; unfold ofE; rw [if_pos h4]
   obtain rfl : R = [] := by rw [hRR, if_neg (by decide)]
   clear hE hRR
   go_enter Tryz.func10, Tryz.ntmps10
   go_wp2_with fail
   go_ret2
   exact ⟨none, rfl, rownil _, Dn.refl _⟩
 have d0 : decide ((L.length : Int) > 4096) = false := by simp; omega
 have HE : Hid (E = errL (L.drop 0)) := Lib.hid (by rw [hE]; unfold ofE; rw [if_neg h4]; rfl)
 have HRR := Lib.hid hRR
 clear hE hRR
 go_enter Tryz.func10, Tryz.ntmps10
 go_wp2_with fail
 go_loopw [2, 3, 12] (fun r1 r2 i wr => r1 = .slice none 0 0 ∧ r2 = .int .i64 0 ∧ ∃ k : Nat, k ≤ L.length ∧ i = .int .i64 k ∧ errL (L.drop 0) = errL (L.drop k) ∧ Dn w wr) (fun _ _ i _ => L.length - (intOf i).toNat)
 case atStart => exact ⟨rfl, rfl, 0, by omega, rfl, rfl, Dn.refl _⟩
 case round =>
   obtain ⟨rfl, rfl, k, hk, rfl, he, hu⟩ := hrel
   have HF := Lib.hid he
   clear he
   by_cases hlt : k < L.length
   · have d1 : decide ((k : Int) < L.length) = true := by simp; omega
     obtain ⟨x, hx⟩ : ∃ x, L[k]? = some x := ⟨L[k], by simp [hlt]⟩
     obtain ⟨g, o, rfl, hc⟩ := hR.cs (by omega)
     have HX := Lib.hid hx
     have hA : Hid (ChkIs x.a x.b x.c x.d (rnErr x.a x.b x.c x.d)) := Lib.hid (rnChk x.a x.b x.c x.d)
     obtain ⟨a0, a1, a2, a3⟩ := (hc.dn hu).el _ _ hx
     clear hx hc hR
     by_cases hb : rnErr x.a x.b x.c x.d = 0
     · have HB := Lib.hid hb
       rw [hb] at hA
       clear hb
       go_wp2_with fail
       clear a0 a1 a2 a3
       obtain ⟨W1, hW1⟩ : ∃ W1, W1 = wr.alloc (.cells #[.int .i8 x.a, .int .i64 x.b, .int .i8 x.c, .int .i64 x.d] 45) := ⟨_, rfl⟩
       have uW1 : Dn wr W1 := by rw [hW1]; exact (Dn.refl _).alloc _
       have c2 : W1.cell? ⟨wr.heap.size, 0, none⟩ = some (.int .i8 x.a) := by rw [hW1]; simp [go_sem]
       have c3 : W1.cell? ⟨wr.heap.size, 1, none⟩ = some (.int .i64 x.b) := by rw [hW1]; simp [go_sem]
       have c4 : W1.cell? ⟨wr.heap.size, 2, none⟩ = some (.int .i8 x.c) := by rw [hW1]; simp [go_sem]
       have c5 : W1.cell? ⟨wr.heap.size, 3, none⟩ = some (.int .i64 x.d) := by rw [hW1]; simp [go_sem]
       have l6 : wr.heap.size < W1.heap.size := by rw [hW1]; simp <;> omega
       rw [← hW1]
       clear hW1
       have vW1 := hu.trans uW1
       clear uW1 hu
       refine (hA.out _).mono ?_
       rintro e w1 ⟨rfl, qw1⟩
       have l7 := nlt l6 qw1.size
       obtain ⟨c8, c9, c10, c11⟩ := mv4 qw1.cell c2 c3 c4 c5
       clear l6 c2 c3 c4 c5
       have uw1 := vW1.trans qw1
       clear qw1 vW1
       go_wp2_with fail
       go_roundw
       case rel => exact ⟨rfl, rfl, k + 1, by omega, by simp, HF.out.trans (err_ok HX.out HB.out), uw1⟩
       case measure => simp [intOf]; omega
     · have d2 : (rnErr x.a x.b x.c x.d != 0) = true := by simpa using hb
       obtain rfl : E = rnErr x.a x.b x.c x.d := HE.out.trans (HF.out.trans (err_bad HX.out hb))
       obtain rfl : R = [] := by rw [HRR.out, if_neg hb]
       clear hb
       go_wp2_with fail
       clear a0 a1 a2 a3
       obtain ⟨W1, hW1⟩ : ∃ W1, W1 = wr.alloc (.cells #[.int .i8 x.a, .int .i64 x.b, .int .i8 x.c, .int .i64 x.d] 45) := ⟨_, rfl⟩
       have uW1 : Dn wr W1 := by rw [hW1]; exact (Dn.refl _).alloc _
       have c2 : W1.cell? ⟨wr.heap.size, 0, none⟩ = some (.int .i8 x.a) := by rw [hW1]; simp [go_sem]
       have c3 : W1.cell? ⟨wr.heap.size, 1, none⟩ = some (.int .i64 x.b) := by rw [hW1]; simp [go_sem]
       have c4 : W1.cell? ⟨wr.heap.size, 2, none⟩ = some (.int .i8 x.c) := by rw [hW1]; simp [go_sem]
       have c5 : W1.cell? ⟨wr.heap.size, 3, none⟩ = some (.int .i64 x.d) := by rw [hW1]; simp [go_sem]
       have l6 : wr.heap.size < W1.heap.size := by rw [hW1]; simp <;> omega
       rw [← hW1]
       clear hW1
       have vW1 := hu.trans uW1
       clear uW1 hu
       refine (hA.out _).mono ?_
       rintro e w1 ⟨rfl, qw1⟩
       have l7 := nlt l6 qw1.size
       obtain ⟨c8, c9, c10, c11⟩ := mv4 qw1.cell c2 c3 c4 c5
       clear l6 c2 c3 c4 c5
       have uw1 := vW1.trans qw1
       clear qw1 vW1
       go_wp2_with fail
       go_ret2
       exact ⟨none, rfl, rownil _, uw1⟩
   · obtain rfl : k = L.length := by omega
     have d1 : decide ((L.length : Int) < L.length) = false := by simp
     have hend := Lib.hid (HF.out.trans err_end)
     obtain rfl : E = 0 := HE.out.trans hend.out
     obtain rfl : R = joinedL (srt L) := by rw [HRR.out, if_pos rfl]
     clear HE HRR
     have HV := Lib.hid (fun W (h : Dn w W) => slValues p cap L W (hR.dn h))
     have HS := Lib.hid (fun B W (h : Dn w W) hB => slSortedFunc B p cap L W hl hB (hR.dn h))
     have HJ := Lib.hid (fun W p' c' (hr : Row W p' (srt L)) => rsJoined p' c' (srt L) W (by rw [srt_len]; omega) (fun x hx => HI.out x ((srt_mem L x).1 hx)) hr)
     clear hR
     generalize hSL : srt L = SL at *
     have hSL' := Lib.hid hSL
     clear hSL
     go_wp2_with fail
     refine (HV.out _ hu).mono ?_
     rintro e w1 ⟨B, rfl, hB, q1⟩
     have u1 := hu.trans q1
     have HB := Lib.hid hB
     clear hB q1
     go_wp2_with fail
     refine (HS.out B _ u1 HB.out).mono ?_
     rintro e w2 ⟨p2, c2, rfl, hr2, q2⟩
     have HR2 := Lib.hid hr2
     have u2 := u1.trans q2
     clear hr2 q2
     go_wp2_with fail
     refine (HJ.out _ p2 c2 HR2.out).mono ?_
     rintro e w3 ⟨p3, rfl, hr3, q3⟩
     have HR3 := Lib.hid hr3
     clear hr3
     go_wp2_with fail
     go_ret2
     cases hSL'.out
     exact ⟨p3, rfl, HR3.out, u2.trans q3⟩
def NV (w : World) (x : Value) (z : Int) : Prop := ∃ (b : Bool) (p : Option Addr) (m c : Nat), x = .agg #[.bool b, .slice p m c] ∧ IsN w x z
theorem NV.dn {w w' : World} {x : Value} {z : Int} (h : NV w x z) (k : Dn w w') : NV w' x z := by
 obtain ⟨b, p, m, c, e, h⟩ := h
 exact ⟨b, p, m, c, e, h.dn k⟩
def ImN (a s : Bool) (w : World) (x : Value) (z : Int) : Prop := a = true → s = false → NV w x z
theorem ImN.dn {a s : Bool} {w w' : World} {x : Value} {z : Int} (h : ImN a s w x z) (k : Dn w w') : ImN a s w' x z := fun h1 h2 => (h h1 h2).dn k
def SmB (w : World) (B : Nat) (z : Int) : Prop := ∃ (b : Bool) (p : Option Addr) (m c : Nat), NBlk w B b (.slice p m c) ∧ IsN w (.agg #[.bool b, .slice p m c]) z
theorem SmB.dn {w w' : World} {B : Nat} {z : Int} (h : SmB w B z) (k : Dn w w') : SmB w' B z := by
 obtain ⟨b, p, m, c, h1, h2⟩ := h
 exact ⟨b, p, m, c, h1.dn k, h2.dn k⟩
theorem SmB.drewN {w : World} {B : Nat} {z : Int} (h : SmB w B z) (n : Nat) : SmB (w.drewN n) B z := h.dn ((Dn.refl _).drewN n)
theorem SlD.farB {w : World} {s : Value} {l : List Int} (h : SlD w s l) {B k : Nat} {b : Bool} (hB : w.cell? ⟨B, 0, none⟩ = some (.bool b)) (u : Value) : SlD (w.setCell ⟨B, k, none⟩ u) s l := by
 obtain ⟨p, cap, h1, h2, h3, h4⟩ := h
 refine ⟨p, cap, h1, h2, h3, fun j x hx => ?_⟩
 obtain ⟨g, hg, hc⟩ := h4 j x hx
 refine ⟨g, hg, ?_⟩
 have hlt : 0 < l.length := by have := (List.getElem?_eq_some_iff.1 hx).1; omega
 obtain ⟨g', hg', hc'⟩ := h4 0 l[0] (by simp [hlt])
 have hgg : g' = g := by rw [hg] at hg'; cases hg'; rfl
 subst hgg
 have hne : g' ≠ B := by
  intro e; subst e; rw [hB] at hc'; cases hc'
 rw [World.cell?_setCell_other _ _ _ _ (fun e => hne (by cases e; rfl))]
 exact hc
theorem IsN.farB {w : World} {v : Value} {x : Int} (h : IsN w v x) {B k : Nat} {b : Bool} (hB : w.cell? ⟨B, 0, none⟩ = some (.bool b)) (u : Value) : IsN (w.setCell ⟨B, k, none⟩ u) v x := by
 obtain ⟨s, h1, h2⟩ := h
 exact ⟨s, h1, h2.farB hB u⟩
theorem SmB.fill {w : World} {B : Nat} {z z' : Int} {b : Bool} {p : Option Addr} {m c : Nat} (h : SmB w B z) (hv : IsN w (.agg #[.bool b, .slice p m c]) z') :
  SmB ((w.setCell ⟨B, 0, none⟩ (.bool b)).setCell ⟨B, 1, none⟩ (.slice p m c)) B z' := by
 obtain ⟨b0, p0, m0, c0, h1, _⟩ := h
 have k1 := h1.set0 b
 exact ⟨b, p, m, c, k1.set1 _, (hv.farB h1.c0 _).farB k1.c0 _⟩
theorem inf_at {L : List Rq} {k : Nat} {x : Rq} (h : L[k]? = some x) (hb : infB x = true) : L.any infB = true := List.any_eq_true.2 ⟨x, List.mem_of_getElem? h, hb⟩
theorem inf_no {L : List Rq} {k : Nat} {x : Rq} (h : L[k]? = some x) (hb : L.any infB = false) : x.a = 0 ∧ x.c = 0 := by
 rw [List.any_eq_false] at hb
 have := hb x (List.mem_of_getElem? h)
 unfold infB at this
 simp at this
 exact this
theorem cnt_ref {L : List Rq} (hI : I6 L) (h0 : chkL L = 0) (ha : L.any infB = false) : cntL L = if I64 (sumL L) then (sumL L, 0) else (0, 15) := by
 have hok := Sep.all (chk_ok hI h0)
 unfold cntL
 rw [if_neg (by simpa using h0), if_neg (by rw [ha]; simp)]
 rw [cnt_law (fun x hx => ?_) (by omega) (by decide)]
 · simp
 · obtain ⟨k, hk⟩ := List.mem_iff_getElem?.1 hx
   obtain ⟨e1, e2⟩ := inf_no hk ha
   have h3 := (hok x hx).2.2
   have h4 := h3.2.2.2.2
   unfold key at h4
   omega
set_option maxHeartbeats 4000000
set_option maxRecDepth 100000
instance decI6 (L : List Rq) : Decidable (I6 L) := by unfold I6; infer_instance
theorem tOf : joinedL (srt (setL [5, 9, 1, 2, 3, 3, 8, 12])) = setL [1, 3, 5, 12] := (of_eq (srt_asc (by decide +kernel)) (srt_mem _)).trans (by decide +kernel)
theorem tUn : joinedL (srt (setL [1, 2, 5, 6] ++ setL [3, 3])) = setL [1, 3, 5, 6] := (of_eq (srt_asc (by decide +kernel)) (srt_mem _)).trans (by decide +kernel)
theorem sep_of {L : List Rq} (hI : ∀ x ∈ L, I64 x.b ∧ I64 x.d) (h : chkL L = 0) : Sep L := chk_ok hI h
theorem tWo : joinedL (cmn (setL [1, 9]) (cplL (setL [3, 4, 6, 6]))) = setL [1, 2, 5, 5, 7, 9] := (without_eq (sep_of (by decide +kernel) (by decide +kernel)) (sep_of (by decide +kernel) (by decide +kernel))).trans (by decide +kernel)
theorem tCo : joinedL (cmn [⟨0, 1, 0, 5⟩, ⟨0, 9, 1, 0⟩] (setL [4, 10])) = setL [4, 5, 9, 10] := (common_eq (sep_of (by decide +kernel) (by decide +kernel)) (sep_of (by decide +kernel) (by decide +kernel))).trans (by decide +kernel)
def strK : Nat → ByteArray
 | 0 => ⟨#[49, 46, 46, 51, 44, 53, 46, 46, 53]⟩
 | 1 => ⟨#[]⟩
 | 2 => ⟨#[49, 46, 46, 51, 44]⟩
 | _ => ⟨#[49, 46, 46, 51, 44, 52, 46, 46, 52]⟩
def errK : Nat → Int
 | 0 => 0
 | 1 => 5
 | 2 => 5
 | _ => 12
theorem strK_at : ∀ k, k < 4 → (#[.string ⟨#[49, 46, 46, 51, 44, 53, 46, 46, 53]⟩, .string ⟨#[]⟩, .string ⟨#[49, 46, 46, 51, 44]⟩, .string ⟨#[49, 46, 46, 51, 44, 52, 46, 46, 52]⟩] : Array Value)[k]? = some (.string (strK k)) := by
 intro k hk
 rcases (show k = 0 ∨ k = 1 ∨ k = 2 ∨ k = 3 by omega) with rfl | rfl | rfl | rfl <;> rfl
theorem wantK_at : ∀ k, k < 4 → ([0, 5, 5, 12] : List Int)[k]? = some (errK k) := by
 intro k hk
 rcases (show k = 0 ∨ k = 1 ∨ k = 2 ∨ k = 3 by omega) with rfl | rfl | rfl | rfl <;> rfl
theorem givesK : ∀ k, k < 4 → ∀ W p n q c, Row0 W k p n (setL [1, 3, 5, 5]) → Row W q (setL [1, 3, 5, 5]) → Calls Tryz.prog 13 #[.slice p n n, .int .i64 (errK k), .slice q (setL [1, 3, 5, 5]).length c, .int .i64 (errK k)] W fun ro w' => ro = .returned (.bool true) ∧ Dn W w' := by
 intro k hk W p n q c h hq
 unfold Row0 at h
 by_cases h0 : k = 0
 · rw [if_pos h0] at h
   obtain ⟨rfl, h⟩ := h
   subst h0
   exact gv10 p _ _ 0 q c _ 0 W (Or.inl ⟨rfl, rfl, rfl, rfl⟩) (by decide) h (fun _ => hq)
 · rw [if_neg h0] at h
   subst h
   have hb : errK k ≠ 0 := by
    rcases (show k = 1 ∨ k = 2 ∨ k = 3 by omega) with rfl | rfl | rfl <;> decide
   exact gv10 p 0 [] (errK k) q c (setL [1, 3, 5, 5]) (errK k) W (Or.inr ⟨hb, rfl, rfl⟩) (by decide) (Row.nil _ _) (fun _ => hq)
theorem ep_1 : EP ⟨#[49]⟩ 0 1 0 := Or.inr (Or.inr ⟨by decide, by decide, rfl, Or.inl ⟨by decide +kernel, Or.inl ⟨by decide +kernel, by decide +kernel, rfl⟩⟩⟩)
theorem ep_3 : EP ⟨#[51]⟩ 0 3 0 := Or.inr (Or.inr ⟨by decide, by decide, rfl, Or.inl ⟨by decide +kernel, Or.inl ⟨by decide +kernel, by decide +kernel, rfl⟩⟩⟩)
theorem ep_5 : EP ⟨#[53]⟩ 0 5 0 := Or.inr (Or.inr ⟨by decide, by decide, rfl, Or.inl ⟨by decide +kernel, Or.inl ⟨by decide +kernel, by decide +kernel, rfl⟩⟩⟩)
theorem ep_4 : EP ⟨#[52]⟩ 0 4 0 := Or.inr (Or.inr ⟨by decide, by decide, rfl, Or.inl ⟨by decide +kernel, Or.inl ⟨by decide +kernel, by decide +kernel, rfl⟩⟩⟩)
theorem ps_13 : PsP [49, 46, 46, 51] (⟨0, 1, 0, 3⟩, 0) := rp_ofT (s := ⟨#[49, 46, 46, 51]⟩) (lo := ⟨#[49]⟩) (hi := ⟨#[51]⟩) (by decide +kernel) ep_1 ep_3 (Or.inr (Or.inr (Or.inr ⟨rfl, rfl, by decide +kernel, rfl, rfl, rfl, rfl, rfl⟩)))
theorem ps_55 : PsP [53, 46, 46, 53] (⟨0, 5, 0, 5⟩, 0) := rp_ofT (s := ⟨#[53, 46, 46, 53]⟩) (lo := ⟨#[53]⟩) (hi := ⟨#[53]⟩) (by decide +kernel) ep_5 ep_5 (Or.inr (Or.inr (Or.inr ⟨rfl, rfl, by decide +kernel, rfl, rfl, rfl, rfl, rfl⟩)))
theorem ps_44 : PsP [52, 46, 46, 52] (⟨0, 4, 0, 4⟩, 0) := rp_ofT (s := ⟨#[52, 46, 46, 52]⟩) (lo := ⟨#[52]⟩) (hi := ⟨#[52]⟩) (by decide +kernel) ep_4 ep_4 (Or.inr (Or.inr (Or.inr ⟨rfl, rfl, by decide +kernel, rfl, rfl, rfl, rfl, rfl⟩)))
theorem ps_no : PsP [] (⟨0, 0, 0, 0⟩, 5) := Or.inl ⟨by decide +kernel, rfl, rfl, rfl, rfl, rfl⟩
theorem sp_of {s : ByteArray} {fs : List (List UInt8)} {ys : List (Rq × Int)} {R : List Rq} {E : Int} (hn : s ≠ noneS) (hs : spl s.data.toList = fs) (h : PsL fs ys) (hR : R = prsR ys) (hE : E = prsE ys) : SP s R E :=
 Or.inr ⟨hn, ys, by rw [hs]; exact h, hR, hE⟩
theorem parseK : ∀ k, k < 4 → ∀ W, EnvR W → Calls Tryz.prog 34 #[.string (strK k)] W fun ro w' => ∃ p' n', ro = .returned (.tuple #[.slice p' n' n', .int .i64 (errK k)]) ∧ Row0 w' k p' n' (setL [1, 3, 5, 5]) ∧ Dn W w' := by
 intro k hk W hW
 rcases (show k = 0 ∨ k = 1 ∨ k = 2 ∨ k = 3 by omega) with rfl | rfl | rfl | rfl
 · refine (rsParse (strK 0) (setL [1, 3, 5, 5]) 0 W (by decide) (by decide +kernel) (sp_of (fs := [[49, 46, 46, 51], [53, 46, 46, 53]]) (by decide) (by decide +kernel) (psL_cons ps_13 (psL_cons ps_55 psL_nil)) (by decide +kernel) (by decide +kernel)) hW).mono ?_
   rintro e w' ⟨p', rfl, hr, q⟩
   exact ⟨p', _, rfl, ⟨rfl, hr⟩, q⟩
 · refine (rsParse (strK 1) [] 5 W (by decide) (by decide +kernel) (sp_of (fs := [[]]) (by decide) (by decide +kernel) (psL_cons ps_no psL_nil) (by decide +kernel) (by decide +kernel)) hW).mono ?_
   rintro e w' ⟨p', rfl, hr, q⟩
   exact ⟨p', _, rfl, rfl, q⟩
 · refine (rsParse (strK 2) [] 5 W (by decide) (by decide +kernel) (sp_of (fs := [[49, 46, 46, 51], []]) (by decide) (by decide +kernel) (psL_cons ps_13 (psL_cons ps_no psL_nil)) (by decide +kernel) (by decide +kernel)) hW).mono ?_
   rintro e w' ⟨p', rfl, hr, q⟩
   exact ⟨p', _, rfl, rfl, q⟩
 · refine (rsParse (strK 3) [] 12 W (by decide) (by decide +kernel) (sp_of (fs := [[49, 46, 46, 51], [52, 46, 46, 52]]) (by decide) (by decide +kernel) (psL_cons ps_13 (psL_cons ps_44 psL_nil)) (by decide +kernel) (by decide +kernel)) hW).mono ?_
   rintro e w' ⟨p', rfl, hr, q⟩
   exact ⟨p', _, rfl, rfl, q⟩
theorem lives10 (w : World) (hE : EnvR w) : Calls Tryz.prog 9 #[] w fun ro w' => ro = .returned (.bool true) ∧ Dn w w' :=
 lives10_walk strK errK [0, 5, 5, 12] errK (setL [5, 9, 1, 2, 3, 3, 8, 12]) (setL [1, 2, 5, 6]) (setL [3, 3]) (setL [1, 9]) (setL [3, 4, 6, 6]) (setL [1, 3, 5, 12]) (setL [1, 3, 5, 6]) (setL [1, 2, 5, 5, 7, 9]) (setL [1, 2, 3, 4]) (setL [5, 6, 1, 2]) (setL [1, 2, 4, 4]) (setL [4, 10]) (setL [0, 9223372036854775807]) (setL [4, 5, 9, 10]) (setL [2, 3]) (setL [1, 5, 9, 9]) (setL [1, 3, 7, 7]) (setL [1, 3, 5, 5]) ([⟨0, 1, 0, 4⟩, ⟨0, 7, 1, 0⟩]) ([⟨(-1), 0, 1, 0⟩]) ([⟨(-1), 0, 0, (-1)⟩])
  (Lib.hid (fun g W h => set10 g 8 8 _ 4 W rfl rfl (by decide) h))
  (Lib.hid (fun g W h => set10 g 4 4 _ 2 W rfl rfl (by decide) h))
  (Lib.hid (fun g W h => set10 g 2 2 _ 1 W rfl rfl (by decide) h))
  (Lib.hid (fun g W h => set10 g 2 2 _ 1 W rfl rfl (by decide) h))
  (Lib.hid (fun g W h => set10 g 4 4 _ 2 W rfl rfl (by decide) h))
  (Lib.hid (fun g W h => set10 g 4 4 _ 2 W rfl rfl (by decide) h))
  (Lib.hid (fun g W h => set10 g 4 4 _ 2 W rfl rfl (by decide) h))
  (Lib.hid (fun g W h => set10 g 6 6 _ 3 W rfl rfl (by decide) h))
  (Lib.hid (fun g W h => set10 g 4 4 _ 2 W rfl rfl (by decide) h))
  (Lib.hid (fun g W h => set10 g 4 4 _ 2 W rfl rfl (by decide) h))
  (Lib.hid (fun g W h => set10 g 4 4 _ 2 W rfl rfl (by decide) h))
  (Lib.hid (fun g W h => set10 g 2 2 _ 1 W rfl rfl (by decide) h))
  (Lib.hid (fun g W h => set10 g 2 2 _ 1 W rfl rfl (by decide) h))
  (Lib.hid (fun g W h => set10 g 4 4 _ 2 W rfl rfl (by decide) h))
  (Lib.hid (fun g W h => set10 g 2 2 _ 1 W rfl rfl (by decide) h))
  (Lib.hid (fun g W h => set10 g 4 4 _ 2 W rfl rfl (by decide) h))
  (Lib.hid (fun g W h => set10 g 4 4 _ 2 W rfl rfl (by decide) h))
  (Lib.hid (fun g W h => set10 g 4 4 _ 2 W rfl rfl (by decide) h))
  (Lib.hid (fun W p cap h => rsOf p cap _ 0 _ W (by decide +kernel) (by rw [if_pos rfl]; exact tOf.symm) (by decide) (by decide +kernel) h.row))
  (Lib.hid (fun W p cap q cap2 h k => rsUnionS p cap _ q cap2 _ 0 _ W (by rw [tUn]; decide +kernel) (by rw [tUn]; decide +kernel) h.nl k.nl (by decide) (by decide +kernel) h.row (by decide) (by decide +kernel) k.row))
  (Lib.hid (fun W p cap q cap2 h k => rsWithoutS p cap _ q cap2 _ 0 _ W (by rw [tWo]; decide +kernel) (by rw [tWo]; decide +kernel) h.le h.mx k.le k.mx (by decide) (by decide +kernel) h.row (by decide) (by decide +kernel) k.row))
  (Lib.hid (fun W p cap h => rsCheckE p cap _ 12 W (by decide +kernel) (by decide) (by decide +kernel) h.row))
  (Lib.hid (fun W p cap h => rsCheckE p cap _ 12 W (by decide +kernel) (by decide) (by decide +kernel) h.row))
  (Lib.hid (fun W p cap h => rsCheckE p cap _ 0 W (by decide +kernel) (by decide) (by decide +kernel) h.row))
  (Lib.hid (fun W p q cap2 h k => rsCommonS p 2 ([⟨0, 1, 0, 5⟩, ⟨0, 9, 1, 0⟩] : List Rq) q cap2 _ 0 _ W (by rw [tCo]; decide +kernel) (by rw [tCo]; decide +kernel) (by decide) (by decide) k.le k.mx (by decide) (by decide +kernel) h (by decide) (by decide +kernel) k.row))
  (Lib.hid (fun W p h => rsComplementS p 2 ([⟨(-1), 0, 0, 0⟩, ⟨0, 5, 0, 6⟩] : List Rq) 0 _ W (by decide +kernel) (by decide +kernel) (by decide) (by decide +kernel) h))
  (Lib.hid (fun W => rsComplementS none 0 [] 0 _ W (by decide +kernel) (by decide +kernel) (by decide) (by decide +kernel) (Row.nil _ _)))
  (Lib.hid (fun W p cap h => rsComplementS p cap _ 0 _ W (by decide +kernel) (by decide +kernel) (by decide) (by decide +kernel) h.row))
  (Lib.hid (fun W p cap q cap2 h k => rsWithinS p cap _ q cap2 _ 0 true W (by decide +kernel) (by decide +kernel) k.le k.mx (by decide) (by decide +kernel) h.row (by decide) (by decide +kernel) k.row))
  (Lib.hid (fun W p cap h => rsCount p cap _ 4 0 W (by decide +kernel) (by decide +kernel) (by decide) (by decide +kernel) h.row))
  (Lib.hid (fun W => rsMin none 0 [] 0 0 17 W (Or.inr (Or.inl ⟨by decide +kernel, rfl, rfl, rfl, rfl⟩)) (by decide) (by decide +kernel) (Row.nil _ _)))
  (Lib.hid (fun W p h => rsMax p 1 [⟨0, 1, 1, 0⟩] 1 0 0 W (Or.inr (Or.inr ⟨by decide +kernel, _, rfl, rfl, rfl, rfl⟩)) (by decide) (by decide +kernel) h))
  (Lib.hid (by decide))
  (Lib.hid (by decide))
  (Lib.hid (by decide))
  (Lib.hid (by decide))
  (Lib.hid (by decide))
  (Lib.hid (by decide))
  (Lib.hid (by decide))
  (Lib.hid (by decide))
  (Lib.hid (fun W p q h k => gv10 p _ ([⟨0, 1, 0, 4⟩, ⟨0, 7, 1, 0⟩] : List Rq) 0 q 2 ([⟨0, 1, 0, 4⟩, ⟨0, 7, 1, 0⟩] : List Rq) 0 W (Or.inl ⟨rfl, rfl, rfl, rfl⟩) (by decide) h (fun _ => k)))
  (Lib.hid (fun W p q h k => gv10 p _ ([⟨(-1), 0, 1, 0⟩] : List Rq) 0 q 1 ([⟨(-1), 0, 1, 0⟩] : List Rq) 0 W (Or.inl ⟨rfl, rfl, rfl, rfl⟩) (by decide) h (fun _ => k)))
  (Lib.hid (fun W p q h k => gv10 p _ ([⟨(-1), 0, 0, (-1)⟩] : List Rq) 0 q 1 ([⟨(-1), 0, 0, (-1)⟩] : List Rq) 0 W (Or.inl ⟨rfl, rfl, rfl, rfl⟩) (by decide) h (fun _ => k)))
  (Lib.hid (strK_at))
  (Lib.hid (rfl))
  (Lib.hid (wantK_at))
  (Lib.hid (givesK))
  (Lib.hid (parseK)) w hE
theorem ok_app {a b : List Rq} (ha : Sep a) (hb : Sep b) : ∀ x ∈ a ++ b, x.ok := fun x hx => (List.mem_append.1 hx).elim (Sep.all ha x) (Sep.all hb x)
theorem union_same {a b : List Rq} (ha : Sep a) (hb : Sep b) : joinedL (srt (a ++ b)) = b.foldl putL a := union_eq ha hb (srt_asc (ok_app ha hb)) (fun x => by rw [srt_mem, List.mem_append])
theorem res_ok {c : Int} {M : List Rq} (h : fin3 c M = 0) : res3 c M = M := by unfold res3; rw [if_pos h]
theorem fin_zero {c : Int} {M : List Rq} (h : c = 0) (hl : M.length ≤ 4096) : fin3 c M = 0 := by subst h; exact fin3_small (by omega)
theorem wo_len {a b : List Rq} (ha : Sep a) (hb : Sep b) : (woL a b).length ≤ a.length + b.length + 1 := by
 rw [← without_eq ha hb]
 have h1 := jn_len a (cplL b)
 have h2 := cplL_len b
 omega
theorem cm_len {a b : List Rq} (ha : Sep a) (hb : Sep b) : (cmL a b).length ≤ a.length + b.length := by rw [← common_eq ha hb]; exact jn_len a b
theorem un_len (a b : List Rq) : (b.foldl putL a).length ≤ a.length + b.length := foldP_len b a
theorem i6_sep {L : List Rq} (h : Sep L) : I6 L := sep_i6 (Sep.all h)
theorem sep_union {a b : List Rq} (ha : Sep a) (hb : Sep b) : Sep (b.foldl putL a) := (putAll_law ha (Sep.all hb)).1
theorem sep_common {a b : List Rq} (ha : Sep a) (hb : Sep b) : Sep (cmL a b) := (cmL_law (Sep.all ha) (Sep.all hb)).1
theorem sep_without {a b : List Rq} (ha : Sep a) (hb : Sep b) : Sep (woL a b) := (wo_law ha (Sep.all hb)).1
theorem chk_of {L : List Rq} (hI : I6 L) (h : Sep L) (hl : L.length ≤ 4096) : chkL L = 0 := by unfold chkL; rw [if_neg (by omega)]; exact sep_chk h
theorem hasL_iff {L : List Rq} (h : Sep L) {k : Int} : HasL L k ↔ Mem k L := hasL_mem (Sep.all h)
theorem has_union {a b : List Rq} (ha : Sep a) (hb : Sep b) (k : Int) : decide (HasL (b.foldl putL a) k) = (decide (HasL a k) || decide (HasL b k)) := by
 have : HasL (b.foldl putL a) k ↔ HasL a k ∨ HasL b k := by rw [hasL_iff (sep_union ha hb), hasL_iff ha, hasL_iff hb]; exact union_day ha hb
 simp [this]
theorem has_common {a b : List Rq} (ha : Sep a) (hb : Sep b) (k : Int) : decide (HasL (cmL a b) k) = (decide (HasL a k) && decide (HasL b k)) := by
 have : HasL (cmL a b) k ↔ HasL a k ∧ HasL b k := by rw [hasL_iff (sep_common ha hb), hasL_iff ha, hasL_iff hb]; exact common_day ha hb
 simp [this]
theorem has_without {a b : List Rq} (ha : Sep a) (hb : Sep b) {k : Int} (hk : I64 k) : decide (HasL (woL a b) k) = (decide (HasL a k) && !decide (HasL b k)) := by
 have : HasL (woL a b) k ↔ HasL a k ∧ ¬ HasL b k := by rw [hasL_iff (sep_without ha hb), hasL_iff ha, hasL_iff hb]; exact without_day ha hb hk
 simp [this]
theorem has_cpl {l : List Rq} (h : Sep l) {k : Int} (hk : I64 k) : decide (HasL (cplL l) k) = !decide (HasL l k) := by
 have : HasL (cplL l) k ↔ ¬ HasL l k := by rw [hasL_iff (cpl_law h).1, hasL_iff h]; exact cpl_day h hk
 simp [this]
theorem within_same {a b : List Rq} (ha : Sep a) (hb : Sep b) : wtn a b = decide (WtP a b) := by
 have := wtn_law ha hb
 cases h : wtn a b with
 | true => simp [this.1 h]
 | false =>
   have : ¬ WtP a b := fun hw => by rw [this.2 hw] at h; cases h
   simp [this]
set_option maxHeartbeats 4000000
set_option maxRecDepth 100000
def m8 (x : Int × Int) : Int × Int := (x.1 % 8, x.2 % 8)
theorem take_snoc {α : Type} {l : List α} {k : Nat} {x : α} (h : l[k]? = some x) : l.take (k + 1) = l.take k ++ [x] := by
 rw [List.take_add_one, h]; rfl
def atk (at_ : Int) : List (Int × Int) → Int
 | [] => at_
 | p :: t => atk (at_ + 2 + p.1 + p.2) t
theorem sOf_snoc : ∀ (t : List (Int × Int)) (at_ : Int) (p : Int × Int), sOf at_ (t ++ [p]) = sOf at_ t ++ [⟨0, atk at_ t + 2 + p.1, 0, atk at_ t + 2 + p.1 + p.2⟩]
 | [], _, _ => rfl
 | q :: t, at_, p => by
   have := sOf_snoc t (at_ + 2 + q.1 + q.2) p
   simp only [List.cons_append, sOf, atk, this]
theorem atk_snoc : ∀ (t : List (Int × Int)) (at_ : Int) (p : Int × Int), atk at_ (t ++ [p]) = atk at_ t + 2 + p.1 + p.2
 | [], _, _ => rfl
 | q :: t, at_, p => by
   have := atk_snoc t (at_ + 2 + q.1 + q.2) p
   simp only [List.cons_append, atk, this]
theorem sOf_len : ∀ (t : List (Int × Int)) (at_ : Int), (sOf at_ t).length = t.length
 | [], _ => rfl
 | q :: t, at_ => by simp [sOf, sOf_len t]
theorem atk_bound : ∀ {t : List (Int × Int)} {at_ : Int}, (∀ p ∈ t, 0 ≤ p.1 ∧ p.1 ≤ 7 ∧ 0 ≤ p.2 ∧ p.2 ≤ 7) → at_ ≤ atk at_ t ∧ atk at_ t ≤ at_ + 16 * (t.length : Int)
 | [], at_, _ => by simp [atk]
 | q :: t, at_, h => by
   have hq := h q List.mem_cons_self
   obtain ⟨h1, h2⟩ := atk_bound (t := t) (at_ := at_ + 2 + q.1 + q.2) (fun p hp => h p (List.mem_cons_of_mem _ hp))
   simp only [atk, List.length_cons]
   omega
theorem m8_in (L : List (Int × Int)) : ∀ p ∈ L.map m8, 0 ≤ p.1 ∧ p.1 ≤ 7 ∧ 0 ≤ p.2 ∧ p.2 ≤ 7 := by
 intro p hp
 obtain ⟨x, _, rfl⟩ := List.mem_map.1 hp
 show 0 ≤ x.1 % 8 ∧ x.1 % 8 ≤ 7 ∧ 0 ≤ x.2 % 8 ∧ x.2 % 8 ≤ 7
 omega
def ofS (f : Int) (L : List (Int × Int)) (e : Int) : List Rq :=
 if e % 8 = 2 ∨ e % 8 = 3 then highL (if e % 8 = 1 ∨ e % 8 = 3 then lowF (sOf f ((L.take 12).map m8)) else sOf f ((L.take 12).map m8)) else (if e % 8 = 1 ∨ e % 8 = 3 then lowF (sOf f ((L.take 12).map m8)) else sOf f ((L.take 12).map m8))
theorem lowF_len (l : List Rq) : (lowF l).length = l.length := by cases l <;> rfl
theorem highL_len : ∀ l : List Rq, (highL l).length = l.length
 | [] => rfl
 | [_] => rfl
 | x :: y :: t => by simp only [highL, List.length_cons, highL_len (y :: t)]
theorem ofS_len (f : Int) (L : List (Int × Int)) (e : Int) : (ofS f L e).length ≤ 12 := by
 have : (sOf f ((L.take 12).map m8)).length ≤ 12 := by rw [sOf_len]; simp; omega
 unfold ofS
 repeat' split
 all_goals first | exact this | (simp only [highL_len, lowF_len]; exact this)
theorem ofS_law {f : Int} (L : List (Int × Int)) (e : Int) (hf : -40 < f ∧ f < 40) : Sep (ofS f L e) ∧ SmallL (ofS f L e) := by
 have hl : ((L.take 12).map m8).length ≤ 12 := by simp; omega
 obtain ⟨h1, h2, _⟩ := sOf_law (t := (L.take 12).map m8) (at_ := f) (m8_in _) (by omega) (by omega)
 unfold ofS
 have k1 : Sep (if e % 8 = 1 ∨ e % 8 = 3 then lowF (sOf f ((L.take 12).map m8)) else sOf f ((L.take 12).map m8)) ∧ SmallL (if e % 8 = 1 ∨ e % 8 = 3 then lowF (sOf f ((L.take 12).map m8)) else sOf f ((L.take 12).map m8)) := by
   split
   · exact low_law h1 h2
   · exact ⟨h1, h2⟩
 split
 · exact high_law k1.1 k1.2
 · exact k1
theorem OwnQ.putLo {w : World} {base g cap n : Nat} {L : List Rq} (h : OwnQ w base (.slice (some ⟨g, 0, none⟩) n cap) L) (hn : L.length = n) (hk : 0 < n) :
   OwnQ ((w.setCell ⟨g, 0, none⟩ (.int .i8 (-1))).setCell ⟨g, 1, none⟩ (.int .i64 0)) base (.slice (some ⟨g, 0, none⟩) n cap) (lowF L) := by
 subst hn
 have h1 := (h.own.stored 0 (.int .i8 (-1))).1
 have h2 := (h1.stored 1 (.int .i64 0)).1
 refine ⟨?_⟩
 rw [lowF_len]
 cases L with
 | nil => simp at hk
 | cons x t => simpa [lowF, qc] using h2
theorem high_cells : ∀ {L : List Rq} {k : Nat}, L.length = k + 1 → ((L.flatMap qc).set (k * 4 + 2) (.int .i8 1)).set (k * 4 + 3) (.int .i64 0) = (highL L).flatMap qc
 | [x], k, h => by
   have : k = 0 := by simpa using h.symm
   subst this
   simp [highL, qc]
 | x :: y :: t, k, h => by
   obtain ⟨m, rfl⟩ : ∃ m, k = m + 1 := ⟨k - 1, by simp at h; omega⟩
   have ih := high_cells (L := y :: t) (k := m) (by simpa using h)
   show (((x :: y :: t).flatMap qc).set ((m + 1) * 4 + 2) (.int .i8 1)).set ((m + 1) * 4 + 3) (.int .i64 0) = (x :: highL (y :: t)).flatMap qc
   show ((qc x ++ (y :: t).flatMap qc).set ((m + 1) * 4 + 2) (.int .i8 1)).set ((m + 1) * 4 + 3) (.int .i64 0) = qc x ++ (highL (y :: t)).flatMap qc
   rw [← ih]
   have l4 : (qc x).length = 4 := rfl
   have e2 : (m + 1) * 4 + 2 = 4 + (m * 4 + 2) := by omega
   have e3 : (m + 1) * 4 + 3 = 4 + (m * 4 + 3) := by omega
   rw [e2, e3, List.set_append_right _ _ (by omega), List.set_append_right _ _ (by omega)]
   simp only [l4, Nat.add_sub_cancel_left]
theorem OwnQ.putHi {w : World} {base g cap k : Nat} {L : List Rq} (h : OwnQ w base (.slice (some ⟨g, 0, none⟩) (k + 1) cap) L) (hn : L.length = k + 1) :
  OwnQ ((w.setCell ⟨g, k * 4 + 2, none⟩ (.int .i8 1)).setCell ⟨g, k * 4 + 3, none⟩ (.int .i64 0)) base (.slice (some ⟨g, 0, none⟩) (k + 1) cap) (highL L) := by
 have h0 := h.own
 rw [hn] at h0
 have h1 := (h0.stored (k * 4 + 2) (.int .i8 1)).1
 have h2 := (h1.stored (k * 4 + 3) (.int .i64 0)).1
 refine ⟨?_⟩
 rw [highL_len, hn, ← high_cells hn]
 exact h2
theorem OwnQ.rlS {w : World} {base g cap n : Nat} {L : List Rq} (h : OwnQ w base (.slice (some ⟨g, 0, none⟩) n cap) L) : Rl w (some ⟨g, 0, none⟩) cap L ∧ n = L.length := by
 obtain ⟨p, c, e, r⟩ := h.rl
 injection e with e1 e2 e3
 subst e1 e3
 exact ⟨r, e2⟩
theorem sOf10 (f : Int) (p : Option Addr) (cap : Nat) (L : List (Int × Int)) (e : Int) (w : World) (hf : -40 < f ∧ f < 40) (hP : Pl w p cap L) (hB : B8 L) (he : 0 ≤ e ∧ e ≤ 255) (hlm : L.length ≤ 9223372036854775807) :
  Calls Tryz.prog 23 #[.agg #[.int .i16 f, .slice p L.length cap, .int .u8 e]] w fun ro w' => ∃ p' cap', ro = .returned (.slice p' (ofS f L e).length cap') ∧ Rl w' p' cap' (ofS f L e) ∧ Dn w w' := by
 generalize hR : ofS f L e = R
 have HR0 := Lib.hid hR
 clear hR
 go_enter Tryz.func23, Tryz.ntmps23
 have HP := Lib.hid hP
 clear hP
 go_wp2_with fail
 obtain ⟨w1, h1⟩ : ∃ w1, w1 = w.alloc (.cells #[.int .i16 f, .slice p L.length cap, .int .u8 e] 49) := ⟨_, rfl⟩
 have hu1 : Dn w w1 := by rw [h1]; exact (Dn.refl _).alloc _
 have b0 : w1.cell? ⟨w.heap.size, 0, none⟩ = some (.int .i16 f) := by rw [h1]; simp [go_sem]
 have b1 : w1.cell? ⟨w.heap.size, 1, none⟩ = some (.slice p L.length cap) := by rw [h1]; simp [go_sem]
 have b2 : w1.cell? ⟨w.heap.size, 2, none⟩ = some (.int .u8 e) := by rw [h1]; simp [go_sem]
 rw [← h1]
 clear h1
 have hf6 : I64 f := by unfold I64; omega
 have HF := Lib.hid hf
 have HE := Lib.hid he
 have HW1 := Lib.hid hu1
 have HP1 := Lib.hid (HP.out.dn hu1)
 have HB := Lib.hid hB
 clear HP hf he hu1 hB
 go_loopw [3, 4, 5, 6] (fun ov av iv lv wr => ∃ k : Nat, k ≤ 12 ∧ k ≤ L.length ∧ iv = .int .i64 k ∧ av = .int .i64 (atk f ((L.take k).map m8)) ∧ OwnQ wr w1.heap.size ov (sOf f ((L.take k).map m8)) ∧ Dn w1 wr) (fun _ _ iv _ _ => 12 - (intOf iv).toNat)
 case atStart => exact ⟨0, by omega, by omega, rfl, rfl, OwnQ.nil _ _, Dn.refl _⟩
 case round =>
  obtain ⟨k, hk12, hkl, rfl, rfl, hown, hu⟩ := hrel
  replace b0 := hu.cell b0
  replace b1 := hu.cell b1
  replace b2 := hu.cell b2
  have hab : -40 < atk f ((L.take k).map m8) ∧ atk f ((L.take k).map m8) < 240 := by
    have h1 := atk_bound (t := (L.take k).map m8) (at_ := f) (m8_in _)
    have h2 : ((L.take k).map m8).length ≤ 12 := by simp; omega
    have h3 := HF.out
    omega
  have HOWN := Lib.hid hown
  have HU := Lib.hid hu
  clear hown hu
  by_cases hkk : k < L.length ∧ k < 12
  · obtain ⟨hk1, hk2⟩ := hkk
    obtain ⟨x, hx⟩ : ∃ x, L[k]? = some x := ⟨L[k], List.getElem?_eq_getElem _⟩
    have hset : sOf f ((L.take (k + 1)).map m8) = sOf f ((L.take k).map m8) ++ [⟨0, atk f ((L.take k).map m8) + 2 + (m8 x).1, 0, atk f ((L.take k).map m8) + 2 + (m8 x).1 + (m8 x).2⟩] := by
      rw [take_snoc hx, List.map_append]; exact sOf_snoc _ _ _
    have hat : atk f ((L.take (k + 1)).map m8) = atk f ((L.take k).map m8) + 2 + (m8 x).1 + (m8 x).2 := by
      rw [take_snoc hx, List.map_append]; exact atk_snoc _ _ _
    obtain ⟨g, o, rfl, hgl, hcl⟩ : ∃ g o, p = some ⟨g, o, none⟩ ∧ g < w1.heap.size ∧ ∀ k x, L[k]? = some x → w1.cell? ⟨g, o + k * 2, none⟩ = some (.int .u8 x.1) ∧ w1.cell? ⟨g, o + k * 2 + 1, none⟩ = some (.int .u8 x.2) := by
      rcases HP1.out.row with h | h
      · rw [h] at hk1; exact absurd hk1 (by simp)
      · exact h
    have c0 := HU.out.cell (hcl k x hx).1
    have c1 := HU.out.cell (hcl k x hx).2
    have hx8 := HB.out x (List.mem_of_getElem? hx)
    have hol : (sOf f ((L.take k).map m8)).length ≤ 1000000 := by rw [sOf_len]; simp; omega
    have HOL := Lib.hid hol
    have HSET := Lib.hid hset
    have HAT := Lib.hid hat
    have HK1 := Lib.hid hk1
    have HK2 := Lib.hid hk2
    clear hset hat hcl hx hol
    simp only [m8] at HSET HAT
    generalize sOf f ((L.take k).map m8) = O at *
    generalize atk f ((L.take k).map m8) = a at *
    obtain ⟨u, v⟩ := x
    simp only at c0 c1 hx8 HSET HAT
    have tu : Int.tmod u 8 = u % 8 := Int.tmod_eq_emod_of_nonneg hx8.1.1
    have tv : Int.tmod v 8 = v % 8 := Int.tmod_eq_emod_of_nonneg hx8.2.1
    obtain ⟨y, hy⟩ : ∃ y, u % 8 = y := ⟨_, rfl⟩
    obtain ⟨z, hz⟩ : ∃ z, v % 8 = z := ⟨_, rfl⟩
    rw [hy] at tu
    rw [hz] at tv
    have hy7 : 0 ≤ y ∧ y ≤ 7 := by omega
    have hz7 : 0 ≤ z ∧ z ≤ 7 := by omega
    rw [hy, hz] at HSET HAT
    have d1 : decide ((k : Int) < L.length) = true := by simp; omega
    have d2 : decide ((k : Int) < 12) = true := by simp; omega
    have d3 : (0 : Int) ≤ k := by omega
    have d4 : (k : Int) < L.length := by omega
    have d5 : (k : Int) < 12 := by omega
    have e1 : IntKind.i64.wrap (a + 2) = a + 2 := IntWalk.i64_in _ (by omega)
    have e2 : IntKind.i64.wrap (a + 2 + y) = a + 2 + y := IntWalk.i64_in _ (by omega)
    have e3 : IntKind.i64.wrap (a + 2 + y + z) = a + 2 + y + z := IntWalk.i64_in _ (by omega)
    have e4 : IntKind.i64.wrap y = y := IntWalk.i64_in _ (by omega)
    have e5 : IntKind.i64.wrap z = z := IntWalk.i64_in _ (by omega)
    have e6 : IntKind.i64.wrap ((k : Int) + 1) = ((k + 1 : Nat) : Int) := by rw [IntWalk.i64_in _ (by omega)]; omega
    clear hx8 hy7 hz7 hab hk12 hkl hy hz
    go_wp2_with (at_builtin; refine list_run rfl _ _ rfl wr w1.heap.size u3 O 0 (a + 2 + y) 0 (a + 2 + y + z) rfl HOWN.out rfl HOL.out HU.out.size ?_)
    intro v' w' hown' hold hdn
    replace hdn := hdn w1 HU.out rfl
    clear hold
    go_wp2_with fail
    go_roundw
    case rel => exact ⟨k + 1, by have := HK2.out; omega, HK1.out, by simp, by rw [HAT.out], by rw [HSET.out]; exact hown', hdn⟩
    case measure => have := HK2.out; simp [intOf]; omega
  · have eT : L.take 12 = L.take k := by
      rcases Nat.lt_or_ge k L.length with h | h
      · rw [show k = 12 by omega]
      · rw [List.take_of_length_le (by omega), List.take_of_length_le (by omega)]
    have dE : ofS f L e = if e % 8 = 2 ∨ e % 8 = 3 then highL (if e % 8 = 1 ∨ e % 8 = 3 then lowF (sOf f ((L.take k).map m8)) else sOf f ((L.take k).map m8)) else (if e % 8 = 1 ∨ e % 8 = 3 then lowF (sOf f ((L.take k).map m8)) else sOf f ((L.take k).map m8)) := by unfold ofS; rw [eT]
    have hSl : (sOf f ((L.take k).map m8)).length ≤ 12 := by rw [sOf_len]; simp; omega
    have HKK := Lib.hid hkk
    have d3 : (0 : Int) ≤ k := by omega
    have dk : (decide ((k : Int) < L.length) = true ∧ (k : Int) < L.length ∧ decide ((k : Int) < 12) = false ∧ ¬ (k : Int) < 12) ∨ (decide ((k : Int) < L.length) = false ∧ ¬ (k : Int) < L.length) := by
      rcases Nat.lt_or_ge k L.length with h | h
      · left; simp; omega
      · right; simp; omega
    have hrx := HR0.out.symm.trans dE
    clear hkk eT HF HR0 dE
    generalize sOf f ((L.take k).map m8) = S at *
    generalize atk f ((L.take k).map m8) = a at *
    by_cases hS : S = []
    · subst hS
      obtain ⟨p', cap', rfl, hrow⟩ := HOWN.out.rl
      have HR := Lib.hid hrow
      clear hrow HOWN hSl
      simp only [List.length_nil] at *
      have HRX : Hid (R = []) := Lib.hid (by
        rw [hrx]
        split <;> split <;> rfl)
      clear hrx
      rcases dk with ⟨d1, d2, d4, d5⟩ | ⟨d1, d2⟩
      all_goals
        go_wp2_with fail
        go_ret
        exact ⟨p', cap', by rw [HRX.out]; rfl, by rw [HRX.out]; exact HR.out, HW1.out.trans HU.out⟩
    · obtain ⟨m, hm⟩ : ∃ m, S.length = m + 1 := ⟨S.length - 1, by have := List.length_pos_iff.2 hS; omega⟩
      rcases HOWN.out.form with ⟨_, h0⟩ | ⟨g, cap', rfl, hbg, h1, h2, hc⟩
      · exact absurd h0 hS
      have hown := HOWN.out
      rw [hm] at hown h1 ⊢
      have z0 := hown.frozen hm.symm 0
      have z1 := hown.frozen hm.symm 1
      have z2 := hown.frozen hm.symm (m * 4 + 2)
      have z3 := hown.frozen hm.symm (m * 4 + 3)
      have hgl := hc.lt
      obtain ⟨r0, hr0⟩ : ∃ r0, S[0]? = some r0 := ⟨S[0]'(by omega), List.getElem?_eq_getElem _⟩
      obtain ⟨rm, hrm⟩ : ∃ rm, S[m]? = some rm := ⟨S[m]'(by omega), List.getElem?_eq_getElem _⟩
      obtain ⟨x0, x1, x2, x3⟩ := hc.el 0 r0 hr0
      obtain ⟨y0, y1, y2, y3⟩ := hc.el m rm hrm
      simp only [Nat.zero_mul, Nat.zero_add] at x0 x1 x2 x3 y0 y1 y2 y3
      clear x2 x3 y0 y1 hr0 hrm
      have n1 : ¬ (0 = m * 4 + 2) := by omega
      have n2 : ¬ (1 = m * 4 + 2) := by omega
      have n3 : ¬ (0 = m * 4 + 3) := by omega
      have n4 : ¬ (1 = m * 4 + 3) := by omega
      have n5 : ¬ (m * 4 + 2 = 0) := by omega
      have n6 : ¬ (m * 4 + 2 = 1) := by omega
      have n7 : ¬ (m * 4 + 3 = 0) := by omega
      have n8 : ¬ (m * 4 + 3 = 1) := by omega
      have HO := Lib.hid hown
      have HM := Lib.hid hm
      have k1 : decide ((m : Int) + 1 > 0) = true := by simp <;> omega
      have k2 : (0 : Int) < (m : Int) + 1 := by omega
      have k3 : (m : Int) < (m : Int) + 1 := by omega
      have k4 : IntKind.i64.wrap (m : Int) = m := IntWalk.i64_in _ (by omega)
      clear hown hm hS hc HOWN h1 h2 hSl
      rcases (show e % 8 = 1 ∨ e % 8 = 2 ∨ e % 8 = 3 ∨ (e % 8 ≠ 1 ∧ e % 8 ≠ 2 ∧ e % 8 ≠ 3) by omega) with he | he | he | he
      ·
        rw [if_neg (by omega), if_pos (by omega)] at hrx
        have HRX := Lib.hid hrx
        have te : Int.tmod e 8 = 1 := by rw [Int.tmod_eq_emod_of_nonneg HE.out.1]; exact he
        clear hrx he HE
        rcases dk with ⟨d1, d2, d4, d5⟩ | ⟨d1, d2⟩
        all_goals
         go_wp2_with fail
         go_ret
         exact ⟨some ⟨g, 0, none⟩, cap', by rw [HRX.out, ((lowF_len S).trans HM.out)]; rfl, by rw [HRX.out]; exact (HO.out.putLo HM.out (by omega)).rlS.1, HW1.out.trans ((HU.out.setCell hbg _).setCell hbg _)⟩
      ·
        rw [if_pos (by omega), if_neg (by omega)] at hrx
        have HRX := Lib.hid hrx
        have te : Int.tmod e 8 = 2 := by rw [Int.tmod_eq_emod_of_nonneg HE.out.1]; exact he
        clear hrx he HE
        rcases dk with ⟨d1, d2, d4, d5⟩ | ⟨d1, d2⟩
        all_goals
         go_wp2_with fail
         go_ret
         exact ⟨some ⟨g, 0, none⟩, cap', by rw [HRX.out, ((highL_len _).trans HM.out)]; rfl, by rw [HRX.out]; exact (HO.out.putHi HM.out).rlS.1, HW1.out.trans ((HU.out.setCell hbg _).setCell hbg _)⟩
      ·
        rw [if_pos (by omega), if_pos (by omega)] at hrx
        have HRX := Lib.hid hrx
        have te : Int.tmod e 8 = 3 := by rw [Int.tmod_eq_emod_of_nonneg HE.out.1]; exact he
        clear hrx he HE
        rcases dk with ⟨d1, d2, d4, d5⟩ | ⟨d1, d2⟩
        all_goals
         go_wp2_with fail
         go_ret
         exact ⟨some ⟨g, 0, none⟩, cap', by rw [HRX.out, ((highL_len _).trans ((lowF_len S).trans HM.out))]; rfl, by rw [HRX.out]; exact ((HO.out.putLo HM.out (by omega)).putHi ((lowF_len S).trans HM.out)).rlS.1, HW1.out.trans ((((HU.out.setCell hbg _).setCell hbg _).setCell hbg _).setCell hbg _)⟩
      ·
        obtain ⟨he1, he2, he3⟩ := he
        rw [if_neg (by omega), if_neg (by omega)] at hrx
        have HRX := Lib.hid hrx
        have te := Int.tmod_eq_emod_of_nonneg (b := 8) HE.out.1
        rw [← te] at he1 he2 he3
        have q1 : (Int.tmod e 8 == 1) = false := by simpa using he1
        have q2 : (Int.tmod e 8 == 2) = false := by simpa using he2
        have q3 : (Int.tmod e 8 == 3) = false := by simpa using he3
        clear he1 he2 he3
        clear hrx HE te
        rcases dk with ⟨d1, d2, d4, d5⟩ | ⟨d1, d2⟩
        all_goals
         go_wp2_with fail
         go_ret
         exact ⟨some ⟨g, 0, none⟩, cap', by rw [HRX.out, HM.out]; rfl, by rw [HRX.out]; exact HO.out.rlS.1, HW1.out.trans HU.out⟩
end Go.Proofs.YtoghoddjkdoohaaGreatDoor
