/- Walks and laws that the claim's theorem leans on: part 23. -/
import Derived.Test.YtoghoddjkdoohaaGreatDoorZOf1
import Derived.Test.YtoghoddjkdoohaaGreatDoorZOf9
import Derived.Test.YtoghoddjkdoohaaGreatDoorZOf14
import Derived.Test.YtoghoddjkdoohaaGreatDoorZOf16
import Derived.Test.YtoghoddjkdoohaaGreatDoorZOf18
import Derived.Test.YtoghoddjkdoohaaGreatDoorZOf19
import Derived.Test.YtoghoddjkdoohaaGreatDoorZOf20
import Derived.Test.YtoghoddjkdoohaaGreatDoorZOf21
import Derived.Test.YtoghoddjkdoohaaGreatDoorZOf22
namespace Go.Proofs.YtoghoddjkdoohaaGreatDoor
set_option maxHeartbeats 4000000
set_option maxRecDepth 100000
open Go.RowKit
set_option linter.unusedVariables false
set_option linter.unusedSimpArgs false
theorem slCollect (B : Nat) (p : Option Addr) (cap : Nat) (L : List Rq) (w : World) (hl : L.length ≤ 100000) (hB : w.cell? ⟨B, 0, none⟩ = some (.slice p L.length cap)) (hR : Row w p L) :
  Calls Tryz.prog 85 #[.func (.func 86) #[] #[.pointer (some ⟨B, 0, none⟩)]] w fun e w' => ∃ v : Value, e = .returned v ∧ OwnQ w' w.heap.size v L ∧ Dn w w' := by
 refine (callsIn_wide (n := 6)).1 ?_
 have e11 : ∀ args w, (callFunc 126 args).run Tryz.prog w = .ok (.enter 126 args) w := enters_of Tryz.func126 (by kernel_rfl) rfl
 have e86 : ∀ args w, (callFunc 86 args).run Tryz.prog w = .ok (.enter 86 args) w := enters_of Tryz.func86 (by kernel_rfl) rfl
 have hseq : ∀ W, Dn w W → CallsIn Fence.wide 5 Tryz.prog 126 #[.slice none 0 0, .func (.func 86) #[] #[.pointer (some ⟨B, 0, none⟩)]] W fun e w' => ∃ v : Value, e = .returned v ∧ OwnQ w' W.heap.size v L ∧ Dn W w' := fun W h =>
  slAppendSeq Fence.wide 5 trivial rfl (by omega) 86 #[.pointer (some ⟨B, 0, none⟩)] trivial e86 L hl W (vals_give Fence.wide 4 trivial rfl (by omega) B p cap L W hl (h.cell hB) (hR.dn h))
 have HS := Lib.hid hseq
 clear hseq hB hR
 refine callsIn_of_wp Tryz.func85 rfl trivial ?_ rfl
 simp only [Tryz.ntmps85, List.size_toArray, List.length_cons, List.length_nil, Nat.reduceAdd, Nat.reduceSub, Array.replicate_succ, Array.replicate_zero, List.push_toArray, List.append_toArray, List.nil_append, List.cons_append]
 gi_wp2_with fail
 refine ⟨trivial, (HS.out _ (Dn.refl _)).mono ?_⟩
 rintro e w' ⟨v, rfl, hown, hd⟩
 gi_wp2_with fail
 go_ret
 exact ⟨v, rfl, hown, hd⟩
theorem slValues (p : Option Addr) (cap : Nat) (L : List Rq) (w : World) (hR : Row w p L) :
  Calls Tryz.prog 42 #[.slice p L.length cap] w fun ro w' => ∃ B : Nat, ro = .returned (.func (.func 86) #[] #[.pointer (some ⟨B, 0, none⟩)]) ∧ w'.cell? ⟨B, 0, none⟩ = some (.slice p L.length cap) ∧ Dn w w' := by
 have HR := Lib.hid hR
 clear hR
 go_enter Tryz.func42, Tryz.ntmps42
 go_wp2_with fail
 obtain ⟨W1, hW1⟩ : ∃ W1, W1 = w.alloc (.cells #[.slice p L.length cap] 22) := ⟨_, rfl⟩
 have u1 : Dn w W1 := by rw [hW1]; exact (Dn.refl _).alloc _
 have cB : W1.cell? ⟨w.heap.size, 0, none⟩ = some (.slice p L.length cap) := by rw [hW1]; simp [go_sem]
 rw [← hW1]
 clear hW1
 go_ret
 exact ⟨w.heap.size, rfl, cB, u1⟩
theorem slSortedFunc (B : Nat) (p : Option Addr) (cap : Nat) (L : List Rq) (w : World) (hl : L.length ≤ 100000) (hB : w.cell? ⟨B, 0, none⟩ = some (.slice p L.length cap)) (hR : Row w p L) :
  Calls Tryz.prog 41 #[.func (.func 86) #[] #[.pointer (some ⟨B, 0, none⟩)], .func (.func 43) #[] #[]] w fun ro w' => ∃ p' cap', ro = .returned (.slice p' (srt L).length cap') ∧ Row w' p' (srt L) ∧ Dn w w' := by
 have HC := Lib.hid (slCollect B p cap L w hl hB hR)
 have HS := Lib.hid (fun W base v (h : OwnQ W base v L) => slSortV base v L W h (by omega))
 clear hB hR
 go_enter Tryz.func41, Tryz.ntmps41
 go_wp2_with fail
 refine HC.out.mono ?_
 rintro e wc ⟨v, rfl, hown, qc⟩
 have HOWN := Lib.hid hown
 clear hown
 go_wp2_with fail
 refine (HS.out _ _ v HOWN.out).mono ?_
 rintro e ws ⟨rfl, ⟨p3, c3, rfl, hrs⟩, hdn⟩
 have us := hdn w qc (Nat.le_refl _)
 have HRS := Lib.hid hrs
 clear hrs hdn
 go_wp2_with fail
 go_ret
 first | exact ⟨p3, c3, rfl, HRS.out, us⟩ | exact ⟨p3, ⟨c3, rfl⟩, HRS.out, us⟩
theorem rsOf (p : Option Addr) (cap : Nat) (L : List Rq) (E : Int) (R : List Rq) (w : World) (hE : E = ofE L) (hRR : R = if E = 0 then joinedL (srt L) else []) (hl : L.length ≤ 100000) (hI : I6 L) (hR : Row w p L) :
   Calls Tryz.prog 10 #[.slice p L.length cap] w fun ro w' => ∃ p', ro = .returned (.tuple #[.slice p' R.length R.length, .int .i64 E]) ∧ Row w' p' R ∧ Dn w w' := by
 have HI := Lib.hid hI
 clear hI
 by_cases h4 : 4096 < L.length
 · have d0 : decide ((L.length : Int) > 4096) = true := by simp; omega
   obtain rfl : E = 3 := by rw [hE]; unfold ofE; rw [if_pos h4]
   obtain rfl : R = [] := by rw [hRR, if_neg (by decide)]
   clear hE hRR
   go_enter Tryz.func10, Tryz.ntmps10
   go_wp2_with fail
   go_ret2
   exact ⟨none, rfl, rownil _, Dn.refl _⟩
 have d0 : decide ((L.length : Int) > 4096) = false := by simp; omega
 have HE : Hid (E = errL (L.drop 0)) := Lib.hid (by rw [hE]; unfold ofE; rw [if_neg h4]; rfl)
 have HRR := Lib.hid hRR
 clear hE hRR
 go_enter Tryz.func10, Tryz.ntmps10
 go_wp2_with fail
 go_loopw [2, 3, 12] (fun r1 r2 i wr => r1 = .slice none 0 0 ∧ r2 = .int .i64 0 ∧ ∃ k : Nat, k ≤ L.length ∧ i = .int .i64 k ∧ errL (L.drop 0) = errL (L.drop k) ∧ Dn w wr) (fun _ _ i _ => L.length - (intOf i).toNat)
 case atStart => exact ⟨rfl, rfl, 0, by omega, rfl, rfl, Dn.refl _⟩
 case round =>
   obtain ⟨rfl, rfl, k, hk, rfl, he, hu⟩ := hrel
   have HF := Lib.hid he
   clear he
   by_cases hlt : k < L.length
   · have d1 : decide ((k : Int) < L.length) = true := by simp; omega
     obtain ⟨x, hx⟩ : ∃ x, L[k]? = some x := ⟨L[k], by simp [hlt]⟩
     obtain ⟨g, o, rfl, hc⟩ := hR.cs (by omega)
     have HX := Lib.hid hx
     have hA : Hid (ChkIs x.a x.b x.c x.d (rnErr x.a x.b x.c x.d)) := Lib.hid (rnChk x.a x.b x.c x.d)
     obtain ⟨a0, a1, a2, a3⟩ := (hc.dn hu).el _ _ hx
     clear hx hc hR
     by_cases hb : rnErr x.a x.b x.c x.d = 0
     · have HB := Lib.hid hb
       rw [hb] at hA
       clear hb
       go_wp2_with fail
       clear a0 a1 a2 a3
       obtain ⟨W1, hW1⟩ : ∃ W1, W1 = wr.alloc (.cells #[.int .i8 x.a, .int .i64 x.b, .int .i8 x.c, .int .i64 x.d] 45) := ⟨_, rfl⟩
       have uW1 : Dn wr W1 := by rw [hW1]; exact (Dn.refl _).alloc _
       have c2 : W1.cell? ⟨wr.heap.size, 0, none⟩ = some (.int .i8 x.a) := by rw [hW1]; simp [go_sem]
       have c3 : W1.cell? ⟨wr.heap.size, 1, none⟩ = some (.int .i64 x.b) := by rw [hW1]; simp [go_sem]
       have c4 : W1.cell? ⟨wr.heap.size, 2, none⟩ = some (.int .i8 x.c) := by rw [hW1]; simp [go_sem]
       have c5 : W1.cell? ⟨wr.heap.size, 3, none⟩ = some (.int .i64 x.d) := by rw [hW1]; simp [go_sem]
       have l6 : wr.heap.size < W1.heap.size := by rw [hW1]; simp <;> omega
       rw [← hW1]
       clear hW1
       have vW1 := hu.trans uW1
       clear uW1 hu
       refine (hA.out _).mono ?_
       rintro e w1 ⟨rfl, qw1⟩
       have l7 := nlt l6 qw1.size
       obtain ⟨c8, c9, c10, c11⟩ := mv4 qw1.cell c2 c3 c4 c5
       clear l6 c2 c3 c4 c5
       have uw1 := vW1.trans qw1
       clear qw1 vW1
       go_wp2_with fail
       go_roundw
       case rel => exact ⟨rfl, rfl, k + 1, by omega, by simp, HF.out.trans (err_ok HX.out HB.out), uw1⟩
       case measure => simp [intOf]; omega
     · have d2 : (rnErr x.a x.b x.c x.d != 0) = true := by simpa using hb
       obtain rfl : E = rnErr x.a x.b x.c x.d := HE.out.trans (HF.out.trans (err_bad HX.out hb))
       obtain rfl : R = [] := by rw [HRR.out, if_neg hb]
       clear hb
       go_wp2_with fail
       clear a0 a1 a2 a3
       obtain ⟨W1, hW1⟩ : ∃ W1, W1 = wr.alloc (.cells #[.int .i8 x.a, .int .i64 x.b, .int .i8 x.c, .int .i64 x.d] 45) := ⟨_, rfl⟩
       have uW1 : Dn wr W1 := by rw [hW1]; exact (Dn.refl _).alloc _
       have c2 : W1.cell? ⟨wr.heap.size, 0, none⟩ = some (.int .i8 x.a) := by rw [hW1]; simp [go_sem]
       have c3 : W1.cell? ⟨wr.heap.size, 1, none⟩ = some (.int .i64 x.b) := by rw [hW1]; simp [go_sem]
       have c4 : W1.cell? ⟨wr.heap.size, 2, none⟩ = some (.int .i8 x.c) := by rw [hW1]; simp [go_sem]
       have c5 : W1.cell? ⟨wr.heap.size, 3, none⟩ = some (.int .i64 x.d) := by rw [hW1]; simp [go_sem]
       have l6 : wr.heap.size < W1.heap.size := by rw [hW1]; simp <;> omega
       rw [← hW1]
       clear hW1
       have vW1 := hu.trans uW1
       clear uW1 hu
       refine (hA.out _).mono ?_
       rintro e w1 ⟨rfl, qw1⟩
       have l7 := nlt l6 qw1.size
       obtain ⟨c8, c9, c10, c11⟩ := mv4 qw1.cell c2 c3 c4 c5
       clear l6 c2 c3 c4 c5
       have uw1 := vW1.trans qw1
       clear qw1 vW1
       go_wp2_with fail
       go_ret2
       exact ⟨none, rfl, rownil _, uw1⟩
   · obtain rfl : k = L.length := by omega
     have d1 : decide ((L.length : Int) < L.length) = false := by simp
     have hend := Lib.hid (HF.out.trans err_end)
     obtain rfl : E = 0 := HE.out.trans hend.out
     obtain rfl : R = joinedL (srt L) := by rw [HRR.out, if_pos rfl]
     clear HE HRR
     have HV := Lib.hid (fun W (h : Dn w W) => slValues p cap L W (hR.dn h))
     have HS := Lib.hid (fun B W (h : Dn w W) hB => slSortedFunc B p cap L W hl hB (hR.dn h))
     have HJ := Lib.hid (fun W p' c' (hr : Row W p' (srt L)) => rsJoined p' c' (srt L) W (by rw [srt_len]; omega) (fun x hx => HI.out x ((srt_mem L x).1 hx)) hr)
     clear hR
     generalize hSL : srt L = SL at *
     have hSL' := Lib.hid hSL
     clear hSL
     go_wp2_with fail
     refine (HV.out _ hu).mono ?_
     rintro e w1 ⟨B, rfl, hB, q1⟩
     have u1 := hu.trans q1
     have HB := Lib.hid hB
     clear hB q1
     go_wp2_with fail
     refine (HS.out B _ u1 HB.out).mono ?_
     rintro e w2 ⟨p2, c2, rfl, hr2, q2⟩
     have HR2 := Lib.hid hr2
     have u2 := u1.trans q2
     clear hr2 q2
     go_wp2_with fail
     refine (HJ.out _ p2 c2 HR2.out).mono ?_
     rintro e w3 ⟨p3, rfl, hr3, q3⟩
     have HR3 := Lib.hid hr3
     clear hr3
     go_wp2_with fail
     go_ret2
     cases hSL'.out
     exact ⟨p3, rfl, HR3.out, u2.trans q3⟩
def NV (w : World) (x : Value) (z : Int) : Prop := ∃ (b : Bool) (p : Option Addr) (m c : Nat), x = .agg #[.bool b, .slice p m c] ∧ IsN w x z
theorem NV.dn {w w' : World} {x : Value} {z : Int} (h : NV w x z) (k : Dn w w') : NV w' x z := by
 obtain ⟨b, p, m, c, e, h⟩ := h
 exact ⟨b, p, m, c, e, h.dn k⟩
def ImN (a s : Bool) (w : World) (x : Value) (z : Int) : Prop := a = true → s = false → NV w x z
theorem ImN.dn {a s : Bool} {w w' : World} {x : Value} {z : Int} (h : ImN a s w x z) (k : Dn w w') : ImN a s w' x z := fun h1 h2 => (h h1 h2).dn k
def SmB (w : World) (B : Nat) (z : Int) : Prop := ∃ (b : Bool) (p : Option Addr) (m c : Nat), NBlk w B b (.slice p m c) ∧ IsN w (.agg #[.bool b, .slice p m c]) z
theorem SmB.dn {w w' : World} {B : Nat} {z : Int} (h : SmB w B z) (k : Dn w w') : SmB w' B z := by
 obtain ⟨b, p, m, c, h1, h2⟩ := h
 exact ⟨b, p, m, c, h1.dn k, h2.dn k⟩
theorem SmB.drewN {w : World} {B : Nat} {z : Int} (h : SmB w B z) (n : Nat) : SmB (w.drewN n) B z := h.dn ((Dn.refl _).drewN n)
theorem SlD.farB {w : World} {s : Value} {l : List Int} (h : SlD w s l) {B k : Nat} {b : Bool} (hB : w.cell? ⟨B, 0, none⟩ = some (.bool b)) (u : Value) : SlD (w.setCell ⟨B, k, none⟩ u) s l := by
 obtain ⟨p, cap, h1, h2, h3, h4⟩ := h
 refine ⟨p, cap, h1, h2, h3, fun j x hx => ?_⟩
 obtain ⟨g, hg, hc⟩ := h4 j x hx
 refine ⟨g, hg, ?_⟩
 have hlt : 0 < l.length := by have := (List.getElem?_eq_some_iff.1 hx).1; omega
 obtain ⟨g', hg', hc'⟩ := h4 0 l[0] (by simp [hlt])
 have hgg : g' = g := by rw [hg] at hg'; cases hg'; rfl
 subst hgg
 have hne : g' ≠ B := by
  intro e; subst e; rw [hB] at hc'; cases hc'
 rw [World.cell?_setCell_other _ _ _ _ (fun e => hne (by cases e; rfl))]
 exact hc
theorem IsN.farB {w : World} {v : Value} {x : Int} (h : IsN w v x) {B k : Nat} {b : Bool} (hB : w.cell? ⟨B, 0, none⟩ = some (.bool b)) (u : Value) : IsN (w.setCell ⟨B, k, none⟩ u) v x := by
 obtain ⟨s, h1, h2⟩ := h
 exact ⟨s, h1, h2.farB hB u⟩
theorem SmB.fill {w : World} {B : Nat} {z z' : Int} {b : Bool} {p : Option Addr} {m c : Nat} (h : SmB w B z) (hv : IsN w (.agg #[.bool b, .slice p m c]) z') :
  SmB ((w.setCell ⟨B, 0, none⟩ (.bool b)).setCell ⟨B, 1, none⟩ (.slice p m c)) B z' := by
 obtain ⟨b0, p0, m0, c0, h1, _⟩ := h
 have k1 := h1.set0 b
 exact ⟨b, p, m, c, k1.set1 _, (hv.farB h1.c0 _).farB k1.c0 _⟩
set_option maxHeartbeats 4000000
set_option maxRecDepth 100000
instance decI6 (L : List Rq) : Decidable (I6 L) := by unfold I6; infer_instance
theorem tOf : joinedL (srt (setL [5, 9, 1, 2, 3, 3, 8, 12])) = setL [1, 3, 5, 12] := (of_eq (srt_asc (by decide +kernel)) (srt_mem _)).trans (by decide +kernel)
theorem tUn : joinedL (srt (setL [1, 2, 5, 6] ++ setL [3, 3])) = setL [1, 3, 5, 6] := (of_eq (srt_asc (by decide +kernel)) (srt_mem _)).trans (by decide +kernel)
theorem sep_of {L : List Rq} (hI : ∀ x ∈ L, I64 x.b ∧ I64 x.d) (h : chkL L = 0) : Sep L := chk_ok hI h
theorem tWo : joinedL (cmn (setL [1, 9]) (cplL (setL [3, 4, 6, 6]))) = setL [1, 2, 5, 5, 7, 9] := (without_eq (sep_of (by decide +kernel) (by decide +kernel)) (sep_of (by decide +kernel) (by decide +kernel))).trans (by decide +kernel)
theorem tCo : joinedL (cmn [⟨0, 1, 0, 5⟩, ⟨0, 9, 1, 0⟩] (setL [4, 10])) = setL [4, 5, 9, 10] := (common_eq (sep_of (by decide +kernel) (by decide +kernel)) (sep_of (by decide +kernel) (by decide +kernel))).trans (by decide +kernel)
def strK : Nat → ByteArray
 | 0 => ⟨#[49, 46, 46, 51, 44, 53, 46, 46, 53]⟩
 | 1 => ⟨#[]⟩
 | 2 => ⟨#[49, 46, 46, 51, 44]⟩
 | _ => ⟨#[49, 46, 46, 51, 44, 52, 46, 46, 52]⟩
def errK : Nat → Int
 | 0 => 0
 | 1 => 5
 | 2 => 5
 | _ => 12
theorem strK_at : ∀ k, k < 4 → (#[.string ⟨#[49, 46, 46, 51, 44, 53, 46, 46, 53]⟩, .string ⟨#[]⟩, .string ⟨#[49, 46, 46, 51, 44]⟩, .string ⟨#[49, 46, 46, 51, 44, 52, 46, 46, 52]⟩] : Array Value)[k]? = some (.string (strK k)) := by
 intro k hk
 rcases (show k = 0 ∨ k = 1 ∨ k = 2 ∨ k = 3 by omega) with rfl | rfl | rfl | rfl <;> rfl
theorem wantK_at : ∀ k, k < 4 → ([0, 5, 5, 12] : List Int)[k]? = some (errK k) := by
 intro k hk
 rcases (show k = 0 ∨ k = 1 ∨ k = 2 ∨ k = 3 by omega) with rfl | rfl | rfl | rfl <;> rfl
theorem givesK : ∀ k, k < 4 → ∀ W p n q c, Row0 W k p n (setL [1, 3, 5, 5]) → Row W q (setL [1, 3, 5, 5]) → Calls Tryz.prog 13 #[.slice p n n, .int .i64 (errK k), .slice q (setL [1, 3, 5, 5]).length c, .int .i64 (errK k)] W fun ro w' => ro = .returned (.bool true) ∧ Dn W w' := by
 intro k hk W p n q c h hq
 unfold Row0 at h
 by_cases h0 : k = 0
 · rw [if_pos h0] at h
   obtain ⟨rfl, h⟩ := h
   subst h0
   exact gv10 p _ _ 0 q c _ 0 W (Or.inl ⟨rfl, rfl, rfl, rfl⟩) (by decide) h (fun _ => hq)
 · rw [if_neg h0] at h
   subst h
   have hb : errK k ≠ 0 := by
    rcases (show k = 1 ∨ k = 2 ∨ k = 3 by omega) with rfl | rfl | rfl <;> decide
   exact gv10 p 0 [] (errK k) q c (setL [1, 3, 5, 5]) (errK k) W (Or.inr ⟨hb, rfl, rfl⟩) (by decide) (Row.nil _ _) (fun _ => hq)
theorem ep_1 : EP ⟨#[49]⟩ 0 1 0 := Or.inr (Or.inr ⟨by decide, by decide, rfl, Or.inl ⟨by decide +kernel, Or.inl ⟨by decide +kernel, by decide +kernel, rfl⟩⟩⟩)
theorem ep_3 : EP ⟨#[51]⟩ 0 3 0 := Or.inr (Or.inr ⟨by decide, by decide, rfl, Or.inl ⟨by decide +kernel, Or.inl ⟨by decide +kernel, by decide +kernel, rfl⟩⟩⟩)
theorem ep_5 : EP ⟨#[53]⟩ 0 5 0 := Or.inr (Or.inr ⟨by decide, by decide, rfl, Or.inl ⟨by decide +kernel, Or.inl ⟨by decide +kernel, by decide +kernel, rfl⟩⟩⟩)
theorem ep_4 : EP ⟨#[52]⟩ 0 4 0 := Or.inr (Or.inr ⟨by decide, by decide, rfl, Or.inl ⟨by decide +kernel, Or.inl ⟨by decide +kernel, by decide +kernel, rfl⟩⟩⟩)
theorem ps_13 : PsP [49, 46, 46, 51] (⟨0, 1, 0, 3⟩, 0) := rp_ofT (s := ⟨#[49, 46, 46, 51]⟩) (lo := ⟨#[49]⟩) (hi := ⟨#[51]⟩) (by decide +kernel) ep_1 ep_3 (Or.inr (Or.inr (Or.inr ⟨rfl, rfl, by decide +kernel, rfl, rfl, rfl, rfl, rfl⟩)))
theorem ps_55 : PsP [53, 46, 46, 53] (⟨0, 5, 0, 5⟩, 0) := rp_ofT (s := ⟨#[53, 46, 46, 53]⟩) (lo := ⟨#[53]⟩) (hi := ⟨#[53]⟩) (by decide +kernel) ep_5 ep_5 (Or.inr (Or.inr (Or.inr ⟨rfl, rfl, by decide +kernel, rfl, rfl, rfl, rfl, rfl⟩)))
theorem ps_44 : PsP [52, 46, 46, 52] (⟨0, 4, 0, 4⟩, 0) := rp_ofT (s := ⟨#[52, 46, 46, 52]⟩) (lo := ⟨#[52]⟩) (hi := ⟨#[52]⟩) (by decide +kernel) ep_4 ep_4 (Or.inr (Or.inr (Or.inr ⟨rfl, rfl, by decide +kernel, rfl, rfl, rfl, rfl, rfl⟩)))
theorem ps_no : PsP [] (⟨0, 0, 0, 0⟩, 5) := Or.inl ⟨by decide +kernel, rfl, rfl, rfl, rfl, rfl⟩
theorem sp_of {s : ByteArray} {fs : List (List UInt8)} {ys : List (Rq × Int)} {R : List Rq} {E : Int} (hn : s ≠ noneS) (hs : spl s.data.toList = fs) (h : PsL fs ys) (hR : R = prsR ys) (hE : E = prsE ys) : SP s R E :=
 Or.inr ⟨hn, ys, by rw [hs]; exact h, hR, hE⟩
theorem parseK : ∀ k, k < 4 → ∀ W, EnvR W → Calls Tryz.prog 34 #[.string (strK k)] W fun ro w' => ∃ p' n', ro = .returned (.tuple #[.slice p' n' n', .int .i64 (errK k)]) ∧ Row0 w' k p' n' (setL [1, 3, 5, 5]) ∧ Dn W w' := by
 intro k hk W hW
 rcases (show k = 0 ∨ k = 1 ∨ k = 2 ∨ k = 3 by omega) with rfl | rfl | rfl | rfl
 · refine (rsParse (strK 0) (setL [1, 3, 5, 5]) 0 W (by decide) (by decide +kernel) (sp_of (fs := [[49, 46, 46, 51], [53, 46, 46, 53]]) (by decide) (by decide +kernel) (psL_cons ps_13 (psL_cons ps_55 psL_nil)) (by decide +kernel) (by decide +kernel)) hW).mono ?_
   rintro e w' ⟨p', rfl, hr, q⟩
   exact ⟨p', _, rfl, ⟨rfl, hr⟩, q⟩
 · refine (rsParse (strK 1) [] 5 W (by decide) (by decide +kernel) (sp_of (fs := [[]]) (by decide) (by decide +kernel) (psL_cons ps_no psL_nil) (by decide +kernel) (by decide +kernel)) hW).mono ?_
   rintro e w' ⟨p', rfl, hr, q⟩
   exact ⟨p', _, rfl, rfl, q⟩
 · refine (rsParse (strK 2) [] 5 W (by decide) (by decide +kernel) (sp_of (fs := [[49, 46, 46, 51], []]) (by decide) (by decide +kernel) (psL_cons ps_13 (psL_cons ps_no psL_nil)) (by decide +kernel) (by decide +kernel)) hW).mono ?_
   rintro e w' ⟨p', rfl, hr, q⟩
   exact ⟨p', _, rfl, rfl, q⟩
 · refine (rsParse (strK 3) [] 12 W (by decide) (by decide +kernel) (sp_of (fs := [[49, 46, 46, 51], [52, 46, 46, 52]]) (by decide) (by decide +kernel) (psL_cons ps_13 (psL_cons ps_44 psL_nil)) (by decide +kernel) (by decide +kernel)) hW).mono ?_
   rintro e w' ⟨p', rfl, hr, q⟩
   exact ⟨p', _, rfl, rfl, q⟩
theorem lives10 (w : World) (hE : EnvR w) : Calls Tryz.prog 9 #[] w fun ro w' => ro = .returned (.bool true) ∧ Dn w w' :=
 lives10_walk strK errK [0, 5, 5, 12] errK (setL [5, 9, 1, 2, 3, 3, 8, 12]) (setL [1, 2, 5, 6]) (setL [3, 3]) (setL [1, 9]) (setL [3, 4, 6, 6]) (setL [1, 3, 5, 12]) (setL [1, 3, 5, 6]) (setL [1, 2, 5, 5, 7, 9]) (setL [1, 2, 3, 4]) (setL [5, 6, 1, 2]) (setL [1, 2, 4, 4]) (setL [4, 10]) (setL [0, 9223372036854775807]) (setL [4, 5, 9, 10]) (setL [2, 3]) (setL [1, 5, 9, 9]) (setL [1, 3, 7, 7]) (setL [1, 3, 5, 5]) ([⟨0, 1, 0, 4⟩, ⟨0, 7, 1, 0⟩]) ([⟨(-1), 0, 1, 0⟩]) ([⟨(-1), 0, 0, (-1)⟩])
  (Lib.hid (fun g W h => set10 g 8 8 _ 4 W rfl rfl (by decide) h))
  (Lib.hid (fun g W h => set10 g 4 4 _ 2 W rfl rfl (by decide) h))
  (Lib.hid (fun g W h => set10 g 2 2 _ 1 W rfl rfl (by decide) h))
  (Lib.hid (fun g W h => set10 g 2 2 _ 1 W rfl rfl (by decide) h))
  (Lib.hid (fun g W h => set10 g 4 4 _ 2 W rfl rfl (by decide) h))
  (Lib.hid (fun g W h => set10 g 4 4 _ 2 W rfl rfl (by decide) h))
  (Lib.hid (fun g W h => set10 g 4 4 _ 2 W rfl rfl (by decide) h))
  (Lib.hid (fun g W h => set10 g 6 6 _ 3 W rfl rfl (by decide) h))
  (Lib.hid (fun g W h => set10 g 4 4 _ 2 W rfl rfl (by decide) h))
  (Lib.hid (fun g W h => set10 g 4 4 _ 2 W rfl rfl (by decide) h))
  (Lib.hid (fun g W h => set10 g 4 4 _ 2 W rfl rfl (by decide) h))
  (Lib.hid (fun g W h => set10 g 2 2 _ 1 W rfl rfl (by decide) h))
  (Lib.hid (fun g W h => set10 g 2 2 _ 1 W rfl rfl (by decide) h))
  (Lib.hid (fun g W h => set10 g 4 4 _ 2 W rfl rfl (by decide) h))
  (Lib.hid (fun g W h => set10 g 2 2 _ 1 W rfl rfl (by decide) h))
  (Lib.hid (fun g W h => set10 g 4 4 _ 2 W rfl rfl (by decide) h))
  (Lib.hid (fun g W h => set10 g 4 4 _ 2 W rfl rfl (by decide) h))
  (Lib.hid (fun g W h => set10 g 4 4 _ 2 W rfl rfl (by decide) h))
  (Lib.hid (fun W p cap h => rsOf p cap _ 0 _ W (by decide +kernel) (by rw [if_pos rfl]; exact tOf.symm) (by decide) (by decide +kernel) h.row))
  (Lib.hid (fun W p cap q cap2 h k => rsUnionS p cap _ q cap2 _ 0 _ W (by rw [tUn]; decide +kernel) (by rw [tUn]; decide +kernel) h.nl k.nl (by decide) (by decide +kernel) h.row (by decide) (by decide +kernel) k.row))
  (Lib.hid (fun W p cap q cap2 h k => rsWithoutS p cap _ q cap2 _ 0 _ W (by rw [tWo]; decide +kernel) (by rw [tWo]; decide +kernel) h.le h.mx k.le k.mx (by decide) (by decide +kernel) h.row (by decide) (by decide +kernel) k.row))
  (Lib.hid (fun W p cap h => rsCheckE p cap _ 12 W (by decide +kernel) (by decide) (by decide +kernel) h.row))
  (Lib.hid (fun W p cap h => rsCheckE p cap _ 12 W (by decide +kernel) (by decide) (by decide +kernel) h.row))
  (Lib.hid (fun W p cap h => rsCheckE p cap _ 0 W (by decide +kernel) (by decide) (by decide +kernel) h.row))
  (Lib.hid (fun W p q cap2 h k => rsCommonS p 2 ([⟨0, 1, 0, 5⟩, ⟨0, 9, 1, 0⟩] : List Rq) q cap2 _ 0 _ W (by rw [tCo]; decide +kernel) (by rw [tCo]; decide +kernel) (by decide) (by decide) k.le k.mx (by decide) (by decide +kernel) h (by decide) (by decide +kernel) k.row))
  (Lib.hid (fun W p h => rsComplementS p 2 ([⟨(-1), 0, 0, 0⟩, ⟨0, 5, 0, 6⟩] : List Rq) 0 _ W (by decide +kernel) (by decide +kernel) (by decide) (by decide +kernel) h))
  (Lib.hid (fun W => rsComplementS none 0 [] 0 _ W (by decide +kernel) (by decide +kernel) (by decide) (by decide +kernel) (Row.nil _ _)))
  (Lib.hid (fun W p cap h => rsComplementS p cap _ 0 _ W (by decide +kernel) (by decide +kernel) (by decide) (by decide +kernel) h.row))
  (Lib.hid (fun W p cap q cap2 h k => rsWithinS p cap _ q cap2 _ 0 true W (by decide +kernel) (by decide +kernel) k.le k.mx (by decide) (by decide +kernel) h.row (by decide) (by decide +kernel) k.row))
  (Lib.hid (fun W p cap h => rsCount p cap _ 4 0 W (by decide +kernel) (by decide +kernel) (by decide) (by decide +kernel) h.row))
  (Lib.hid (fun W => rsMin none 0 [] 0 0 17 W (Or.inr (Or.inl ⟨by decide +kernel, rfl, rfl, rfl, rfl⟩)) (by decide) (by decide +kernel) (Row.nil _ _)))
  (Lib.hid (fun W p h => rsMax p 1 [⟨0, 1, 1, 0⟩] 1 0 0 W (Or.inr (Or.inr ⟨by decide +kernel, _, rfl, rfl, rfl, rfl⟩)) (by decide) (by decide +kernel) h))
  (Lib.hid (by decide))
  (Lib.hid (by decide))
  (Lib.hid (by decide))
  (Lib.hid (by decide))
  (Lib.hid (by decide))
  (Lib.hid (by decide))
  (Lib.hid (by decide))
  (Lib.hid (by decide))
  (Lib.hid (fun W p q h k => gv10 p _ ([⟨0, 1, 0, 4⟩, ⟨0, 7, 1, 0⟩] : List Rq) 0 q 2 ([⟨0, 1, 0, 4⟩, ⟨0, 7, 1, 0⟩] : List Rq) 0 W (Or.inl ⟨rfl, rfl, rfl, rfl⟩) (by decide) h (fun _ => k)))
  (Lib.hid (fun W p q h k => gv10 p _ ([⟨(-1), 0, 1, 0⟩] : List Rq) 0 q 1 ([⟨(-1), 0, 1, 0⟩] : List Rq) 0 W (Or.inl ⟨rfl, rfl, rfl, rfl⟩) (by decide) h (fun _ => k)))
  (Lib.hid (fun W p q h k => gv10 p _ ([⟨(-1), 0, 0, (-1)⟩] : List Rq) 0 q 1 ([⟨(-1), 0, 0, (-1)⟩] : List Rq) 0 W (Or.inl ⟨rfl, rfl, rfl, rfl⟩) (by decide) h (fun _ => k)))
  (Lib.hid (strK_at))
  (Lib.hid (rfl))
  (Lib.hid (wantK_at))
  (Lib.hid (givesK))
  (Lib.hid (parseK)) w hE
theorem err_ok_all {L : List Rq} (hI : I6 L) (h : ofE L = 0) : ∀ x ∈ L, x.ok := by
 unfold ofE at h
 split at h
 · cases h
 · exact err_all hI h
theorem of_same {L : List Rq} (hI : I6 L) (h : ofE L = 0) : joinedL (srt L) = L.foldl putL [] := of_eq (srt_asc (err_ok_all hI h)) (srt_mem L)
theorem i6_sep {L : List Rq} (h : Sep L) : I6 L := sep_i6 (Sep.all h)
theorem sep_of_fold {L : List Rq} (h : ∀ x ∈ L, x.ok) : Sep (L.foldl putL []) := (putAll_law (by simp [Sep]) h).1
theorem of_len (L : List Rq) : (L.foldl putL []).length ≤ L.length := by have := foldP_len L []; simpa using this
theorem chk_of {L : List Rq} (hI : I6 L) (h : Sep L) (hl : L.length ≤ 4096) : chkL L = 0 := by unfold chkL; rw [if_neg (by omega)]; exact sep_chk h
theorem hasL_iff {L : List Rq} (h : Sep L) {k : Int} : HasL L k ↔ Mem k L := hasL_mem (Sep.all h)
theorem dec_iff {p q : Prop} [Decidable p] [Decidable q] (h : p ↔ q) : decide p = decide q := by simp [h]
theorem has_of {L : List Rq} (hI : I6 L) (h : ∀ x ∈ L, x.ok) (k : Int) : decide (HasL (L.foldl putL []) k) = decide (HasL L k) := by
 refine dec_iff ?_
 rw [hasL_iff (sep_of_fold h), hasL_mem h, (putAll_law (by simp [Sep]) h).2 k]
 exact ⟨fun e => e.elim (fun m => absurd m mem_nil) id, Or.inr⟩
theorem rot_mem {L : List Rq} (n : Nat) (x : Rq) : x ∈ L.drop n ++ L.take n ↔ x ∈ L := by
 rw [List.mem_append]
 conv => rhs; rw [← List.take_append_drop n L, List.mem_append]
 exact Or.comm
theorem rot_len {L : List Rq} (n : Nat) (hn : n ≤ L.length) : (L.drop n ++ L.take n).length = L.length := by simp; omega
theorem err_zero : ∀ {L : List Rq}, (∀ x ∈ L, x.ok) → errL L = 0
 | [], _ => rfl
 | x :: t, h => by
   have hx := h x List.mem_cons_self
   unfold errL
   rw [if_neg (by simpa using (rq_err hx.1 hx.2.1).2 hx)]
   exact err_zero fun y hy => h y (List.mem_cons_of_mem _ hy)
theorem rot_of {L : List Rq} (hI : I6 L) (h : ofE L = 0) (n : Nat) (hn : n ≤ L.length) (hl : L.length ≤ 4096) : ofE (L.drop n ++ L.take n) = 0 ∧ joinedL (srt (L.drop n ++ L.take n)) = L.foldl putL [] := by
 have hok := err_ok_all hI h
 have hok2 : ∀ x ∈ L.drop n ++ L.take n, x.ok := fun x hx => hok x ((rot_mem n x).1 hx)
 constructor
 · unfold ofE
   rw [if_neg (by rw [rot_len n hn]; omega)]
   exact err_zero hok2
 · rw [of_eq (srt_asc hok2) (srt_mem _)]
   exact of_perm hok2 (rot_mem n)
end Go.Proofs.YtoghoddjkdoohaaGreatDoor
