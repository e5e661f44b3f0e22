/- Walks and laws that the claim's theorem leans on: part 23. -/
import Derived.Test.YtoghoddjkdoohaaGreatDoorZOn1
import Derived.Test.YtoghoddjkdoohaaGreatDoorZOn21
namespace Go.Proofs.YtoghoddjkdoohaaGreatDoor
set_option maxHeartbeats 4000000
set_option maxRecDepth 100000
open Go.RowKit
set_option linter.unusedVariables false
set_option linter.unusedSimpArgs false
theorem slCollect (B : Nat) (p : Option Addr) (cap : Nat) (L : List Rq) (w : World) (hl : L.length ≤ 100000) (hB : w.cell? ⟨B, 0, none⟩ = some (.slice p L.length cap)) (hR : Row w p L) :
  Calls Tryz.prog 85 #[.func (.func 86) #[] #[.pointer (some ⟨B, 0, none⟩)]] w fun e w' => ∃ v : Value, e = .returned v ∧ OwnQ w' w.heap.size v L ∧ Dn w w' := by
 refine (callsIn_wide (n := 6)).1 ?_
 have e11 : ∀ args w, (callFunc 126 args).run Tryz.prog w = .ok (.enter 126 args) w := enters_of Tryz.func126 (by kernel_rfl) rfl
 have e86 : ∀ args w, (callFunc 86 args).run Tryz.prog w = .ok (.enter 86 args) w := enters_of Tryz.func86 (by kernel_rfl) rfl
 have hseq : ∀ W, Dn w W → CallsIn Fence.wide 5 Tryz.prog 126 #[.slice none 0 0, .func (.func 86) #[] #[.pointer (some ⟨B, 0, none⟩)]] W fun e w' => ∃ v : Value, e = .returned v ∧ OwnQ w' W.heap.size v L ∧ Dn W w' := fun W h =>
  slAppendSeq Fence.wide 5 trivial rfl (by omega) 86 #[.pointer (some ⟨B, 0, none⟩)] trivial e86 L hl W (vals_give Fence.wide 4 trivial rfl (by omega) B p cap L W hl (h.cell hB) (hR.dn h))
 have HS := Lib.hid hseq
 clear hseq hB hR
 refine callsIn_of_wp Tryz.func85 rfl trivial ?_ rfl
 simp only [Tryz.ntmps85, List.size_toArray, List.length_cons, List.length_nil, Nat.reduceAdd, Nat.reduceSub, Array.replicate_succ, Array.replicate_zero, List.push_toArray, List.append_toArray, List.nil_append, List.cons_append]
 gi_wp2_with fail
 refine ⟨trivial, (HS.out _ (Dn.refl _)).mono ?_⟩
 rintro e w' ⟨v, rfl, hown, hd⟩
 gi_wp2_with fail
 go_ret
 exact ⟨v, rfl, hown, hd⟩
theorem slValues (p : Option Addr) (cap : Nat) (L : List Rq) (w : World) (hR : Row w p L) :
  Calls Tryz.prog 42 #[.slice p L.length cap] w fun ro w' => ∃ B : Nat, ro = .returned (.func (.func 86) #[] #[.pointer (some ⟨B, 0, none⟩)]) ∧ w'.cell? ⟨B, 0, none⟩ = some (.slice p L.length cap) ∧ Dn w w' := by
 have HR := Lib.hid hR
 clear hR
 go_enter Tryz.func42, Tryz.ntmps42
 go_wp2_with fail
 obtain ⟨W1, hW1⟩ : ∃ W1, W1 = w.alloc (.cells #[.slice p L.length cap] 22) := ⟨_, rfl⟩
 have u1 : Dn w W1 := by rw [hW1]; exact (Dn.refl _).alloc _
 have cB : W1.cell? ⟨w.heap.size, 0, none⟩ = some (.slice p L.length cap) := by rw [hW1]; simp [go_sem]
 rw [← hW1]
 clear hW1
 go_ret
 exact ⟨w.heap.size, rfl, cB, u1⟩
theorem slSortedFunc (B : Nat) (p : Option Addr) (cap : Nat) (L : List Rq) (w : World) (hl : L.length ≤ 100000) (hB : w.cell? ⟨B, 0, none⟩ = some (.slice p L.length cap)) (hR : Row w p L) :
  Calls Tryz.prog 41 #[.func (.func 86) #[] #[.pointer (some ⟨B, 0, none⟩)], .func (.func 43) #[] #[]] w fun ro w' => ∃ p' cap', ro = .returned (.slice p' (srt L).length cap') ∧ Row w' p' (srt L) ∧ Dn w w' := by
 have HC := Lib.hid (slCollect B p cap L w hl hB hR)
 have HS := Lib.hid (fun W base v (h : OwnQ W base v L) => slSortV base v L W h (by omega))
 clear hB hR
 go_enter Tryz.func41, Tryz.ntmps41
 go_wp2_with fail
 refine HC.out.mono ?_
 rintro e wc ⟨v, rfl, hown, qc⟩
 have HOWN := Lib.hid hown
 clear hown
 go_wp2_with fail
 refine (HS.out _ _ v HOWN.out).mono ?_
 rintro e ws ⟨rfl, ⟨p3, c3, rfl, hrs⟩, hdn⟩
 have us := hdn w qc (Nat.le_refl _)
 have HRS := Lib.hid hrs
 clear hrs hdn
 go_wp2_with fail
 go_ret
 first | exact ⟨p3, c3, rfl, HRS.out, us⟩ | exact ⟨p3, ⟨c3, rfl⟩, HRS.out, us⟩
theorem rsOf (p : Option Addr) (cap : Nat) (L : List Rq) (E : Int) (R : List Rq) (w : World) (hE : E = ofE L) (hRR : R = if E = 0 then joinedL (srt L) else []) (hl : L.length ≤ 100000) (hI : I6 L) (hR : Row w p L) :
   Calls Tryz.prog 10 #[.slice p L.length cap] w fun ro w' => ∃ p', ro = .returned (.tuple #[.slice p' R.length R.length, .int .i64 E]) ∧ Row w' p' R ∧ Dn w w' := by
 have HI := Lib.hid hI
 clear hI
 by_cases h4 : 4096 < L.length
 · have d0 : decide ((L.length : Int) > 4096) = true := by simp; omega
   obtain rfl : E = 3 := by rw [hE]; unfold ofE; rw [if_pos h4]
   obtain rfl : R = [] := by rw [hRR, if_neg (by decide)]
   clear hE hRR
   go_enter Tryz.func10, Tryz.ntmps10
   go_wp2_with fail
   go_ret2
   exact ⟨none, rfl, rownil _, Dn.refl _⟩
 have d0 : decide ((L.length : Int) > 4096) = false := by simp; omega
 have HE : Hid (E = errL (L.drop 0)) := Lib.hid (by rw [hE]; unfold ofE; rw [if_neg h4]; rfl)
 have HRR := Lib.hid hRR
 clear hE hRR
 go_enter Tryz.func10, Tryz.ntmps10
 go_wp2_with fail
 go_loopw [2, 3, 12] (fun r1 r2 i wr => r1 = .slice none 0 0 ∧ r2 = .int .i64 0 ∧ ∃ k : Nat, k ≤ L.length ∧ i = .int .i64 k ∧ errL (L.drop 0) = errL (L.drop k) ∧ Dn w wr) (fun _ _ i _ => L.length - (intOf i).toNat)
 case atStart => exact ⟨rfl, rfl, 0, by omega, rfl, rfl, Dn.refl _⟩
 case round =>
   obtain ⟨rfl, rfl, k, hk, rfl, he, hu⟩ := hrel
   have HF := Lib.hid he
   clear he
   by_cases hlt : k < L.length
   · have d1 : decide ((k : Int) < L.length) = true := by simp; omega
     obtain ⟨x, hx⟩ : ∃ x, L[k]? = some x := ⟨L[k], by simp [hlt]⟩
     obtain ⟨g, o, rfl, hc⟩ := hR.cs (by omega)
     have HX := Lib.hid hx
     have hA : Hid (ChkIs x.a x.b x.c x.d (rnErr x.a x.b x.c x.d)) := Lib.hid (rnChk x.a x.b x.c x.d)
     obtain ⟨a0, a1, a2, a3⟩ := (hc.dn hu).el _ _ hx
     clear hx hc hR
     by_cases hb : rnErr x.a x.b x.c x.d = 0
     · have HB := Lib.hid hb
       rw [hb] at hA
       clear hb
       go_wp2_with fail
       clear a0 a1 a2 a3
       obtain ⟨W1, hW1⟩ : ∃ W1, W1 = wr.alloc (.cells #[.int .i8 x.a, .int .i64 x.b, .int .i8 x.c, .int .i64 x.d] 45) := ⟨_, rfl⟩
       have uW1 : Dn wr W1 := by rw [hW1]; exact (Dn.refl _).alloc _
       have c2 : W1.cell? ⟨wr.heap.size, 0, none⟩ = some (.int .i8 x.a) := by rw [hW1]; simp [go_sem]
       have c3 : W1.cell? ⟨wr.heap.size, 1, none⟩ = some (.int .i64 x.b) := by rw [hW1]; simp [go_sem]
       have c4 : W1.cell? ⟨wr.heap.size, 2, none⟩ = some (.int .i8 x.c) := by rw [hW1]; simp [go_sem]
       have c5 : W1.cell? ⟨wr.heap.size, 3, none⟩ = some (.int .i64 x.d) := by rw [hW1]; simp [go_sem]
       have l6 : wr.heap.size < W1.heap.size := by rw [hW1]; simp <;> omega
       rw [← hW1]
       clear hW1
       have vW1 := hu.trans uW1
       clear uW1 hu
       refine (hA.out _).mono ?_
       rintro e w1 ⟨rfl, qw1⟩
       have l7 := nlt l6 qw1.size
       obtain ⟨c8, c9, c10, c11⟩ := mv4 qw1.cell c2 c3 c4 c5
       clear l6 c2 c3 c4 c5
       have uw1 := vW1.trans qw1
       clear qw1 vW1
       go_wp2_with fail
       go_roundw
       case rel => exact ⟨rfl, rfl, k + 1, by omega, by simp, HF.out.trans (err_ok HX.out HB.out), uw1⟩
       case measure => simp [intOf]; omega
     · have d2 : (rnErr x.a x.b x.c x.d != 0) = true := by simpa using hb
       obtain rfl : E = rnErr x.a x.b x.c x.d := HE.out.trans (HF.out.trans (err_bad HX.out hb))
       obtain rfl : R = [] := by rw [HRR.out, if_neg hb]
       clear hb
       go_wp2_with fail
       clear a0 a1 a2 a3
       obtain ⟨W1, hW1⟩ : ∃ W1, W1 = wr.alloc (.cells #[.int .i8 x.a, .int .i64 x.b, .int .i8 x.c, .int .i64 x.d] 45) := ⟨_, rfl⟩
       have uW1 : Dn wr W1 := by rw [hW1]; exact (Dn.refl _).alloc _
       have c2 : W1.cell? ⟨wr.heap.size, 0, none⟩ = some (.int .i8 x.a) := by rw [hW1]; simp [go_sem]
       have c3 : W1.cell? ⟨wr.heap.size, 1, none⟩ = some (.int .i64 x.b) := by rw [hW1]; simp [go_sem]
       have c4 : W1.cell? ⟨wr.heap.size, 2, none⟩ = some (.int .i8 x.c) := by rw [hW1]; simp [go_sem]
       have c5 : W1.cell? ⟨wr.heap.size, 3, none⟩ = some (.int .i64 x.d) := by rw [hW1]; simp [go_sem]
       have l6 : wr.heap.size < W1.heap.size := by rw [hW1]; simp <;> omega
       rw [← hW1]
       clear hW1
       have vW1 := hu.trans uW1
       clear uW1 hu
       refine (hA.out _).mono ?_
       rintro e w1 ⟨rfl, qw1⟩
       have l7 := nlt l6 qw1.size
       obtain ⟨c8, c9, c10, c11⟩ := mv4 qw1.cell c2 c3 c4 c5
       clear l6 c2 c3 c4 c5
       have uw1 := vW1.trans qw1
       clear qw1 vW1
       go_wp2_with fail
       go_ret2
       exact ⟨none, rfl, rownil _, uw1⟩
   · obtain rfl : k = L.length := by omega
     have d1 : decide ((L.length : Int) < L.length) = false := by simp
     have hend := Lib.hid (HF.out.trans err_end)
     obtain rfl : E = 0 := HE.out.trans hend.out
     obtain rfl : R = joinedL (srt L) := by rw [HRR.out, if_pos rfl]
     clear HE HRR
     have HV := Lib.hid (fun W (h : Dn w W) => slValues p cap L W (hR.dn h))
     have HS := Lib.hid (fun B W (h : Dn w W) hB => slSortedFunc B p cap L W hl hB (hR.dn h))
     have HJ := Lib.hid (fun W p' c' (hr : Row W p' (srt L)) => rsJoined p' c' (srt L) W (by rw [srt_len]; omega) (fun x hx => HI.out x ((srt_mem L x).1 hx)) hr)
     clear hR
     generalize hSL : srt L = SL at *
     have hSL' := Lib.hid hSL
     clear hSL
     go_wp2_with fail
     refine (HV.out _ hu).mono ?_
     rintro e w1 ⟨B, rfl, hB, q1⟩
     have u1 := hu.trans q1
     have HB := Lib.hid hB
     clear hB q1
     go_wp2_with fail
     refine (HS.out B _ u1 HB.out).mono ?_
     rintro e w2 ⟨p2, c2, rfl, hr2, q2⟩
     have HR2 := Lib.hid hr2
     have u2 := u1.trans q2
     clear hr2 q2
     go_wp2_with fail
     refine (HJ.out _ p2 c2 HR2.out).mono ?_
     rintro e w3 ⟨p3, rfl, hr3, q3⟩
     have HR3 := Lib.hid hr3
     clear hr3
     go_wp2_with fail
     go_ret2
     cases hSL'.out
     exact ⟨p3, rfl, HR3.out, u2.trans q3⟩
end Go.Proofs.YtoghoddjkdoohaaGreatDoor
