/- Walks and laws that the claim's theorem leans on: part 10. -/
import Derived.Test.YtoghoddjkdoohaaGreatDoorZKn1
import Derived.Test.YtoghoddjkdoohaaGreatDoorZKn5
namespace Go.Proofs.YtoghoddjkdoohaaGreatDoor
set_option maxHeartbeats 4000000
set_option maxRecDepth 100000
open Go.RowKit
set_option linter.unusedVariables false
set_option linter.unusedSimpArgs false
theorem preKn47x1 (w : World) (a b c d : Int) : ∃ W1, W1 = w.alloc (.cells #[.int .i8 a, .int .i64 b, .int .i8 c, .int .i64 d] 45) /\ (Dn w W1) /\ (W1.cell? ⟨w.heap.size, 0, none⟩ = some (.int .i8 a)) /\ (W1.cell? ⟨w.heap.size, 1, none⟩ = some (.int .i64 b)) /\ (W1.cell? ⟨w.heap.size, 2, none⟩ = some (.int .i8 c)) /\ (W1.cell? ⟨w.heap.size, 3, none⟩ = some (.int .i64 d)) /\ (w.heap.size < W1.heap.size) := by
 obtain ⟨W1, hW1⟩ : ∃ W1, W1 = w.alloc (.cells #[.int .i8 a, .int .i64 b, .int .i8 c, .int .i64 d] 45) := ⟨_, rfl⟩
 refine ⟨W1, hW1, (by rw [hW1]; exact (Dn.refl _).alloc _), ?_, ?_, ?_, ?_, ?_⟩ <;> rw [hW1] <;> first | (simp [go_sem]; done) | (simp <;> omega)
theorem rfChk_1 (a b c d : Int) (h1 : ¬ eOk a b) (w : World) :
  Calls Tryz.prog 44 #[.agg #[.int .i8 a, .int .i64 b, .int .i8 c, .int .i64 d]] w fun ro w' => ro = .returned (.int .i64 5) /\ Dn w w' := by
 have Hh1 := Lib.hid h1
 clear h1
 go_enter Tryz.func44, Tryz.ntmps44
 go_wp2_with fail
 obtain ⟨W1, hW1, uW1, c2, c3, c4, c5, l6⟩ := preKn47x1 w a b c d
 rw [<- hW1]
 clear hW1
 refine (rChk8_bad a b _ Hh1.out).mono ?_
 rintro e w1 ⟨rfl, qw1⟩
 replace qw1 := qw1.dn
 have l7 := nlt l6 qw1.size
 obtain ⟨c8, c9, c10, c11⟩ := mv4 qw1.cell c2 c3 c4 c5
 clear l6 c2 c3 c4 c5
 have uw1 := uW1.trans qw1
 clear qw1 uW1
 go_wp2_with fail
 go_ret
 exact ⟨rfl, uw1⟩
theorem rfChk_2 (a b c d : Int) (h1 : eOk a b) (h2 : ¬ eOk c d) (w : World) :
  Calls Tryz.prog 44 #[.agg #[.int .i8 a, .int .i64 b, .int .i8 c, .int .i64 d]] w fun ro w' => ro = .returned (.int .i64 5) /\ Dn w w' := by
 have Hh1 := Lib.hid h1
 have Hh2 := Lib.hid h2
 clear h1 h2
 go_enter Tryz.func44, Tryz.ntmps44
 go_wp2_with fail
 obtain ⟨W1, hW1, uW1, c2, c3, c4, c5, l6⟩ := preKn47x1 w a b c d
 rw [<- hW1]
 clear hW1
 refine (rChk8_ok a b _ Hh1.out).mono ?_
 rintro e w1 ⟨rfl, qw1⟩
 replace qw1 := qw1.dn
 have l7 := nlt l6 qw1.size
 obtain ⟨c8, c9, a0, a1⟩ := mv4 qw1.cell c2 c3 c4 c5
 clear l6 c2 c3 c4 c5
 have uw1 := uW1.trans qw1
 clear qw1 uW1
 go_wp2_with fail
 refine (rChk8_bad c d _ Hh2.out).mono ?_
 rintro e w2 ⟨rfl, qw2⟩
 replace qw2 := qw2.dn
 have a2 := nlt l7 qw2.size
 obtain ⟨a3, a4, a5, a6⟩ := mv4 qw2.cell c8 c9 a0 a1
 clear l7 c8 c9 a0 a1
 have uw2 := uw1.trans qw2
 clear qw2 uw1
 go_wp2_with fail
 go_ret
 exact ⟨rfl, uw2⟩
theorem rfChk_3 (a b c d : Int) (h1 : eOk a b) (h2 : eOk c d) (h3 : a = 1) (w : World) :
  Calls Tryz.prog 44 #[.agg #[.int .i8 a, .int .i64 b, .int .i8 c, .int .i64 d]] w fun ro w' => ro = .returned (.int .i64 4) /\ Dn w w' := by
 have Hh1 := Lib.hid h1
 have Hh2 := Lib.hid h2
 clear h1 h2
 have t1 : (a == 1) = true := by simpa using h3
 clear h3
 go_enter Tryz.func44, Tryz.ntmps44
 go_wp2_with fail
 obtain ⟨W1, hW1, uW1, c2, c3, c4, c5, l6⟩ := preKn47x1 w a b c d
 rw [<- hW1]
 clear hW1
 refine (rChk8_ok a b _ Hh1.out).mono ?_
 rintro e w1 ⟨rfl, qw1⟩
 replace qw1 := qw1.dn
 have l7 := nlt l6 qw1.size
 obtain ⟨c8, c9, a0, a1⟩ := mv4 qw1.cell c2 c3 c4 c5
 clear l6 c2 c3 c4 c5
 have uw1 := uW1.trans qw1
 clear qw1 uW1
 go_wp2_with fail
 refine (rChk8_ok c d _ Hh2.out).mono ?_
 rintro e w2 ⟨rfl, qw2⟩
 replace qw2 := qw2.dn
 have a2 := nlt l7 qw2.size
 obtain ⟨a3, a4, a5, a6⟩ := mv4 qw2.cell c8 c9 a0 a1
 clear l7 c8 c9 a0 a1
 have uw2 := uw1.trans qw2
 clear qw2 uw1
 go_wp2_with fail
 go_ret
 exact ⟨rfl, uw2⟩
theorem rfChk_4 (a b c d : Int) (h1 : eOk a b) (h2 : eOk c d) (h3 : a ≠ 1) (h4 : c = -1) (w : World) :
  Calls Tryz.prog 44 #[.agg #[.int .i8 a, .int .i64 b, .int .i8 c, .int .i64 d]] w fun ro w' => ro = .returned (.int .i64 4) /\ Dn w w' := by
 have Hh1 := Lib.hid h1
 have Hh2 := Lib.hid h2
 clear h1 h2
 have t1 : (a == 1) = false := by simpa using h3
 have t2 : (c == -1) = true := by simpa using h4
 clear h3 h4
 go_enter Tryz.func44, Tryz.ntmps44
 go_wp2_with fail
 obtain ⟨W1, hW1, uW1, c2, c3, c4, c5, l6⟩ := preKn47x1 w a b c d
 rw [<- hW1]
 clear hW1
 refine (rChk8_ok a b _ Hh1.out).mono ?_
 rintro e w1 ⟨rfl, qw1⟩
 replace qw1 := qw1.dn
 have l7 := nlt l6 qw1.size
 obtain ⟨c8, c9, a0, a1⟩ := mv4 qw1.cell c2 c3 c4 c5
 clear l6 c2 c3 c4 c5
 have uw1 := uW1.trans qw1
 clear qw1 uW1
 go_wp2_with fail
 refine (rChk8_ok c d _ Hh2.out).mono ?_
 rintro e w2 ⟨rfl, qw2⟩
 replace qw2 := qw2.dn
 have a2 := nlt l7 qw2.size
 obtain ⟨a3, a4, a5, a6⟩ := mv4 qw2.cell c8 c9 a0 a1
 clear l7 c8 c9 a0 a1
 have uw2 := uw1.trans qw2
 clear qw2 uw1
 go_wp2_with fail
 go_ret
 exact ⟨rfl, uw2⟩
theorem rfChk_5 (a b c d : Int) (h1 : eOk a b) (h2 : eOk c d) (h3 : a ≠ 1) (h4 : c ≠ -1) (h5 : eC a b c d = 1) (w : World) :
  Calls Tryz.prog 44 #[.agg #[.int .i8 a, .int .i64 b, .int .i8 c, .int .i64 d]] w fun ro w' => ro = .returned (.int .i64 12) /\ Dn w w' := by
 have Hh1 := Lib.hid h1
 have Hh2 := Lib.hid h2
 clear h1 h2
 have t1 : (a == 1) = false := by simpa using h3
 have t2 : (c == -1) = false := by simpa using h4
 have HC := Lib.hid (fun W => rCmp8 a b c d W)
 generalize eC a b c d = n at *
 have t3 : (n == 1) = true := by simpa using h5
 clear h3 h4 h5
 go_enter Tryz.func44, Tryz.ntmps44
 go_wp2_with fail
 obtain ⟨W1, hW1, uW1, c2, c3, c4, c5, l6⟩ := preKn47x1 w a b c d
 rw [<- hW1]
 clear hW1
 refine (rChk8_ok a b _ Hh1.out).mono ?_
 rintro e w1 ⟨rfl, qw1⟩
 replace qw1 := qw1.dn
 have l7 := nlt l6 qw1.size
 obtain ⟨c8, c9, a0, a1⟩ := mv4 qw1.cell c2 c3 c4 c5
 clear l6 c2 c3 c4 c5
 have uw1 := uW1.trans qw1
 clear qw1 uW1
 go_wp2_with fail
 refine (rChk8_ok c d _ Hh2.out).mono ?_
 rintro e w2 ⟨rfl, qw2⟩
 replace qw2 := qw2.dn
 have a2 := nlt l7 qw2.size
 obtain ⟨a3, a4, a5, a6⟩ := mv4 qw2.cell c8 c9 a0 a1
 clear l7 c8 c9 a0 a1
 have uw2 := uw1.trans qw2
 clear qw2 uw1
 go_wp2_with fail
 refine (HC.out _).mono ?_
 rintro e w3 ⟨rfl, qw3⟩
 replace qw3 := qw3.dn
 have a7 := nlt a2 qw3.size
 obtain ⟨a8, a9, aA, aB⟩ := mv4 qw3.cell a3 a4 a5 a6
 clear a2 a3 a4 a5 a6
 have uw3 := uw2.trans qw3
 clear qw3 uw2
 go_wp2_with fail
 go_ret
 exact ⟨rfl, uw3⟩
theorem rfChk_6 (a b c d : Int) (h1 : eOk a b) (h2 : eOk c d) (h3 : a ≠ 1) (h4 : c ≠ -1) (h5 : eC a b c d ≠ 1) (w : World) :
  Calls Tryz.prog 44 #[.agg #[.int .i8 a, .int .i64 b, .int .i8 c, .int .i64 d]] w fun ro w' => ro = .returned (.int .i64 0) /\ Dn w w' := by
 have Hh1 := Lib.hid h1
 have Hh2 := Lib.hid h2
 clear h1 h2
 have t1 : (a == 1) = false := by simpa using h3
 have t2 : (c == -1) = false := by simpa using h4
 have HC := Lib.hid (fun W => rCmp8 a b c d W)
 generalize eC a b c d = n at *
 have t3 : (n == 1) = false := by simpa using h5
 clear h3 h4 h5
 go_enter Tryz.func44, Tryz.ntmps44
 go_wp2_with fail
 obtain ⟨W1, hW1, uW1, c2, c3, c4, c5, l6⟩ := preKn47x1 w a b c d
 rw [<- hW1]
 clear hW1
 refine (rChk8_ok a b _ Hh1.out).mono ?_
 rintro e w1 ⟨rfl, qw1⟩
 replace qw1 := qw1.dn
 have l7 := nlt l6 qw1.size
 obtain ⟨c8, c9, a0, a1⟩ := mv4 qw1.cell c2 c3 c4 c5
 clear l6 c2 c3 c4 c5
 have uw1 := uW1.trans qw1
 clear qw1 uW1
 go_wp2_with fail
 refine (rChk8_ok c d _ Hh2.out).mono ?_
 rintro e w2 ⟨rfl, qw2⟩
 replace qw2 := qw2.dn
 have a2 := nlt l7 qw2.size
 obtain ⟨a3, a4, a5, a6⟩ := mv4 qw2.cell c8 c9 a0 a1
 clear l7 c8 c9 a0 a1
 have uw2 := uw1.trans qw2
 clear qw2 uw1
 go_wp2_with fail
 refine (HC.out _).mono ?_
 rintro e w3 ⟨rfl, qw3⟩
 replace qw3 := qw3.dn
 have a7 := nlt a2 qw3.size
 obtain ⟨a8, a9, aA, aB⟩ := mv4 qw3.cell a3 a4 a5 a6
 clear a2 a3 a4 a5 a6
 have uw3 := uw2.trans qw3
 clear qw3 uw2
 go_wp2_with fail
 go_ret
 exact ⟨rfl, uw3⟩
theorem eC_pos (i d j f : Int) : 0 < eC i d j f ↔ eC i d j f = 1 := by
 unfold eC c3
 repeat' split
 all_goals omega
theorem rfChk (a b c d : Int) (w : World) :
   Calls Tryz.prog 44 #[.agg #[.int .i8 a, .int .i64 b, .int .i8 c, .int .i64 d]] w fun e w' => e = .returned (.int .i64 (rnErr a b c d)) /\ Dn w w' := by
 unfold rnErr
 by_cases h1 : eOk a b
 · by_cases h2 : eOk c d
   · rw [if_neg (by simp [h1, h2])]
     by_cases h3 : a = 1
     · rw [if_pos (Or.inl (by omega))]; exact rfChk_3 a b c d h1 h2 h3 w
     · have h3' : ¬ 0 < a := by unfold eOk at h1; omega
       by_cases h4 : c = -1
       · rw [if_pos (Or.inr (by omega))]; exact rfChk_4 a b c d h1 h2 h3 h4 w
       · have h4' : ¬ c < 0 := by unfold eOk at h2; omega
         rw [if_neg (by omega)]; have k := eC_pos a b c d
         by_cases h5 : eC a b c d = 1
         · rw [if_pos (k.2 h5)]; exact rfChk_5 a b c d h1 h2 h3 h4 h5 w
         · rw [if_neg (fun hc => h5 (k.1 hc))]; exact rfChk_6 a b c d h1 h2 h3 h4 h5 w
   · rw [if_pos (by simp [h2])]; exact rfChk_2 a b c d h1 h2 w
 · rw [if_pos (by simp [h1])]; exact rfChk_1 a b c d h1 w
def HasP (a b c d day : Int) : Prop := (a = -1 \/ b <= day) /\ (c = 1 \/ day <= d)
instance decHasP (a b c d day : Int) : Decidable (HasP a b c d day) := by unfold HasP; infer_instance
theorem rfHas_a1c1 (a b c d day : Int) (h0 : a = -1) (h1 : c = 1) (w : World) :
  Calls Tryz.prog 46 #[.agg #[.int .i8 a, .int .i64 b, .int .i8 c, .int .i64 d], .int .i64 day] w fun ro w' => ro = .returned (.bool true) /\ Dn w w' := by
 have t0 : (a == -1) = true := by simpa using h0
 have t1 : (c == 1) = true := by simpa using h1
 clear h0 h1
 go_enter Tryz.func46, Tryz.ntmps46
 go_wp2_with fail
 go_ret
 exact ⟨rfl, (Dn.refl _).alloc _⟩
theorem rfHas_a1cd1 (a b c d day : Int) (h0 : a = -1) (h1 : c ≠ 1) (h2 : day <= d) (w : World) :
  Calls Tryz.prog 46 #[.agg #[.int .i8 a, .int .i64 b, .int .i8 c, .int .i64 d], .int .i64 day] w fun ro w' => ro = .returned (.bool true) /\ Dn w w' := by
 have t0 : (a == -1) = true := by simpa using h0
 have t1 : (c == 1) = false := by simpa using h1
 have t2 : decide (day <= d) = true := by simpa using h2
 clear h0 h1 h2
 go_enter Tryz.func46, Tryz.ntmps46
 go_wp2_with fail
 go_ret
 exact ⟨rfl, (Dn.refl _).alloc _⟩
theorem rfHas_a1cd (a b c d day : Int) (h0 : a = -1) (h1 : c ≠ 1) (h2 : ¬ day <= d) (w : World) :
  Calls Tryz.prog 46 #[.agg #[.int .i8 a, .int .i64 b, .int .i8 c, .int .i64 d], .int .i64 day] w fun ro w' => ro = .returned (.bool false) /\ Dn w w' := by
 have t0 : (a == -1) = true := by simpa using h0
 have t1 : (c == 1) = false := by simpa using h1
 have t2 : decide (day <= d) = false := by simpa using h2
 clear h0 h1 h2
 go_enter Tryz.func46, Tryz.ntmps46
 go_wp2_with fail
 go_ret
 exact ⟨rfl, (Dn.refl _).alloc _⟩
theorem rfHas_ab1c1 (a b c d day : Int) (h0 : a ≠ -1) (h1 : b <= day) (h2 : c = 1) (w : World) :
  Calls Tryz.prog 46 #[.agg #[.int .i8 a, .int .i64 b, .int .i8 c, .int .i64 d], .int .i64 day] w fun ro w' => ro = .returned (.bool true) /\ Dn w w' := by
 have t0 : (a == -1) = false := by simpa using h0
 have t1 : decide (b <= day) = true := by simpa using h1
 have t2 : (c == 1) = true := by simpa using h2
 clear h0 h1 h2
 go_enter Tryz.func46, Tryz.ntmps46
 go_wp2_with fail
 go_ret
 exact ⟨rfl, (Dn.refl _).alloc _⟩
theorem rfHas_ab1cd1 (a b c d day : Int) (h0 : a ≠ -1) (h1 : b <= day) (h2 : c ≠ 1) (h3 : day <= d) (w : World) :
  Calls Tryz.prog 46 #[.agg #[.int .i8 a, .int .i64 b, .int .i8 c, .int .i64 d], .int .i64 day] w fun ro w' => ro = .returned (.bool true) /\ Dn w w' := by
 have t0 : (a == -1) = false := by simpa using h0
 have t1 : decide (b <= day) = true := by simpa using h1
 have t2 : (c == 1) = false := by simpa using h2
 have t3 : decide (day <= d) = true := by simpa using h3
 clear h0 h1 h2 h3
 go_enter Tryz.func46, Tryz.ntmps46
 go_wp2_with fail
 go_ret
 exact ⟨rfl, (Dn.refl _).alloc _⟩
theorem rfHas_ab1cd (a b c d day : Int) (h0 : a ≠ -1) (h1 : b <= day) (h2 : c ≠ 1) (h3 : ¬ day <= d) (w : World) :
  Calls Tryz.prog 46 #[.agg #[.int .i8 a, .int .i64 b, .int .i8 c, .int .i64 d], .int .i64 day] w fun ro w' => ro = .returned (.bool false) /\ Dn w w' := by
 have t0 : (a == -1) = false := by simpa using h0
 have t1 : decide (b <= day) = true := by simpa using h1
 have t2 : (c == 1) = false := by simpa using h2
 have t3 : decide (day <= d) = false := by simpa using h3
 clear h0 h1 h2 h3
 go_enter Tryz.func46, Tryz.ntmps46
 go_wp2_with fail
 go_ret
 exact ⟨rfl, (Dn.refl _).alloc _⟩
theorem rfHas_ab (a b c d day : Int) (h0 : a ≠ -1) (h1 : ¬ b <= day) (w : World) :
  Calls Tryz.prog 46 #[.agg #[.int .i8 a, .int .i64 b, .int .i8 c, .int .i64 d], .int .i64 day] w fun ro w' => ro = .returned (.bool false) /\ Dn w w' := by
 have t0 : (a == -1) = false := by simpa using h0
 have t1 : decide (b <= day) = false := by simpa using h1
 clear h0 h1
 go_enter Tryz.func46, Tryz.ntmps46
 go_wp2_with fail
 go_ret
 exact ⟨rfl, (Dn.refl _).alloc _⟩
theorem rfHas (a b c d day : Int) (w : World) :
   Calls Tryz.prog 46 #[.agg #[.int .i8 a, .int .i64 b, .int .i8 c, .int .i64 d], .int .i64 day] w fun e w' => e = .returned (.bool (decide (HasP a b c d day))) /\ Dn w w' := by
 by_cases hA : a = -1
 · by_cases hC : c = 1
   · rw [decide_eq_true (show HasP a b c d day from ⟨Or.inl hA, Or.inl hC⟩)]; exact rfHas_a1c1 a b c d day hA hC w
   · by_cases hD : day <= d
     · rw [decide_eq_true (show HasP a b c d day from ⟨Or.inl hA, Or.inr hD⟩)]; exact rfHas_a1cd1 a b c d day hA hC hD w
     · rw [decide_eq_false (fun h : HasP a b c d day => h.2.elim hC hD)]; exact rfHas_a1cd a b c d day hA hC hD w
 · by_cases hB : b <= day
   · by_cases hC : c = 1
     · rw [decide_eq_true (show HasP a b c d day from ⟨Or.inr hB, Or.inl hC⟩)]; exact rfHas_ab1c1 a b c d day hA hB hC w
     · by_cases hD : day <= d
       · rw [decide_eq_true (show HasP a b c d day from ⟨Or.inr hB, Or.inr hD⟩)]; exact rfHas_ab1cd1 a b c d day hA hB hC hD w
       · rw [decide_eq_false (fun h : HasP a b c d day => h.2.elim hC hD)]; exact rfHas_ab1cd a b c d day hA hB hC hD w
   · rw [decide_eq_false (fun h : HasP a b c d day => h.1.elim hA hB)]; exact rfHas_ab a b c d day hA hB w
end Go.Proofs.YtoghoddjkdoohaaGreatDoor
