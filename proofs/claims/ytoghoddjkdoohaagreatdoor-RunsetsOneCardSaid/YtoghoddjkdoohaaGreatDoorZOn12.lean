/- Walks and laws that the claim's theorem leans on: part 12. -/
import Derived.Test.YtoghoddjkdoohaaGreatDoorZOn1
import Derived.Test.YtoghoddjkdoohaaGreatDoorZOn5
import Derived.Test.YtoghoddjkdoohaaGreatDoorZOn9
import Derived.Test.YtoghoddjkdoohaaGreatDoorZOn11
namespace Go.Proofs.YtoghoddjkdoohaaGreatDoor
set_option maxHeartbeats 4000000
set_option maxRecDepth 100000
open Go.RowKit
set_option linter.unusedVariables false
set_option linter.unusedSimpArgs false
theorem preOn47x1 (w : World) (a b c d : Int) : ∃ W1, W1 = w.alloc (.cells #[.int .i8 a, .int .i64 b, .int .i8 c, .int .i64 d] 45) ∧ (Dn w W1) ∧ (W1.cell? ⟨w.heap.size, 0, none⟩ = some (.int .i8 a)) ∧ (W1.cell? ⟨w.heap.size, 1, none⟩ = some (.int .i64 b)) ∧ (W1.cell? ⟨w.heap.size, 2, none⟩ = some (.int .i8 c)) ∧ (W1.cell? ⟨w.heap.size, 3, none⟩ = some (.int .i64 d)) ∧ (w.heap.size < W1.heap.size) := by
  obtain ⟨W1, hW1⟩ : ∃ W1, W1 = w.alloc (.cells #[.int .i8 a, .int .i64 b, .int .i8 c, .int .i64 d] 45) := ⟨_, rfl⟩
  exact ⟨W1, hW1, (by rw [hW1]; exact (Dn.refl _).alloc _), (by rw [hW1]; simp [go_sem]), (by rw [hW1]; simp [go_sem]), (by rw [hW1]; simp [go_sem]), (by rw [hW1]; simp [go_sem]), (by rw [hW1]; simp <;> omega)⟩
theorem rfChk_1 (a b c d : Int) (h1 : ¬ eOk a b) (w : World) :
  Calls Tryz.prog 44 #[.agg #[.int .i8 a, .int .i64 b, .int .i8 c, .int .i64 d]] w fun ro w' => ro = .returned (.int .i64 5) ∧ Dn w w' := by
 have Hh1 := Lib.hid h1
 clear h1
 go_enter Tryz.func44, Tryz.ntmps44
 go_wp2_with fail
 obtain ⟨W1, hW1, uW1, c2, c3, c4, c5, l6⟩ := preOn47x1 w a b c d
 rw [← hW1]
 clear hW1
 refine (rChk8_bad a b _ Hh1.out).mono ?_
 rintro e w1 ⟨rfl, qw1⟩
 replace qw1 := qw1.dn
 have l7 := nlt l6 qw1.size
 obtain ⟨c8, c9, c10, c11⟩ := mv4 qw1.cell c2 c3 c4 c5
 clear l6 c2 c3 c4 c5
 have uw1 := uW1.trans qw1
 clear qw1 uW1
 go_wp2_with fail
 go_ret
 exact ⟨rfl, uw1⟩
theorem rfChk_2 (a b c d : Int) (h1 : eOk a b) (h2 : ¬ eOk c d) (w : World) :
  Calls Tryz.prog 44 #[.agg #[.int .i8 a, .int .i64 b, .int .i8 c, .int .i64 d]] w fun ro w' => ro = .returned (.int .i64 5) ∧ Dn w w' := by
 have Hh1 := Lib.hid h1
 have Hh2 := Lib.hid h2
 clear h1 h2
 go_enter Tryz.func44, Tryz.ntmps44
 go_wp2_with fail
 obtain ⟨W1, hW1, uW1, c2, c3, c4, c5, l6⟩ := preOn47x1 w a b c d
 rw [← hW1]
 clear hW1
 refine (rChk8_ok a b _ Hh1.out).mono ?_
 rintro e w1 ⟨rfl, qw1⟩
 replace qw1 := qw1.dn
 have l7 := nlt l6 qw1.size
 obtain ⟨c8, c9, a0, a1⟩ := mv4 qw1.cell c2 c3 c4 c5
 clear l6 c2 c3 c4 c5
 have uw1 := uW1.trans qw1
 clear qw1 uW1
 go_wp2_with fail
 refine (rChk8_bad c d _ Hh2.out).mono ?_
 rintro e w2 ⟨rfl, qw2⟩
 replace qw2 := qw2.dn
 have a2 := nlt l7 qw2.size
 obtain ⟨a3, a4, a5, a6⟩ := mv4 qw2.cell c8 c9 a0 a1
 clear l7 c8 c9 a0 a1
 have uw2 := uw1.trans qw2
 clear qw2 uw1
 go_wp2_with fail
 go_ret
 exact ⟨rfl, uw2⟩
theorem rfChk_3 (a b c d : Int) (h1 : eOk a b) (h2 : eOk c d) (h3 : a = 1) (w : World) :
  Calls Tryz.prog 44 #[.agg #[.int .i8 a, .int .i64 b, .int .i8 c, .int .i64 d]] w fun ro w' => ro = .returned (.int .i64 4) ∧ Dn w w' := by
 have Hh1 := Lib.hid h1
 have Hh2 := Lib.hid h2
 clear h1 h2
 have t1 : (a == 1) = true := by simpa using h3
 clear h3
 go_enter Tryz.func44, Tryz.ntmps44
 go_wp2_with fail
 obtain ⟨W1, hW1, uW1, c2, c3, c4, c5, l6⟩ := preOn47x1 w a b c d
 rw [← hW1]
 clear hW1
 refine (rChk8_ok a b _ Hh1.out).mono ?_
 rintro e w1 ⟨rfl, qw1⟩
 replace qw1 := qw1.dn
 have l7 := nlt l6 qw1.size
 obtain ⟨c8, c9, a0, a1⟩ := mv4 qw1.cell c2 c3 c4 c5
 clear l6 c2 c3 c4 c5
 have uw1 := uW1.trans qw1
 clear qw1 uW1
 go_wp2_with fail
 refine (rChk8_ok c d _ Hh2.out).mono ?_
 rintro e w2 ⟨rfl, qw2⟩
 replace qw2 := qw2.dn
 have a2 := nlt l7 qw2.size
 obtain ⟨a3, a4, a5, a6⟩ := mv4 qw2.cell c8 c9 a0 a1
 clear l7 c8 c9 a0 a1
 have uw2 := uw1.trans qw2
 clear qw2 uw1
 go_wp2_with fail
 go_ret
 exact ⟨rfl, uw2⟩
theorem rfChk_4 (a b c d : Int) (h1 : eOk a b) (h2 : eOk c d) (h3 : a ≠ 1) (h4 : c = -1) (w : World) :
  Calls Tryz.prog 44 #[.agg #[.int .i8 a, .int .i64 b, .int .i8 c, .int .i64 d]] w fun ro w' => ro = .returned (.int .i64 4) ∧ Dn w w' := by
 have Hh1 := Lib.hid h1
 have Hh2 := Lib.hid h2
 clear h1 h2
 have t1 : (a == 1) = false := by simpa using h3
 have t2 : (c == -1) = true := by simpa using h4
 clear h3 h4
 go_enter Tryz.func44, Tryz.ntmps44
 go_wp2_with fail
 obtain ⟨W1, hW1, uW1, c2, c3, c4, c5, l6⟩ := preOn47x1 w a b c d
 rw [← hW1]
 clear hW1
 refine (rChk8_ok a b _ Hh1.out).mono ?_
 rintro e w1 ⟨rfl, qw1⟩
 replace qw1 := qw1.dn
 have l7 := nlt l6 qw1.size
 obtain ⟨c8, c9, a0, a1⟩ := mv4 qw1.cell c2 c3 c4 c5
 clear l6 c2 c3 c4 c5
 have uw1 := uW1.trans qw1
 clear qw1 uW1
 go_wp2_with fail
 refine (rChk8_ok c d _ Hh2.out).mono ?_
 rintro e w2 ⟨rfl, qw2⟩
 replace qw2 := qw2.dn
 have a2 := nlt l7 qw2.size
 obtain ⟨a3, a4, a5, a6⟩ := mv4 qw2.cell c8 c9 a0 a1
 clear l7 c8 c9 a0 a1
 have uw2 := uw1.trans qw2
 clear qw2 uw1
 go_wp2_with fail
 go_ret
 exact ⟨rfl, uw2⟩
theorem rfChk_5 (a b c d : Int) (h1 : eOk a b) (h2 : eOk c d) (h3 : a ≠ 1) (h4 : c ≠ -1) (h5 : eC a b c d = 1) (w : World) :
  Calls Tryz.prog 44 #[.agg #[.int .i8 a, .int .i64 b, .int .i8 c, .int .i64 d]] w fun ro w' => ro = .returned (.int .i64 12) ∧ Dn w w' := by
 have Hh1 := Lib.hid h1
 have Hh2 := Lib.hid h2
 clear h1 h2
 have t1 : (a == 1) = false := by simpa using h3
 have t2 : (c == -1) = false := by simpa using h4
 have HC := Lib.hid (fun W => rCmp8 a b c d W)
 generalize eC a b c d = n at *
 have t3 : (n == 1) = true := by simpa using h5
 clear h3 h4 h5
 go_enter Tryz.func44, Tryz.ntmps44
 go_wp2_with fail
 obtain ⟨W1, hW1, uW1, c2, c3, c4, c5, l6⟩ := preOn47x1 w a b c d
 rw [← hW1]
 clear hW1
 refine (rChk8_ok a b _ Hh1.out).mono ?_
 rintro e w1 ⟨rfl, qw1⟩
 replace qw1 := qw1.dn
 have l7 := nlt l6 qw1.size
 obtain ⟨c8, c9, a0, a1⟩ := mv4 qw1.cell c2 c3 c4 c5
 clear l6 c2 c3 c4 c5
 have uw1 := uW1.trans qw1
 clear qw1 uW1
 go_wp2_with fail
 refine (rChk8_ok c d _ Hh2.out).mono ?_
 rintro e w2 ⟨rfl, qw2⟩
 replace qw2 := qw2.dn
 have a2 := nlt l7 qw2.size
 obtain ⟨a3, a4, a5, a6⟩ := mv4 qw2.cell c8 c9 a0 a1
 clear l7 c8 c9 a0 a1
 have uw2 := uw1.trans qw2
 clear qw2 uw1
 go_wp2_with fail
 refine (HC.out _).mono ?_
 rintro e w3 ⟨rfl, qw3⟩
 replace qw3 := qw3.dn
 have a7 := nlt a2 qw3.size
 obtain ⟨a8, a9, aA, aB⟩ := mv4 qw3.cell a3 a4 a5 a6
 clear a2 a3 a4 a5 a6
 have uw3 := uw2.trans qw3
 clear qw3 uw2
 go_wp2_with fail
 go_ret
 exact ⟨rfl, uw3⟩
theorem rfChk_6 (a b c d : Int) (h1 : eOk a b) (h2 : eOk c d) (h3 : a ≠ 1) (h4 : c ≠ -1) (h5 : eC a b c d ≠ 1) (w : World) :
  Calls Tryz.prog 44 #[.agg #[.int .i8 a, .int .i64 b, .int .i8 c, .int .i64 d]] w fun ro w' => ro = .returned (.int .i64 0) ∧ Dn w w' := by
 have Hh1 := Lib.hid h1
 have Hh2 := Lib.hid h2
 clear h1 h2
 have t1 : (a == 1) = false := by simpa using h3
 have t2 : (c == -1) = false := by simpa using h4
 have HC := Lib.hid (fun W => rCmp8 a b c d W)
 generalize eC a b c d = n at *
 have t3 : (n == 1) = false := by simpa using h5
 clear h3 h4 h5
 go_enter Tryz.func44, Tryz.ntmps44
 go_wp2_with fail
 obtain ⟨W1, hW1, uW1, c2, c3, c4, c5, l6⟩ := preOn47x1 w a b c d
 rw [← hW1]
 clear hW1
 refine (rChk8_ok a b _ Hh1.out).mono ?_
 rintro e w1 ⟨rfl, qw1⟩
 replace qw1 := qw1.dn
 have l7 := nlt l6 qw1.size
 obtain ⟨c8, c9, a0, a1⟩ := mv4 qw1.cell c2 c3 c4 c5
 clear l6 c2 c3 c4 c5
 have uw1 := uW1.trans qw1
 clear qw1 uW1
 go_wp2_with fail
 refine (rChk8_ok c d _ Hh2.out).mono ?_
 rintro e w2 ⟨rfl, qw2⟩
 replace qw2 := qw2.dn
 have a2 := nlt l7 qw2.size
 obtain ⟨a3, a4, a5, a6⟩ := mv4 qw2.cell c8 c9 a0 a1
 clear l7 c8 c9 a0 a1
 have uw2 := uw1.trans qw2
 clear qw2 uw1
 go_wp2_with fail
 refine (HC.out _).mono ?_
 rintro e w3 ⟨rfl, qw3⟩
 replace qw3 := qw3.dn
 have a7 := nlt a2 qw3.size
 obtain ⟨a8, a9, aA, aB⟩ := mv4 qw3.cell a3 a4 a5 a6
 clear a2 a3 a4 a5 a6
 have uw3 := uw2.trans qw3
 clear qw3 uw2
 go_wp2_with fail
 go_ret
 exact ⟨rfl, uw3⟩
theorem eC_pos (i d j f : Int) : 0 < eC i d j f ↔ eC i d j f = 1 := by
 unfold eC c3
 repeat' split
 all_goals omega
theorem rfChk (a b c d : Int) (w : World) :
   Calls Tryz.prog 44 #[.agg #[.int .i8 a, .int .i64 b, .int .i8 c, .int .i64 d]] w fun e w' => e = .returned (.int .i64 (rnErr a b c d)) ∧ Dn w w' := by
 unfold rnErr
 by_cases h1 : eOk a b
 · by_cases h2 : eOk c d
   · rw [if_neg (by simp [h1, h2])]
     by_cases h3 : a = 1
     · rw [if_pos (Or.inl (by omega))]; exact rfChk_3 a b c d h1 h2 h3 w
     · have h3' : ¬ 0 < a := by unfold eOk at h1; omega
       by_cases h4 : c = -1
       · rw [if_pos (Or.inr (by omega))]; exact rfChk_4 a b c d h1 h2 h3 h4 w
       · have h4' : ¬ c < 0 := by unfold eOk at h2; omega
         rw [if_neg (by omega)]
         have k := eC_pos a b c d
         by_cases h5 : eC a b c d = 1
         · rw [if_pos (k.2 h5)]; exact rfChk_5 a b c d h1 h2 h3 h4 h5 w
         · rw [if_neg (fun hc => h5 (k.1 hc))]; exact rfChk_6 a b c d h1 h2 h3 h4 h5 w
   · rw [if_pos (by simp [h2])]; exact rfChk_2 a b c d h1 h2 w
 · rw [if_pos (by simp [h1])]; exact rfChk_1 a b c d h1 w
def HasP (a b c d day : Int) : Prop := (a = -1 ∨ b ≤ day) ∧ (c = 1 ∨ day ≤ d)
instance decHasP (a b c d day : Int) : Decidable (HasP a b c d day) := by unfold HasP; infer_instance
theorem rfHas_a1c1 (a b c d day : Int) (h0 : a = -1) (h1 : c = 1) (w : World) :
  Calls Tryz.prog 46 #[.agg #[.int .i8 a, .int .i64 b, .int .i8 c, .int .i64 d], .int .i64 day] w fun ro w' => ro = .returned (.bool true) ∧ Dn w w' := by
 have t0 : (a == -1) = true := by simpa using h0
 have t1 : (c == 1) = true := by simpa using h1
 clear h0 h1
 go_enter Tryz.func46, Tryz.ntmps46
 go_wp2_with fail
 go_ret
 exact ⟨rfl, (Dn.refl _).alloc _⟩
theorem rfHas_a1cd1 (a b c d day : Int) (h0 : a = -1) (h1 : c ≠ 1) (h2 : day ≤ d) (w : World) :
  Calls Tryz.prog 46 #[.agg #[.int .i8 a, .int .i64 b, .int .i8 c, .int .i64 d], .int .i64 day] w fun ro w' => ro = .returned (.bool true) ∧ Dn w w' := by
 have t0 : (a == -1) = true := by simpa using h0
 have t1 : (c == 1) = false := by simpa using h1
 have t2 : decide (day ≤ d) = true := by simpa using h2
 clear h0 h1 h2
 go_enter Tryz.func46, Tryz.ntmps46
 go_wp2_with fail
 go_ret
 exact ⟨rfl, (Dn.refl _).alloc _⟩
theorem rfHas_a1cd (a b c d day : Int) (h0 : a = -1) (h1 : c ≠ 1) (h2 : ¬ day ≤ d) (w : World) :
  Calls Tryz.prog 46 #[.agg #[.int .i8 a, .int .i64 b, .int .i8 c, .int .i64 d], .int .i64 day] w fun ro w' => ro = .returned (.bool false) ∧ Dn w w' := by
 have t0 : (a == -1) = true := by simpa using h0
 have t1 : (c == 1) = false := by simpa using h1
 have t2 : decide (day ≤ d) = false := by simpa using h2
 clear h0 h1 h2
 go_enter Tryz.func46, Tryz.ntmps46
 go_wp2_with fail
 go_ret
 exact ⟨rfl, (Dn.refl _).alloc _⟩
theorem rfHas_ab1c1 (a b c d day : Int) (h0 : a ≠ -1) (h1 : b ≤ day) (h2 : c = 1) (w : World) :
  Calls Tryz.prog 46 #[.agg #[.int .i8 a, .int .i64 b, .int .i8 c, .int .i64 d], .int .i64 day] w fun ro w' => ro = .returned (.bool true) ∧ Dn w w' := by
 have t0 : (a == -1) = false := by simpa using h0
 have t1 : decide (b ≤ day) = true := by simpa using h1
 have t2 : (c == 1) = true := by simpa using h2
 clear h0 h1 h2
 go_enter Tryz.func46, Tryz.ntmps46
 go_wp2_with fail
 go_ret
 exact ⟨rfl, (Dn.refl _).alloc _⟩
theorem rfHas_ab1cd1 (a b c d day : Int) (h0 : a ≠ -1) (h1 : b ≤ day) (h2 : c ≠ 1) (h3 : day ≤ d) (w : World) :
  Calls Tryz.prog 46 #[.agg #[.int .i8 a, .int .i64 b, .int .i8 c, .int .i64 d], .int .i64 day] w fun ro w' => ro = .returned (.bool true) ∧ Dn w w' := by
 have t0 : (a == -1) = false := by simpa using h0
 have t1 : decide (b ≤ day) = true := by simpa using h1
 have t2 : (c == 1) = false := by simpa using h2
 have t3 : decide (day ≤ d) = true := by simpa using h3
 clear h0 h1 h2 h3
 go_enter Tryz.func46, Tryz.ntmps46
 go_wp2_with fail
 go_ret
 exact ⟨rfl, (Dn.refl _).alloc _⟩
theorem rfHas_ab1cd (a b c d day : Int) (h0 : a ≠ -1) (h1 : b ≤ day) (h2 : c ≠ 1) (h3 : ¬ day ≤ d) (w : World) :
  Calls Tryz.prog 46 #[.agg #[.int .i8 a, .int .i64 b, .int .i8 c, .int .i64 d], .int .i64 day] w fun ro w' => ro = .returned (.bool false) ∧ Dn w w' := by
 have t0 : (a == -1) = false := by simpa using h0
 have t1 : decide (b ≤ day) = true := by simpa using h1
 have t2 : (c == 1) = false := by simpa using h2
 have t3 : decide (day ≤ d) = false := by simpa using h3
 clear h0 h1 h2 h3
 go_enter Tryz.func46, Tryz.ntmps46
 go_wp2_with fail
 go_ret
 exact ⟨rfl, (Dn.refl _).alloc _⟩
theorem rfHas_ab (a b c d day : Int) (h0 : a ≠ -1) (h1 : ¬ b ≤ day) (w : World) :
  Calls Tryz.prog 46 #[.agg #[.int .i8 a, .int .i64 b, .int .i8 c, .int .i64 d], .int .i64 day] w fun ro w' => ro = .returned (.bool false) ∧ Dn w w' := by
 have t0 : (a == -1) = false := by simpa using h0
 have t1 : decide (b ≤ day) = false := by simpa using h1
 clear h0 h1
 go_enter Tryz.func46, Tryz.ntmps46
 go_wp2_with fail
 go_ret
 exact ⟨rfl, (Dn.refl _).alloc _⟩
theorem rfHas (a b c d day : Int) (w : World) :
   Calls Tryz.prog 46 #[.agg #[.int .i8 a, .int .i64 b, .int .i8 c, .int .i64 d], .int .i64 day] w fun e w' => e = .returned (.bool (decide (HasP a b c d day))) ∧ Dn w w' := by
 by_cases hA : a = -1
 · by_cases hC : c = 1
   · rw [decide_eq_true (show HasP a b c d day from ⟨Or.inl hA, Or.inl hC⟩)]; exact rfHas_a1c1 a b c d day hA hC w
   · by_cases hD : day ≤ d
     · rw [decide_eq_true (show HasP a b c d day from ⟨Or.inl hA, Or.inr hD⟩)]; exact rfHas_a1cd1 a b c d day hA hC hD w
     · rw [decide_eq_false (fun h : HasP a b c d day => h.2.elim hC hD)]; exact rfHas_a1cd a b c d day hA hC hD w
 · by_cases hB : b ≤ day
   · by_cases hC : c = 1
     · rw [decide_eq_true (show HasP a b c d day from ⟨Or.inr hB, Or.inl hC⟩)]; exact rfHas_ab1c1 a b c d day hA hB hC w
     · by_cases hD : day ≤ d
       · rw [decide_eq_true (show HasP a b c d day from ⟨Or.inr hB, Or.inr hD⟩)]; exact rfHas_ab1cd1 a b c d day hA hB hC hD w
       · rw [decide_eq_false (fun h : HasP a b c d day => h.2.elim hC hD)]; exact rfHas_ab1cd a b c d day hA hB hC hD w
   · rw [decide_eq_false (fun h : HasP a b c d day => h.1.elim hA hB)]; exact rfHas_ab a b c d day hA hB w
set_option maxHeartbeats 4000000
set_option maxRecDepth 100000
theorem rfBeg_1 (a b c d e f g h : Int) (h1 : e = -1) (h2 : a = -1) (w : World) :
  Calls Tryz.prog 110 #[.agg #[.int .i8 a, .int .i64 b, .int .i8 c, .int .i64 d], .agg #[.int .i8 e, .int .i64 f, .int .i8 g, .int .i64 h]] w fun ro w' => ro = .returned (.bool true) ∧ Dn w w' := by
 have t1 : (e == -1) = true := by simpa using h1
 have t2 : (a == -1) = true := by simpa using h2
 clear h1 h2
 go_enter Tryz.func110, Tryz.ntmps110
 go_wp2_with fail
 go_ret
 exact ⟨rfl, ((Dn.refl _).alloc _).alloc _⟩
theorem rfBeg_2 (a b c d e f g h : Int) (h1 : e = -1) (h2 : a ≠ -1) (w : World) :
  Calls Tryz.prog 110 #[.agg #[.int .i8 a, .int .i64 b, .int .i8 c, .int .i64 d], .agg #[.int .i8 e, .int .i64 f, .int .i8 g, .int .i64 h]] w fun ro w' => ro = .returned (.bool false) ∧ Dn w w' := by
 have t1 : (e == -1) = true := by simpa using h1
 have t2 : (a == -1) = false := by simpa using h2
 clear h1 h2
 go_enter Tryz.func110, Tryz.ntmps110
 go_wp2_with fail
 go_ret
 exact ⟨rfl, ((Dn.refl _).alloc _).alloc _⟩
theorem preOn48x1 (w : World) (a b c d e f g h : Int) : ∃ W1, W1 = (w.alloc (.cells #[.int .i8 a, .int .i64 b, .int .i8 c, .int .i64 d] 45)).alloc (.cells #[.int .i8 e, .int .i64 f, .int .i8 g, .int .i64 h] 45) ∧ (Dn w W1) ∧ (W1.cell? ⟨w.heap.size, 0, none⟩ = some (.int .i8 a)) ∧ (W1.cell? ⟨w.heap.size, 1, none⟩ = some (.int .i64 b)) ∧ (W1.cell? ⟨w.heap.size, 2, none⟩ = some (.int .i8 c)) ∧ (W1.cell? ⟨w.heap.size, 3, none⟩ = some (.int .i64 d)) ∧ (w.heap.size < W1.heap.size) ∧ (W1.cell? ⟨w.heap.size + 1, 0, none⟩ = some (.int .i8 e)) ∧ (W1.cell? ⟨w.heap.size + 1, 1, none⟩ = some (.int .i64 f)) ∧ (W1.cell? ⟨w.heap.size + 1, 2, none⟩ = some (.int .i8 g)) ∧ (W1.cell? ⟨w.heap.size + 1, 3, none⟩ = some (.int .i64 h)) ∧ (w.heap.size + 1 < W1.heap.size) := by
  obtain ⟨W1, hW1⟩ : ∃ W1, W1 = (w.alloc (.cells #[.int .i8 a, .int .i64 b, .int .i8 c, .int .i64 d] 45)).alloc (.cells #[.int .i8 e, .int .i64 f, .int .i8 g, .int .i64 h] 45) := ⟨_, rfl⟩
  exact ⟨W1, hW1, (by rw [hW1]; exact ((Dn.refl _).alloc _).alloc _), (by rw [hW1]; simp [go_sem]), (by rw [hW1]; simp [go_sem]), (by rw [hW1]; simp [go_sem]), (by rw [hW1]; simp [go_sem]), (by rw [hW1]; simp <;> omega), (by rw [hW1]; simp [go_sem]), (by rw [hW1]; simp [go_sem]), (by rw [hW1]; simp [go_sem]), (by rw [hW1]; simp [go_sem]), (by rw [hW1]; simp <;> omega)⟩
theorem rfBeg_3 (a b c d e f g h : Int) (p : Bool) (h1 : e ≠ -1) (HH : Hid (∀ W, Calls Tryz.prog 46 #[.agg #[.int .i8 a, .int .i64 b, .int .i8 c, .int .i64 d], .int .i64 f] W fun o w' => o = .returned (.bool p) ∧ Dn W w')) (w : World) :
  Calls Tryz.prog 110 #[.agg #[.int .i8 a, .int .i64 b, .int .i8 c, .int .i64 d], .agg #[.int .i8 e, .int .i64 f, .int .i8 g, .int .i64 h]] w fun ro w' => ro = .returned (.bool p) ∧ Dn w w' := by
 have t1 : (e == -1) = false := by simpa using h1
 clear h1
 go_enter Tryz.func110, Tryz.ntmps110
 go_wp2_with fail
 obtain ⟨W1, hW1, uW1, c2, c3, c4, c5, l6, c7, c8, c9, a0, a1⟩ := preOn48x1 w a b c d e f g h
 rw [← hW1]
 clear hW1
 refine (HH.out _).mono ?_
 rintro e w1 ⟨rfl, qw1⟩
 have a2 := nlt l6 qw1.size
 have a7 := nlt a1 qw1.size
 obtain ⟨a3, a4, a5, a6, a8, a9, aA, aB⟩ := mv8 qw1.cell c2 c3 c4 c5 c7 c8 c9 a0
 clear l6 c2 c3 c4 c5 a1 c7 c8 c9 a0
 have uw1 := uW1.trans qw1
 clear qw1 uW1
 go_wp2_with fail
 go_ret
 exact ⟨rfl, uw1⟩
def BegP (a b c d e f : Int) : Prop := if e = -1 then a = -1 else HasP a b c d f
instance decBegP (a b c d e f : Int) : Decidable (BegP a b c d e f) := by unfold BegP; infer_instance
theorem rfBeg (a b c d e f g h : Int) (w : World) :
   Calls Tryz.prog 110 #[.agg #[.int .i8 a, .int .i64 b, .int .i8 c, .int .i64 d], .agg #[.int .i8 e, .int .i64 f, .int .i8 g, .int .i64 h]] w fun ro w' => ro = .returned (.bool (decide (BegP a b c d e f))) ∧ Dn w w' := by
 by_cases h1 : e = -1
 · by_cases h2 : a = -1
   · rw [decide_eq_true (show BegP a b c d e f by unfold BegP; rw [if_pos h1]; exact h2)]; exact rfBeg_1 a b c d e f g h h1 h2 w
   · rw [decide_eq_false (show ¬ BegP a b c d e f by unfold BegP; rw [if_pos h1]; exact h2)]; exact rfBeg_2 a b c d e f g h h1 h2 w
 · have e1 : decide (BegP a b c d e f) = decide (HasP a b c d f) := decide_eq_decide.2 (by unfold BegP; rw [if_neg h1])
   rw [e1]
   exact rfBeg_3 a b c d e f g h _ h1 (Lib.hid fun W => rfHas a b c d f W) w
theorem rfAdj_1 (a b c d e f g h : Int) (h1 : c ≠ 0) (w : World) :
  Calls Tryz.prog 91 #[.agg #[.int .i8 a, .int .i64 b, .int .i8 c, .int .i64 d], .agg #[.int .i8 e, .int .i64 f, .int .i8 g, .int .i64 h]] w fun ro w' => ro = .returned (.bool false) ∧ Dn w w' := by
 have t1 : (c == 0) = false := by simpa using h1
 clear h1
 go_enter Tryz.func91, Tryz.ntmps91
 go_wp2_with fail
 go_ret
 exact ⟨rfl, ((Dn.refl _).alloc _).alloc _⟩
theorem rfAdj_2 (a b c d e f g h : Int) (h1 : c = 0) (h2 : e ≠ 0) (w : World) :
  Calls Tryz.prog 91 #[.agg #[.int .i8 a, .int .i64 b, .int .i8 c, .int .i64 d], .agg #[.int .i8 e, .int .i64 f, .int .i8 g, .int .i64 h]] w fun ro w' => ro = .returned (.bool false) ∧ Dn w w' := by
 have t1 : (c == 0) = true := by simpa using h1
 have t2 : (e == 0) = false := by simpa using h2
 clear h1 h2
 go_enter Tryz.func91, Tryz.ntmps91
 go_wp2_with fail
 go_ret
 exact ⟨rfl, ((Dn.refl _).alloc _).alloc _⟩
theorem rfAdj_3 (a b c d e f g h : Int) (h1 : c = 0) (h2 : e = 0) (h3 : ¬ d < 9223372036854775807) (w : World) :
  Calls Tryz.prog 91 #[.agg #[.int .i8 a, .int .i64 b, .int .i8 c, .int .i64 d], .agg #[.int .i8 e, .int .i64 f, .int .i8 g, .int .i64 h]] w fun ro w' => ro = .returned (.bool false) ∧ Dn w w' := by
 have t1 : (c == 0) = true := by simpa using h1
 have t2 : (e == 0) = true := by simpa using h2
 have t3 : decide (d < 9223372036854775807) = false := by simpa using h3
 clear h1 h2 h3
 go_enter Tryz.func91, Tryz.ntmps91
 go_wp2_with fail
 go_ret
 exact ⟨rfl, ((Dn.refl _).alloc _).alloc _⟩
theorem rfAdj_4 (a b c d e f g h : Int) (hd : I64 d) (h1 : c = 0) (h2 : e = 0) (h3 : d < 9223372036854775807) (h4 : d + 1 ≠ f) (w : World) :
  Calls Tryz.prog 91 #[.agg #[.int .i8 a, .int .i64 b, .int .i8 c, .int .i64 d], .agg #[.int .i8 e, .int .i64 f, .int .i8 g, .int .i64 h]] w fun ro w' => ro = .returned (.bool false) ∧ Dn w w' := by
 have tw : IntKind.i64.wrap (d + 1) = d + 1 := IntWalk.i64_in _ (by have := hd.1; omega)
 have t1 : (c == 0) = true := by simpa using h1
 have t2 : (e == 0) = true := by simpa using h2
 have t3 : decide (d < 9223372036854775807) = true := by simpa using h3
 have t4 : (d + 1 == f) = false := by simpa using h4
 clear h1 h2 h3 h4
 go_enter Tryz.func91, Tryz.ntmps91
 go_wp2_with fail
 go_ret
 exact ⟨rfl, ((Dn.refl _).alloc _).alloc _⟩
theorem rfAdj_5 (a b c d e f g h : Int) (hd : I64 d) (h1 : c = 0) (h2 : e = 0) (h3 : d < 9223372036854775807) (h4 : d + 1 = f) (w : World) :
  Calls Tryz.prog 91 #[.agg #[.int .i8 a, .int .i64 b, .int .i8 c, .int .i64 d], .agg #[.int .i8 e, .int .i64 f, .int .i8 g, .int .i64 h]] w fun ro w' => ro = .returned (.bool true) ∧ Dn w w' := by
 have tw : IntKind.i64.wrap (d + 1) = d + 1 := IntWalk.i64_in _ (by have := hd.1; omega)
 have t1 : (c == 0) = true := by simpa using h1
 have t2 : (e == 0) = true := by simpa using h2
 have t3 : decide (d < 9223372036854775807) = true := by simpa using h3
 have t4 : (d + 1 == f) = true := by simpa using h4
 clear h1 h2 h3 h4
 go_enter Tryz.func91, Tryz.ntmps91
 go_wp2_with fail
 go_ret
 exact ⟨rfl, ((Dn.refl _).alloc _).alloc _⟩
def AdjP (c d e f : Int) : Prop := c = 0 ∧ e = 0 ∧ d < 9223372036854775807 ∧ d + 1 = f
instance decAdjP (c d e f : Int) : Decidable (AdjP c d e f) := by unfold AdjP; infer_instance
theorem rfAdj (a b c d e f g h : Int) (w : World) (hd : I64 d) :
   Calls Tryz.prog 91 #[.agg #[.int .i8 a, .int .i64 b, .int .i8 c, .int .i64 d], .agg #[.int .i8 e, .int .i64 f, .int .i8 g, .int .i64 h]] w fun ro w' => ro = .returned (.bool (decide (AdjP c d e f))) ∧ Dn w w' := by
 by_cases h1 : c = 0
 · by_cases h2 : e = 0
   · by_cases h3 : d < 9223372036854775807
     · by_cases h4 : d + 1 = f
       · rw [decide_eq_true (show AdjP c d e f from ⟨h1, h2, h3, h4⟩)]; exact rfAdj_5 a b c d e f g h hd h1 h2 h3 h4 w
       · rw [decide_eq_false (fun k : AdjP c d e f => h4 k.2.2.2)]; exact rfAdj_4 a b c d e f g h hd h1 h2 h3 h4 w
     · rw [decide_eq_false (fun k : AdjP c d e f => h3 k.2.2.1)]; exact rfAdj_3 a b c d e f g h h1 h2 h3 w
   · rw [decide_eq_false (fun k : AdjP c d e f => h2 k.2.1)]; exact rfAdj_2 a b c d e f g h h1 h2 w
 · rw [decide_eq_false (fun k : AdjP c d e f => h1 k.1)]; exact rfAdj_1 a b c d e f g h h1 w
theorem rfOv_1 (a b c d e f g h : Int) (HA : Hid (∀ W, Calls Tryz.prog 110 #[.agg #[.int .i8 a, .int .i64 b, .int .i8 c, .int .i64 d], .agg #[.int .i8 e, .int .i64 f, .int .i8 g, .int .i64 h]] W fun o w' => o = .returned (.bool true) ∧ Dn W w')) (w : World) :
  Calls Tryz.prog 71 #[.agg #[.int .i8 a, .int .i64 b, .int .i8 c, .int .i64 d], .agg #[.int .i8 e, .int .i64 f, .int .i8 g, .int .i64 h]] w fun ro w' => ro = .returned (.bool true) ∧ Dn w w' := by
 go_enter Tryz.func71, Tryz.ntmps71
 go_wp2_with fail
 obtain ⟨W1, hW1, uW1, c2, c3, c4, c5, l6, c7, c8, c9, a0, a1⟩ := preOn48x1 w a b c d e f g h
 rw [← hW1]
 clear hW1
 refine (HA.out _).mono ?_
 rintro e w1 ⟨rfl, qw1⟩
 have a2 := nlt l6 qw1.size
 have a7 := nlt a1 qw1.size
 obtain ⟨a3, a4, a5, a6, a8, a9, aA, aB⟩ := mv8 qw1.cell c2 c3 c4 c5 c7 c8 c9 a0
 clear l6 c2 c3 c4 c5 a1 c7 c8 c9 a0
 have uw1 := uW1.trans qw1
 clear qw1 uW1
 go_wp2_with fail
 go_ret
 exact ⟨rfl, uw1⟩
theorem rfOv_2 (a b c d e f g h : Int) (p : Bool) (HA : Hid (∀ W, Calls Tryz.prog 110 #[.agg #[.int .i8 a, .int .i64 b, .int .i8 c, .int .i64 d], .agg #[.int .i8 e, .int .i64 f, .int .i8 g, .int .i64 h]] W fun o w' => o = .returned (.bool false) ∧ Dn W w')) (HB : Hid (∀ W, Calls Tryz.prog 110 #[.agg #[.int .i8 e, .int .i64 f, .int .i8 g, .int .i64 h], .agg #[.int .i8 a, .int .i64 b, .int .i8 c, .int .i64 d]] W fun o w' => o = .returned (.bool p) ∧ Dn W w')) (w : World) :
  Calls Tryz.prog 71 #[.agg #[.int .i8 a, .int .i64 b, .int .i8 c, .int .i64 d], .agg #[.int .i8 e, .int .i64 f, .int .i8 g, .int .i64 h]] w fun ro w' => ro = .returned (.bool p) ∧ Dn w w' := by
 go_enter Tryz.func71, Tryz.ntmps71
 go_wp2_with fail
 obtain ⟨W1, hW1, uW1, c2, c3, c4, c5, l6, c7, c8, c9, a0, a1⟩ := preOn48x1 w a b c d e f g h
 rw [← hW1]
 clear hW1
 refine (HA.out _).mono ?_
 rintro e w1 ⟨rfl, qw1⟩
 have a2 := nlt l6 qw1.size
 have a7 := nlt a1 qw1.size
 obtain ⟨a3, a4, a5, a6, a8, a9, aA, aB⟩ := mv8 qw1.cell c2 c3 c4 c5 c7 c8 c9 a0
 clear l6 c2 c3 c4 c5 a1 c7 c8 c9 a0
 have uw1 := uW1.trans qw1
 clear qw1 uW1
 go_wp2_with fail
 refine (HB.out _).mono ?_
 rintro e w2 ⟨rfl, qw2⟩
 have aC := nlt a2 qw2.size
 have aH := nlt a7 qw2.size
 obtain ⟨aD, aE, aF, aG, aI, aJ, aK, aL⟩ := mv8 qw2.cell a3 a4 a5 a6 a8 a9 aA aB
 clear a2 a3 a4 a5 a6 a7 a8 a9 aA aB
 have uw2 := uw1.trans qw2
 clear qw2 uw1
 go_wp2_with fail
 go_ret
 exact ⟨rfl, uw2⟩
theorem rfOv (a b c d e f g h : Int) (w : World) :
   Calls Tryz.prog 71 #[.agg #[.int .i8 a, .int .i64 b, .int .i8 c, .int .i64 d], .agg #[.int .i8 e, .int .i64 f, .int .i8 g, .int .i64 h]] w fun ro w' => ro = .returned (.bool (decide (BegP a b c d e f ∨ BegP e f g h a b))) ∧ Dn w w' := by
 have HA := Lib.hid (fun W => rfBeg a b c d e f g h W)
 have HB := Lib.hid (fun W => rfBeg e f g h a b c d W)
 by_cases h1 : BegP a b c d e f
 · rw [decide_eq_true h1] at HA
   rw [decide_eq_true (Or.inl h1)]; exact rfOv_1 a b c d e f g h HA w
 · rw [decide_eq_false h1] at HA
   have e1 : decide (BegP a b c d e f ∨ BegP e f g h a b) = decide (BegP e f g h a b) := by simp [h1]
   rw [e1]; exact rfOv_2 a b c d e f g h _ HA HB w
theorem rfTc_1 (a b c d e f g h : Int) (HO : Hid (∀ W, Calls Tryz.prog 71 #[.agg #[.int .i8 a, .int .i64 b, .int .i8 c, .int .i64 d], .agg #[.int .i8 e, .int .i64 f, .int .i8 g, .int .i64 h]] W fun o w' => o = .returned (.bool true) ∧ Dn W w')) (w : World) :
  Calls Tryz.prog 49 #[.agg #[.int .i8 a, .int .i64 b, .int .i8 c, .int .i64 d], .agg #[.int .i8 e, .int .i64 f, .int .i8 g, .int .i64 h]] w fun ro w' => ro = .returned (.bool true) ∧ Dn w w' := by
 go_enter Tryz.func49, Tryz.ntmps49
 go_wp2_with fail
 obtain ⟨W1, hW1, uW1, c2, c3, c4, c5, l6, c7, c8, c9, a0, a1⟩ := preOn48x1 w a b c d e f g h
 rw [← hW1]
 clear hW1
 refine (HO.out _).mono ?_
 rintro e w1 ⟨rfl, qw1⟩
 have a2 := nlt l6 qw1.size
 have a7 := nlt a1 qw1.size
 obtain ⟨a3, a4, a5, a6, a8, a9, aA, aB⟩ := mv8 qw1.cell c2 c3 c4 c5 c7 c8 c9 a0
 clear l6 c2 c3 c4 c5 a1 c7 c8 c9 a0
 have uw1 := uW1.trans qw1
 clear qw1 uW1
 go_wp2_with fail
 go_ret
 exact ⟨rfl, uw1⟩
theorem rfTc_2 (a b c d e f g h : Int) (HO : Hid (∀ W, Calls Tryz.prog 71 #[.agg #[.int .i8 a, .int .i64 b, .int .i8 c, .int .i64 d], .agg #[.int .i8 e, .int .i64 f, .int .i8 g, .int .i64 h]] W fun o w' => o = .returned (.bool false) ∧ Dn W w')) (HA : Hid (∀ W, Calls Tryz.prog 91 #[.agg #[.int .i8 a, .int .i64 b, .int .i8 c, .int .i64 d], .agg #[.int .i8 e, .int .i64 f, .int .i8 g, .int .i64 h]] W fun o w' => o = .returned (.bool true) ∧ Dn W w')) (w : World) :
  Calls Tryz.prog 49 #[.agg #[.int .i8 a, .int .i64 b, .int .i8 c, .int .i64 d], .agg #[.int .i8 e, .int .i64 f, .int .i8 g, .int .i64 h]] w fun ro w' => ro = .returned (.bool true) ∧ Dn w w' := by
 go_enter Tryz.func49, Tryz.ntmps49
 go_wp2_with fail
 obtain ⟨W1, hW1, uW1, c2, c3, c4, c5, l6, c7, c8, c9, a0, a1⟩ := preOn48x1 w a b c d e f g h
 rw [← hW1]
 clear hW1
 refine (HO.out _).mono ?_
 rintro e w1 ⟨rfl, qw1⟩
 have a2 := nlt l6 qw1.size
 have a7 := nlt a1 qw1.size
 obtain ⟨a3, a4, a5, a6, a8, a9, aA, aB⟩ := mv8 qw1.cell c2 c3 c4 c5 c7 c8 c9 a0
 clear l6 c2 c3 c4 c5 a1 c7 c8 c9 a0
 have uw1 := uW1.trans qw1
 clear qw1 uW1
 go_wp2_with fail
 refine (HA.out _).mono ?_
 rintro e w2 ⟨rfl, qw2⟩
 have aC := nlt a2 qw2.size
 have aH := nlt a7 qw2.size
 obtain ⟨aD, aE, aF, aG, aI, aJ, aK, aL⟩ := mv8 qw2.cell a3 a4 a5 a6 a8 a9 aA aB
 clear a2 a3 a4 a5 a6 a7 a8 a9 aA aB
 have uw2 := uw1.trans qw2
 clear qw2 uw1
 go_wp2_with fail
 go_ret
 exact ⟨rfl, uw2⟩
theorem rfTc_3 (a b c d e f g h : Int) (p : Bool) (HO : Hid (∀ W, Calls Tryz.prog 71 #[.agg #[.int .i8 a, .int .i64 b, .int .i8 c, .int .i64 d], .agg #[.int .i8 e, .int .i64 f, .int .i8 g, .int .i64 h]] W fun o w' => o = .returned (.bool false) ∧ Dn W w')) (HA : Hid (∀ W, Calls Tryz.prog 91 #[.agg #[.int .i8 a, .int .i64 b, .int .i8 c, .int .i64 d], .agg #[.int .i8 e, .int .i64 f, .int .i8 g, .int .i64 h]] W fun o w' => o = .returned (.bool false) ∧ Dn W w')) (HB : Hid (∀ W, Calls Tryz.prog 91 #[.agg #[.int .i8 e, .int .i64 f, .int .i8 g, .int .i64 h], .agg #[.int .i8 a, .int .i64 b, .int .i8 c, .int .i64 d]] W fun o w' => o = .returned (.bool p) ∧ Dn W w')) (w : World) :
  Calls Tryz.prog 49 #[.agg #[.int .i8 a, .int .i64 b, .int .i8 c, .int .i64 d], .agg #[.int .i8 e, .int .i64 f, .int .i8 g, .int .i64 h]] w fun ro w' => ro = .returned (.bool p) ∧ Dn w w' := by
 go_enter Tryz.func49, Tryz.ntmps49
 go_wp2_with fail
 obtain ⟨W1, hW1, uW1, c2, c3, c4, c5, l6, c7, c8, c9, a0, a1⟩ := preOn48x1 w a b c d e f g h
 rw [← hW1]
 clear hW1
 refine (HO.out _).mono ?_
 rintro e w1 ⟨rfl, qw1⟩
 have a2 := nlt l6 qw1.size
 have a7 := nlt a1 qw1.size
 obtain ⟨a3, a4, a5, a6, a8, a9, aA, aB⟩ := mv8 qw1.cell c2 c3 c4 c5 c7 c8 c9 a0
 clear l6 c2 c3 c4 c5 a1 c7 c8 c9 a0
 have uw1 := uW1.trans qw1
 clear qw1 uW1
 go_wp2_with fail
 refine (HA.out _).mono ?_
 rintro e w2 ⟨rfl, qw2⟩
 have aC := nlt a2 qw2.size
 have aH := nlt a7 qw2.size
 obtain ⟨aD, aE, aF, aG, aI, aJ, aK, aL⟩ := mv8 qw2.cell a3 a4 a5 a6 a8 a9 aA aB
 clear a2 a3 a4 a5 a6 a7 a8 a9 aA aB
 have uw2 := uw1.trans qw2
 clear qw2 uw1
 go_wp2_with fail
 refine (HB.out _).mono ?_
 rintro e w3 ⟨rfl, qw3⟩
 have aM := nlt aC qw3.size
 have aR := nlt aH qw3.size
 obtain ⟨aN, aO, aP, aQ, aS, aT, aU, aV⟩ := mv8 qw3.cell aD aE aF aG aI aJ aK aL
 clear aC aD aE aF aG aH aI aJ aK aL
 have uw3 := uw2.trans qw3
 clear qw3 uw2
 go_wp2_with fail
 go_ret
 exact ⟨rfl, uw3⟩
theorem beg_key {a b c d e f g h : Int} (hb : I64 b) (hd : I64 d) (hf : I64 f) (hh : I64 h) (h1 : RnOk a b c d) (h2 : RnOk e f g h) : BegP a b c d e f ↔ key a b ≤ key e f ∧ key e f ≤ key c d := by
 obtain ⟨o1, o2, o3, o4, o5⟩ := h1
 obtain ⟨p1, p2, p3, p4, p5⟩ := h2
 unfold BegP HasP
 unfold I64 at *
 unfold eOk at *
 unfold key at *
 split <;> omega
theorem adj_key {a b c d e f g h : Int} (hb : I64 b) (hd : I64 d) (hf : I64 f) (hh : I64 h) (h1 : RnOk a b c d) (h2 : RnOk e f g h) : AdjP c d e f ↔ key e f = key c d + 1 := by
 obtain ⟨o1, o2, o3, o4, o5⟩ := h1
 obtain ⟨p1, p2, p3, p4, p5⟩ := h2
 unfold AdjP
 unfold I64 at *
 unfold eOk at *
 unfold key at *
 omega
theorem ov_meet {a b c d e f g h : Int} (hb : I64 b) (hd : I64 d) (hf : I64 f) (hh : I64 h) (h1 : RnOk a b c d) (h2 : RnOk e f g h) : BegP a b c d e f ∨ BegP e f g h a b ↔ Meet a b c d e f g h := by
 rw [beg_key hb hd hf hh h1 h2, beg_key hf hh hb hd h2 h1]
 have := h1.2.2.2.2
 have := h2.2.2.2.2
 unfold Meet
 constructor
 · intro k; exact ⟨h1, h2, by omega, by omega⟩
 · rintro ⟨_, _, _, _⟩; omega
theorem rfMeet (a b c d e f g h : Int) (w : World) (hb : I64 b) (hd : I64 d) (hf : I64 f) (hh : I64 h) (h1 : RnOk a b c d) (h2 : RnOk e f g h) :
  Calls Tryz.prog 71 #[.agg #[.int .i8 a, .int .i64 b, .int .i8 c, .int .i64 d], .agg #[.int .i8 e, .int .i64 f, .int .i8 g, .int .i64 h]] w fun ro w' => ro = .returned (.bool (decide (Meet a b c d e f g h))) ∧ Dn w w' := by
 have e1 : decide (BegP a b c d e f ∨ BegP e f g h a b) = decide (Meet a b c d e f g h) := decide_eq_decide.2 (ov_meet hb hd hf hh h1 h2)
 rw [← e1]; exact rfOv a b c d e f g h w
theorem rfTouch (a b c d e f g h : Int) (w : World) (hb : I64 b) (hd : I64 d) (hf : I64 f) (hh : I64 h) (h1 : RnOk a b c d) (h2 : RnOk e f g h) :
   Calls Tryz.prog 49 #[.agg #[.int .i8 a, .int .i64 b, .int .i8 c, .int .i64 d], .agg #[.int .i8 e, .int .i64 f, .int .i8 g, .int .i64 h]] w fun ro w' => ro = .returned (.bool (decide (Tch a b c d e f g h))) ∧ Dn w w' := by
 have HO := Lib.hid (fun W => rfMeet a b c d e f g h W hb hd hf hh h1 h2)
 have HA := Lib.hid (fun W => rfAdj a b c d e f g h W hd)
 have HB := Lib.hid (fun W => rfAdj e f g h a b c d W hh)
 have k1 := adj_key hb hd hf hh h1 h2
 have k2 := adj_key hf hh hb hd h2 h1
 have l1 := h1.2.2.2.2
 have l2 := h2.2.2.2.2
 have hT : Tch a b c d e f g h ↔ key e f ≤ key c d + 1 ∧ key a b ≤ key g h + 1 := ⟨fun hc => hc.2.2, fun hc => ⟨h1, h2, hc⟩⟩
 have hM : Meet a b c d e f g h ↔ key e f ≤ key c d ∧ key a b ≤ key g h := ⟨fun hc => hc.2.2, fun hc => ⟨h1, h2, hc⟩⟩
 by_cases m : Meet a b c d e f g h
 · rw [decide_eq_true m] at HO
   rw [decide_eq_true (by rw [hT]; have := hM.1 m; omega)]; exact rfTc_1 a b c d e f g h HO w
 · rw [decide_eq_false m] at HO
   by_cases q : AdjP c d e f
   · rw [decide_eq_true q] at HA
     rw [decide_eq_true (by rw [hT]; have := k1.1 q; omega)]; exact rfTc_2 a b c d e f g h HO HA w
   · rw [decide_eq_false q] at HA
     have e1 : decide (Tch a b c d e f g h) = decide (AdjP g h a b) := decide_eq_decide.2 (by
      rw [hT, k2]
      have n1 : ¬ (key e f ≤ key c d ∧ key a b ≤ key g h) := fun hc => m (hM.2 hc)
      have n2 : ¬ key e f = key c d + 1 := fun hc => q (k1.2 hc)
      omega)
     rw [e1]; exact rfTc_3 a b c d e f g h _ HO HA HB w
end Go.Proofs.YtoghoddjkdoohaaGreatDoor
