/- Walks and laws that the claim's theorem leans on: part 5. -/
import Derived.Test.YtoghoddjkdoohaaGreatDoorZKn1
import Derived.Test.YtoghoddjkdoohaaGreatDoorZKn4
namespace Go.Proofs.YtoghoddjkdoohaaGreatDoor
set_option maxHeartbeats 4000000
set_option maxRecDepth 100000
open Go.RowKit
set_option linter.unusedVariables false
set_option linter.unusedSimpArgs false
theorem preKn28x1 (w : World) (a b c d : Int) : ∃ W1, W1 = w.alloc (.cells #[.int .i8 a, .int .i64 b, .int .i8 c, .int .i64 d] 45) /\ (Dn w W1) /\ (W1.cell? ⟨w.heap.size, 0, none⟩ = some (.int .i8 a)) /\ (W1.cell? ⟨w.heap.size, 1, none⟩ = some (.int .i64 b)) /\ (W1.cell? ⟨w.heap.size, 2, none⟩ = some (.int .i8 c)) /\ (W1.cell? ⟨w.heap.size, 3, none⟩ = some (.int .i64 d)) /\ (w.heap.size < W1.heap.size) := by
 obtain ⟨W1, hW1⟩ : ∃ W1, W1 = w.alloc (.cells #[.int .i8 a, .int .i64 b, .int .i8 c, .int .i64 d] 45) := ⟨_, rfl⟩
 refine ⟨W1, hW1, (by rw [hW1]; exact (Dn.refl _).alloc _), ?_, ?_, ?_, ?_, ?_⟩ <;> rw [hW1] <;> first | (simp [go_sem]; done) | (simp <;> omega)
theorem rnChk_1 (a b c d : Int) (h1 : ¬ eOk a b) (w : World) :
  Calls Tryz.prog 39 #[.agg #[.int .i8 a, .int .i64 b, .int .i8 c, .int .i64 d]] w fun ro w' => ro = .returned (.int .i64 5) /\ Dn w w' := by
 have Hh1 := Lib.hid h1
 clear h1
 go_enter Tryz.func39, Tryz.ntmps39
 go_wp2_with fail
 obtain ⟨W1, hW1, uW1, c2, c3, c4, c5, l6⟩ := preKn28x1 w a b c d
 rw [<- hW1]
 clear hW1
 refine (eChk_bad a b _ Hh1.out).mono ?_
 rintro e w1 ⟨rfl, qw1⟩
 replace qw1 := qw1.dn
 have l7 := nlt l6 qw1.size
 obtain ⟨c8, c9, c10, c11⟩ := mv4 qw1.cell c2 c3 c4 c5
 clear l6 c2 c3 c4 c5
 have uw1 := uW1.trans qw1
 clear qw1 uW1
 go_wp2_with fail
 go_ret
 exact ⟨rfl, uw1⟩
theorem rnChk_2 (a b c d : Int) (h1 : eOk a b) (h2 : ¬ eOk c d) (w : World) :
  Calls Tryz.prog 39 #[.agg #[.int .i8 a, .int .i64 b, .int .i8 c, .int .i64 d]] w fun ro w' => ro = .returned (.int .i64 5) /\ Dn w w' := by
 have Hh1 := Lib.hid h1
 have Hh2 := Lib.hid h2
 clear h1 h2
 go_enter Tryz.func39, Tryz.ntmps39
 go_wp2_with fail
 obtain ⟨W1, hW1, uW1, c2, c3, c4, c5, l6⟩ := preKn28x1 w a b c d
 rw [<- hW1]
 clear hW1
 refine (eChk_ok a b _ Hh1.out).mono ?_
 rintro e w1 ⟨rfl, qw1⟩
 replace qw1 := qw1.dn
 have l7 := nlt l6 qw1.size
 obtain ⟨c8, c9, a0, a1⟩ := mv4 qw1.cell c2 c3 c4 c5
 clear l6 c2 c3 c4 c5
 have uw1 := uW1.trans qw1
 clear qw1 uW1
 go_wp2_with fail
 refine (eChk_bad c d _ Hh2.out).mono ?_
 rintro e w2 ⟨rfl, qw2⟩
 replace qw2 := qw2.dn
 have a2 := nlt l7 qw2.size
 obtain ⟨a3, a4, a5, a6⟩ := mv4 qw2.cell c8 c9 a0 a1
 clear l7 c8 c9 a0 a1
 have uw2 := uw1.trans qw2
 clear qw2 uw1
 go_wp2_with fail
 go_ret
 exact ⟨rfl, uw2⟩
theorem rnChk_3 (a b c d : Int) (h1 : eOk a b) (h2 : eOk c d) (h3 : 0 < a) (w : World) :
  Calls Tryz.prog 39 #[.agg #[.int .i8 a, .int .i64 b, .int .i8 c, .int .i64 d]] w fun ro w' => ro = .returned (.int .i64 4) /\ Dn w w' := by
 have Hh1 := Lib.hid h1
 have Hh2 := Lib.hid h2
 clear h1 h2
 have t1 : decide (0 < a) = true := by simpa using h3
 clear h3
 go_enter Tryz.func39, Tryz.ntmps39
 go_wp2_with fail
 obtain ⟨W1, hW1, uW1, c2, c3, c4, c5, l6⟩ := preKn28x1 w a b c d
 rw [<- hW1]
 clear hW1
 refine (eChk_ok a b _ Hh1.out).mono ?_
 rintro e w1 ⟨rfl, qw1⟩
 replace qw1 := qw1.dn
 have l7 := nlt l6 qw1.size
 obtain ⟨c8, c9, a0, a1⟩ := mv4 qw1.cell c2 c3 c4 c5
 clear l6 c2 c3 c4 c5
 have uw1 := uW1.trans qw1
 clear qw1 uW1
 go_wp2_with fail
 refine (eChk_ok c d _ Hh2.out).mono ?_
 rintro e w2 ⟨rfl, qw2⟩
 replace qw2 := qw2.dn
 have a2 := nlt l7 qw2.size
 obtain ⟨a3, a4, a5, a6⟩ := mv4 qw2.cell c8 c9 a0 a1
 clear l7 c8 c9 a0 a1
 have uw2 := uw1.trans qw2
 clear qw2 uw1
 go_wp2_with fail
 go_ret
 exact ⟨rfl, uw2⟩
theorem rnChk_4 (a b c d : Int) (h1 : eOk a b) (h2 : eOk c d) (h3 : ¬ 0 < a) (h4 : c < 0) (w : World) :
  Calls Tryz.prog 39 #[.agg #[.int .i8 a, .int .i64 b, .int .i8 c, .int .i64 d]] w fun ro w' => ro = .returned (.int .i64 4) /\ Dn w w' := by
 have Hh1 := Lib.hid h1
 have Hh2 := Lib.hid h2
 clear h1 h2
 have t1 : decide (0 < a) = false := by simpa using h3
 have t2 : decide (c < 0) = true := by simpa using h4
 clear h3 h4
 go_enter Tryz.func39, Tryz.ntmps39
 go_wp2_with fail
 obtain ⟨W1, hW1, uW1, c2, c3, c4, c5, l6⟩ := preKn28x1 w a b c d
 rw [<- hW1]
 clear hW1
 refine (eChk_ok a b _ Hh1.out).mono ?_
 rintro e w1 ⟨rfl, qw1⟩
 replace qw1 := qw1.dn
 have l7 := nlt l6 qw1.size
 obtain ⟨c8, c9, a0, a1⟩ := mv4 qw1.cell c2 c3 c4 c5
 clear l6 c2 c3 c4 c5
 have uw1 := uW1.trans qw1
 clear qw1 uW1
 go_wp2_with fail
 refine (eChk_ok c d _ Hh2.out).mono ?_
 rintro e w2 ⟨rfl, qw2⟩
 replace qw2 := qw2.dn
 have a2 := nlt l7 qw2.size
 obtain ⟨a3, a4, a5, a6⟩ := mv4 qw2.cell c8 c9 a0 a1
 clear l7 c8 c9 a0 a1
 have uw2 := uw1.trans qw2
 clear qw2 uw1
 go_wp2_with fail
 go_ret
 exact ⟨rfl, uw2⟩
theorem rnChk_5 (a b c d : Int) (h1 : eOk a b) (h2 : eOk c d) (h3 : ¬ 0 < a) (h4 : ¬ c < 0) (h5 : 0 < eC a b c d) (w : World) :
  Calls Tryz.prog 39 #[.agg #[.int .i8 a, .int .i64 b, .int .i8 c, .int .i64 d]] w fun ro w' => ro = .returned (.int .i64 12) /\ Dn w w' := by
 have Hh1 := Lib.hid h1
 have Hh2 := Lib.hid h2
 clear h1 h2
 have t1 : decide (0 < a) = false := by simpa using h3
 have t2 : decide (c < 0) = false := by simpa using h4
 have HC := Lib.hid (fun W => eCmp a b c d W)
 generalize eC a b c d = n at *
 have t3 : decide (0 < n) = true := by simpa using h5
 clear h3 h4 h5
 go_enter Tryz.func39, Tryz.ntmps39
 go_wp2_with fail
 obtain ⟨W1, hW1, uW1, c2, c3, c4, c5, l6⟩ := preKn28x1 w a b c d
 rw [<- hW1]
 clear hW1
 refine (eChk_ok a b _ Hh1.out).mono ?_
 rintro e w1 ⟨rfl, qw1⟩
 replace qw1 := qw1.dn
 have l7 := nlt l6 qw1.size
 obtain ⟨c8, c9, a0, a1⟩ := mv4 qw1.cell c2 c3 c4 c5
 clear l6 c2 c3 c4 c5
 have uw1 := uW1.trans qw1
 clear qw1 uW1
 go_wp2_with fail
 refine (eChk_ok c d _ Hh2.out).mono ?_
 rintro e w2 ⟨rfl, qw2⟩
 replace qw2 := qw2.dn
 have a2 := nlt l7 qw2.size
 obtain ⟨a3, a4, a5, a6⟩ := mv4 qw2.cell c8 c9 a0 a1
 clear l7 c8 c9 a0 a1
 have uw2 := uw1.trans qw2
 clear qw2 uw1
 go_wp2_with fail
 refine (HC.out _).mono ?_
 rintro e w3 ⟨rfl, qw3⟩
 replace qw3 := qw3.dn
 have a7 := nlt a2 qw3.size
 obtain ⟨a8, a9, aA, aB⟩ := mv4 qw3.cell a3 a4 a5 a6
 clear a2 a3 a4 a5 a6
 have uw3 := uw2.trans qw3
 clear qw3 uw2
 go_wp2_with fail
 go_ret
 exact ⟨rfl, uw3⟩
theorem rnChk_6 (a b c d : Int) (h1 : eOk a b) (h2 : eOk c d) (h3 : ¬ 0 < a) (h4 : ¬ c < 0) (h5 : ¬ 0 < eC a b c d) (w : World) :
  Calls Tryz.prog 39 #[.agg #[.int .i8 a, .int .i64 b, .int .i8 c, .int .i64 d]] w fun ro w' => ro = .returned (.int .i64 0) /\ Dn w w' := by
 have Hh1 := Lib.hid h1
 have Hh2 := Lib.hid h2
 clear h1 h2
 have t1 : decide (0 < a) = false := by simpa using h3
 have t2 : decide (c < 0) = false := by simpa using h4
 have HC := Lib.hid (fun W => eCmp a b c d W)
 generalize eC a b c d = n at *
 have t3 : decide (0 < n) = false := by simpa using h5
 clear h3 h4 h5
 go_enter Tryz.func39, Tryz.ntmps39
 go_wp2_with fail
 obtain ⟨W1, hW1, uW1, c2, c3, c4, c5, l6⟩ := preKn28x1 w a b c d
 rw [<- hW1]
 clear hW1
 refine (eChk_ok a b _ Hh1.out).mono ?_
 rintro e w1 ⟨rfl, qw1⟩
 replace qw1 := qw1.dn
 have l7 := nlt l6 qw1.size
 obtain ⟨c8, c9, a0, a1⟩ := mv4 qw1.cell c2 c3 c4 c5
 clear l6 c2 c3 c4 c5
 have uw1 := uW1.trans qw1
 clear qw1 uW1
 go_wp2_with fail
 refine (eChk_ok c d _ Hh2.out).mono ?_
 rintro e w2 ⟨rfl, qw2⟩
 replace qw2 := qw2.dn
 have a2 := nlt l7 qw2.size
 obtain ⟨a3, a4, a5, a6⟩ := mv4 qw2.cell c8 c9 a0 a1
 clear l7 c8 c9 a0 a1
 have uw2 := uw1.trans qw2
 clear qw2 uw1
 go_wp2_with fail
 refine (HC.out _).mono ?_
 rintro e w3 ⟨rfl, qw3⟩
 replace qw3 := qw3.dn
 have a7 := nlt a2 qw3.size
 obtain ⟨a8, a9, aA, aB⟩ := mv4 qw3.cell a3 a4 a5 a6
 clear a2 a3 a4 a5 a6
 have uw3 := uw2.trans qw3
 clear qw3 uw2
 go_wp2_with fail
 go_ret
 exact ⟨rfl, uw3⟩
theorem rnChk (a b c d : Int) (w : World) :
   Calls Tryz.prog 39 #[.agg #[.int .i8 a, .int .i64 b, .int .i8 c, .int .i64 d]] w fun e w' => e = .returned (.int .i64 (rnErr a b c d)) /\ Dn w w' := by
 unfold rnErr
 by_cases h1 : eOk a b
 · by_cases h2 : eOk c d
   · rw [if_neg (by simp [h1, h2])]
     by_cases h3 : 0 < a
     · rw [if_pos (Or.inl h3)]; exact rnChk_3 a b c d h1 h2 h3 w
     · by_cases h4 : c < 0
       · rw [if_pos (Or.inr h4)]; exact rnChk_4 a b c d h1 h2 h3 h4 w
       · rw [if_neg (by omega)]
         by_cases h5 : 0 < eC a b c d
         · rw [if_pos h5]; exact rnChk_5 a b c d h1 h2 h3 h4 h5 w
         · rw [if_neg h5]; exact rnChk_6 a b c d h1 h2 h3 h4 h5 w
   · rw [if_pos (by simp [h2])]; exact rnChk_2 a b c d h1 h2 w
 · rw [if_pos (by simp [h1])]; exact rnChk_1 a b c d h1 w
def ChkIs (a b c d e : Int) : Prop := ∀ W, Calls Tryz.prog 39 #[.agg #[.int .i8 a, .int .i64 b, .int .i8 c, .int .i64 d]] W fun r w' => r = .returned (.int .i64 e) /\ Dn W w'
theorem preKn28x2 (w : World) (a b c d e f g h : Int) : ∃ W1, W1 = (w.alloc (.cells #[.int .i8 a, .int .i64 b, .int .i8 c, .int .i64 d] 45)).alloc (.cells #[.int .i8 e, .int .i64 f, .int .i8 g, .int .i64 h] 45) /\ (Dn w W1) /\ (W1.cell? ⟨w.heap.size, 0, none⟩ = some (.int .i8 a)) /\ (W1.cell? ⟨w.heap.size, 1, none⟩ = some (.int .i64 b)) /\ (W1.cell? ⟨w.heap.size, 2, none⟩ = some (.int .i8 c)) /\ (W1.cell? ⟨w.heap.size, 3, none⟩ = some (.int .i64 d)) /\ (w.heap.size < W1.heap.size) /\ (W1.cell? ⟨w.heap.size + 1, 0, none⟩ = some (.int .i8 e)) /\ (W1.cell? ⟨w.heap.size + 1, 1, none⟩ = some (.int .i64 f)) /\ (W1.cell? ⟨w.heap.size + 1, 2, none⟩ = some (.int .i8 g)) /\ (W1.cell? ⟨w.heap.size + 1, 3, none⟩ = some (.int .i64 h)) /\ (w.heap.size + 1 < W1.heap.size) := by
 obtain ⟨W1, hW1⟩ : ∃ W1, W1 = (w.alloc (.cells #[.int .i8 a, .int .i64 b, .int .i8 c, .int .i64 d] 45)).alloc (.cells #[.int .i8 e, .int .i64 f, .int .i8 g, .int .i64 h] 45) := ⟨_, rfl⟩
 refine ⟨W1, hW1, (by rw [hW1]; exact ((Dn.refl _).alloc _).alloc _), ?_, ?_, ?_, ?_, ?_, ?_, ?_, ?_, ?_, ?_⟩ <;> rw [hW1] <;> first | (simp [go_sem]; done) | (simp <;> omega)
theorem rnRight_1 (a b c d e f g h : Int) (m : Int) (HA : Hid (ChkIs a b c d m)) (h1 : m ≠ 0) (w : World) :
  Calls Tryz.prog 89 #[.agg #[.int .i8 a, .int .i64 b, .int .i8 c, .int .i64 d], .agg #[.int .i8 e, .int .i64 f, .int .i8 g, .int .i64 h]] w fun ro w' => ro = .returned (.bool false) /\ Dn w w' := by
 have t1 : (m == 0) = false := by simpa using h1
 clear h1
 go_enter Tryz.func89, Tryz.ntmps89
 go_wp2_with fail
 obtain ⟨W1, hW1, uW1, c2, c3, c4, c5, l6, c7, c8, c9, a0, a1⟩ := preKn28x2 w a b c d e f g h
 rw [<- hW1]
 clear hW1
 refine (HA.out _).mono ?_
 rintro e w1 ⟨rfl, qw1⟩
 obtain ⟨a2, a7⟩ := nl2 qw1.size l6 a1
 obtain ⟨a3, a4, a5, a6, a8, a9, aA, aB⟩ := mv8 qw1.cell c2 c3 c4 c5 c7 c8 c9 a0
 clear l6 c2 c3 c4 c5 a1 c7 c8 c9 a0
 have uw1 := uW1.trans qw1
 clear qw1 uW1
 go_wp2_with fail
 go_ret
 exact ⟨rfl, uw1⟩
theorem rnRight_2 (a b c d e f g h : Int) (m : Int) (HA : Hid (ChkIs a b c d 0)) (HB : Hid (ChkIs e f g h m)) (h1 : m ≠ 0) (w : World) :
  Calls Tryz.prog 89 #[.agg #[.int .i8 a, .int .i64 b, .int .i8 c, .int .i64 d], .agg #[.int .i8 e, .int .i64 f, .int .i8 g, .int .i64 h]] w fun ro w' => ro = .returned (.bool false) /\ Dn w w' := by
 have t1 : (m == 0) = false := by simpa using h1
 clear h1
 go_enter Tryz.func89, Tryz.ntmps89
 go_wp2_with fail
 obtain ⟨W1, hW1, uW1, c2, c3, c4, c5, l6, c7, c8, c9, a0, a1⟩ := preKn28x2 w a b c d e f g h
 rw [<- hW1]
 clear hW1
 refine (HA.out _).mono ?_
 rintro e w1 ⟨rfl, qw1⟩
 obtain ⟨a2, a7⟩ := nl2 qw1.size l6 a1
 obtain ⟨a3, a4, a5, a6, a8, a9, aA, aB⟩ := mv8 qw1.cell c2 c3 c4 c5 c7 c8 c9 a0
 clear l6 c2 c3 c4 c5 a1 c7 c8 c9 a0
 have uw1 := uW1.trans qw1
 clear qw1 uW1
 go_wp2_with fail
 refine (HB.out _).mono ?_
 rintro e w2 ⟨rfl, qw2⟩
 obtain ⟨aC, aH⟩ := nl2 qw2.size a2 a7
 obtain ⟨aD, aE, aF, aG, aI, aJ, aK, aL⟩ := mv8 qw2.cell a3 a4 a5 a6 a8 a9 aA aB
 clear a2 a3 a4 a5 a6 a7 a8 a9 aA aB
 have uw2 := uw1.trans qw2
 clear qw2 uw1
 go_wp2_with fail
 go_ret
 exact ⟨rfl, uw2⟩
theorem rnRight_3 (a b c d e f g h : Int) (HA : Hid (ChkIs a b c d 0)) (HB : Hid (ChkIs e f g h 0)) (w : World) :
  Calls Tryz.prog 89 #[.agg #[.int .i8 a, .int .i64 b, .int .i8 c, .int .i64 d], .agg #[.int .i8 e, .int .i64 f, .int .i8 g, .int .i64 h]] w fun ro w' => ro = .returned (.bool true) /\ Dn w w' := by
 go_enter Tryz.func89, Tryz.ntmps89
 go_wp2_with fail
 obtain ⟨W1, hW1, uW1, c2, c3, c4, c5, l6, c7, c8, c9, a0, a1⟩ := preKn28x2 w a b c d e f g h
 rw [<- hW1]
 clear hW1
 refine (HA.out _).mono ?_
 rintro e w1 ⟨rfl, qw1⟩
 obtain ⟨a2, a7⟩ := nl2 qw1.size l6 a1
 obtain ⟨a3, a4, a5, a6, a8, a9, aA, aB⟩ := mv8 qw1.cell c2 c3 c4 c5 c7 c8 c9 a0
 clear l6 c2 c3 c4 c5 a1 c7 c8 c9 a0
 have uw1 := uW1.trans qw1
 clear qw1 uW1
 go_wp2_with fail
 refine (HB.out _).mono ?_
 rintro e w2 ⟨rfl, qw2⟩
 obtain ⟨aC, aH⟩ := nl2 qw2.size a2 a7
 obtain ⟨aD, aE, aF, aG, aI, aJ, aK, aL⟩ := mv8 qw2.cell a3 a4 a5 a6 a8 a9 aA aB
 clear a2 a3 a4 a5 a6 a7 a8 a9 aA aB
 have uw2 := uw1.trans qw2
 clear qw2 uw1
 go_wp2_with fail
 go_ret
 exact ⟨rfl, uw2⟩
theorem rnRight (a b c d e f g h : Int) (w : World) (hb : I64 b) (hd : I64 d) (hf : I64 f) (hh : I64 h) :
   Calls Tryz.prog 89 #[.agg #[.int .i8 a, .int .i64 b, .int .i8 c, .int .i64 d], .agg #[.int .i8 e, .int .i64 f, .int .i8 g, .int .i64 h]] w fun r w' => r = .returned (.bool (decide (RnOk a b c d /\ RnOk e f g h))) /\ Dn w w' := by
 have k1 := rnErr_ok (a := a) (c := c) hb hd
 have k2 := rnErr_ok (a := e) (c := g) hf hh
 have HA : Hid (ChkIs a b c d (rnErr a b c d)) := Lib.hid (rnChk a b c d)
 have HB : Hid (ChkIs e f g h (rnErr e f g h)) := Lib.hid (rnChk e f g h)
 by_cases h1 : RnOk a b c d
 · rw [k1.2 h1] at HA
   by_cases h2 : RnOk e f g h
   · rw [k2.2 h2] at HB
     rw [decide_eq_true ⟨h1, h2⟩]; exact rnRight_3 a b c d e f g h HA HB w
   · rw [decide_eq_false (fun hc => h2 hc.2)]; exact rnRight_2 a b c d e f g h _ HA HB (fun hc => h2 (k2.1 hc)) w
 · rw [decide_eq_false (fun hc => h1 hc.1)]; exact rnRight_1 a b c d e f g h _ HA (fun hc => h1 (k1.1 hc)) w
theorem rnWi_0 (a b c d e f g h m n : Int) (HR : Hid (∀ W, Calls Tryz.prog 89 #[.agg #[.int .i8 a, .int .i64 b, .int .i8 c, .int .i64 d], .agg #[.int .i8 e, .int .i64 f, .int .i8 g, .int .i64 h]] W fun r w' => r = .returned (.bool false) /\ Dn W w')) (w : World) :
  Calls Tryz.prog 67 #[.agg #[.int .i8 a, .int .i64 b, .int .i8 c, .int .i64 d], .agg #[.int .i8 e, .int .i64 f, .int .i8 g, .int .i64 h]] w fun ro w' => ro = .returned (.bool false) /\ Dn w w' := by
 go_enter Tryz.func67, Tryz.ntmps67
 go_wp2_with fail
 obtain ⟨W1, hW1, uW1, c2, c3, c4, c5, l6, c7, c8, c9, a0, a1⟩ := preKn28x2 w a b c d e f g h
 rw [<- hW1]
 clear hW1
 refine (HR.out _).mono ?_
 rintro e w1 ⟨rfl, qw1⟩
 obtain ⟨a2, a7⟩ := nl2 qw1.size l6 a1
 obtain ⟨a3, a4, a5, a6, a8, a9, aA, aB⟩ := mv8 qw1.cell c2 c3 c4 c5 c7 c8 c9 a0
 clear l6 c2 c3 c4 c5 a1 c7 c8 c9 a0
 have uw1 := uW1.trans qw1
 clear qw1 uW1
 go_wp2_with fail
 go_ret
 exact ⟨rfl, uw1⟩
theorem rnWi_1 (a b c d e f g h m n : Int) (HR : Hid (∀ W, Calls Tryz.prog 89 #[.agg #[.int .i8 a, .int .i64 b, .int .i8 c, .int .i64 d], .agg #[.int .i8 e, .int .i64 f, .int .i8 g, .int .i64 h]] W fun r w' => r = .returned (.bool true) /\ Dn W w')) (H1 : Hid (∀ W, Calls Tryz.prog 66 #[.agg #[.int .i8 e, .int .i64 f], .agg #[.int .i8 a, .int .i64 b]] W fun r w' => r = .returned (.int .i64 m) /\ Up W w')) (h1 : ¬ m <= 0) (w : World) :
  Calls Tryz.prog 67 #[.agg #[.int .i8 a, .int .i64 b, .int .i8 c, .int .i64 d], .agg #[.int .i8 e, .int .i64 f, .int .i8 g, .int .i64 h]] w fun ro w' => ro = .returned (.bool false) /\ Dn w w' := by
 have t1 : decide (m <= 0) = false := by simpa using h1
 clear h1
 go_enter Tryz.func67, Tryz.ntmps67
 go_wp2_with fail
 obtain ⟨W1, hW1, uW1, c2, c3, c4, c5, l6, c7, c8, c9, a0, a1⟩ := preKn28x2 w a b c d e f g h
 rw [<- hW1]
 clear hW1
 refine (HR.out _).mono ?_
 rintro e w1 ⟨rfl, qw1⟩
 obtain ⟨a2, a7⟩ := nl2 qw1.size l6 a1
 obtain ⟨a3, a4, a5, a6, a8, a9, aA, aB⟩ := mv8 qw1.cell c2 c3 c4 c5 c7 c8 c9 a0
 clear l6 c2 c3 c4 c5 a1 c7 c8 c9 a0
 have uw1 := uW1.trans qw1
 clear qw1 uW1
 go_wp2_with fail
 refine (H1.out _).mono ?_
 rintro e w2 ⟨rfl, qw2⟩
 replace qw2 := qw2.dn
 obtain ⟨aC, aH⟩ := nl2 qw2.size a2 a7
 obtain ⟨aD, aE, aF, aG, aI, aJ, aK, aL⟩ := mv8 qw2.cell a3 a4 a5 a6 a8 a9 aA aB
 clear a2 a3 a4 a5 a6 a7 a8 a9 aA aB
 have uw2 := uw1.trans qw2
 clear qw2 uw1
 go_wp2_with fail
 go_ret
 exact ⟨rfl, uw2⟩
theorem rnWi_2 (a b c d e f g h m n : Int) (HR : Hid (∀ W, Calls Tryz.prog 89 #[.agg #[.int .i8 a, .int .i64 b, .int .i8 c, .int .i64 d], .agg #[.int .i8 e, .int .i64 f, .int .i8 g, .int .i64 h]] W fun r w' => r = .returned (.bool true) /\ Dn W w')) (H1 : Hid (∀ W, Calls Tryz.prog 66 #[.agg #[.int .i8 e, .int .i64 f], .agg #[.int .i8 a, .int .i64 b]] W fun r w' => r = .returned (.int .i64 m) /\ Up W w')) (H2 : Hid (∀ W, Calls Tryz.prog 66 #[.agg #[.int .i8 c, .int .i64 d], .agg #[.int .i8 g, .int .i64 h]] W fun r w' => r = .returned (.int .i64 n) /\ Up W w')) (h1 : m <= 0) (h2 : ¬ n <= 0) (w : World) :
  Calls Tryz.prog 67 #[.agg #[.int .i8 a, .int .i64 b, .int .i8 c, .int .i64 d], .agg #[.int .i8 e, .int .i64 f, .int .i8 g, .int .i64 h]] w fun ro w' => ro = .returned (.bool false) /\ Dn w w' := by
 have t1 : decide (m <= 0) = true := by simpa using h1
 have t2 : decide (n <= 0) = false := by simpa using h2
 clear h1 h2
 go_enter Tryz.func67, Tryz.ntmps67
 go_wp2_with fail
 obtain ⟨W1, hW1, uW1, c2, c3, c4, c5, l6, c7, c8, c9, a0, a1⟩ := preKn28x2 w a b c d e f g h
 rw [<- hW1]
 clear hW1
 refine (HR.out _).mono ?_
 rintro e w1 ⟨rfl, qw1⟩
 obtain ⟨a2, a7⟩ := nl2 qw1.size l6 a1
 obtain ⟨a3, a4, a5, a6, a8, a9, aA, aB⟩ := mv8 qw1.cell c2 c3 c4 c5 c7 c8 c9 a0
 clear l6 c2 c3 c4 c5 a1 c7 c8 c9 a0
 have uw1 := uW1.trans qw1
 clear qw1 uW1
 go_wp2_with fail
 refine (H1.out _).mono ?_
 rintro e w2 ⟨rfl, qw2⟩
 replace qw2 := qw2.dn
 obtain ⟨aC, aH⟩ := nl2 qw2.size a2 a7
 obtain ⟨aD, aE, aF, aG, aI, aJ, aK, aL⟩ := mv8 qw2.cell a3 a4 a5 a6 a8 a9 aA aB
 clear a2 a3 a4 a5 a6 a7 a8 a9 aA aB
 have uw2 := uw1.trans qw2
 clear qw2 uw1
 go_wp2_with fail
 refine (H2.out _).mono ?_
 rintro e w3 ⟨rfl, qw3⟩
 replace qw3 := qw3.dn
 obtain ⟨aM, aR⟩ := nl2 qw3.size aC aH
 obtain ⟨aN, aO, aP, aQ, aS, aT, aU, aV⟩ := mv8 qw3.cell aD aE aF aG aI aJ aK aL
 clear aC aD aE aF aG aH aI aJ aK aL
 have uw3 := uw2.trans qw3
 clear qw3 uw2
 go_wp2_with fail
 go_ret
 exact ⟨rfl, uw3⟩
theorem rnWi_3 (a b c d e f g h m n : Int) (HR : Hid (∀ W, Calls Tryz.prog 89 #[.agg #[.int .i8 a, .int .i64 b, .int .i8 c, .int .i64 d], .agg #[.int .i8 e, .int .i64 f, .int .i8 g, .int .i64 h]] W fun r w' => r = .returned (.bool true) /\ Dn W w')) (H1 : Hid (∀ W, Calls Tryz.prog 66 #[.agg #[.int .i8 e, .int .i64 f], .agg #[.int .i8 a, .int .i64 b]] W fun r w' => r = .returned (.int .i64 m) /\ Up W w')) (H2 : Hid (∀ W, Calls Tryz.prog 66 #[.agg #[.int .i8 c, .int .i64 d], .agg #[.int .i8 g, .int .i64 h]] W fun r w' => r = .returned (.int .i64 n) /\ Up W w')) (h1 : m <= 0) (h2 : n <= 0) (w : World) :
  Calls Tryz.prog 67 #[.agg #[.int .i8 a, .int .i64 b, .int .i8 c, .int .i64 d], .agg #[.int .i8 e, .int .i64 f, .int .i8 g, .int .i64 h]] w fun ro w' => ro = .returned (.bool true) /\ Dn w w' := by
 have t1 : decide (m <= 0) = true := by simpa using h1
 have t2 : decide (n <= 0) = true := by simpa using h2
 clear h1 h2
 go_enter Tryz.func67, Tryz.ntmps67
 go_wp2_with fail
 obtain ⟨W1, hW1, uW1, c2, c3, c4, c5, l6, c7, c8, c9, a0, a1⟩ := preKn28x2 w a b c d e f g h
 rw [<- hW1]
 clear hW1
 refine (HR.out _).mono ?_
 rintro e w1 ⟨rfl, qw1⟩
 obtain ⟨a2, a7⟩ := nl2 qw1.size l6 a1
 obtain ⟨a3, a4, a5, a6, a8, a9, aA, aB⟩ := mv8 qw1.cell c2 c3 c4 c5 c7 c8 c9 a0
 clear l6 c2 c3 c4 c5 a1 c7 c8 c9 a0
 have uw1 := uW1.trans qw1
 clear qw1 uW1
 go_wp2_with fail
 refine (H1.out _).mono ?_
 rintro e w2 ⟨rfl, qw2⟩
 replace qw2 := qw2.dn
 obtain ⟨aC, aH⟩ := nl2 qw2.size a2 a7
 obtain ⟨aD, aE, aF, aG, aI, aJ, aK, aL⟩ := mv8 qw2.cell a3 a4 a5 a6 a8 a9 aA aB
 clear a2 a3 a4 a5 a6 a7 a8 a9 aA aB
 have uw2 := uw1.trans qw2
 clear qw2 uw1
 go_wp2_with fail
 refine (H2.out _).mono ?_
 rintro e w3 ⟨rfl, qw3⟩
 replace qw3 := qw3.dn
 obtain ⟨aM, aR⟩ := nl2 qw3.size aC aH
 obtain ⟨aN, aO, aP, aQ, aS, aT, aU, aV⟩ := mv8 qw3.cell aD aE aF aG aI aJ aK aL
 clear aC aD aE aF aG aH aI aJ aK aL
 have uw3 := uw2.trans qw3
 clear qw3 uw2
 go_wp2_with fail
 go_ret
 exact ⟨rfl, uw3⟩
theorem rnWithin (a b c d e f g h : Int) (w : World) (hb : I64 b) (hd : I64 d) (hf : I64 f) (hh : I64 h) :
   Calls Tryz.prog 67 #[.agg #[.int .i8 a, .int .i64 b, .int .i8 c, .int .i64 d], .agg #[.int .i8 e, .int .i64 f, .int .i8 g, .int .i64 h]] w fun r w' => r = .returned (.bool (decide (Wi a b c d e f g h))) /\ Dn w w' := by
 have HR := Lib.hid (fun W => rnRight a b c d e f g h W hb hd hf hh)
 have H1 := Lib.hid (fun W => eCmp e f a b W)
 have H2 := Lib.hid (fun W => eCmp c d g h W)
 have k1 := eC_le (i := e) (j := a) hf hb
 have k2 := eC_le (i := c) (j := g) hd hh
 by_cases h0 : RnOk a b c d /\ RnOk e f g h
 · rw [decide_eq_true h0] at HR
   by_cases h1 : eC e f a b <= 0
   · by_cases h2 : eC c d g h <= 0
     · rw [decide_eq_true (show Wi a b c d e f g h from ⟨h0.1, h0.2, k1.1 h1, k2.1 h2⟩)]; exact rnWi_3 a b c d e f g h _ _ HR H1 H2 h1 h2 w
     · rw [decide_eq_false (fun hc : Wi a b c d e f g h => h2 (k2.2 hc.2.2.2))]; exact rnWi_2 a b c d e f g h _ _ HR H1 H2 h1 h2 w
   · rw [decide_eq_false (fun hc : Wi a b c d e f g h => h1 (k1.2 hc.2.2.1))]; exact rnWi_1 a b c d e f g h _ 0 HR H1 h1 w
 · rw [decide_eq_false h0] at HR
   rw [decide_eq_false (fun hc : Wi a b c d e f g h => h0 ⟨hc.1, hc.2.1⟩)]; exact rnWi_0 a b c d e f g h 0 0 HR w
set_option maxHeartbeats 4000000
set_option maxRecDepth 100000
theorem preKn29x1 (w : World) (a b c d : Int) : ∃ W1, W1 = w.alloc (.cells #[.int .i8 a, .int .i64 b, .int .i8 c, .int .i64 d] 45) /\ (Dn w W1) /\ (W1.cell? ⟨w.heap.size, 0, none⟩ = some (.int .i8 a)) /\ (W1.cell? ⟨w.heap.size, 1, none⟩ = some (.int .i64 b)) /\ (W1.cell? ⟨w.heap.size, 2, none⟩ = some (.int .i8 c)) /\ (W1.cell? ⟨w.heap.size, 3, none⟩ = some (.int .i64 d)) /\ (w.heap.size < W1.heap.size) := by
 obtain ⟨W1, hW1⟩ : ∃ W1, W1 = w.alloc (.cells #[.int .i8 a, .int .i64 b, .int .i8 c, .int .i64 d] 45) := ⟨_, rfl⟩
 refine ⟨W1, hW1, (by rw [hW1]; exact (Dn.refl _).alloc _), ?_, ?_, ?_, ?_, ?_⟩ <;> rw [hW1] <;> first | (simp [go_sem]; done) | (simp <;> omega)
theorem rnHas_is (a b c d day : Int) (r : Bool) (HW : Hid (∀ W, Calls Tryz.prog 67 #[.agg #[.int .i8 0, .int .i64 day, .int .i8 0, .int .i64 day], .agg #[.int .i8 a, .int .i64 b, .int .i8 c, .int .i64 d]] W fun e w' => e = .returned (.bool r) /\ Dn W w')) (w : World) :
  Calls Tryz.prog 52 #[.agg #[.int .i8 a, .int .i64 b, .int .i8 c, .int .i64 d], .int .i64 day] w fun e w' => e = .returned (.bool r) /\ Dn w w' := by
 go_enter Tryz.func52, Tryz.ntmps52
 go_wp2_with fail
 obtain ⟨W1, hW1, uW1, c2, c3, c4, c5, l6⟩ := preKn29x1 w a b c d
 rw [<- hW1]
 clear hW1
 have hS7 := kd_4 (W := W1) (Dn.refl _) ⟨Dn.refl _, c2, c3, c4, c5⟩
 have HShS7 := Lib.hid hS7
 clear c2 c3 c4 c5
 go_region_held3 (fun w' => Dn W1 w' /\ w'.cell? ⟨w.heap.size, 0, none⟩ = some (.int .i8 a) /\ w'.cell? ⟨w.heap.size, 1, none⟩ = some (.int .i64 b) /\ w'.cell? ⟨w.heap.size, 2, none⟩ = some (.int .i8 c) /\ w'.cell? ⟨w.heap.size, 3, none⟩ = some (.int .i64 d))
  (exact ke kd_4)
  (first | (go_at_call 93; refine (eOf _ _).mono ?_; rintro e wa ⟨rfl, qa⟩; replace qa := Up.dn qa) | (go_at_call 67; refine (HW.out _).mono ?_; rintro e wa ⟨rfl, qa⟩))
 all_goals
  clear hS7; obtain ⟨uf12, c8, c9, c10, c11⟩ := (‹Dn W1 _ /\ _› : _ /\ _); obtain ⟨w13, rfl⟩ : ∃ w13 : World, w13 = wa := ⟨_, rfl⟩; have l14 := nlt l6 uf12.size; clear l6; have vuf12 := uW1.trans uf12; clear uf12 uW1 HShS7; go_wp2_with fail; go_ret; exact ⟨rfl, vuf12⟩
theorem rnHas (a b c d day : Int) (w : World) (hb : I64 b) (hd : I64 d) (hy : I64 day) :
  Calls Tryz.prog 52 #[.agg #[.int .i8 a, .int .i64 b, .int .i8 c, .int .i64 d], .int .i64 day] w fun e w' => e = .returned (.bool (decide (Wi 0 day 0 day a b c d))) /\ Dn w w' :=
 rnHas_is a b c d day _ (Lib.hid (fun W => rnWithin 0 day 0 day a b c d W hy hy hb hd)) w
theorem preKn29x2 (w : World) (a b c d e f g h : Int) : ∃ W1, W1 = (w.alloc (.cells #[.int .i8 a, .int .i64 b, .int .i8 c, .int .i64 d] 45)).alloc (.cells #[.int .i8 e, .int .i64 f, .int .i8 g, .int .i64 h] 45) /\ (Dn w W1) /\ (W1.cell? ⟨w.heap.size, 0, none⟩ = some (.int .i8 a)) /\ (W1.cell? ⟨w.heap.size, 1, none⟩ = some (.int .i64 b)) /\ (W1.cell? ⟨w.heap.size, 2, none⟩ = some (.int .i8 c)) /\ (W1.cell? ⟨w.heap.size, 3, none⟩ = some (.int .i64 d)) /\ (w.heap.size < W1.heap.size) /\ (W1.cell? ⟨w.heap.size + 1, 0, none⟩ = some (.int .i8 e)) /\ (W1.cell? ⟨w.heap.size + 1, 1, none⟩ = some (.int .i64 f)) /\ (W1.cell? ⟨w.heap.size + 1, 2, none⟩ = some (.int .i8 g)) /\ (W1.cell? ⟨w.heap.size + 1, 3, none⟩ = some (.int .i64 h)) /\ (w.heap.size + 1 < W1.heap.size) := by
 obtain ⟨W1, hW1⟩ : ∃ W1, W1 = (w.alloc (.cells #[.int .i8 a, .int .i64 b, .int .i8 c, .int .i64 d] 45)).alloc (.cells #[.int .i8 e, .int .i64 f, .int .i8 g, .int .i64 h] 45) := ⟨_, rfl⟩
 refine ⟨W1, hW1, (by rw [hW1]; exact ((Dn.refl _).alloc _).alloc _), ?_, ?_, ?_, ?_, ?_, ?_, ?_, ?_, ?_, ?_⟩ <;> rw [hW1] <;> first | (simp [go_sem]; done) | (simp <;> omega)
theorem rnCmp (a b c d e f g h : Int) (w : World) :
  Calls Tryz.prog 43 #[.agg #[.int .i8 a, .int .i64 b, .int .i8 c, .int .i64 d], .agg #[.int .i8 e, .int .i64 f, .int .i8 g, .int .i64 h]] w fun r w' => r = .returned (.int .i64 (or2 (eC a b e f) (eC c d g h))) /\ Dn w w' := by
 go_enter Tryz.func43, Tryz.ntmps43
 go_wp2_with fail
 obtain ⟨W1, hW1, uW1, c2, c3, c4, c5, l6, c7, c8, c9, a0, a1⟩ := preKn29x2 w a b c d e f g h
 rw [<- hW1]
 clear hW1
 have hS12 := kd_8 (W := W1) (Dn.refl _) ⟨Dn.refl _, c2, c3, c4, c5, c7, c8, c9, a0⟩
 have HShS12 := Lib.hid hS12
 clear c2 c3 c4 c5 c7 c8 c9 a0
 go_region_held3 (fun w' => Dn W1 w' /\ w'.cell? ⟨w.heap.size, 0, none⟩ = some (.int .i8 a) /\ w'.cell? ⟨w.heap.size, 1, none⟩ = some (.int .i64 b) /\ w'.cell? ⟨w.heap.size, 2, none⟩ = some (.int .i8 c) /\ w'.cell? ⟨w.heap.size, 3, none⟩ = some (.int .i64 d) /\ w'.cell? ⟨w.heap.size + 1, 0, none⟩ = some (.int .i8 e) /\ w'.cell? ⟨w.heap.size + 1, 1, none⟩ = some (.int .i64 f) /\ w'.cell? ⟨w.heap.size + 1, 2, none⟩ = some (.int .i8 g) /\ w'.cell? ⟨w.heap.size + 1, 3, none⟩ = some (.int .i64 h))
  (exact ke kd_8)
  (first | (go_at_call 66; refine (eCmp _ _ _ _ _).mono ?_; rintro e wa ⟨rfl, qa⟩; replace qa := Up.dn qa) | (go_at_call 87; refine (cmpOr _ (eC a b e f) (eC c d g h) _ ?_ ?_).mono ?_; (simp [go_sem]); (simp [go_sem]); rintro e wa ⟨rfl, rfl⟩))
 all_goals
  clear hS12; obtain ⟨uf21, a2, a3, a4, a5, a6, a7, a8, a9⟩ := (‹Dn W1 _ /\ _› : _ /\ _); obtain ⟨w22, rfl⟩ : ∃ w22 : World, w22 = wa := ⟨_, rfl⟩; have aA := nlt l6 uf21.size; clear l6; have aB := nlt a1 uf21.size; clear a1; have vuf21 := uW1.trans uf21; clear uf21 uW1 HShS12; go_wp2_with fail; go_ret; exact ⟨rfl, vuf21⟩
theorem rnLen_bad (a b c d : Int) (m : Int) (HA : Hid (ChkIs a b c d m)) (h1 : m ≠ 0) (w : World) :
  Calls Tryz.prog 56 #[.agg #[.int .i8 a, .int .i64 b, .int .i8 c, .int .i64 d]] w fun ro w' => ro = .returned (.tuple #[.int .i64 0, .int .i64 m]) /\ Dn w w' := by
 have t1 : (m != 0) = true := by simpa using h1
 clear h1
 go_enter Tryz.func56, Tryz.ntmps56
 go_wp2_with fail
 obtain ⟨W1, hW1, uW1, c2, c3, c4, c5, l6⟩ := preKn29x1 w a b c d
 rw [<- hW1]
 clear hW1
 refine (HA.out _).mono ?_
 rintro e w1 ⟨rfl, qw1⟩
 have l7 := nlt l6 qw1.size
 obtain ⟨c8, c9, c10, c11⟩ := mv4 qw1.cell c2 c3 c4 c5
 clear l6 c2 c3 c4 c5
 have uw1 := uW1.trans qw1
 clear qw1 uW1
 go_wp2_with fail
 go_ret2
 exact ⟨rfl, uw1⟩
theorem rnLen_inf1 (a b c d : Int) (HA : Hid (ChkIs a b c d 0)) (h1 : a ≠ 0) (w : World) :
  Calls Tryz.prog 56 #[.agg #[.int .i8 a, .int .i64 b, .int .i8 c, .int .i64 d]] w fun ro w' => ro = .returned (.tuple #[.int .i64 0, .int .i64 16]) /\ Dn w w' := by
 have t1 : (a != 0) = true := by simpa using h1
 clear h1
 go_enter Tryz.func56, Tryz.ntmps56
 go_wp2_with fail
 obtain ⟨W1, hW1, uW1, c2, c3, c4, c5, l6⟩ := preKn29x1 w a b c d
 rw [<- hW1]
 clear hW1
 refine (HA.out _).mono ?_
 rintro e w1 ⟨rfl, qw1⟩
 have l7 := nlt l6 qw1.size
 obtain ⟨c8, c9, c10, c11⟩ := mv4 qw1.cell c2 c3 c4 c5
 clear l6 c2 c3 c4 c5
 have uw1 := uW1.trans qw1
 clear qw1 uW1
 go_wp2_with fail
 go_ret2
 exact ⟨rfl, uw1⟩
theorem rnLen_inf2 (a b c d : Int) (HA : Hid (ChkIs a b c d 0)) (h0 : a = 0) (h1 : c ≠ 0) (w : World) :
  Calls Tryz.prog 56 #[.agg #[.int .i8 a, .int .i64 b, .int .i8 c, .int .i64 d]] w fun ro w' => ro = .returned (.tuple #[.int .i64 0, .int .i64 16]) /\ Dn w w' := by
 have t0 : (a != 0) = false := by simpa using h0
 have t1 : (c != 0) = true := by simpa using h1
 clear h1 h0
 go_enter Tryz.func56, Tryz.ntmps56
 go_wp2_with fail
 obtain ⟨W1, hW1, uW1, c2, c3, c4, c5, l6⟩ := preKn29x1 w a b c d
 rw [<- hW1]
 clear hW1
 refine (HA.out _).mono ?_
 rintro e w1 ⟨rfl, qw1⟩
 have l7 := nlt l6 qw1.size
 obtain ⟨c8, c9, c10, c11⟩ := mv4 qw1.cell c2 c3 c4 c5
 clear l6 c2 c3 c4 c5
 have uw1 := uW1.trans qw1
 clear qw1 uW1
 go_wp2_with fail
 go_ret2
 exact ⟨rfl, uw1⟩
theorem rnLen_over (a b c d : Int) (HA : Hid (ChkIs a b c d 0)) (h0 : a = 0) (h1 : c = 0) (HS : Hid (∀ W, Calls Tryz.prog 95 #[.int .i64 d, .int .i64 b] W fun r w' => r = .returned (.tuple #[.int .i64 0, .int .i64 15]) /\ W = w')) (w : World) :
  Calls Tryz.prog 56 #[.agg #[.int .i8 a, .int .i64 b, .int .i8 c, .int .i64 d]] w fun ro w' => ro = .returned (.tuple #[.int .i64 0, .int .i64 15]) /\ Dn w w' := by
 have t0 : (a != 0) = false := by simpa using h0
 have t1 : (c != 0) = false := by simpa using h1
 clear h1 h0
 go_enter Tryz.func56, Tryz.ntmps56
 go_wp2_with fail
 obtain ⟨W1, hW1, uW1, c2, c3, c4, c5, l6⟩ := preKn29x1 w a b c d
 rw [<- hW1]
 clear hW1
 refine (HA.out _).mono ?_
 rintro e w1 ⟨rfl, qw1⟩
 have l7 := nlt l6 qw1.size
 obtain ⟨c8, c9, c10, c11⟩ := mv4 qw1.cell c2 c3 c4 c5
 clear l6 c2 c3 c4 c5
 have uw1 := uW1.trans qw1
 clear qw1 uW1
 go_wp2_with fail
 refine (HS.out _).mono ?_
 rintro e w2 ⟨rfl, rfl⟩
 go_wp2_with fail
 go_ret2
 exact ⟨rfl, uw1⟩
theorem rnLen_fit (a b c d : Int) (k n e : Int) (HA : Hid (ChkIs a b c d 0)) (h0 : a = 0) (h1 : c = 0) (HS : Hid (∀ W, Calls Tryz.prog 95 #[.int .i64 d, .int .i64 b] W fun r w' => r = .returned (.tuple #[.int .i64 k, .int .i64 0]) /\ W = w')) (HT : Hid (∀ W, Calls Tryz.prog 57 #[.int .i64 k, .int .i64 1] W fun r w' => r = .returned (.tuple #[.int .i64 n, .int .i64 e]) /\ Up W w')) (w : World) :
  Calls Tryz.prog 56 #[.agg #[.int .i8 a, .int .i64 b, .int .i8 c, .int .i64 d]] w fun ro w' => ro = .returned (.tuple #[.int .i64 n, .int .i64 e]) /\ Dn w w' := by
 have t0 : (a != 0) = false := by simpa using h0
 have t1 : (c != 0) = false := by simpa using h1
 clear h1 h0
 go_enter Tryz.func56, Tryz.ntmps56
 go_wp2_with fail
 obtain ⟨W1, hW1, uW1, c2, c3, c4, c5, l6⟩ := preKn29x1 w a b c d
 rw [<- hW1]
 clear hW1
 refine (HA.out _).mono ?_
 rintro e w1 ⟨rfl, qw1⟩
 have l7 := nlt l6 qw1.size
 obtain ⟨c8, c9, a0, a1⟩ := mv4 qw1.cell c2 c3 c4 c5
 clear l6 c2 c3 c4 c5
 have uw1 := uW1.trans qw1
 clear qw1 uW1
 go_wp2_with fail
 refine (HS.out _).mono ?_
 rintro e w2 ⟨rfl, rfl⟩
 go_wp2_with fail
 refine (HT.out _).mono ?_
 rintro e w3 ⟨rfl, qw3⟩
 replace qw3 := qw3.dn
 have a2 := nlt l7 qw3.size
 obtain ⟨a3, a4, a5, a6⟩ := mv4 qw3.cell c8 c9 a0 a1
 clear l7 c8 c9 a0 a1
 have uw3 := uw1.trans qw3
 clear qw3 uw1
 go_wp2_with fail
 go_ret2
 exact ⟨rfl, uw3⟩
def LenR (a b c d n e : Int) : Prop :=
 (¬ RnOk a b c d /\ n = 0 /\ e = rnErr a b c d) \/ (RnOk a b c d /\ (a ≠ 0 \/ c ≠ 0) /\ n = 0 /\ e = 16) \/ (RnOk a b c d /\ a = 0 /\ c = 0 /\ Fits (d - b + 1) n e)
theorem rnLen (a b c d n e : Int) (w : World) (hb : I64 b) (hd : I64 d) (h : LenR a b c d n e) :
   Calls Tryz.prog 56 #[.agg #[.int .i8 a, .int .i64 b, .int .i8 c, .int .i64 d]] w fun r w' => r = .returned (.tuple #[.int .i64 n, .int .i64 e]) /\ Dn w w' := by
 have k1 := rnErr_ok (a := a) (c := c) hb hd
 have HA : Hid (ChkIs a b c d (rnErr a b c d)) := Lib.hid (rnChk a b c d)
 rcases h with ⟨h1, rfl, rfl⟩ | ⟨h1, h2, rfl, rfl⟩ | ⟨h1, h2, h3, hf⟩
 · exact rnLen_bad a b c d _ HA (fun hc => h1 (k1.1 hc)) w
 · rw [k1.2 h1] at HA
   by_cases h0 : a = 0
   · exact rnLen_inf2 a b c d HA h0 (by omega) w
   · exact rnLen_inf1 a b c d HA h0 w
 · rw [k1.2 h1] at HA
   have hk := h1.2.2.2.2; unfold key at hk
   by_cases hi : I64 (d - b)
   · have HS := Lib.hid (fun W => isub_fits d b W hd hb hi)
     have HT := Lib.hid (fun W => add_any (d - b) 1 _ n e W hi (by decide) rfl hf); exact rnLen_fit a b c d _ n e HA h2 h3 HS HT w
   · have HS := Lib.hid (fun W => isub_over d b W hd hb hi)
     rcases hf with ⟨hi2, _, _⟩ | ⟨_, rfl, rfl⟩
     · unfold I64 at hi hi2 hb hd; omega
     · exact rnLen_over a b c d HA h2 h3 HS w
theorem rnTch_no (a b c d e f g h : Int) (HR : Hid (∀ W, Calls Tryz.prog 89 #[.agg #[.int .i8 a, .int .i64 b, .int .i8 c, .int .i64 d], .agg #[.int .i8 e, .int .i64 f, .int .i8 g, .int .i64 h]] W fun r w' => r = .returned (.bool false) /\ Dn W w')) (w : World) :
  Calls Tryz.prog 47 #[.agg #[.int .i8 a, .int .i64 b, .int .i8 c, .int .i64 d], .agg #[.int .i8 e, .int .i64 f, .int .i8 g, .int .i64 h]] w fun ro w' => ro = .returned (.bool false) /\ Dn w w' := by
 go_enter Tryz.func47, Tryz.ntmps47
 go_wp2_with fail
 obtain ⟨W1, hW1, uW1, c2, c3, c4, c5, l6, c7, c8, c9, a0, a1⟩ := preKn29x2 w a b c d e f g h
 rw [<- hW1]
 clear hW1
 refine (HR.out _).mono ?_
 rintro e w1 ⟨rfl, qw1⟩
 obtain ⟨a2, a7⟩ := nl2 qw1.size l6 a1
 obtain ⟨a3, a4, a5, a6, a8, a9, aA, aB⟩ := mv8 qw1.cell c2 c3 c4 c5 c7 c8 c9 a0
 clear l6 c2 c3 c4 c5 a1 c7 c8 c9 a0
 have uw1 := uW1.trans qw1
 clear qw1 uW1
 go_wp2_with fail
 go_ret
 exact ⟨rfl, uw1⟩
theorem rnTch_s0 (a b c d e f g h m n : Int) (tr : Bool) (HR : Hid (∀ W, Calls Tryz.prog 89 #[.agg #[.int .i8 a, .int .i64 b, .int .i8 c, .int .i64 d], .agg #[.int .i8 e, .int .i64 f, .int .i8 g, .int .i64 h]] W fun r w' => r = .returned (.bool true) /\ Dn W w')) (H1 : Hid (∀ W, Calls Tryz.prog 66 #[.agg #[.int .i8 e, .int .i64 f], .agg #[.int .i8 a, .int .i64 b]] W fun r w' => r = .returned (.int .i64 m) /\ Up W w')) (H2 : Hid (∀ W, Calls Tryz.prog 66 #[.agg #[.int .i8 e, .int .i64 f], .agg #[.int .i8 c, .int .i64 d]] W fun r w' => r = .returned (.int .i64 n) /\ Up W w')) (h1 : ¬ m < 0) (HN : Hid (¬ n <= 0 -> ∀ W, Calls Tryz.prog 90 #[.agg #[.int .i8 c, .int .i64 d]] W fun r w' => r = .returned (.tuple #[.agg #[.int .i8 0, .int .i64 (d + 1)], .int .i64 0]) /\ Up W w')) (HCASE : Hid ((n <= 0 /\ tr = true) \/ (¬ n <= 0 /\ e = 0 /\ d + 1 = f /\ tr = true) \/ (¬ n <= 0 /\ d + 1 ≠ f /\ tr = false))) (w : World) :
  Calls Tryz.prog 47 #[.agg #[.int .i8 a, .int .i64 b, .int .i8 c, .int .i64 d], .agg #[.int .i8 e, .int .i64 f, .int .i8 g, .int .i64 h]] w fun ro w' => ro = .returned (.bool tr) /\ Dn w w' := by
 have t1 : decide (m < 0) = false := by simpa using h1
 clear h1
 go_enter Tryz.func47, Tryz.ntmps47
 go_wp2_with fail
 obtain ⟨W1, hW1⟩ : ∃ W1, W1 = (w.alloc (.cells #[.int .i8 a, .int .i64 b, .int .i8 c, .int .i64 d] 45)).alloc (.cells #[.int .i8 e, .int .i64 f, .int .i8 g, .int .i64 h] 45) := ⟨_, rfl⟩
 have uW1 : Dn w W1 := by rw [hW1]; exact ((Dn.refl _).alloc _).alloc _
 have n2 : w.heap.size ≠ w.heap.size + 1 := by omega
 have c3 : W1.cell? ⟨w.heap.size, 0, none⟩ = some (.int .i8 a) := by rw [hW1]; simp [go_sem]
 have c4 : W1.cell? ⟨w.heap.size, 1, none⟩ = some (.int .i64 b) := by rw [hW1]; simp [go_sem]
 have c5 : W1.cell? ⟨w.heap.size, 2, none⟩ = some (.int .i8 c) := by rw [hW1]; simp [go_sem]
 have c6 : W1.cell? ⟨w.heap.size, 3, none⟩ = some (.int .i64 d) := by rw [hW1]; simp [go_sem]
 have l7 : w.heap.size < W1.heap.size := by rw [hW1]; simp <;> omega
 have f8 : W1.frozen? ⟨w.heap.size, 0, none⟩ = false := by rw [hW1]; simp [go_sem]
 have f9 : W1.frozen? ⟨w.heap.size, 1, none⟩ = false := by rw [hW1]; simp [go_sem]
 have f10 : W1.frozen? ⟨w.heap.size, 2, none⟩ = false := by rw [hW1]; simp [go_sem]
 have f11 : W1.frozen? ⟨w.heap.size, 3, none⟩ = false := by rw [hW1]; simp [go_sem]
 have aP : W1.cell? ⟨w.heap.size + 1, 0, none⟩ = some (.int .i8 e) := by rw [hW1]; simp [go_sem]
 have aQ : W1.cell? ⟨w.heap.size + 1, 1, none⟩ = some (.int .i64 f) := by rw [hW1]; simp [go_sem]
 have aR : W1.cell? ⟨w.heap.size + 1, 2, none⟩ = some (.int .i8 g) := by rw [hW1]; simp [go_sem]
 have aS : W1.cell? ⟨w.heap.size + 1, 3, none⟩ = some (.int .i64 h) := by rw [hW1]; simp [go_sem]
 have a4 : w.heap.size + 1 < W1.heap.size := by rw [hW1]; simp <;> omega
 have f17 : W1.frozen? ⟨w.heap.size + 1, 0, none⟩ = false := by rw [hW1]; simp [go_sem]
 have f18 : W1.frozen? ⟨w.heap.size + 1, 1, none⟩ = false := by rw [hW1]; simp [go_sem]
 have f19 : W1.frozen? ⟨w.heap.size + 1, 2, none⟩ = false := by rw [hW1]; simp [go_sem]
 have f20 : W1.frozen? ⟨w.heap.size + 1, 3, none⟩ = false := by rw [hW1]; simp [go_sem]
 rw [<- hW1]
 clear hW1
 refine (HR.out _).mono ?_
 rintro e w1 ⟨rfl, qw1⟩
 have f21 := fz qw1 f8 l7
 have f22 := fz qw1 f9 l7
 have f23 := fz qw1 f10 l7
 have f24 := fz qw1 f11 l7
 have a5 := nlt l7 qw1.size
 obtain ⟨aT, aU, aV, aW⟩ := mv4 qw1.cell c3 c4 c5 c6
 have f30 := fz qw1 f17 a4
 have f31 := fz qw1 f18 a4
 have f32 := fz qw1 f19 a4
 have f33 := fz qw1 f20 a4
 have a6 := nlt a4 qw1.size
 obtain ⟨aX, aY, aZ, b0⟩ := mv4 qw1.cell aP aQ aR aS
 clear f8 f9 f10 f11 l7 c3 c4 c5 c6 f17 f18 f19 f20 a4 aP aQ aR aS
 have uw1 := uW1.trans qw1
 clear qw1 uW1
 go_wp2_with fail
 refine (H1.out _).mono ?_
 rintro e w2 ⟨rfl, qw2⟩
 replace qw2 := qw2.dn
 have f39 := fz qw2 f21 a5
 have f40 := fz qw2 f22 a5
 have f41 := fz qw2 f23 a5
 have f42 := fz qw2 f24 a5
 have a7 := nlt a5 qw2.size
 obtain ⟨b1, b2, b3, b4⟩ := mv4 qw2.cell aT aU aV aW
 have f48 := fz qw2 f30 a6
 have f49 := fz qw2 f31 a6
 have f50 := fz qw2 f32 a6
 have f51 := fz qw2 f33 a6
 have a8 := nlt a6 qw2.size
 obtain ⟨b5, b6, b7, b8⟩ := mv4 qw2.cell aX aY aZ b0
 clear f21 f22 f23 f24 a5 aT aU aV aW f30 f31 f32 f33 a6 aX aY aZ b0
 have uw2 := uw1.trans qw2
 clear qw2 uw1
 go_wp2_with fail
 refine (H2.out _).mono ?_
 rintro e w3 ⟨rfl, qw3⟩
 replace qw3 := qw3.dn
 have f57 := fz qw3 f39 a7
 have f58 := fz qw3 f40 a7
 have f59 := fz qw3 f41 a7
 have f60 := fz qw3 f42 a7
 have a2 := nlt a7 qw3.size
 obtain ⟨aH, aI, aJ, aK⟩ := mv4 qw3.cell b1 b2 b3 b4
 have f66 := fz qw3 f48 a8
 have f67 := fz qw3 f49 a8
 have f68 := fz qw3 f50 a8
 have f69 := fz qw3 f51 a8
 have a3 := nlt a8 qw3.size
 obtain ⟨aL, aM, aN, aO⟩ := mv4 qw3.cell b5 b6 b7 b8
 clear f39 f40 f41 f42 a7 b1 b2 b3 b4 f48 f49 f50 f51 a8 b5 b6 b7 b8
 have uw3 := uw2.trans qw3
 clear qw3 uw2
 rcases HCASE.out with ⟨h2, rfl⟩ | ⟨h2, h3, h4, rfl⟩ | ⟨h2, h3, rfl⟩
 all_goals clear HCASE
 ·
  have t2 : decide (n <= 0) = true := by simpa using h2
  clear h2; go_wp2_with fail; go_ret; exact ⟨rfl, uw3⟩
 ·
  have HN1 := Lib.hid (HN.out h2); clear HN
  have t2 : decide (n <= 0) = false := by simpa using h2
  clear h2
  have t3 : ((0 : Int) == e) = true := by simp [h3]
  have t4 : (d + 1 == f) = true := by simpa using h4
  clear h3 h4; go_wp2_with fail; refine (HN1.out _).mono ?_; rintro e w4 ⟨rfl, qw4⟩; replace qw4 := qw4.dn; have f75 := fz qw4 f57 a2; have f76 := fz qw4 f58 a2; have f77 := fz qw4 f59 a2; have f78 := fz qw4 f60 a2; have a0 := nlt a2 qw4.size; obtain ⟨a9, aA, aB, aC⟩ := mv4 qw4.cell aH aI aJ aK; have f84 := fz qw4 f66 a3; have f85 := fz qw4 f67 a3; have f86 := fz qw4 f68 a3; have f87 := fz qw4 f69 a3; have a1 := nlt a3 qw4.size; obtain ⟨aD, aE, aF, aG⟩ := mv4 qw4.cell aL aM aN aO; clear f57 f58 f59 f60 a2 aH aI aJ aK f66 f67 f68 f69 a3 aL aM aN aO; have uw4 := uw3.trans qw4; clear qw4 uw3; go_wp2_with fail; obtain ⟨W93, hW93⟩ : ∃ W93, W93 = w4.alloc (.cells #[.int .i8 0, .int .i64 (d + 1)] 41) := ⟨_, rfl⟩
  have uW93 : Dn w4 W93 := by rw [hW93]; exact (Dn.refl _).alloc _
  have n94 : w.heap.size ≠ w4.heap.size := by have := a0; omega
  have n95 : w.heap.size + 1 ≠ w4.heap.size := by have := a1; omega
  have f96 := fz uW93 f75 a0; have f97 := fz uW93 f76 a0; have f98 := fz uW93 f77 a0; have f99 := fz uW93 f78 a0; have b9 := nlt a0 uW93.size; obtain ⟨bA, bB, bC, bD⟩ := mv4 uW93.cell a9 aA aB aC; have f105 := fz uW93 f84 a1; have f106 := fz uW93 f85 a1; have f107 := fz uW93 f86 a1; have f108 := fz uW93 f87 a1; have bE := nlt a1 uW93.size; obtain ⟨bF, bG, bH, bI⟩ := mv4 uW93.cell aD aE aF aG; clear f75 f76 f77 f78 a0 a9 aA aB aC f84 f85 f86 f87 a1 aD aE aF aG
  have bJ : W93.cell? ⟨w4.heap.size, 0, none⟩ = some (.int .i8 0) := by rw [hW93]; simp [go_sem]
  have bK : W93.cell? ⟨w4.heap.size, 1, none⟩ = some (.int .i64 (d + 1)) := by rw [hW93]; simp [go_sem]
  have bL : w4.heap.size < W93.heap.size := by rw [hW93]; simp <;> omega
  rw [<- hW93]; clear hW93; have vW93 := uw4.trans uW93; clear uW93 uw4; go_wp2_with fail; go_ret; exact ⟨rfl, vW93⟩
 ·
  have HN1 := Lib.hid (HN.out h2); clear HN
  have t2 : decide (n <= 0) = false := by simpa using h2
  clear h2
  have t3 : (d + 1 == f) = false := by simpa using h3
  clear h3; go_wp2_with fail; refine (HN1.out _).mono ?_; rintro e w4 ⟨rfl, qw4⟩; replace qw4 := qw4.dn; have f75 := fz qw4 f57 a2; have f76 := fz qw4 f58 a2; have f77 := fz qw4 f59 a2; have f78 := fz qw4 f60 a2; have a0 := nlt a2 qw4.size; obtain ⟨a9, aA, aB, aC⟩ := mv4 qw4.cell aH aI aJ aK; have f84 := fz qw4 f66 a3; have f85 := fz qw4 f67 a3; have f86 := fz qw4 f68 a3; have f87 := fz qw4 f69 a3; have a1 := nlt a3 qw4.size; obtain ⟨aD, aE, aF, aG⟩ := mv4 qw4.cell aL aM aN aO; clear f57 f58 f59 f60 a2 aH aI aJ aK f66 f67 f68 f69 a3 aL aM aN aO; have uw4 := uw3.trans qw4; clear qw4 uw3; go_wp2_with fail; obtain ⟨W93, hW93⟩ : ∃ W93, W93 = w4.alloc (.cells #[.int .i8 0, .int .i64 (d + 1)] 41) := ⟨_, rfl⟩
  have uW93 : Dn w4 W93 := by rw [hW93]; exact (Dn.refl _).alloc _
  have n94 : w.heap.size ≠ w4.heap.size := by have := a0; omega
  have n95 : w.heap.size + 1 ≠ w4.heap.size := by have := a1; omega
  have f96 := fz uW93 f75 a0; have f97 := fz uW93 f76 a0; have f98 := fz uW93 f77 a0; have f99 := fz uW93 f78 a0; have b9 := nlt a0 uW93.size; obtain ⟨bA, bB, bC, bD⟩ := mv4 uW93.cell a9 aA aB aC; have f105 := fz uW93 f84 a1; have f106 := fz uW93 f85 a1; have f107 := fz uW93 f86 a1; have f108 := fz uW93 f87 a1; have bE := nlt a1 uW93.size; obtain ⟨bF, bG, bH, bI⟩ := mv4 uW93.cell aD aE aF aG; clear f75 f76 f77 f78 a0 a9 aA aB aC f84 f85 f86 f87 a1 aD aE aF aG
  have bJ : W93.cell? ⟨w4.heap.size, 0, none⟩ = some (.int .i8 0) := by rw [hW93]; simp [go_sem]
  have bK : W93.cell? ⟨w4.heap.size, 1, none⟩ = some (.int .i64 (d + 1)) := by rw [hW93]; simp [go_sem]
  have bL : w4.heap.size < W93.heap.size := by rw [hW93]; simp <;> omega
  rw [<- hW93]; clear hW93; have vW93 := uw4.trans uW93; clear uW93 uw4; go_wp2_with fail; go_ret; exact ⟨rfl, vW93⟩
theorem rnTch_s1 (a b c d e f g h m n : Int) (tr : Bool) (HR : Hid (∀ W, Calls Tryz.prog 89 #[.agg #[.int .i8 a, .int .i64 b, .int .i8 c, .int .i64 d], .agg #[.int .i8 e, .int .i64 f, .int .i8 g, .int .i64 h]] W fun r w' => r = .returned (.bool true) /\ Dn W w')) (H1 : Hid (∀ W, Calls Tryz.prog 66 #[.agg #[.int .i8 e, .int .i64 f], .agg #[.int .i8 a, .int .i64 b]] W fun r w' => r = .returned (.int .i64 m) /\ Up W w')) (H2 : Hid (∀ W, Calls Tryz.prog 66 #[.agg #[.int .i8 a, .int .i64 b], .agg #[.int .i8 g, .int .i64 h]] W fun r w' => r = .returned (.int .i64 n) /\ Up W w')) (h1 : m < 0) (HN : Hid (¬ n <= 0 -> ∀ W, Calls Tryz.prog 90 #[.agg #[.int .i8 g, .int .i64 h]] W fun r w' => r = .returned (.tuple #[.agg #[.int .i8 0, .int .i64 (h + 1)], .int .i64 0]) /\ Up W w')) (HCASE : Hid ((n <= 0 /\ tr = true) \/ (¬ n <= 0 /\ a = 0 /\ h + 1 = b /\ tr = true) \/ (¬ n <= 0 /\ h + 1 ≠ b /\ tr = false))) (w : World) :
  Calls Tryz.prog 47 #[.agg #[.int .i8 a, .int .i64 b, .int .i8 c, .int .i64 d], .agg #[.int .i8 e, .int .i64 f, .int .i8 g, .int .i64 h]] w fun ro w' => ro = .returned (.bool tr) /\ Dn w w' := by
 have t1 : decide (m < 0) = true := by simpa using h1
 clear h1
 go_enter Tryz.func47, Tryz.ntmps47
 go_wp2_with fail
 obtain ⟨W1, hW1⟩ : ∃ W1, W1 = (w.alloc (.cells #[.int .i8 a, .int .i64 b, .int .i8 c, .int .i64 d] 45)).alloc (.cells #[.int .i8 e, .int .i64 f, .int .i8 g, .int .i64 h] 45) := ⟨_, rfl⟩
 have uW1 : Dn w W1 := by rw [hW1]; exact ((Dn.refl _).alloc _).alloc _
 have n2 : w.heap.size ≠ w.heap.size + 1 := by omega
 have c3 : W1.cell? ⟨w.heap.size, 0, none⟩ = some (.int .i8 a) := by rw [hW1]; simp [go_sem]
 have c4 : W1.cell? ⟨w.heap.size, 1, none⟩ = some (.int .i64 b) := by rw [hW1]; simp [go_sem]
 have c5 : W1.cell? ⟨w.heap.size, 2, none⟩ = some (.int .i8 c) := by rw [hW1]; simp [go_sem]
 have c6 : W1.cell? ⟨w.heap.size, 3, none⟩ = some (.int .i64 d) := by rw [hW1]; simp [go_sem]
 have l7 : w.heap.size < W1.heap.size := by rw [hW1]; simp <;> omega
 have f8 : W1.frozen? ⟨w.heap.size, 0, none⟩ = false := by rw [hW1]; simp [go_sem]
 have f9 : W1.frozen? ⟨w.heap.size, 1, none⟩ = false := by rw [hW1]; simp [go_sem]
 have f10 : W1.frozen? ⟨w.heap.size, 2, none⟩ = false := by rw [hW1]; simp [go_sem]
 have f11 : W1.frozen? ⟨w.heap.size, 3, none⟩ = false := by rw [hW1]; simp [go_sem]
 have aV : W1.cell? ⟨w.heap.size + 1, 0, none⟩ = some (.int .i8 e) := by rw [hW1]; simp [go_sem]
 have aW : W1.cell? ⟨w.heap.size + 1, 1, none⟩ = some (.int .i64 f) := by rw [hW1]; simp [go_sem]
 have aX : W1.cell? ⟨w.heap.size + 1, 2, none⟩ = some (.int .i8 g) := by rw [hW1]; simp [go_sem]
 have aY : W1.cell? ⟨w.heap.size + 1, 3, none⟩ = some (.int .i64 h) := by rw [hW1]; simp [go_sem]
 have a8 : w.heap.size + 1 < W1.heap.size := by rw [hW1]; simp <;> omega
 have f17 : W1.frozen? ⟨w.heap.size + 1, 0, none⟩ = false := by rw [hW1]; simp [go_sem]
 have f18 : W1.frozen? ⟨w.heap.size + 1, 1, none⟩ = false := by rw [hW1]; simp [go_sem]
 have f19 : W1.frozen? ⟨w.heap.size + 1, 2, none⟩ = false := by rw [hW1]; simp [go_sem]
 have f20 : W1.frozen? ⟨w.heap.size + 1, 3, none⟩ = false := by rw [hW1]; simp [go_sem]
 rw [<- hW1]
 clear hW1
 refine (HR.out _).mono ?_
 rintro e w1 ⟨rfl, qw1⟩
 have f21 := fz qw1 f8 l7
 have f22 := fz qw1 f9 l7
 have f23 := fz qw1 f10 l7
 have f24 := fz qw1 f11 l7
 have a9 := nlt l7 qw1.size
 obtain ⟨aZ, b0, b1, b2⟩ := mv4 qw1.cell c3 c4 c5 c6
 have f30 := fz qw1 f17 a8
 have f31 := fz qw1 f18 a8
 have f32 := fz qw1 f19 a8
 have f33 := fz qw1 f20 a8
 have aA := nlt a8 qw1.size
 obtain ⟨b3, b4, b5, b6⟩ := mv4 qw1.cell aV aW aX aY
 clear f8 f9 f10 f11 l7 c3 c4 c5 c6 f17 f18 f19 f20 a8 aV aW aX aY
 have uw1 := uW1.trans qw1
 clear qw1 uW1
 go_wp2_with fail
 refine (H1.out _).mono ?_
 rintro e w2 ⟨rfl, qw2⟩
 replace qw2 := qw2.dn
 have f39 := fz qw2 f21 a9
 have f40 := fz qw2 f22 a9
 have f41 := fz qw2 f23 a9
 have f42 := fz qw2 f24 a9
 have b7 := nlt a9 qw2.size
 obtain ⟨a0, a1, a2, a3⟩ := mv4 qw2.cell aZ b0 b1 b2
 have f48 := fz qw2 f30 aA
 have f49 := fz qw2 f31 aA
 have f50 := fz qw2 f32 aA
 have f51 := fz qw2 f33 aA
 have b8 := nlt aA qw2.size
 obtain ⟨a4, a5, a6, a7⟩ := mv4 qw2.cell b3 b4 b5 b6
 clear f21 f22 f23 f24 a9 aZ b0 b1 b2 f30 f31 f32 f33 aA b3 b4 b5 b6
 have uw2 := uw1.trans qw2
 clear qw2 uw1
 go_wp2_with fail
 obtain ⟨W57, hW57⟩ : ∃ W57, W57 = (((((((w2.setCell ⟨w.heap.size, 0, none⟩ (.int .i8 e)).setCell ⟨w.heap.size, 1, none⟩ (.int .i64 f)).setCell ⟨w.heap.size, 2, none⟩ (.int .i8 g)).setCell ⟨w.heap.size, 3, none⟩ (.int .i64 h)).setCell ⟨w.heap.size + 1, 0, none⟩ (.int .i8 a)).setCell ⟨w.heap.size + 1, 1, none⟩ (.int .i64 b)).setCell ⟨w.heap.size + 1, 2, none⟩ (.int .i8 c)).setCell ⟨w.heap.size + 1, 3, none⟩ (.int .i64 d) := ⟨_, rfl⟩
 have uW57 : Dn w W57 := by rw [hW57]; exact ((((((((uw2.sC).sC).sC).sC).sC).sC).sC).sC)
 have b9 : W57.cell? ⟨w.heap.size, 0, none⟩ = some (.int .i8 e) := by rw [hW57]; simp [go_sem, a0, a1, a2, a3, a4, a5, a6, a7]
 have bA : W57.cell? ⟨w.heap.size, 1, none⟩ = some (.int .i64 f) := by rw [hW57]; simp [go_sem, a0, a1, a2, a3, a4, a5, a6, a7]
 have bB : W57.cell? ⟨w.heap.size, 2, none⟩ = some (.int .i8 g) := by rw [hW57]; simp [go_sem, a0, a1, a2, a3, a4, a5, a6, a7]
 have bC : W57.cell? ⟨w.heap.size, 3, none⟩ = some (.int .i64 h) := by rw [hW57]; simp [go_sem, a0, a1, a2, a3, a4, a5, a6, a7]
 have bD : w.heap.size < W57.heap.size := by rw [hW57]; simpa using b7
 have bE : W57.cell? ⟨w.heap.size + 1, 0, none⟩ = some (.int .i8 a) := by rw [hW57]; simp [go_sem, a0, a1, a2, a3, a4, a5, a6, a7]
 have bF : W57.cell? ⟨w.heap.size + 1, 1, none⟩ = some (.int .i64 b) := by rw [hW57]; simp [go_sem, a0, a1, a2, a3, a4, a5, a6, a7]
 have bG : W57.cell? ⟨w.heap.size + 1, 2, none⟩ = some (.int .i8 c) := by rw [hW57]; simp [go_sem, a0, a1, a2, a3, a4, a5, a6, a7]
 have bH : W57.cell? ⟨w.heap.size + 1, 3, none⟩ = some (.int .i64 d) := by rw [hW57]; simp [go_sem, a0, a1, a2, a3, a4, a5, a6, a7]
 have bI : w.heap.size + 1 < W57.heap.size := by rw [hW57]; simpa using b8
 rw [<- hW57]
 clear hW57 uw2 a0 a1 a2 a3 a4 a5 a6 a7 b7 b8 f39 f40 f41 f42 f48 f49 f50 f51
 refine (H2.out _).mono ?_
 rintro e w3 ⟨rfl, qw3⟩
 replace qw3 := qw3.dn
 obtain ⟨aL, aQ⟩ := nl2 qw3.size bD bI
 obtain ⟨aM, aN, aO, aP, aR, aS, aT, aU⟩ := mv8 qw3.cell b9 bA bB bC bE bF bG bH
 clear bD b9 bA bB bC bI bE bF bG bH
 have uw3 := uW57.trans qw3
 clear qw3 uW57
 rcases HCASE.out with ⟨h2, rfl⟩ | ⟨h2, h3, h4, rfl⟩ | ⟨h2, h3, rfl⟩
 all_goals clear HCASE
 ·
  have t2 : decide (n <= 0) = true := by simpa using h2
  clear h2; go_wp2_with fail; go_ret; exact ⟨rfl, uw3⟩
 ·
  have HN1 := Lib.hid (HN.out h2); clear HN
  have t2 : decide (n <= 0) = false := by simpa using h2
  clear h2
  have t3 : ((0 : Int) == a) = true := by simp [h3]
  have t4 : (h + 1 == b) = true := by simpa using h4
  clear h3 h4; go_wp2_with fail; refine (HN1.out _).mono ?_; rintro e w4 ⟨rfl, qw4⟩; replace qw4 := qw4.dn; obtain ⟨aB, aG⟩ := nl2 qw4.size aL aQ; obtain ⟨aC, aD, aE, aF, aH, aI, aJ, aK⟩ := mv8 qw4.cell aM aN aO aP aR aS aT aU; clear aL aM aN aO aP aQ aR aS aT aU; have uw4 := uw3.trans qw4; clear qw4 uw3; go_wp2_with fail; obtain ⟨W88, hW88⟩ : ∃ W88, W88 = w4.alloc (.cells #[.int .i8 0, .int .i64 (h + 1)] 41) := ⟨_, rfl⟩
  have uW88 : Dn w4 W88 := by rw [hW88]; exact (Dn.refl _).alloc _
  obtain ⟨bJ, bO⟩ := nl2 uW88.size aB aG; obtain ⟨bK, bL, bM, bN, bP, bQ, bR, bS⟩ := mv8 uW88.cell aC aD aE aF aH aI aJ aK; clear aB aC aD aE aF aG aH aI aJ aK
  have bT : W88.cell? ⟨w4.heap.size, 0, none⟩ = some (.int .i8 0) := by rw [hW88]; simp [go_sem]
  have bU : W88.cell? ⟨w4.heap.size, 1, none⟩ = some (.int .i64 (h + 1)) := by rw [hW88]; simp [go_sem]
  have bV : w4.heap.size < W88.heap.size := by rw [hW88]; simp <;> omega
  rw [<- hW88]; clear hW88; have vW88 := uw4.trans uW88; clear uW88 uw4; go_wp2_with fail; go_ret; exact ⟨rfl, vW88⟩
 ·
  have HN1 := Lib.hid (HN.out h2); clear HN
  have t2 : decide (n <= 0) = false := by simpa using h2
  clear h2
  have t3 : (h + 1 == b) = false := by simpa using h3
  clear h3; go_wp2_with fail; refine (HN1.out _).mono ?_; rintro e w4 ⟨rfl, qw4⟩; replace qw4 := qw4.dn; obtain ⟨aB, aG⟩ := nl2 qw4.size aL aQ; obtain ⟨aC, aD, aE, aF, aH, aI, aJ, aK⟩ := mv8 qw4.cell aM aN aO aP aR aS aT aU; clear aL aM aN aO aP aQ aR aS aT aU; have uw4 := uw3.trans qw4; clear qw4 uw3; go_wp2_with fail; obtain ⟨W88, hW88⟩ : ∃ W88, W88 = w4.alloc (.cells #[.int .i8 0, .int .i64 (h + 1)] 41) := ⟨_, rfl⟩
  have uW88 : Dn w4 W88 := by rw [hW88]; exact (Dn.refl _).alloc _
  obtain ⟨bJ, bO⟩ := nl2 uW88.size aB aG; obtain ⟨bK, bL, bM, bN, bP, bQ, bR, bS⟩ := mv8 uW88.cell aC aD aE aF aH aI aJ aK; clear aB aC aD aE aF aG aH aI aJ aK
  have bT : W88.cell? ⟨w4.heap.size, 0, none⟩ = some (.int .i8 0) := by rw [hW88]; simp [go_sem]
  have bU : W88.cell? ⟨w4.heap.size, 1, none⟩ = some (.int .i64 (h + 1)) := by rw [hW88]; simp [go_sem]
  have bV : w4.heap.size < W88.heap.size := by rw [hW88]; simp <;> omega
  rw [<- hW88]; clear hW88; have vW88 := uw4.trans uW88; clear uW88 uw4; go_wp2_with fail; go_ret; exact ⟨rfl, vW88⟩
theorem rnTouch (a b c d e f g h : Int) (w : World) (hb : I64 b) (hd : I64 d) (hf : I64 f) (hh : I64 h) :
   Calls Tryz.prog 47 #[.agg #[.int .i8 a, .int .i64 b, .int .i8 c, .int .i64 d], .agg #[.int .i8 e, .int .i64 f, .int .i8 g, .int .i64 h]] w fun r w' => r = .returned (.bool (decide (Tch a b c d e f g h))) /\ Dn w w' := by
 have HR := Lib.hid (fun W => rnRight a b c d e f g h W hb hd hf hh)
 by_cases h0 : RnOk a b c d /\ RnOk e f g h
 · rw [decide_eq_true h0] at HR
   obtain ⟨⟨o1, o2, o3, o4, o5⟩, p1, p2, p3, p4, p5⟩ := h0; have hT : Tch a b c d e f g h ↔ key e f <= key c d + 1 /\ key a b <= key g h + 1 := ⟨fun hc => hc.2.2, fun hc => ⟨⟨o1, o2, o3, o4, o5⟩, ⟨p1, p2, p3, p4, p5⟩, hc⟩⟩; have k1 := eC_lt (i := e) (j := a) hf hb; have H1 := Lib.hid (fun W => eCmp e f a b W)
   by_cases hm : eC e f a b < 0
   · have k2 := eC_le (i := a) (j := g) hb hh
     have H2 := Lib.hid (fun W => eCmp a b g h W)
     by_cases hn : eC a b g h <= 0
     · rw [decide_eq_true (hT.2 (by unfold key at *; omega))]
       exact rnTch_s1 a b c d e f g h _ _ _ HR H1 H2 hm (Lib.hid (fun hc => absurd hn hc)) (Lib.hid (.inl ⟨hn, rfl⟩)) w
     · have hg : g = 0 := by unfold eOk key I64 at *; omega
       subst hg; have hfit : I64 (h + 1) := (by unfold eOk key I64 at *; omega); have HN := Lib.hid (fun W => eNext 0 h 0 (h + 1) 0 W hh (Or.inr (Or.inr ⟨rfl, rfl, Or.inl ⟨hfit, rfl, rfl⟩⟩)))
       by_cases hq : a = 0 /\ h + 1 = b
       · rw [decide_eq_true (hT.2 (by unfold key at *; omega))]
         exact rnTch_s1 a b c d e f 0 h _ _ _ HR H1 H2 hm (Lib.hid (fun _ => HN.out)) (Lib.hid (.inr (.inl ⟨hn, hq.1, hq.2, rfl⟩))) w
       · have ha : a = 0 := by unfold eOk key I64 at *; omega
         rw [decide_eq_false (fun hc => by have := hT.1 hc; unfold key at *; omega)]; exact rnTch_s1 a b c d e f 0 h _ _ _ HR H1 H2 hm (Lib.hid (fun _ => HN.out)) (Lib.hid (.inr (.inr ⟨hn, fun hc => hq ⟨ha, hc⟩, rfl⟩))) w
   · have k2 := eC_le (i := e) (j := c) hf hd
     have H2 := Lib.hid (fun W => eCmp e f c d W)
     by_cases hn : eC e f c d <= 0
     · rw [decide_eq_true (hT.2 (by unfold key at *; omega))]
       exact rnTch_s0 a b c d e f g h _ _ _ HR H1 H2 hm (Lib.hid (fun hc => absurd hn hc)) (Lib.hid (.inl ⟨hn, rfl⟩)) w
     · have hg : c = 0 := by unfold eOk key I64 at *; omega
       subst hg; have hfit : I64 (d + 1) := (by unfold eOk key I64 at *; omega); have HN := Lib.hid (fun W => eNext 0 d 0 (d + 1) 0 W hd (Or.inr (Or.inr ⟨rfl, rfl, Or.inl ⟨hfit, rfl, rfl⟩⟩)))
       by_cases hq : e = 0 /\ d + 1 = f
       · rw [decide_eq_true (hT.2 (by unfold key at *; omega))]
         exact rnTch_s0 a b 0 d e f g h _ _ _ HR H1 H2 hm (Lib.hid (fun _ => HN.out)) (Lib.hid (.inr (.inl ⟨hn, hq.1, hq.2, rfl⟩))) w
       · have ha : e = 0 := by unfold eOk key I64 at *; omega
         rw [decide_eq_false (fun hc => by have := hT.1 hc; unfold key at *; omega)]; exact rnTch_s0 a b 0 d e f g h _ _ _ HR H1 H2 hm (Lib.hid (fun _ => HN.out)) (Lib.hid (.inr (.inr ⟨hn, fun hc => hq ⟨ha, hc⟩, rfl⟩))) w
 · rw [decide_eq_false h0] at HR
   rw [decide_eq_false (fun hc : Tch a b c d e f g h => h0 ⟨hc.1, hc.2.1⟩)]; exact rnTch_no a b c d e f g h HR w
end Go.Proofs.YtoghoddjkdoohaaGreatDoor
