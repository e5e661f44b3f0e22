/- Walks and laws that the claim's theorem leans on: part 12. -/
import Derived.Test.YtoghoddjkdoohaaGreatDoorZOf1
import Derived.Test.YtoghoddjkdoohaaGreatDoorZOf8
import Derived.Test.YtoghoddjkdoohaaGreatDoorZOf10
import Derived.Test.YtoghoddjkdoohaaGreatDoorZOf11
namespace Go.Proofs.YtoghoddjkdoohaaGreatDoor
set_option maxHeartbeats 4000000
set_option maxRecDepth 100000
open Go.RowKit
set_option linter.unusedVariables false
set_option linter.unusedSimpArgs false
theorem rfBeg_1 (a b c d e f g h : Int) (h1 : e = -1) (h2 : a = -1) (w : World) :
  Calls Tryz.prog 110 #[.agg #[.int .i8 a, .int .i64 b, .int .i8 c, .int .i64 d], .agg #[.int .i8 e, .int .i64 f, .int .i8 g, .int .i64 h]] w fun ro w' => ro = .returned (.bool true) ∧ Dn w w' := by
 have t1 : (e == -1) = true := by simpa using h1
 have t2 : (a == -1) = true := by simpa using h2
 clear h1 h2
 go_enter Tryz.func110, Tryz.ntmps110
 go_wp2_with fail
 go_ret
 exact ⟨rfl, ((Dn.refl _).alloc _).alloc _⟩
theorem rfBeg_2 (a b c d e f g h : Int) (h1 : e = -1) (h2 : a ≠ -1) (w : World) :
  Calls Tryz.prog 110 #[.agg #[.int .i8 a, .int .i64 b, .int .i8 c, .int .i64 d], .agg #[.int .i8 e, .int .i64 f, .int .i8 g, .int .i64 h]] w fun ro w' => ro = .returned (.bool false) ∧ Dn w w' := by
 have t1 : (e == -1) = true := by simpa using h1
 have t2 : (a == -1) = false := by simpa using h2
 clear h1 h2
 go_enter Tryz.func110, Tryz.ntmps110
 go_wp2_with fail
 go_ret
 exact ⟨rfl, ((Dn.refl _).alloc _).alloc _⟩
theorem preOf48x1 (w : World) (a b c d e f g h : Int) : ∃ W1, W1 = (w.alloc (.cells #[.int .i8 a, .int .i64 b, .int .i8 c, .int .i64 d] 45)).alloc (.cells #[.int .i8 e, .int .i64 f, .int .i8 g, .int .i64 h] 45) ∧ (Dn w W1) ∧ (W1.cell? ⟨w.heap.size, 0, none⟩ = some (.int .i8 a)) ∧ (W1.cell? ⟨w.heap.size, 1, none⟩ = some (.int .i64 b)) ∧ (W1.cell? ⟨w.heap.size, 2, none⟩ = some (.int .i8 c)) ∧ (W1.cell? ⟨w.heap.size, 3, none⟩ = some (.int .i64 d)) ∧ (w.heap.size < W1.heap.size) ∧ (W1.cell? ⟨w.heap.size + 1, 0, none⟩ = some (.int .i8 e)) ∧ (W1.cell? ⟨w.heap.size + 1, 1, none⟩ = some (.int .i64 f)) ∧ (W1.cell? ⟨w.heap.size + 1, 2, none⟩ = some (.int .i8 g)) ∧ (W1.cell? ⟨w.heap.size + 1, 3, none⟩ = some (.int .i64 h)) ∧ (w.heap.size + 1 < W1.heap.size) := by
  obtain ⟨W1, hW1⟩ : ∃ W1, W1 = (w.alloc (.cells #[.int .i8 a, .int .i64 b, .int .i8 c, .int .i64 d] 45)).alloc (.cells #[.int .i8 e, .int .i64 f, .int .i8 g, .int .i64 h] 45) := ⟨_, rfl⟩
  exact ⟨W1, hW1, (by rw [hW1]; exact ((Dn.refl _).alloc _).alloc _), (by rw [hW1]; simp [go_sem]), (by rw [hW1]; simp [go_sem]), (by rw [hW1]; simp [go_sem]), (by rw [hW1]; simp [go_sem]), (by rw [hW1]; simp <;> omega), (by rw [hW1]; simp [go_sem]), (by rw [hW1]; simp [go_sem]), (by rw [hW1]; simp [go_sem]), (by rw [hW1]; simp [go_sem]), (by rw [hW1]; simp <;> omega)⟩
theorem rfBeg_3 (a b c d e f g h : Int) (p : Bool) (h1 : e ≠ -1) (HH : Hid (∀ W, Calls Tryz.prog 46 #[.agg #[.int .i8 a, .int .i64 b, .int .i8 c, .int .i64 d], .int .i64 f] W fun o w' => o = .returned (.bool p) ∧ Dn W w')) (w : World) :
  Calls Tryz.prog 110 #[.agg #[.int .i8 a, .int .i64 b, .int .i8 c, .int .i64 d], .agg #[.int .i8 e, .int .i64 f, .int .i8 g, .int .i64 h]] w fun ro w' => ro = .returned (.bool p) ∧ Dn w w' := by
 have t1 : (e == -1) = false := by simpa using h1
 clear h1
 go_enter Tryz.func110, Tryz.ntmps110
 go_wp2_with fail
 obtain ⟨W1, hW1, uW1, c2, c3, c4, c5, l6, c7, c8, c9, a0, a1⟩ := preOf48x1 w a b c d e f g h
 rw [← hW1]
 clear hW1
 refine (HH.out _).mono ?_
 rintro e w1 ⟨rfl, qw1⟩
 have a2 := nlt l6 qw1.size
 have a7 := nlt a1 qw1.size
 obtain ⟨a3, a4, a5, a6, a8, a9, aA, aB⟩ := mv8 qw1.cell c2 c3 c4 c5 c7 c8 c9 a0
 clear l6 c2 c3 c4 c5 a1 c7 c8 c9 a0
 have uw1 := uW1.trans qw1
 clear qw1 uW1
 go_wp2_with fail
 go_ret
 exact ⟨rfl, uw1⟩
def BegP (a b c d e f : Int) : Prop := if e = -1 then a = -1 else HasP a b c d f
instance decBegP (a b c d e f : Int) : Decidable (BegP a b c d e f) := by unfold BegP; infer_instance
theorem rfBeg (a b c d e f g h : Int) (w : World) :
   Calls Tryz.prog 110 #[.agg #[.int .i8 a, .int .i64 b, .int .i8 c, .int .i64 d], .agg #[.int .i8 e, .int .i64 f, .int .i8 g, .int .i64 h]] w fun ro w' => ro = .returned (.bool (decide (BegP a b c d e f))) ∧ Dn w w' := by
 by_cases h1 : e = -1
 · by_cases h2 : a = -1
   · rw [decide_eq_true (show BegP a b c d e f by unfold BegP; rw [if_pos h1]; exact h2)]; exact rfBeg_1 a b c d e f g h h1 h2 w
   · rw [decide_eq_false (show ¬ BegP a b c d e f by unfold BegP; rw [if_pos h1]; exact h2)]; exact rfBeg_2 a b c d e f g h h1 h2 w
 · have e1 : decide (BegP a b c d e f) = decide (HasP a b c d f) := decide_eq_decide.2 (by unfold BegP; rw [if_neg h1])
   rw [e1]
   exact rfBeg_3 a b c d e f g h _ h1 (Lib.hid fun W => rfHas a b c d f W) w
theorem rfAdj_1 (a b c d e f g h : Int) (h1 : c ≠ 0) (w : World) :
  Calls Tryz.prog 91 #[.agg #[.int .i8 a, .int .i64 b, .int .i8 c, .int .i64 d], .agg #[.int .i8 e, .int .i64 f, .int .i8 g, .int .i64 h]] w fun ro w' => ro = .returned (.bool false) ∧ Dn w w' := by
 have t1 : (c == 0) = false := by simpa using h1
 clear h1
 go_enter Tryz.func91, Tryz.ntmps91
 go_wp2_with fail
 go_ret
 exact ⟨rfl, ((Dn.refl _).alloc _).alloc _⟩
theorem rfAdj_2 (a b c d e f g h : Int) (h1 : c = 0) (h2 : e ≠ 0) (w : World) :
  Calls Tryz.prog 91 #[.agg #[.int .i8 a, .int .i64 b, .int .i8 c, .int .i64 d], .agg #[.int .i8 e, .int .i64 f, .int .i8 g, .int .i64 h]] w fun ro w' => ro = .returned (.bool false) ∧ Dn w w' := by
 have t1 : (c == 0) = true := by simpa using h1
 have t2 : (e == 0) = false := by simpa using h2
 clear h1 h2
 go_enter Tryz.func91, Tryz.ntmps91
 go_wp2_with fail
 go_ret
 exact ⟨rfl, ((Dn.refl _).alloc _).alloc _⟩
theorem rfAdj_3 (a b c d e f g h : Int) (h1 : c = 0) (h2 : e = 0) (h3 : ¬ d < 9223372036854775807) (w : World) :
  Calls Tryz.prog 91 #[.agg #[.int .i8 a, .int .i64 b, .int .i8 c, .int .i64 d], .agg #[.int .i8 e, .int .i64 f, .int .i8 g, .int .i64 h]] w fun ro w' => ro = .returned (.bool false) ∧ Dn w w' := by
 have t1 : (c == 0) = true := by simpa using h1
 have t2 : (e == 0) = true := by simpa using h2
 have t3 : decide (d < 9223372036854775807) = false := by simpa using h3
 clear h1 h2 h3
 go_enter Tryz.func91, Tryz.ntmps91
 go_wp2_with fail
 go_ret
 exact ⟨rfl, ((Dn.refl _).alloc _).alloc _⟩
theorem rfAdj_4 (a b c d e f g h : Int) (hd : I64 d) (h1 : c = 0) (h2 : e = 0) (h3 : d < 9223372036854775807) (h4 : d + 1 ≠ f) (w : World) :
  Calls Tryz.prog 91 #[.agg #[.int .i8 a, .int .i64 b, .int .i8 c, .int .i64 d], .agg #[.int .i8 e, .int .i64 f, .int .i8 g, .int .i64 h]] w fun ro w' => ro = .returned (.bool false) ∧ Dn w w' := by
 have tw : IntKind.i64.wrap (d + 1) = d + 1 := IntWalk.i64_in _ (by have := hd.1; omega)
 have t1 : (c == 0) = true := by simpa using h1
 have t2 : (e == 0) = true := by simpa using h2
 have t3 : decide (d < 9223372036854775807) = true := by simpa using h3
 have t4 : (d + 1 == f) = false := by simpa using h4
 clear h1 h2 h3 h4
 go_enter Tryz.func91, Tryz.ntmps91
 go_wp2_with fail
 go_ret
 exact ⟨rfl, ((Dn.refl _).alloc _).alloc _⟩
theorem rfAdj_5 (a b c d e f g h : Int) (hd : I64 d) (h1 : c = 0) (h2 : e = 0) (h3 : d < 9223372036854775807) (h4 : d + 1 = f) (w : World) :
  Calls Tryz.prog 91 #[.agg #[.int .i8 a, .int .i64 b, .int .i8 c, .int .i64 d], .agg #[.int .i8 e, .int .i64 f, .int .i8 g, .int .i64 h]] w fun ro w' => ro = .returned (.bool true) ∧ Dn w w' := by
 have tw : IntKind.i64.wrap (d + 1) = d + 1 := IntWalk.i64_in _ (by have := hd.1; omega)
 have t1 : (c == 0) = true := by simpa using h1
 have t2 : (e == 0) = true := by simpa using h2
 have t3 : decide (d < 9223372036854775807) = true := by simpa using h3
 have t4 : (d + 1 == f) = true := by simpa using h4
 clear h1 h2 h3 h4
 go_enter Tryz.func91, Tryz.ntmps91
 go_wp2_with fail
 go_ret
 exact ⟨rfl, ((Dn.refl _).alloc _).alloc _⟩
def AdjP (c d e f : Int) : Prop := c = 0 ∧ e = 0 ∧ d < 9223372036854775807 ∧ d + 1 = f
instance decAdjP (c d e f : Int) : Decidable (AdjP c d e f) := by unfold AdjP; infer_instance
theorem rfAdj (a b c d e f g h : Int) (w : World) (hd : I64 d) :
   Calls Tryz.prog 91 #[.agg #[.int .i8 a, .int .i64 b, .int .i8 c, .int .i64 d], .agg #[.int .i8 e, .int .i64 f, .int .i8 g, .int .i64 h]] w fun ro w' => ro = .returned (.bool (decide (AdjP c d e f))) ∧ Dn w w' := by
 by_cases h1 : c = 0
 · by_cases h2 : e = 0
   · by_cases h3 : d < 9223372036854775807
     · by_cases h4 : d + 1 = f
       · rw [decide_eq_true (show AdjP c d e f from ⟨h1, h2, h3, h4⟩)]; exact rfAdj_5 a b c d e f g h hd h1 h2 h3 h4 w
       · rw [decide_eq_false (fun k : AdjP c d e f => h4 k.2.2.2)]; exact rfAdj_4 a b c d e f g h hd h1 h2 h3 h4 w
     · rw [decide_eq_false (fun k : AdjP c d e f => h3 k.2.2.1)]; exact rfAdj_3 a b c d e f g h h1 h2 h3 w
   · rw [decide_eq_false (fun k : AdjP c d e f => h2 k.2.1)]; exact rfAdj_2 a b c d e f g h h1 h2 w
 · rw [decide_eq_false (fun k : AdjP c d e f => h1 k.1)]; exact rfAdj_1 a b c d e f g h h1 w
theorem rfOv_1 (a b c d e f g h : Int) (HA : Hid (∀ W, Calls Tryz.prog 110 #[.agg #[.int .i8 a, .int .i64 b, .int .i8 c, .int .i64 d], .agg #[.int .i8 e, .int .i64 f, .int .i8 g, .int .i64 h]] W fun o w' => o = .returned (.bool true) ∧ Dn W w')) (w : World) :
  Calls Tryz.prog 71 #[.agg #[.int .i8 a, .int .i64 b, .int .i8 c, .int .i64 d], .agg #[.int .i8 e, .int .i64 f, .int .i8 g, .int .i64 h]] w fun ro w' => ro = .returned (.bool true) ∧ Dn w w' := by
 go_enter Tryz.func71, Tryz.ntmps71
 go_wp2_with fail
 obtain ⟨W1, hW1, uW1, c2, c3, c4, c5, l6, c7, c8, c9, a0, a1⟩ := preOf48x1 w a b c d e f g h
 rw [← hW1]
 clear hW1
 refine (HA.out _).mono ?_
 rintro e w1 ⟨rfl, qw1⟩
 have a2 := nlt l6 qw1.size
 have a7 := nlt a1 qw1.size
 obtain ⟨a3, a4, a5, a6, a8, a9, aA, aB⟩ := mv8 qw1.cell c2 c3 c4 c5 c7 c8 c9 a0
 clear l6 c2 c3 c4 c5 a1 c7 c8 c9 a0
 have uw1 := uW1.trans qw1
 clear qw1 uW1
 go_wp2_with fail
 go_ret
 exact ⟨rfl, uw1⟩
theorem rfOv_2 (a b c d e f g h : Int) (p : Bool) (HA : Hid (∀ W, Calls Tryz.prog 110 #[.agg #[.int .i8 a, .int .i64 b, .int .i8 c, .int .i64 d], .agg #[.int .i8 e, .int .i64 f, .int .i8 g, .int .i64 h]] W fun o w' => o = .returned (.bool false) ∧ Dn W w')) (HB : Hid (∀ W, Calls Tryz.prog 110 #[.agg #[.int .i8 e, .int .i64 f, .int .i8 g, .int .i64 h], .agg #[.int .i8 a, .int .i64 b, .int .i8 c, .int .i64 d]] W fun o w' => o = .returned (.bool p) ∧ Dn W w')) (w : World) :
  Calls Tryz.prog 71 #[.agg #[.int .i8 a, .int .i64 b, .int .i8 c, .int .i64 d], .agg #[.int .i8 e, .int .i64 f, .int .i8 g, .int .i64 h]] w fun ro w' => ro = .returned (.bool p) ∧ Dn w w' := by
 go_enter Tryz.func71, Tryz.ntmps71
 go_wp2_with fail
 obtain ⟨W1, hW1, uW1, c2, c3, c4, c5, l6, c7, c8, c9, a0, a1⟩ := preOf48x1 w a b c d e f g h
 rw [← hW1]
 clear hW1
 refine (HA.out _).mono ?_
 rintro e w1 ⟨rfl, qw1⟩
 have a2 := nlt l6 qw1.size
 have a7 := nlt a1 qw1.size
 obtain ⟨a3, a4, a5, a6, a8, a9, aA, aB⟩ := mv8 qw1.cell c2 c3 c4 c5 c7 c8 c9 a0
 clear l6 c2 c3 c4 c5 a1 c7 c8 c9 a0
 have uw1 := uW1.trans qw1
 clear qw1 uW1
 go_wp2_with fail
 refine (HB.out _).mono ?_
 rintro e w2 ⟨rfl, qw2⟩
 have aC := nlt a2 qw2.size
 have aH := nlt a7 qw2.size
 obtain ⟨aD, aE, aF, aG, aI, aJ, aK, aL⟩ := mv8 qw2.cell a3 a4 a5 a6 a8 a9 aA aB
 clear a2 a3 a4 a5 a6 a7 a8 a9 aA aB
 have uw2 := uw1.trans qw2
 clear qw2 uw1
 go_wp2_with fail
 go_ret
 exact ⟨rfl, uw2⟩
theorem rfOv (a b c d e f g h : Int) (w : World) :
   Calls Tryz.prog 71 #[.agg #[.int .i8 a, .int .i64 b, .int .i8 c, .int .i64 d], .agg #[.int .i8 e, .int .i64 f, .int .i8 g, .int .i64 h]] w fun ro w' => ro = .returned (.bool (decide (BegP a b c d e f ∨ BegP e f g h a b))) ∧ Dn w w' := by
 have HA := Lib.hid (fun W => rfBeg a b c d e f g h W)
 have HB := Lib.hid (fun W => rfBeg e f g h a b c d W)
 by_cases h1 : BegP a b c d e f
 · rw [decide_eq_true h1] at HA
   rw [decide_eq_true (Or.inl h1)]; exact rfOv_1 a b c d e f g h HA w
 · rw [decide_eq_false h1] at HA
   have e1 : decide (BegP a b c d e f ∨ BegP e f g h a b) = decide (BegP e f g h a b) := by simp [h1]
   rw [e1]; exact rfOv_2 a b c d e f g h _ HA HB w
theorem rfTc_1 (a b c d e f g h : Int) (HO : Hid (∀ W, Calls Tryz.prog 71 #[.agg #[.int .i8 a, .int .i64 b, .int .i8 c, .int .i64 d], .agg #[.int .i8 e, .int .i64 f, .int .i8 g, .int .i64 h]] W fun o w' => o = .returned (.bool true) ∧ Dn W w')) (w : World) :
  Calls Tryz.prog 49 #[.agg #[.int .i8 a, .int .i64 b, .int .i8 c, .int .i64 d], .agg #[.int .i8 e, .int .i64 f, .int .i8 g, .int .i64 h]] w fun ro w' => ro = .returned (.bool true) ∧ Dn w w' := by
 go_enter Tryz.func49, Tryz.ntmps49
 go_wp2_with fail
 obtain ⟨W1, hW1, uW1, c2, c3, c4, c5, l6, c7, c8, c9, a0, a1⟩ := preOf48x1 w a b c d e f g h
 rw [← hW1]
 clear hW1
 refine (HO.out _).mono ?_
 rintro e w1 ⟨rfl, qw1⟩
 have a2 := nlt l6 qw1.size
 have a7 := nlt a1 qw1.size
 obtain ⟨a3, a4, a5, a6, a8, a9, aA, aB⟩ := mv8 qw1.cell c2 c3 c4 c5 c7 c8 c9 a0
 clear l6 c2 c3 c4 c5 a1 c7 c8 c9 a0
 have uw1 := uW1.trans qw1
 clear qw1 uW1
 go_wp2_with fail
 go_ret
 exact ⟨rfl, uw1⟩
theorem rfTc_2 (a b c d e f g h : Int) (HO : Hid (∀ W, Calls Tryz.prog 71 #[.agg #[.int .i8 a, .int .i64 b, .int .i8 c, .int .i64 d], .agg #[.int .i8 e, .int .i64 f, .int .i8 g, .int .i64 h]] W fun o w' => o = .returned (.bool false) ∧ Dn W w')) (HA : Hid (∀ W, Calls Tryz.prog 91 #[.agg #[.int .i8 a, .int .i64 b, .int .i8 c, .int .i64 d], .agg #[.int .i8 e, .int .i64 f, .int .i8 g, .int .i64 h]] W fun o w' => o = .returned (.bool true) ∧ Dn W w')) (w : World) :
  Calls Tryz.prog 49 #[.agg #[.int .i8 a, .int .i64 b, .int .i8 c, .int .i64 d], .agg #[.int .i8 e, .int .i64 f, .int .i8 g, .int .i64 h]] w fun ro w' => ro = .returned (.bool true) ∧ Dn w w' := by
 go_enter Tryz.func49, Tryz.ntmps49
 go_wp2_with fail
 obtain ⟨W1, hW1, uW1, c2, c3, c4, c5, l6, c7, c8, c9, a0, a1⟩ := preOf48x1 w a b c d e f g h
 rw [← hW1]
 clear hW1
 refine (HO.out _).mono ?_
 rintro e w1 ⟨rfl, qw1⟩
 have a2 := nlt l6 qw1.size
 have a7 := nlt a1 qw1.size
 obtain ⟨a3, a4, a5, a6, a8, a9, aA, aB⟩ := mv8 qw1.cell c2 c3 c4 c5 c7 c8 c9 a0
 clear l6 c2 c3 c4 c5 a1 c7 c8 c9 a0
 have uw1 := uW1.trans qw1
 clear qw1 uW1
 go_wp2_with fail
 refine (HA.out _).mono ?_
 rintro e w2 ⟨rfl, qw2⟩
 have aC := nlt a2 qw2.size
 have aH := nlt a7 qw2.size
 obtain ⟨aD, aE, aF, aG, aI, aJ, aK, aL⟩ := mv8 qw2.cell a3 a4 a5 a6 a8 a9 aA aB
 clear a2 a3 a4 a5 a6 a7 a8 a9 aA aB
 have uw2 := uw1.trans qw2
 clear qw2 uw1
 go_wp2_with fail
 go_ret
 exact ⟨rfl, uw2⟩
theorem rfTc_3 (a b c d e f g h : Int) (p : Bool) (HO : Hid (∀ W, Calls Tryz.prog 71 #[.agg #[.int .i8 a, .int .i64 b, .int .i8 c, .int .i64 d], .agg #[.int .i8 e, .int .i64 f, .int .i8 g, .int .i64 h]] W fun o w' => o = .returned (.bool false) ∧ Dn W w')) (HA : Hid (∀ W, Calls Tryz.prog 91 #[.agg #[.int .i8 a, .int .i64 b, .int .i8 c, .int .i64 d], .agg #[.int .i8 e, .int .i64 f, .int .i8 g, .int .i64 h]] W fun o w' => o = .returned (.bool false) ∧ Dn W w')) (HB : Hid (∀ W, Calls Tryz.prog 91 #[.agg #[.int .i8 e, .int .i64 f, .int .i8 g, .int .i64 h], .agg #[.int .i8 a, .int .i64 b, .int .i8 c, .int .i64 d]] W fun o w' => o = .returned (.bool p) ∧ Dn W w')) (w : World) :
  Calls Tryz.prog 49 #[.agg #[.int .i8 a, .int .i64 b, .int .i8 c, .int .i64 d], .agg #[.int .i8 e, .int .i64 f, .int .i8 g, .int .i64 h]] w fun ro w' => ro = .returned (.bool p) ∧ Dn w w' := by
 go_enter Tryz.func49, Tryz.ntmps49
 go_wp2_with fail
 obtain ⟨W1, hW1, uW1, c2, c3, c4, c5, l6, c7, c8, c9, a0, a1⟩ := preOf48x1 w a b c d e f g h
 rw [← hW1]
 clear hW1
 refine (HO.out _).mono ?_
 rintro e w1 ⟨rfl, qw1⟩
 have a2 := nlt l6 qw1.size
 have a7 := nlt a1 qw1.size
 obtain ⟨a3, a4, a5, a6, a8, a9, aA, aB⟩ := mv8 qw1.cell c2 c3 c4 c5 c7 c8 c9 a0
 clear l6 c2 c3 c4 c5 a1 c7 c8 c9 a0
 have uw1 := uW1.trans qw1
 clear qw1 uW1
 go_wp2_with fail
 refine (HA.out _).mono ?_
 rintro e w2 ⟨rfl, qw2⟩
 have aC := nlt a2 qw2.size
 have aH := nlt a7 qw2.size
 obtain ⟨aD, aE, aF, aG, aI, aJ, aK, aL⟩ := mv8 qw2.cell a3 a4 a5 a6 a8 a9 aA aB
 clear a2 a3 a4 a5 a6 a7 a8 a9 aA aB
 have uw2 := uw1.trans qw2
 clear qw2 uw1
 go_wp2_with fail
 refine (HB.out _).mono ?_
 rintro e w3 ⟨rfl, qw3⟩
 have aM := nlt aC qw3.size
 have aR := nlt aH qw3.size
 obtain ⟨aN, aO, aP, aQ, aS, aT, aU, aV⟩ := mv8 qw3.cell aD aE aF aG aI aJ aK aL
 clear aC aD aE aF aG aH aI aJ aK aL
 have uw3 := uw2.trans qw3
 clear qw3 uw2
 go_wp2_with fail
 go_ret
 exact ⟨rfl, uw3⟩
theorem beg_key {a b c d e f g h : Int} (hb : I64 b) (hd : I64 d) (hf : I64 f) (hh : I64 h) (h1 : RnOk a b c d) (h2 : RnOk e f g h) : BegP a b c d e f ↔ key a b ≤ key e f ∧ key e f ≤ key c d := by
 obtain ⟨o1, o2, o3, o4, o5⟩ := h1
 obtain ⟨p1, p2, p3, p4, p5⟩ := h2
 unfold BegP HasP
 unfold I64 at *
 unfold eOk at *
 unfold key at *
 split <;> omega
theorem adj_key {a b c d e f g h : Int} (hb : I64 b) (hd : I64 d) (hf : I64 f) (hh : I64 h) (h1 : RnOk a b c d) (h2 : RnOk e f g h) : AdjP c d e f ↔ key e f = key c d + 1 := by
 obtain ⟨o1, o2, o3, o4, o5⟩ := h1
 obtain ⟨p1, p2, p3, p4, p5⟩ := h2
 unfold AdjP
 unfold I64 at *
 unfold eOk at *
 unfold key at *
 omega
theorem ov_meet {a b c d e f g h : Int} (hb : I64 b) (hd : I64 d) (hf : I64 f) (hh : I64 h) (h1 : RnOk a b c d) (h2 : RnOk e f g h) : BegP a b c d e f ∨ BegP e f g h a b ↔ Meet a b c d e f g h := by
 rw [beg_key hb hd hf hh h1 h2, beg_key hf hh hb hd h2 h1]
 have := h1.2.2.2.2
 have := h2.2.2.2.2
 unfold Meet
 constructor
 · intro k; exact ⟨h1, h2, by omega, by omega⟩
 · rintro ⟨_, _, _, _⟩; omega
theorem rfMeet (a b c d e f g h : Int) (w : World) (hb : I64 b) (hd : I64 d) (hf : I64 f) (hh : I64 h) (h1 : RnOk a b c d) (h2 : RnOk e f g h) :
  Calls Tryz.prog 71 #[.agg #[.int .i8 a, .int .i64 b, .int .i8 c, .int .i64 d], .agg #[.int .i8 e, .int .i64 f, .int .i8 g, .int .i64 h]] w fun ro w' => ro = .returned (.bool (decide (Meet a b c d e f g h))) ∧ Dn w w' := by
 have e1 : decide (BegP a b c d e f ∨ BegP e f g h a b) = decide (Meet a b c d e f g h) := decide_eq_decide.2 (ov_meet hb hd hf hh h1 h2)
 rw [← e1]; exact rfOv a b c d e f g h w
theorem rfTouch (a b c d e f g h : Int) (w : World) (hb : I64 b) (hd : I64 d) (hf : I64 f) (hh : I64 h) (h1 : RnOk a b c d) (h2 : RnOk e f g h) :
   Calls Tryz.prog 49 #[.agg #[.int .i8 a, .int .i64 b, .int .i8 c, .int .i64 d], .agg #[.int .i8 e, .int .i64 f, .int .i8 g, .int .i64 h]] w fun ro w' => ro = .returned (.bool (decide (Tch a b c d e f g h))) ∧ Dn w w' := by
 have HO := Lib.hid (fun W => rfMeet a b c d e f g h W hb hd hf hh h1 h2)
 have HA := Lib.hid (fun W => rfAdj a b c d e f g h W hd)
 have HB := Lib.hid (fun W => rfAdj e f g h a b c d W hh)
 have k1 := adj_key hb hd hf hh h1 h2
 have k2 := adj_key hf hh hb hd h2 h1
 have l1 := h1.2.2.2.2
 have l2 := h2.2.2.2.2
 have hT : Tch a b c d e f g h ↔ key e f ≤ key c d + 1 ∧ key a b ≤ key g h + 1 := ⟨fun hc => hc.2.2, fun hc => ⟨h1, h2, hc⟩⟩
 have hM : Meet a b c d e f g h ↔ key e f ≤ key c d ∧ key a b ≤ key g h := ⟨fun hc => hc.2.2, fun hc => ⟨h1, h2, hc⟩⟩
 by_cases m : Meet a b c d e f g h
 · rw [decide_eq_true m] at HO
   rw [decide_eq_true (by rw [hT]; have := hM.1 m; omega)]; exact rfTc_1 a b c d e f g h HO w
 · rw [decide_eq_false m] at HO
   by_cases q : AdjP c d e f
   · rw [decide_eq_true q] at HA
     rw [decide_eq_true (by rw [hT]; have := k1.1 q; omega)]; exact rfTc_2 a b c d e f g h HO HA w
   · rw [decide_eq_false q] at HA
     have e1 : decide (Tch a b c d e f g h) = decide (AdjP g h a b) := decide_eq_decide.2 (by
      rw [hT, k2]
      have n1 : ¬ (key e f ≤ key c d ∧ key a b ≤ key g h) := fun hc => m (hM.2 hc)
      have n2 : ¬ key e f = key c d + 1 := fun hc => q (k1.2 hc)
      omega)
     rw [e1]; exact rfTc_3 a b c d e f g h _ HO HA HB w
theorem rfJoin_00 (a b c d e f g h : Int) (m n : Int) (H1 : Hid (∀ W, Calls Tryz.prog 48 #[.agg #[.int .i8 e, .int .i64 f], .agg #[.int .i8 a, .int .i64 b]] W fun o w' => o = .returned (.int .i64 m) ∧ Up W w')) (H2 : Hid (∀ W, Calls Tryz.prog 48 #[.agg #[.int .i8 g, .int .i64 h], .agg #[.int .i8 c, .int .i64 d]] W fun o w' => o = .returned (.int .i64 n) ∧ Up W w')) (h1 : ¬ m < 0) (h2 : ¬ 0 < n) (w : World) :
  Calls Tryz.prog 108 #[.agg #[.int .i8 a, .int .i64 b, .int .i8 c, .int .i64 d], .agg #[.int .i8 e, .int .i64 f, .int .i8 g, .int .i64 h]] w fun ro w' => ro = .returned (.agg #[.int .i8 a, .int .i64 b, .int .i8 c, .int .i64 d]) ∧ Dn w w' := by
 have t1 : decide (m < 0) = false := by simpa using h1
 have t2 : decide (0 < n) = false := by simpa using h2
 clear h1 h2
 go_enter Tryz.func108, Tryz.ntmps108
 go_wp2_with fail
 obtain ⟨W1, hW1⟩ : ∃ W1, W1 = (((w.alloc (.cells #[.int .i8 a, .int .i64 b, .int .i8 c, .int .i64 d] 45)).alloc (.cells #[.int .i8 e, .int .i64 f, .int .i8 g, .int .i64 h] 45)).alloc (.cells #[.int .i8 0, .int .i64 0, .int .i8 0, .int .i64 0] 45)).alloc (.cells #[.int .i8 a, .int .i64 b, .int .i8 c, .int .i64 d] 45) := ⟨_, rfl⟩
 have uW1 : Dn w W1 := by rw [hW1]; exact ((((Dn.refl _).alloc _).alloc _).alloc _).alloc _
 have n2 : w.heap.size ≠ w.heap.size + 1 + 1 := by omega
 have n3 : w.heap.size ≠ w.heap.size + 1 + 1 + 1 := by omega
 have n4 : w.heap.size + 1 ≠ w.heap.size + 1 + 1 := by omega
 have n5 : w.heap.size + 1 ≠ w.heap.size + 1 + 1 + 1 := by omega
 have n6 : w.heap.size + 1 + 1 ≠ w.heap.size + 1 + 1 + 1 := by omega
 have c7 : W1.cell? ⟨w.heap.size, 0, none⟩ = some (.int .i8 a) := by rw [hW1]; simp [go_sem]
 have c8 : W1.cell? ⟨w.heap.size, 1, none⟩ = some (.int .i64 b) := by rw [hW1]; simp [go_sem]
 have c9 : W1.cell? ⟨w.heap.size, 2, none⟩ = some (.int .i8 c) := by rw [hW1]; simp [go_sem]
 have a4 : W1.cell? ⟨w.heap.size, 3, none⟩ = some (.int .i64 d) := by rw [hW1]; simp [go_sem]
 have a5 : w.heap.size < W1.heap.size := by rw [hW1]; simp <;> omega
 have a6 : W1.cell? ⟨w.heap.size + 1, 0, none⟩ = some (.int .i8 e) := by rw [hW1]; simp [go_sem]
 have a7 : W1.cell? ⟨w.heap.size + 1, 1, none⟩ = some (.int .i64 f) := by rw [hW1]; simp [go_sem]
 have a8 : W1.cell? ⟨w.heap.size + 1, 2, none⟩ = some (.int .i8 g) := by rw [hW1]; simp [go_sem]
 have a9 : W1.cell? ⟨w.heap.size + 1, 3, none⟩ = some (.int .i64 h) := by rw [hW1]; simp [go_sem]
 have aA : w.heap.size + 1 < W1.heap.size := by rw [hW1]; simp <;> omega
 have aB : W1.cell? ⟨w.heap.size + 1 + 1, 0, none⟩ = some (.int .i8 0) := by rw [hW1]; simp [go_sem]
 have aC : W1.cell? ⟨w.heap.size + 1 + 1, 1, none⟩ = some (.int .i64 0) := by rw [hW1]; simp [go_sem]
 have aD : W1.cell? ⟨w.heap.size + 1 + 1, 2, none⟩ = some (.int .i8 0) := by rw [hW1]; simp [go_sem]
 have aE : W1.cell? ⟨w.heap.size + 1 + 1, 3, none⟩ = some (.int .i64 0) := by rw [hW1]; simp [go_sem]
 have a0 : w.heap.size + 1 + 1 < W1.heap.size := by rw [hW1]; simp <;> omega
 have f22 : W1.frozen? ⟨w.heap.size + 1 + 1, 0, none⟩ = false := by rw [hW1]; simp [go_sem]
 have f23 : W1.frozen? ⟨w.heap.size + 1 + 1, 1, none⟩ = false := by rw [hW1]; simp [go_sem]
 have f24 : W1.frozen? ⟨w.heap.size + 1 + 1, 2, none⟩ = false := by rw [hW1]; simp [go_sem]
 have f25 : W1.frozen? ⟨w.heap.size + 1 + 1, 3, none⟩ = false := by rw [hW1]; simp [go_sem]
 have aF : W1.cell? ⟨w.heap.size + 1 + 1 + 1, 0, none⟩ = some (.int .i8 a) := by rw [hW1]; simp [go_sem]
 have aG : W1.cell? ⟨w.heap.size + 1 + 1 + 1, 1, none⟩ = some (.int .i64 b) := by rw [hW1]; simp [go_sem]
 have aH : W1.cell? ⟨w.heap.size + 1 + 1 + 1, 2, none⟩ = some (.int .i8 c) := by rw [hW1]; simp [go_sem]
 have aI : W1.cell? ⟨w.heap.size + 1 + 1 + 1, 3, none⟩ = some (.int .i64 d) := by rw [hW1]; simp [go_sem]
 have a1 : w.heap.size + 1 + 1 + 1 < W1.heap.size := by rw [hW1]; simp <;> omega
 have f31 : W1.frozen? ⟨w.heap.size + 1 + 1 + 1, 0, none⟩ = false := by rw [hW1]; simp [go_sem]
 have f32 : W1.frozen? ⟨w.heap.size + 1 + 1 + 1, 1, none⟩ = false := by rw [hW1]; simp [go_sem]
 have f33 : W1.frozen? ⟨w.heap.size + 1 + 1 + 1, 2, none⟩ = false := by rw [hW1]; simp [go_sem]
 have f34 : W1.frozen? ⟨w.heap.size + 1 + 1 + 1, 3, none⟩ = false := by rw [hW1]; simp [go_sem]
 rw [← hW1]
 clear hW1
 refine (H1.out _).mono ?_
 rintro e w1 ⟨rfl, qw1⟩
 replace qw1 := qw1.dn
 have aJ := nlt a5 qw1.size
 have aO := nlt aA qw1.size
 obtain ⟨aK, aL, aM, aN, aP, aQ, aR, aS⟩ := mv8 qw1.cell c7 c8 c9 a4 a6 a7 a8 a9
 have f45 := (qw1.frozen (a := ⟨w.heap.size + 1 + 1, 0, none⟩) a0).trans f22
 have f46 := (qw1.frozen (a := ⟨w.heap.size + 1 + 1, 1, none⟩) a0).trans f23
 have f47 := (qw1.frozen (a := ⟨w.heap.size + 1 + 1, 2, none⟩) a0).trans f24
 have f48 := (qw1.frozen (a := ⟨w.heap.size + 1 + 1, 3, none⟩) a0).trans f25
 have a2 := nlt a0 qw1.size
 obtain ⟨aT, aU, aV, aW⟩ := mv4 qw1.cell aB aC aD aE
 have f54 := (qw1.frozen (a := ⟨w.heap.size + 1 + 1 + 1, 0, none⟩) a1).trans f31
 have f55 := (qw1.frozen (a := ⟨w.heap.size + 1 + 1 + 1, 1, none⟩) a1).trans f32
 have f56 := (qw1.frozen (a := ⟨w.heap.size + 1 + 1 + 1, 2, none⟩) a1).trans f33
 have f57 := (qw1.frozen (a := ⟨w.heap.size + 1 + 1 + 1, 3, none⟩) a1).trans f34
 have a3 := nlt a1 qw1.size
 obtain ⟨aX, aY, aZ, b0⟩ := mv4 qw1.cell aF aG aH aI
 clear a5 c7 c8 c9 a4 aA a6 a7 a8 a9 f22 f23 f24 f25 a0 aB aC aD aE f31 f32 f33 f34 a1 aF aG aH aI
 have uw1 := uW1.trans qw1
 clear qw1 uW1
 go_wp2_with fail
 refine (H2.out _).mono ?_
 rintro e w2 ⟨rfl, qw2⟩
 replace qw2 := qw2.dn
 have bI := nlt aJ qw2.size
 have bJ := nlt aO qw2.size
 obtain ⟨b5, b6, b7, b8, b9, bA, bB, bC⟩ := mv8 qw2.cell aK aL aM aN aP aQ aR aS
 have f73 := (qw2.frozen (a := ⟨w.heap.size + 1 + 1, 0, none⟩) a2).trans f45
 have f74 := (qw2.frozen (a := ⟨w.heap.size + 1 + 1, 1, none⟩) a2).trans f46
 have f75 := (qw2.frozen (a := ⟨w.heap.size + 1 + 1, 2, none⟩) a2).trans f47
 have f76 := (qw2.frozen (a := ⟨w.heap.size + 1 + 1, 3, none⟩) a2).trans f48
 have bK := nlt a2 qw2.size
 obtain ⟨bD, bE, bF, bG⟩ := mv4 qw2.cell aT aU aV aW
 have f82 := (qw2.frozen (a := ⟨w.heap.size + 1 + 1 + 1, 0, none⟩) a3).trans f54
 have f83 := (qw2.frozen (a := ⟨w.heap.size + 1 + 1 + 1, 1, none⟩) a3).trans f55
 have f84 := (qw2.frozen (a := ⟨w.heap.size + 1 + 1 + 1, 2, none⟩) a3).trans f56
 have f85 := (qw2.frozen (a := ⟨w.heap.size + 1 + 1 + 1, 3, none⟩) a3).trans f57
 have bH := nlt a3 qw2.size
 obtain ⟨b1, b2, b3, b4⟩ := mv4 qw2.cell aX aY aZ b0
 clear aJ aK aL aM aN aO aP aQ aR aS f45 f46 f47 f48 a2 aT aU aV aW f54 f55 f56 f57 a3 aX aY aZ b0
 have uw2 := uw1.trans qw2
 clear qw2 uw1
 go_wp2_with fail
 have hC : C4 w2 (w.heap.size + 1 + 1 + 1) (.int .i8 a) (.int .i64 b) (.int .i8 c) (.int .i64 d) := ⟨b1, b2, b3, b4, f82, f83, f84, f85, bH⟩
 exact bodyPost_ret (v := .agg #[.int .i8 a, .int .i64 b, .int .i8 c, .int .i64 d]) (by simp [results, Tryz.results108, go_sem, b5, b6, b7, b8, b9, bA, bB, bC, bD, bE, bF, bG, b1, b2, b3, b4, f73, f74, f75, f76, f82, f83, f84, f85] <;> omega) rfl ⟨rfl, (Dn.setCell (Dn.setCell (Dn.setCell (Dn.setCell uw2 (by simp <;> omega) _) (by simp <;> omega) _) (by simp <;> omega) _) (by simp <;> omega) _)⟩
theorem rfJoin_01 (a b c d e f g h : Int) (m n : Int) (H1 : Hid (∀ W, Calls Tryz.prog 48 #[.agg #[.int .i8 e, .int .i64 f], .agg #[.int .i8 a, .int .i64 b]] W fun o w' => o = .returned (.int .i64 m) ∧ Up W w')) (H2 : Hid (∀ W, Calls Tryz.prog 48 #[.agg #[.int .i8 g, .int .i64 h], .agg #[.int .i8 c, .int .i64 d]] W fun o w' => o = .returned (.int .i64 n) ∧ Up W w')) (h1 : ¬ m < 0) (h2 : 0 < n) (w : World) :
  Calls Tryz.prog 108 #[.agg #[.int .i8 a, .int .i64 b, .int .i8 c, .int .i64 d], .agg #[.int .i8 e, .int .i64 f, .int .i8 g, .int .i64 h]] w fun ro w' => ro = .returned (.agg #[.int .i8 a, .int .i64 b, .int .i8 g, .int .i64 h]) ∧ Dn w w' := by
 have t1 : decide (m < 0) = false := by simpa using h1
 have t2 : decide (0 < n) = true := by simpa using h2
 clear h1 h2
 go_enter Tryz.func108, Tryz.ntmps108
 go_wp2_with fail
 obtain ⟨W1, hW1⟩ : ∃ W1, W1 = (((w.alloc (.cells #[.int .i8 a, .int .i64 b, .int .i8 c, .int .i64 d] 45)).alloc (.cells #[.int .i8 e, .int .i64 f, .int .i8 g, .int .i64 h] 45)).alloc (.cells #[.int .i8 0, .int .i64 0, .int .i8 0, .int .i64 0] 45)).alloc (.cells #[.int .i8 a, .int .i64 b, .int .i8 c, .int .i64 d] 45) := ⟨_, rfl⟩
 have uW1 : Dn w W1 := by rw [hW1]; exact ((((Dn.refl _).alloc _).alloc _).alloc _).alloc _
 have n2 : w.heap.size ≠ w.heap.size + 1 + 1 := by omega
 have n3 : w.heap.size ≠ w.heap.size + 1 + 1 + 1 := by omega
 have n4 : w.heap.size + 1 ≠ w.heap.size + 1 + 1 := by omega
 have n5 : w.heap.size + 1 ≠ w.heap.size + 1 + 1 + 1 := by omega
 have n6 : w.heap.size + 1 + 1 ≠ w.heap.size + 1 + 1 + 1 := by omega
 have c7 : W1.cell? ⟨w.heap.size, 0, none⟩ = some (.int .i8 a) := by rw [hW1]; simp [go_sem]
 have c8 : W1.cell? ⟨w.heap.size, 1, none⟩ = some (.int .i64 b) := by rw [hW1]; simp [go_sem]
 have c9 : W1.cell? ⟨w.heap.size, 2, none⟩ = some (.int .i8 c) := by rw [hW1]; simp [go_sem]
 have a4 : W1.cell? ⟨w.heap.size, 3, none⟩ = some (.int .i64 d) := by rw [hW1]; simp [go_sem]
 have a5 : w.heap.size < W1.heap.size := by rw [hW1]; simp <;> omega
 have a6 : W1.cell? ⟨w.heap.size + 1, 0, none⟩ = some (.int .i8 e) := by rw [hW1]; simp [go_sem]
 have a7 : W1.cell? ⟨w.heap.size + 1, 1, none⟩ = some (.int .i64 f) := by rw [hW1]; simp [go_sem]
 have a8 : W1.cell? ⟨w.heap.size + 1, 2, none⟩ = some (.int .i8 g) := by rw [hW1]; simp [go_sem]
 have a9 : W1.cell? ⟨w.heap.size + 1, 3, none⟩ = some (.int .i64 h) := by rw [hW1]; simp [go_sem]
 have aA : w.heap.size + 1 < W1.heap.size := by rw [hW1]; simp <;> omega
 have aB : W1.cell? ⟨w.heap.size + 1 + 1, 0, none⟩ = some (.int .i8 0) := by rw [hW1]; simp [go_sem]
 have aC : W1.cell? ⟨w.heap.size + 1 + 1, 1, none⟩ = some (.int .i64 0) := by rw [hW1]; simp [go_sem]
 have aD : W1.cell? ⟨w.heap.size + 1 + 1, 2, none⟩ = some (.int .i8 0) := by rw [hW1]; simp [go_sem]
 have aE : W1.cell? ⟨w.heap.size + 1 + 1, 3, none⟩ = some (.int .i64 0) := by rw [hW1]; simp [go_sem]
 have a0 : w.heap.size + 1 + 1 < W1.heap.size := by rw [hW1]; simp <;> omega
 have f22 : W1.frozen? ⟨w.heap.size + 1 + 1, 0, none⟩ = false := by rw [hW1]; simp [go_sem]
 have f23 : W1.frozen? ⟨w.heap.size + 1 + 1, 1, none⟩ = false := by rw [hW1]; simp [go_sem]
 have f24 : W1.frozen? ⟨w.heap.size + 1 + 1, 2, none⟩ = false := by rw [hW1]; simp [go_sem]
 have f25 : W1.frozen? ⟨w.heap.size + 1 + 1, 3, none⟩ = false := by rw [hW1]; simp [go_sem]
 have aF : W1.cell? ⟨w.heap.size + 1 + 1 + 1, 0, none⟩ = some (.int .i8 a) := by rw [hW1]; simp [go_sem]
 have aG : W1.cell? ⟨w.heap.size + 1 + 1 + 1, 1, none⟩ = some (.int .i64 b) := by rw [hW1]; simp [go_sem]
 have aH : W1.cell? ⟨w.heap.size + 1 + 1 + 1, 2, none⟩ = some (.int .i8 c) := by rw [hW1]; simp [go_sem]
 have aI : W1.cell? ⟨w.heap.size + 1 + 1 + 1, 3, none⟩ = some (.int .i64 d) := by rw [hW1]; simp [go_sem]
 have a1 : w.heap.size + 1 + 1 + 1 < W1.heap.size := by rw [hW1]; simp <;> omega
 have f31 : W1.frozen? ⟨w.heap.size + 1 + 1 + 1, 0, none⟩ = false := by rw [hW1]; simp [go_sem]
 have f32 : W1.frozen? ⟨w.heap.size + 1 + 1 + 1, 1, none⟩ = false := by rw [hW1]; simp [go_sem]
 have f33 : W1.frozen? ⟨w.heap.size + 1 + 1 + 1, 2, none⟩ = false := by rw [hW1]; simp [go_sem]
 have f34 : W1.frozen? ⟨w.heap.size + 1 + 1 + 1, 3, none⟩ = false := by rw [hW1]; simp [go_sem]
 rw [← hW1]
 clear hW1
 refine (H1.out _).mono ?_
 rintro e w1 ⟨rfl, qw1⟩
 replace qw1 := qw1.dn
 have aJ := nlt a5 qw1.size
 have aO := nlt aA qw1.size
 obtain ⟨aK, aL, aM, aN, aP, aQ, aR, aS⟩ := mv8 qw1.cell c7 c8 c9 a4 a6 a7 a8 a9
 have f45 := (qw1.frozen (a := ⟨w.heap.size + 1 + 1, 0, none⟩) a0).trans f22
 have f46 := (qw1.frozen (a := ⟨w.heap.size + 1 + 1, 1, none⟩) a0).trans f23
 have f47 := (qw1.frozen (a := ⟨w.heap.size + 1 + 1, 2, none⟩) a0).trans f24
 have f48 := (qw1.frozen (a := ⟨w.heap.size + 1 + 1, 3, none⟩) a0).trans f25
 have a2 := nlt a0 qw1.size
 obtain ⟨aT, aU, aV, aW⟩ := mv4 qw1.cell aB aC aD aE
 have f54 := (qw1.frozen (a := ⟨w.heap.size + 1 + 1 + 1, 0, none⟩) a1).trans f31
 have f55 := (qw1.frozen (a := ⟨w.heap.size + 1 + 1 + 1, 1, none⟩) a1).trans f32
 have f56 := (qw1.frozen (a := ⟨w.heap.size + 1 + 1 + 1, 2, none⟩) a1).trans f33
 have f57 := (qw1.frozen (a := ⟨w.heap.size + 1 + 1 + 1, 3, none⟩) a1).trans f34
 have a3 := nlt a1 qw1.size
 obtain ⟨aX, aY, aZ, b0⟩ := mv4 qw1.cell aF aG aH aI
 clear a5 c7 c8 c9 a4 aA a6 a7 a8 a9 f22 f23 f24 f25 a0 aB aC aD aE f31 f32 f33 f34 a1 aF aG aH aI
 have uw1 := uW1.trans qw1
 clear qw1 uW1
 go_wp2_with fail
 refine (H2.out _).mono ?_
 rintro e w2 ⟨rfl, qw2⟩
 replace qw2 := qw2.dn
 have bI := nlt aJ qw2.size
 have bJ := nlt aO qw2.size
 obtain ⟨b5, b6, b7, b8, b9, bA, bB, bC⟩ := mv8 qw2.cell aK aL aM aN aP aQ aR aS
 have f73 := (qw2.frozen (a := ⟨w.heap.size + 1 + 1, 0, none⟩) a2).trans f45
 have f74 := (qw2.frozen (a := ⟨w.heap.size + 1 + 1, 1, none⟩) a2).trans f46
 have f75 := (qw2.frozen (a := ⟨w.heap.size + 1 + 1, 2, none⟩) a2).trans f47
 have f76 := (qw2.frozen (a := ⟨w.heap.size + 1 + 1, 3, none⟩) a2).trans f48
 have bK := nlt a2 qw2.size
 obtain ⟨bD, bE, bF, bG⟩ := mv4 qw2.cell aT aU aV aW
 have f82 := (qw2.frozen (a := ⟨w.heap.size + 1 + 1 + 1, 0, none⟩) a3).trans f54
 have f83 := (qw2.frozen (a := ⟨w.heap.size + 1 + 1 + 1, 1, none⟩) a3).trans f55
 have f84 := (qw2.frozen (a := ⟨w.heap.size + 1 + 1 + 1, 2, none⟩) a3).trans f56
 have f85 := (qw2.frozen (a := ⟨w.heap.size + 1 + 1 + 1, 3, none⟩) a3).trans f57
 have bH := nlt a3 qw2.size
 obtain ⟨b1, b2, b3, b4⟩ := mv4 qw2.cell aX aY aZ b0
 clear aJ aK aL aM aN aO aP aQ aR aS f45 f46 f47 f48 a2 aT aU aV aW f54 f55 f56 f57 a3 aX aY aZ b0
 have uw2 := uw1.trans qw2
 clear qw2 uw1
 go_wp2_with fail
 have hC : C4 w2 (w.heap.size + 1 + 1 + 1) (.int .i8 a) (.int .i64 b) (.int .i8 c) (.int .i64 d) := ⟨b1, b2, b3, b4, f82, f83, f84, f85, bH⟩
 exact bodyPost_ret (v := .agg #[.int .i8 a, .int .i64 b, .int .i8 g, .int .i64 h]) (by simp [results, Tryz.results108, go_sem, b5, b6, b7, b8, b9, bA, bB, bC, bD, bE, bF, bG, b1, b2, b3, b4, f73, f74, f75, f76, f82, f83, f84, f85] <;> omega) rfl ⟨rfl, (Dn.setCell (Dn.setCell (Dn.setCell (Dn.setCell (Dn.setCell (Dn.setCell uw2 (by simp <;> omega) _) (by simp <;> omega) _) (by simp <;> omega) _) (by simp <;> omega) _) (by simp <;> omega) _) (by simp <;> omega) _)⟩
theorem rfJoin_10 (a b c d e f g h : Int) (m n : Int) (H1 : Hid (∀ W, Calls Tryz.prog 48 #[.agg #[.int .i8 e, .int .i64 f], .agg #[.int .i8 a, .int .i64 b]] W fun o w' => o = .returned (.int .i64 m) ∧ Up W w')) (H2 : Hid (∀ W, Calls Tryz.prog 48 #[.agg #[.int .i8 g, .int .i64 h], .agg #[.int .i8 c, .int .i64 d]] W fun o w' => o = .returned (.int .i64 n) ∧ Up W w')) (h1 : m < 0) (h2 : ¬ 0 < n) (w : World) :
  Calls Tryz.prog 108 #[.agg #[.int .i8 a, .int .i64 b, .int .i8 c, .int .i64 d], .agg #[.int .i8 e, .int .i64 f, .int .i8 g, .int .i64 h]] w fun ro w' => ro = .returned (.agg #[.int .i8 e, .int .i64 f, .int .i8 c, .int .i64 d]) ∧ Dn w w' := by
 have t1 : decide (m < 0) = true := by simpa using h1
 have t2 : decide (0 < n) = false := by simpa using h2
 clear h1 h2
 go_enter Tryz.func108, Tryz.ntmps108
 go_wp2_with fail
 obtain ⟨W1, hW1⟩ : ∃ W1, W1 = (((w.alloc (.cells #[.int .i8 a, .int .i64 b, .int .i8 c, .int .i64 d] 45)).alloc (.cells #[.int .i8 e, .int .i64 f, .int .i8 g, .int .i64 h] 45)).alloc (.cells #[.int .i8 0, .int .i64 0, .int .i8 0, .int .i64 0] 45)).alloc (.cells #[.int .i8 a, .int .i64 b, .int .i8 c, .int .i64 d] 45) := ⟨_, rfl⟩
 have uW1 : Dn w W1 := by rw [hW1]; exact ((((Dn.refl _).alloc _).alloc _).alloc _).alloc _
 have n2 : w.heap.size ≠ w.heap.size + 1 + 1 := by omega
 have n3 : w.heap.size ≠ w.heap.size + 1 + 1 + 1 := by omega
 have n4 : w.heap.size + 1 ≠ w.heap.size + 1 + 1 := by omega
 have n5 : w.heap.size + 1 ≠ w.heap.size + 1 + 1 + 1 := by omega
 have n6 : w.heap.size + 1 + 1 ≠ w.heap.size + 1 + 1 + 1 := by omega
 have c7 : W1.cell? ⟨w.heap.size, 0, none⟩ = some (.int .i8 a) := by rw [hW1]; simp [go_sem]
 have c8 : W1.cell? ⟨w.heap.size, 1, none⟩ = some (.int .i64 b) := by rw [hW1]; simp [go_sem]
 have c9 : W1.cell? ⟨w.heap.size, 2, none⟩ = some (.int .i8 c) := by rw [hW1]; simp [go_sem]
 have a4 : W1.cell? ⟨w.heap.size, 3, none⟩ = some (.int .i64 d) := by rw [hW1]; simp [go_sem]
 have a5 : w.heap.size < W1.heap.size := by rw [hW1]; simp <;> omega
 have a6 : W1.cell? ⟨w.heap.size + 1, 0, none⟩ = some (.int .i8 e) := by rw [hW1]; simp [go_sem]
 have a7 : W1.cell? ⟨w.heap.size + 1, 1, none⟩ = some (.int .i64 f) := by rw [hW1]; simp [go_sem]
 have a8 : W1.cell? ⟨w.heap.size + 1, 2, none⟩ = some (.int .i8 g) := by rw [hW1]; simp [go_sem]
 have a9 : W1.cell? ⟨w.heap.size + 1, 3, none⟩ = some (.int .i64 h) := by rw [hW1]; simp [go_sem]
 have aA : w.heap.size + 1 < W1.heap.size := by rw [hW1]; simp <;> omega
 have aB : W1.cell? ⟨w.heap.size + 1 + 1, 0, none⟩ = some (.int .i8 0) := by rw [hW1]; simp [go_sem]
 have aC : W1.cell? ⟨w.heap.size + 1 + 1, 1, none⟩ = some (.int .i64 0) := by rw [hW1]; simp [go_sem]
 have aD : W1.cell? ⟨w.heap.size + 1 + 1, 2, none⟩ = some (.int .i8 0) := by rw [hW1]; simp [go_sem]
 have aE : W1.cell? ⟨w.heap.size + 1 + 1, 3, none⟩ = some (.int .i64 0) := by rw [hW1]; simp [go_sem]
 have a0 : w.heap.size + 1 + 1 < W1.heap.size := by rw [hW1]; simp <;> omega
 have f22 : W1.frozen? ⟨w.heap.size + 1 + 1, 0, none⟩ = false := by rw [hW1]; simp [go_sem]
 have f23 : W1.frozen? ⟨w.heap.size + 1 + 1, 1, none⟩ = false := by rw [hW1]; simp [go_sem]
 have f24 : W1.frozen? ⟨w.heap.size + 1 + 1, 2, none⟩ = false := by rw [hW1]; simp [go_sem]
 have f25 : W1.frozen? ⟨w.heap.size + 1 + 1, 3, none⟩ = false := by rw [hW1]; simp [go_sem]
 have aF : W1.cell? ⟨w.heap.size + 1 + 1 + 1, 0, none⟩ = some (.int .i8 a) := by rw [hW1]; simp [go_sem]
 have aG : W1.cell? ⟨w.heap.size + 1 + 1 + 1, 1, none⟩ = some (.int .i64 b) := by rw [hW1]; simp [go_sem]
 have aH : W1.cell? ⟨w.heap.size + 1 + 1 + 1, 2, none⟩ = some (.int .i8 c) := by rw [hW1]; simp [go_sem]
 have aI : W1.cell? ⟨w.heap.size + 1 + 1 + 1, 3, none⟩ = some (.int .i64 d) := by rw [hW1]; simp [go_sem]
 have a1 : w.heap.size + 1 + 1 + 1 < W1.heap.size := by rw [hW1]; simp <;> omega
 have f31 : W1.frozen? ⟨w.heap.size + 1 + 1 + 1, 0, none⟩ = false := by rw [hW1]; simp [go_sem]
 have f32 : W1.frozen? ⟨w.heap.size + 1 + 1 + 1, 1, none⟩ = false := by rw [hW1]; simp [go_sem]
 have f33 : W1.frozen? ⟨w.heap.size + 1 + 1 + 1, 2, none⟩ = false := by rw [hW1]; simp [go_sem]
 have f34 : W1.frozen? ⟨w.heap.size + 1 + 1 + 1, 3, none⟩ = false := by rw [hW1]; simp [go_sem]
 rw [← hW1]
 clear hW1
 refine (H1.out _).mono ?_
 rintro e w1 ⟨rfl, qw1⟩
 replace qw1 := qw1.dn
 have aJ := nlt a5 qw1.size
 have aO := nlt aA qw1.size
 obtain ⟨aK, aL, aM, aN, aP, aQ, aR, aS⟩ := mv8 qw1.cell c7 c8 c9 a4 a6 a7 a8 a9
 have f45 := (qw1.frozen (a := ⟨w.heap.size + 1 + 1, 0, none⟩) a0).trans f22
 have f46 := (qw1.frozen (a := ⟨w.heap.size + 1 + 1, 1, none⟩) a0).trans f23
 have f47 := (qw1.frozen (a := ⟨w.heap.size + 1 + 1, 2, none⟩) a0).trans f24
 have f48 := (qw1.frozen (a := ⟨w.heap.size + 1 + 1, 3, none⟩) a0).trans f25
 have aT := nlt a0 qw1.size
 obtain ⟨aU, aV, aW, aX⟩ := mv4 qw1.cell aB aC aD aE
 have f54 := (qw1.frozen (a := ⟨w.heap.size + 1 + 1 + 1, 0, none⟩) a1).trans f31
 have f55 := (qw1.frozen (a := ⟨w.heap.size + 1 + 1 + 1, 1, none⟩) a1).trans f32
 have f56 := (qw1.frozen (a := ⟨w.heap.size + 1 + 1 + 1, 2, none⟩) a1).trans f33
 have f57 := (qw1.frozen (a := ⟨w.heap.size + 1 + 1 + 1, 3, none⟩) a1).trans f34
 have aY := nlt a1 qw1.size
 obtain ⟨aZ, b0, b1, b2⟩ := mv4 qw1.cell aF aG aH aI
 clear a5 c7 c8 c9 a4 aA a6 a7 a8 a9 f22 f23 f24 f25 a0 aB aC aD aE f31 f32 f33 f34 a1 aF aG aH aI
 have uw1 := uW1.trans qw1
 clear qw1 uW1
 go_wp2_with fail
 obtain ⟨W63, hW63⟩ : ∃ W63, W63 = (w1.setCell ⟨w.heap.size + 1 + 1 + 1, 0, none⟩ (.int .i8 e)).setCell ⟨w.heap.size + 1 + 1 + 1, 1, none⟩ (.int .i64 f) := ⟨_, rfl⟩
 have hC : C4 w1 (w.heap.size + 1 + 1 + 1) (.int .i8 a) (.int .i64 b) (.int .i8 c) (.int .i64 d) := ⟨aZ, b0, b1, b2, f54, f55, f56, f57, aY⟩
 have hN : C4 W63 (w.heap.size + 1 + 1 + 1) (.int .i8 e) (.int .i64 f) (.int .i8 c) (.int .i64 d) := by rw [hW63]; exact hC.fill01 (.int .i8 e) (.int .i64 f)
 have uW63 : Dn w W63 := by rw [hW63]; exact (Dn.setCell (Dn.setCell uw1 (by simp <;> omega) _) (by simp <;> omega) _)
 have b3 : W63.cell? ⟨w.heap.size, 0, none⟩ = some (.int .i8 a) := by rw [hW63]; exact cell_far2 (n3) aK
 have b4 : W63.cell? ⟨w.heap.size, 1, none⟩ = some (.int .i64 b) := by rw [hW63]; exact cell_far2 (n3) aL
 have b5 : W63.cell? ⟨w.heap.size, 2, none⟩ = some (.int .i8 c) := by rw [hW63]; exact cell_far2 (n3) aM
 have b6 : W63.cell? ⟨w.heap.size, 3, none⟩ = some (.int .i64 d) := by rw [hW63]; exact cell_far2 (n3) aN
 have b7 : w.heap.size < W63.heap.size := by rw [hW63]; simpa using aJ
 have b8 : W63.cell? ⟨w.heap.size + 1, 0, none⟩ = some (.int .i8 e) := by rw [hW63]; exact cell_far2 (n5) aP
 have b9 : W63.cell? ⟨w.heap.size + 1, 1, none⟩ = some (.int .i64 f) := by rw [hW63]; exact cell_far2 (n5) aQ
 have bA : W63.cell? ⟨w.heap.size + 1, 2, none⟩ = some (.int .i8 g) := by rw [hW63]; exact cell_far2 (n5) aR
 have bB : W63.cell? ⟨w.heap.size + 1, 3, none⟩ = some (.int .i64 h) := by rw [hW63]; exact cell_far2 (n5) aS
 have bC : w.heap.size + 1 < W63.heap.size := by rw [hW63]; simpa using aO
 have bD : W63.cell? ⟨w.heap.size + 1 + 1, 0, none⟩ = some (.int .i8 0) := by rw [hW63]; exact cell_far2 (n6) aU
 have bE : W63.cell? ⟨w.heap.size + 1 + 1, 1, none⟩ = some (.int .i64 0) := by rw [hW63]; exact cell_far2 (n6) aV
 have bF : W63.cell? ⟨w.heap.size + 1 + 1, 2, none⟩ = some (.int .i8 0) := by rw [hW63]; exact cell_far2 (n6) aW
 have bG : W63.cell? ⟨w.heap.size + 1 + 1, 3, none⟩ = some (.int .i64 0) := by rw [hW63]; exact cell_far2 (n6) aX
 have a2 : w.heap.size + 1 + 1 < W63.heap.size := by rw [hW63]; simpa using aT
 have f79 : W63.frozen? ⟨w.heap.size + 1 + 1, 0, none⟩ = false := by rw [hW63]; simpa using f45
 have f80 : W63.frozen? ⟨w.heap.size + 1 + 1, 1, none⟩ = false := by rw [hW63]; simpa using f46
 have f81 : W63.frozen? ⟨w.heap.size + 1 + 1, 2, none⟩ = false := by rw [hW63]; simpa using f47
 have f82 : W63.frozen? ⟨w.heap.size + 1 + 1, 3, none⟩ = false := by rw [hW63]; simpa using f48
 obtain ⟨bH, bI, bJ, bK, f87, f88, f89, f90, a3⟩ := hN
 rw [← hW63]
 clear hW63
 clear hC uw1 aZ b0 b1 b2 f54 f55 f56 f57 aY aK aL aM aN aJ aP aQ aR aS aO aU aV aW aX aT f45 f46 f47 f48
 refine (H2.out _).mono ?_
 rintro e w2 ⟨rfl, qw2⟩
 replace qw2 := qw2.dn
 have c2 := nlt b7 qw2.size
 have c4 := nlt bC qw2.size
 obtain ⟨bP, bQ, bR, bS, bT, bU, bV, bW⟩ := mv8 qw2.cell b3 b4 b5 b6 b8 b9 bA bB
 have f102 := (qw2.frozen (a := ⟨w.heap.size + 1 + 1, 0, none⟩) a2).trans f79
 have f103 := (qw2.frozen (a := ⟨w.heap.size + 1 + 1, 1, none⟩) a2).trans f80
 have f104 := (qw2.frozen (a := ⟨w.heap.size + 1 + 1, 2, none⟩) a2).trans f81
 have f105 := (qw2.frozen (a := ⟨w.heap.size + 1 + 1, 3, none⟩) a2).trans f82
 have c5 := nlt a2 qw2.size
 obtain ⟨bX, bY, bZ, c0⟩ := mv4 qw2.cell bD bE bF bG
 have f111 := (qw2.frozen (a := ⟨w.heap.size + 1 + 1 + 1, 0, none⟩) a3).trans f87
 have f112 := (qw2.frozen (a := ⟨w.heap.size + 1 + 1 + 1, 1, none⟩) a3).trans f88
 have f113 := (qw2.frozen (a := ⟨w.heap.size + 1 + 1 + 1, 2, none⟩) a3).trans f89
 have f114 := (qw2.frozen (a := ⟨w.heap.size + 1 + 1 + 1, 3, none⟩) a3).trans f90
 have c1 := nlt a3 qw2.size
 obtain ⟨bL, bM, bN, bO⟩ := mv4 qw2.cell bH bI bJ bK
 clear b7 b3 b4 b5 b6 bC b8 b9 bA bB f79 f80 f81 f82 a2 bD bE bF bG f87 f88 f89 f90 a3 bH bI bJ bK
 have uw2 := uW63.trans qw2
 clear qw2 uW63
 go_wp2_with fail
 have hC : C4 w2 (w.heap.size + 1 + 1 + 1) (.int .i8 e) (.int .i64 f) (.int .i8 c) (.int .i64 d) := ⟨bL, bM, bN, bO, f111, f112, f113, f114, c1⟩
 exact bodyPost_ret (v := .agg #[.int .i8 e, .int .i64 f, .int .i8 c, .int .i64 d]) (by simp [results, Tryz.results108, go_sem, bP, bQ, bR, bS, bT, bU, bV, bW, bX, bY, bZ, c0, bL, bM, bN, bO, f102, f103, f104, f105, f111, f112, f113, f114] <;> omega) rfl ⟨rfl, (Dn.setCell (Dn.setCell (Dn.setCell (Dn.setCell uw2 (by simp <;> omega) _) (by simp <;> omega) _) (by simp <;> omega) _) (by simp <;> omega) _)⟩
theorem rfJoin_11 (a b c d e f g h : Int) (m n : Int) (H1 : Hid (∀ W, Calls Tryz.prog 48 #[.agg #[.int .i8 e, .int .i64 f], .agg #[.int .i8 a, .int .i64 b]] W fun o w' => o = .returned (.int .i64 m) ∧ Up W w')) (H2 : Hid (∀ W, Calls Tryz.prog 48 #[.agg #[.int .i8 g, .int .i64 h], .agg #[.int .i8 c, .int .i64 d]] W fun o w' => o = .returned (.int .i64 n) ∧ Up W w')) (h1 : m < 0) (h2 : 0 < n) (w : World) :
  Calls Tryz.prog 108 #[.agg #[.int .i8 a, .int .i64 b, .int .i8 c, .int .i64 d], .agg #[.int .i8 e, .int .i64 f, .int .i8 g, .int .i64 h]] w fun ro w' => ro = .returned (.agg #[.int .i8 e, .int .i64 f, .int .i8 g, .int .i64 h]) ∧ Dn w w' := by
 have t1 : decide (m < 0) = true := by simpa using h1
 have t2 : decide (0 < n) = true := by simpa using h2
 clear h1 h2
 go_enter Tryz.func108, Tryz.ntmps108
 go_wp2_with fail
 obtain ⟨W1, hW1⟩ : ∃ W1, W1 = (((w.alloc (.cells #[.int .i8 a, .int .i64 b, .int .i8 c, .int .i64 d] 45)).alloc (.cells #[.int .i8 e, .int .i64 f, .int .i8 g, .int .i64 h] 45)).alloc (.cells #[.int .i8 0, .int .i64 0, .int .i8 0, .int .i64 0] 45)).alloc (.cells #[.int .i8 a, .int .i64 b, .int .i8 c, .int .i64 d] 45) := ⟨_, rfl⟩
 have uW1 : Dn w W1 := by rw [hW1]; exact ((((Dn.refl _).alloc _).alloc _).alloc _).alloc _
 have n2 : w.heap.size ≠ w.heap.size + 1 + 1 := by omega
 have n3 : w.heap.size ≠ w.heap.size + 1 + 1 + 1 := by omega
 have n4 : w.heap.size + 1 ≠ w.heap.size + 1 + 1 := by omega
 have n5 : w.heap.size + 1 ≠ w.heap.size + 1 + 1 + 1 := by omega
 have n6 : w.heap.size + 1 + 1 ≠ w.heap.size + 1 + 1 + 1 := by omega
 have c7 : W1.cell? ⟨w.heap.size, 0, none⟩ = some (.int .i8 a) := by rw [hW1]; simp [go_sem]
 have c8 : W1.cell? ⟨w.heap.size, 1, none⟩ = some (.int .i64 b) := by rw [hW1]; simp [go_sem]
 have c9 : W1.cell? ⟨w.heap.size, 2, none⟩ = some (.int .i8 c) := by rw [hW1]; simp [go_sem]
 have a4 : W1.cell? ⟨w.heap.size, 3, none⟩ = some (.int .i64 d) := by rw [hW1]; simp [go_sem]
 have a5 : w.heap.size < W1.heap.size := by rw [hW1]; simp <;> omega
 have a6 : W1.cell? ⟨w.heap.size + 1, 0, none⟩ = some (.int .i8 e) := by rw [hW1]; simp [go_sem]
 have a7 : W1.cell? ⟨w.heap.size + 1, 1, none⟩ = some (.int .i64 f) := by rw [hW1]; simp [go_sem]
 have a8 : W1.cell? ⟨w.heap.size + 1, 2, none⟩ = some (.int .i8 g) := by rw [hW1]; simp [go_sem]
 have a9 : W1.cell? ⟨w.heap.size + 1, 3, none⟩ = some (.int .i64 h) := by rw [hW1]; simp [go_sem]
 have aA : w.heap.size + 1 < W1.heap.size := by rw [hW1]; simp <;> omega
 have aB : W1.cell? ⟨w.heap.size + 1 + 1, 0, none⟩ = some (.int .i8 0) := by rw [hW1]; simp [go_sem]
 have aC : W1.cell? ⟨w.heap.size + 1 + 1, 1, none⟩ = some (.int .i64 0) := by rw [hW1]; simp [go_sem]
 have aD : W1.cell? ⟨w.heap.size + 1 + 1, 2, none⟩ = some (.int .i8 0) := by rw [hW1]; simp [go_sem]
 have aE : W1.cell? ⟨w.heap.size + 1 + 1, 3, none⟩ = some (.int .i64 0) := by rw [hW1]; simp [go_sem]
 have a0 : w.heap.size + 1 + 1 < W1.heap.size := by rw [hW1]; simp <;> omega
 have f22 : W1.frozen? ⟨w.heap.size + 1 + 1, 0, none⟩ = false := by rw [hW1]; simp [go_sem]
 have f23 : W1.frozen? ⟨w.heap.size + 1 + 1, 1, none⟩ = false := by rw [hW1]; simp [go_sem]
 have f24 : W1.frozen? ⟨w.heap.size + 1 + 1, 2, none⟩ = false := by rw [hW1]; simp [go_sem]
 have f25 : W1.frozen? ⟨w.heap.size + 1 + 1, 3, none⟩ = false := by rw [hW1]; simp [go_sem]
 have aF : W1.cell? ⟨w.heap.size + 1 + 1 + 1, 0, none⟩ = some (.int .i8 a) := by rw [hW1]; simp [go_sem]
 have aG : W1.cell? ⟨w.heap.size + 1 + 1 + 1, 1, none⟩ = some (.int .i64 b) := by rw [hW1]; simp [go_sem]
 have aH : W1.cell? ⟨w.heap.size + 1 + 1 + 1, 2, none⟩ = some (.int .i8 c) := by rw [hW1]; simp [go_sem]
 have aI : W1.cell? ⟨w.heap.size + 1 + 1 + 1, 3, none⟩ = some (.int .i64 d) := by rw [hW1]; simp [go_sem]
 have a1 : w.heap.size + 1 + 1 + 1 < W1.heap.size := by rw [hW1]; simp <;> omega
 have f31 : W1.frozen? ⟨w.heap.size + 1 + 1 + 1, 0, none⟩ = false := by rw [hW1]; simp [go_sem]
 have f32 : W1.frozen? ⟨w.heap.size + 1 + 1 + 1, 1, none⟩ = false := by rw [hW1]; simp [go_sem]
 have f33 : W1.frozen? ⟨w.heap.size + 1 + 1 + 1, 2, none⟩ = false := by rw [hW1]; simp [go_sem]
 have f34 : W1.frozen? ⟨w.heap.size + 1 + 1 + 1, 3, none⟩ = false := by rw [hW1]; simp [go_sem]
 rw [← hW1]
 clear hW1
 refine (H1.out _).mono ?_
 rintro e w1 ⟨rfl, qw1⟩
 replace qw1 := qw1.dn
 have aJ := nlt a5 qw1.size
 have aO := nlt aA qw1.size
 obtain ⟨aK, aL, aM, aN, aP, aQ, aR, aS⟩ := mv8 qw1.cell c7 c8 c9 a4 a6 a7 a8 a9
 have f45 := (qw1.frozen (a := ⟨w.heap.size + 1 + 1, 0, none⟩) a0).trans f22
 have f46 := (qw1.frozen (a := ⟨w.heap.size + 1 + 1, 1, none⟩) a0).trans f23
 have f47 := (qw1.frozen (a := ⟨w.heap.size + 1 + 1, 2, none⟩) a0).trans f24
 have f48 := (qw1.frozen (a := ⟨w.heap.size + 1 + 1, 3, none⟩) a0).trans f25
 have aT := nlt a0 qw1.size
 obtain ⟨aU, aV, aW, aX⟩ := mv4 qw1.cell aB aC aD aE
 have f54 := (qw1.frozen (a := ⟨w.heap.size + 1 + 1 + 1, 0, none⟩) a1).trans f31
 have f55 := (qw1.frozen (a := ⟨w.heap.size + 1 + 1 + 1, 1, none⟩) a1).trans f32
 have f56 := (qw1.frozen (a := ⟨w.heap.size + 1 + 1 + 1, 2, none⟩) a1).trans f33
 have f57 := (qw1.frozen (a := ⟨w.heap.size + 1 + 1 + 1, 3, none⟩) a1).trans f34
 have aY := nlt a1 qw1.size
 obtain ⟨aZ, b0, b1, b2⟩ := mv4 qw1.cell aF aG aH aI
 clear a5 c7 c8 c9 a4 aA a6 a7 a8 a9 f22 f23 f24 f25 a0 aB aC aD aE f31 f32 f33 f34 a1 aF aG aH aI
 have uw1 := uW1.trans qw1
 clear qw1 uW1
 go_wp2_with fail
 obtain ⟨W63, hW63⟩ : ∃ W63, W63 = (w1.setCell ⟨w.heap.size + 1 + 1 + 1, 0, none⟩ (.int .i8 e)).setCell ⟨w.heap.size + 1 + 1 + 1, 1, none⟩ (.int .i64 f) := ⟨_, rfl⟩
 have hC : C4 w1 (w.heap.size + 1 + 1 + 1) (.int .i8 a) (.int .i64 b) (.int .i8 c) (.int .i64 d) := ⟨aZ, b0, b1, b2, f54, f55, f56, f57, aY⟩
 have hN : C4 W63 (w.heap.size + 1 + 1 + 1) (.int .i8 e) (.int .i64 f) (.int .i8 c) (.int .i64 d) := by rw [hW63]; exact hC.fill01 (.int .i8 e) (.int .i64 f)
 have uW63 : Dn w W63 := by rw [hW63]; exact (Dn.setCell (Dn.setCell uw1 (by simp <;> omega) _) (by simp <;> omega) _)
 have b3 : W63.cell? ⟨w.heap.size, 0, none⟩ = some (.int .i8 a) := by rw [hW63]; exact cell_far2 (n3) aK
 have b4 : W63.cell? ⟨w.heap.size, 1, none⟩ = some (.int .i64 b) := by rw [hW63]; exact cell_far2 (n3) aL
 have b5 : W63.cell? ⟨w.heap.size, 2, none⟩ = some (.int .i8 c) := by rw [hW63]; exact cell_far2 (n3) aM
 have b6 : W63.cell? ⟨w.heap.size, 3, none⟩ = some (.int .i64 d) := by rw [hW63]; exact cell_far2 (n3) aN
 have b7 : w.heap.size < W63.heap.size := by rw [hW63]; simpa using aJ
 have b8 : W63.cell? ⟨w.heap.size + 1, 0, none⟩ = some (.int .i8 e) := by rw [hW63]; exact cell_far2 (n5) aP
 have b9 : W63.cell? ⟨w.heap.size + 1, 1, none⟩ = some (.int .i64 f) := by rw [hW63]; exact cell_far2 (n5) aQ
 have bA : W63.cell? ⟨w.heap.size + 1, 2, none⟩ = some (.int .i8 g) := by rw [hW63]; exact cell_far2 (n5) aR
 have bB : W63.cell? ⟨w.heap.size + 1, 3, none⟩ = some (.int .i64 h) := by rw [hW63]; exact cell_far2 (n5) aS
 have bC : w.heap.size + 1 < W63.heap.size := by rw [hW63]; simpa using aO
 have bD : W63.cell? ⟨w.heap.size + 1 + 1, 0, none⟩ = some (.int .i8 0) := by rw [hW63]; exact cell_far2 (n6) aU
 have bE : W63.cell? ⟨w.heap.size + 1 + 1, 1, none⟩ = some (.int .i64 0) := by rw [hW63]; exact cell_far2 (n6) aV
 have bF : W63.cell? ⟨w.heap.size + 1 + 1, 2, none⟩ = some (.int .i8 0) := by rw [hW63]; exact cell_far2 (n6) aW
 have bG : W63.cell? ⟨w.heap.size + 1 + 1, 3, none⟩ = some (.int .i64 0) := by rw [hW63]; exact cell_far2 (n6) aX
 have a2 : w.heap.size + 1 + 1 < W63.heap.size := by rw [hW63]; simpa using aT
 have f79 : W63.frozen? ⟨w.heap.size + 1 + 1, 0, none⟩ = false := by rw [hW63]; simpa using f45
 have f80 : W63.frozen? ⟨w.heap.size + 1 + 1, 1, none⟩ = false := by rw [hW63]; simpa using f46
 have f81 : W63.frozen? ⟨w.heap.size + 1 + 1, 2, none⟩ = false := by rw [hW63]; simpa using f47
 have f82 : W63.frozen? ⟨w.heap.size + 1 + 1, 3, none⟩ = false := by rw [hW63]; simpa using f48
 obtain ⟨bH, bI, bJ, bK, f87, f88, f89, f90, a3⟩ := hN
 rw [← hW63]
 clear hW63
 clear hC uw1 aZ b0 b1 b2 f54 f55 f56 f57 aY aK aL aM aN aJ aP aQ aR aS aO aU aV aW aX aT f45 f46 f47 f48
 refine (H2.out _).mono ?_
 rintro e w2 ⟨rfl, qw2⟩
 replace qw2 := qw2.dn
 have c2 := nlt b7 qw2.size
 have c4 := nlt bC qw2.size
 obtain ⟨bP, bQ, bR, bS, bT, bU, bV, bW⟩ := mv8 qw2.cell b3 b4 b5 b6 b8 b9 bA bB
 have f102 := (qw2.frozen (a := ⟨w.heap.size + 1 + 1, 0, none⟩) a2).trans f79
 have f103 := (qw2.frozen (a := ⟨w.heap.size + 1 + 1, 1, none⟩) a2).trans f80
 have f104 := (qw2.frozen (a := ⟨w.heap.size + 1 + 1, 2, none⟩) a2).trans f81
 have f105 := (qw2.frozen (a := ⟨w.heap.size + 1 + 1, 3, none⟩) a2).trans f82
 have c5 := nlt a2 qw2.size
 obtain ⟨bX, bY, bZ, c0⟩ := mv4 qw2.cell bD bE bF bG
 have f111 := (qw2.frozen (a := ⟨w.heap.size + 1 + 1 + 1, 0, none⟩) a3).trans f87
 have f112 := (qw2.frozen (a := ⟨w.heap.size + 1 + 1 + 1, 1, none⟩) a3).trans f88
 have f113 := (qw2.frozen (a := ⟨w.heap.size + 1 + 1 + 1, 2, none⟩) a3).trans f89
 have f114 := (qw2.frozen (a := ⟨w.heap.size + 1 + 1 + 1, 3, none⟩) a3).trans f90
 have c1 := nlt a3 qw2.size
 obtain ⟨bL, bM, bN, bO⟩ := mv4 qw2.cell bH bI bJ bK
 clear b7 b3 b4 b5 b6 bC b8 b9 bA bB f79 f80 f81 f82 a2 bD bE bF bG f87 f88 f89 f90 a3 bH bI bJ bK
 have uw2 := uW63.trans qw2
 clear qw2 uW63
 go_wp2_with fail
 have hC : C4 w2 (w.heap.size + 1 + 1 + 1) (.int .i8 e) (.int .i64 f) (.int .i8 c) (.int .i64 d) := ⟨bL, bM, bN, bO, f111, f112, f113, f114, c1⟩
 exact bodyPost_ret (v := .agg #[.int .i8 e, .int .i64 f, .int .i8 g, .int .i64 h]) (by simp [results, Tryz.results108, go_sem, bP, bQ, bR, bS, bT, bU, bV, bW, bX, bY, bZ, c0, bL, bM, bN, bO, f102, f103, f104, f105, f111, f112, f113, f114] <;> omega) rfl ⟨rfl, (Dn.setCell (Dn.setCell (Dn.setCell (Dn.setCell (Dn.setCell (Dn.setCell uw2 (by simp <;> omega) _) (by simp <;> omega) _) (by simp <;> omega) _) (by simp <;> omega) _) (by simp <;> omega) _) (by simp <;> omega) _)⟩
theorem rfJoin (a b c d e f g h : Int) (w : World) :
   Calls Tryz.prog 108 #[.agg #[.int .i8 a, .int .i64 b, .int .i8 c, .int .i64 d], .agg #[.int .i8 e, .int .i64 f, .int .i8 g, .int .i64 h]] w fun ro w' => ro = .returned (.agg #[.int .i8 (mnI a b e f), .int .i64 (mnD a b e f), .int .i8 (mxI c d g h), .int .i64 (mxD c d g h)]) ∧ Dn w w' := by
 have H1 := Lib.hid (fun W => rCmp8 e f a b W)
 have H2 := Lib.hid (fun W => rCmp8 g h c d W)
 unfold mnI mnD mxI mxD
 by_cases h1 : eC e f a b < 0
 · by_cases h2 : 0 < eC g h c d
   · rw [if_pos h1, if_pos h1, if_pos h2, if_pos h2]; exact rfJoin_11 a b c d e f g h _ _ H1 H2 h1 h2 w
   · rw [if_pos h1, if_pos h1, if_neg h2, if_neg h2]; exact rfJoin_10 a b c d e f g h _ _ H1 H2 h1 h2 w
 · by_cases h2 : 0 < eC g h c d
   · rw [if_neg h1, if_neg h1, if_pos h2, if_pos h2]; exact rfJoin_01 a b c d e f g h _ _ H1 H2 h1 h2 w
   · rw [if_neg h1, if_neg h1, if_neg h2, if_neg h2]; exact rfJoin_00 a b c d e f g h _ _ H1 H2 h1 h2 w
theorem rfCmp_1 (a b c d e f g h : Int) (m : Int) (H1 : Hid (∀ W, Calls Tryz.prog 48 #[.agg #[.int .i8 a, .int .i64 b], .agg #[.int .i8 e, .int .i64 f]] W fun o w' => o = .returned (.int .i64 m) ∧ Up W w')) (h1 : a ≠ e) (w : World) :
  Calls Tryz.prog 109 #[.agg #[.int .i8 a, .int .i64 b, .int .i8 c, .int .i64 d], .agg #[.int .i8 e, .int .i64 f, .int .i8 g, .int .i64 h]] w fun ro w' => ro = .returned (.int .i64 m) ∧ Dn w w' := by
 have t1 : (a == e) = false := by simpa using h1
 clear h1
 go_enter Tryz.func109, Tryz.ntmps109
 go_wp2_with fail
 obtain ⟨W1, hW1, uW1, c2, c3, c4, c5, l6, c7, c8, c9, a0, a1⟩ := preOf48x1 w a b c d e f g h
 rw [← hW1]
 clear hW1
 refine (H1.out _).mono ?_
 rintro e w1 ⟨rfl, qw1⟩
 replace qw1 := qw1.dn
 have a2 := nlt l6 qw1.size
 have a7 := nlt a1 qw1.size
 obtain ⟨a3, a4, a5, a6, a8, a9, aA, aB⟩ := mv8 qw1.cell c2 c3 c4 c5 c7 c8 c9 a0
 clear l6 c2 c3 c4 c5 a1 c7 c8 c9 a0
 have uw1 := uW1.trans qw1
 clear qw1 uW1
 go_wp2_with fail
 go_ret
 exact ⟨rfl, uw1⟩
theorem rfCmp_2 (a b c d e f g h : Int) (m : Int) (H1 : Hid (∀ W, Calls Tryz.prog 48 #[.agg #[.int .i8 a, .int .i64 b], .agg #[.int .i8 e, .int .i64 f]] W fun o w' => o = .returned (.int .i64 m) ∧ Up W w')) (h1 : a = e) (h2 : b ≠ f) (w : World) :
  Calls Tryz.prog 109 #[.agg #[.int .i8 a, .int .i64 b, .int .i8 c, .int .i64 d], .agg #[.int .i8 e, .int .i64 f, .int .i8 g, .int .i64 h]] w fun ro w' => ro = .returned (.int .i64 m) ∧ Dn w w' := by
 have t1 : (a == e) = true := by simpa using h1
 have t2 : (b == f) = false := by simpa using h2
 clear h1 h2
 go_enter Tryz.func109, Tryz.ntmps109
 go_wp2_with fail
 obtain ⟨W1, hW1, uW1, c2, c3, c4, c5, l6, c7, c8, c9, a0, a1⟩ := preOf48x1 w a b c d e f g h
 rw [← hW1]
 clear hW1
 refine (H1.out _).mono ?_
 rintro e w1 ⟨rfl, qw1⟩
 replace qw1 := qw1.dn
 have a2 := nlt l6 qw1.size
 have a7 := nlt a1 qw1.size
 obtain ⟨a3, a4, a5, a6, a8, a9, aA, aB⟩ := mv8 qw1.cell c2 c3 c4 c5 c7 c8 c9 a0
 clear l6 c2 c3 c4 c5 a1 c7 c8 c9 a0
 have uw1 := uW1.trans qw1
 clear qw1 uW1
 go_wp2_with fail
 go_ret
 exact ⟨rfl, uw1⟩
theorem rfCmp_3 (a b c d e f g h : Int) (m : Int) (H1 : Hid (∀ W, Calls Tryz.prog 48 #[.agg #[.int .i8 c, .int .i64 d], .agg #[.int .i8 g, .int .i64 h]] W fun o w' => o = .returned (.int .i64 m) ∧ Up W w')) (h1 : a = e) (h2 : b = f) (w : World) :
  Calls Tryz.prog 109 #[.agg #[.int .i8 a, .int .i64 b, .int .i8 c, .int .i64 d], .agg #[.int .i8 e, .int .i64 f, .int .i8 g, .int .i64 h]] w fun ro w' => ro = .returned (.int .i64 m) ∧ Dn w w' := by
 have t1 : (a == e) = true := by simpa using h1
 have t2 : (b == f) = true := by simpa using h2
 clear h1 h2
 go_enter Tryz.func109, Tryz.ntmps109
 go_wp2_with fail
 obtain ⟨W1, hW1, uW1, c2, c3, c4, c5, l6, c7, c8, c9, a0, a1⟩ := preOf48x1 w a b c d e f g h
 rw [← hW1]
 clear hW1
 refine (H1.out _).mono ?_
 rintro e w1 ⟨rfl, qw1⟩
 replace qw1 := qw1.dn
 have a2 := nlt l6 qw1.size
 have a7 := nlt a1 qw1.size
 obtain ⟨a3, a4, a5, a6, a8, a9, aA, aB⟩ := mv8 qw1.cell c2 c3 c4 c5 c7 c8 c9 a0
 clear l6 c2 c3 c4 c5 a1 c7 c8 c9 a0
 have uw1 := uW1.trans qw1
 clear qw1 uW1
 go_wp2_with fail
 go_ret
 exact ⟨rfl, uw1⟩
theorem eC_zero {i d j f : Int} : eC i d j f = 0 ↔ i = j ∧ d = f := by
 unfold eC c3
 repeat' split
 all_goals omega
theorem rfCmp (a b c d e f g h : Int) (w : World) :
   Calls Tryz.prog 109 #[.agg #[.int .i8 a, .int .i64 b, .int .i8 c, .int .i64 d], .agg #[.int .i8 e, .int .i64 f, .int .i8 g, .int .i64 h]] w fun ro w' => ro = .returned (.int .i64 (or2 (eC a b e f) (eC c d g h))) ∧ Dn w w' := by
 have H1 := Lib.hid (fun W => rCmp8 a b e f W)
 have H2 := Lib.hid (fun W => rCmp8 c d g h W)
 unfold or2
 have k := eC_zero (i := a) (d := b) (j := e) (f := f)
 by_cases h1 : a = e
 · by_cases h2 : b = f
   · rw [if_neg (by simp [k.2 ⟨h1, h2⟩])]; exact rfCmp_3 a b c d e f g h _ H2 h1 h2 w
   · rw [if_pos (fun hc => h2 (k.1 hc).2)]; exact rfCmp_2 a b c d e f g h _ H1 h1 h2 w
 · rw [if_pos (fun hc => h1 (k.1 hc).1)]; exact rfCmp_1 a b c d e f g h _ H1 h1 w
end Go.Proofs.YtoghoddjkdoohaaGreatDoor
