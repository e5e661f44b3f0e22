/- Walks and laws that the claim's theorem leans on: part 11. -/
import Derived.Test.YtoghoddjkdoohaaGreatDoorZKn1
import Derived.Test.YtoghoddjkdoohaaGreatDoorZKn7
import Derived.Test.YtoghoddjkdoohaaGreatDoorZKn9
import Derived.Test.YtoghoddjkdoohaaGreatDoorZKn10
namespace Go.Proofs.YtoghoddjkdoohaaGreatDoor
set_option maxHeartbeats 4000000
set_option maxRecDepth 100000
open Go.RowKit
set_option linter.unusedVariables false
set_option linter.unusedSimpArgs false
theorem rfBeg_1 (a b c d e f g h : Int) (h1 : e = -1) (h2 : a = -1) (w : World) :
  Calls Tryz.prog 110 #[.agg #[.int .i8 a, .int .i64 b, .int .i8 c, .int .i64 d], .agg #[.int .i8 e, .int .i64 f, .int .i8 g, .int .i64 h]] w fun ro w' => ro = .returned (.bool true) /\ Dn w w' := by
 have t1 : (e == -1) = true := by simpa using h1
 have t2 : (a == -1) = true := by simpa using h2
 clear h1 h2
 go_enter Tryz.func110, Tryz.ntmps110
 go_wp2_with fail
 go_ret
 exact ⟨rfl, ((Dn.refl _).alloc _).alloc _⟩
theorem rfBeg_2 (a b c d e f g h : Int) (h1 : e = -1) (h2 : a ≠ -1) (w : World) :
  Calls Tryz.prog 110 #[.agg #[.int .i8 a, .int .i64 b, .int .i8 c, .int .i64 d], .agg #[.int .i8 e, .int .i64 f, .int .i8 g, .int .i64 h]] w fun ro w' => ro = .returned (.bool false) /\ Dn w w' := by
 have t1 : (e == -1) = true := by simpa using h1
 have t2 : (a == -1) = false := by simpa using h2
 clear h1 h2
 go_enter Tryz.func110, Tryz.ntmps110
 go_wp2_with fail
 go_ret
 exact ⟨rfl, ((Dn.refl _).alloc _).alloc _⟩
theorem preKn48x1 (w : World) (a b c d e f g h : Int) : ∃ W1, W1 = (w.alloc (.cells #[.int .i8 a, .int .i64 b, .int .i8 c, .int .i64 d] 45)).alloc (.cells #[.int .i8 e, .int .i64 f, .int .i8 g, .int .i64 h] 45) /\ (Dn w W1) /\ (W1.cell? ⟨w.heap.size, 0, none⟩ = some (.int .i8 a)) /\ (W1.cell? ⟨w.heap.size, 1, none⟩ = some (.int .i64 b)) /\ (W1.cell? ⟨w.heap.size, 2, none⟩ = some (.int .i8 c)) /\ (W1.cell? ⟨w.heap.size, 3, none⟩ = some (.int .i64 d)) /\ (w.heap.size < W1.heap.size) /\ (W1.cell? ⟨w.heap.size + 1, 0, none⟩ = some (.int .i8 e)) /\ (W1.cell? ⟨w.heap.size + 1, 1, none⟩ = some (.int .i64 f)) /\ (W1.cell? ⟨w.heap.size + 1, 2, none⟩ = some (.int .i8 g)) /\ (W1.cell? ⟨w.heap.size + 1, 3, none⟩ = some (.int .i64 h)) /\ (w.heap.size + 1 < W1.heap.size) := by
 obtain ⟨W1, hW1⟩ : ∃ W1, W1 = (w.alloc (.cells #[.int .i8 a, .int .i64 b, .int .i8 c, .int .i64 d] 45)).alloc (.cells #[.int .i8 e, .int .i64 f, .int .i8 g, .int .i64 h] 45) := ⟨_, rfl⟩
 refine ⟨W1, hW1, (by rw [hW1]; exact ((Dn.refl _).alloc _).alloc _), ?_, ?_, ?_, ?_, ?_, ?_, ?_, ?_, ?_, ?_⟩ <;> rw [hW1] <;> first | (simp [go_sem]; done) | (simp <;> omega)
theorem rfBeg_3 (a b c d e f g h : Int) (p : Bool) (h1 : e ≠ -1) (HH : Hid (∀ W, Calls Tryz.prog 46 #[.agg #[.int .i8 a, .int .i64 b, .int .i8 c, .int .i64 d], .int .i64 f] W fun o w' => o = .returned (.bool p) /\ Dn W w')) (w : World) :
  Calls Tryz.prog 110 #[.agg #[.int .i8 a, .int .i64 b, .int .i8 c, .int .i64 d], .agg #[.int .i8 e, .int .i64 f, .int .i8 g, .int .i64 h]] w fun ro w' => ro = .returned (.bool p) /\ Dn w w' := by
 have t1 : (e == -1) = false := by simpa using h1
 clear h1
 go_enter Tryz.func110, Tryz.ntmps110
 go_wp2_with fail
 obtain ⟨W1, hW1, uW1, c2, c3, c4, c5, l6, c7, c8, c9, a0, a1⟩ := preKn48x1 w a b c d e f g h
 rw [<- hW1]
 clear hW1
 refine (HH.out _).mono ?_
 rintro e w1 ⟨rfl, qw1⟩
 obtain ⟨a2, a7⟩ := nl2 qw1.size l6 a1
 obtain ⟨a3, a4, a5, a6, a8, a9, aA, aB⟩ := mv8 qw1.cell c2 c3 c4 c5 c7 c8 c9 a0
 clear l6 c2 c3 c4 c5 a1 c7 c8 c9 a0
 have uw1 := uW1.trans qw1
 clear qw1 uW1
 go_wp2_with fail
 go_ret
 exact ⟨rfl, uw1⟩
def BegP (a b c d e f : Int) : Prop := if e = -1 then a = -1 else HasP a b c d f
instance decBegP (a b c d e f : Int) : Decidable (BegP a b c d e f) := by unfold BegP; infer_instance
theorem rfBeg (a b c d e f g h : Int) (w : World) :
   Calls Tryz.prog 110 #[.agg #[.int .i8 a, .int .i64 b, .int .i8 c, .int .i64 d], .agg #[.int .i8 e, .int .i64 f, .int .i8 g, .int .i64 h]] w fun ro w' => ro = .returned (.bool (decide (BegP a b c d e f))) /\ Dn w w' := by
 by_cases h1 : e = -1
 · by_cases h2 : a = -1
   · rw [decide_eq_true (show BegP a b c d e f by unfold BegP; rw [if_pos h1]; exact h2)]; exact rfBeg_1 a b c d e f g h h1 h2 w
   · rw [decide_eq_false (show ¬ BegP a b c d e f by unfold BegP; rw [if_pos h1]; exact h2)]; exact rfBeg_2 a b c d e f g h h1 h2 w
 · have e1 : decide (BegP a b c d e f) = decide (HasP a b c d f) := decide_eq_decide.2 (by unfold BegP; rw [if_neg h1])
   rw [e1]; exact rfBeg_3 a b c d e f g h _ h1 (Lib.hid fun W => rfHas a b c d f W) w
theorem rfAdj_1 (a b c d e f g h : Int) (h1 : c ≠ 0) (w : World) :
  Calls Tryz.prog 91 #[.agg #[.int .i8 a, .int .i64 b, .int .i8 c, .int .i64 d], .agg #[.int .i8 e, .int .i64 f, .int .i8 g, .int .i64 h]] w fun ro w' => ro = .returned (.bool false) /\ Dn w w' := by
 have t1 : (c == 0) = false := by simpa using h1
 clear h1
 go_enter Tryz.func91, Tryz.ntmps91
 go_wp2_with fail
 go_ret
 exact ⟨rfl, ((Dn.refl _).alloc _).alloc _⟩
theorem rfAdj_2 (a b c d e f g h : Int) (h1 : c = 0) (h2 : e ≠ 0) (w : World) :
  Calls Tryz.prog 91 #[.agg #[.int .i8 a, .int .i64 b, .int .i8 c, .int .i64 d], .agg #[.int .i8 e, .int .i64 f, .int .i8 g, .int .i64 h]] w fun ro w' => ro = .returned (.bool false) /\ Dn w w' := by
 have t1 : (c == 0) = true := by simpa using h1
 have t2 : (e == 0) = false := by simpa using h2
 clear h1 h2
 go_enter Tryz.func91, Tryz.ntmps91
 go_wp2_with fail
 go_ret
 exact ⟨rfl, ((Dn.refl _).alloc _).alloc _⟩
theorem rfAdj_3 (a b c d e f g h : Int) (h1 : c = 0) (h2 : e = 0) (h3 : ¬ d < 9223372036854775807) (w : World) :
  Calls Tryz.prog 91 #[.agg #[.int .i8 a, .int .i64 b, .int .i8 c, .int .i64 d], .agg #[.int .i8 e, .int .i64 f, .int .i8 g, .int .i64 h]] w fun ro w' => ro = .returned (.bool false) /\ Dn w w' := by
 have t1 : (c == 0) = true := by simpa using h1
 have t2 : (e == 0) = true := by simpa using h2
 have t3 : decide (d < 9223372036854775807) = false := by simpa using h3
 clear h1 h2 h3
 go_enter Tryz.func91, Tryz.ntmps91
 go_wp2_with fail
 go_ret
 exact ⟨rfl, ((Dn.refl _).alloc _).alloc _⟩
theorem rfAdj_4 (a b c d e f g h : Int) (hd : I64 d) (h1 : c = 0) (h2 : e = 0) (h3 : d < 9223372036854775807) (h4 : d + 1 ≠ f) (w : World) :
  Calls Tryz.prog 91 #[.agg #[.int .i8 a, .int .i64 b, .int .i8 c, .int .i64 d], .agg #[.int .i8 e, .int .i64 f, .int .i8 g, .int .i64 h]] w fun ro w' => ro = .returned (.bool false) /\ Dn w w' := by
 have tw : IntKind.i64.wrap (d + 1) = d + 1 := IntWalk.i64_in _ (by have := hd.1; omega)
 have t1 : (c == 0) = true := by simpa using h1
 have t2 : (e == 0) = true := by simpa using h2
 have t3 : decide (d < 9223372036854775807) = true := by simpa using h3
 have t4 : (d + 1 == f) = false := by simpa using h4
 clear h1 h2 h3 h4
 go_enter Tryz.func91, Tryz.ntmps91
 go_wp2_with fail
 go_ret
 exact ⟨rfl, ((Dn.refl _).alloc _).alloc _⟩
theorem rfAdj_5 (a b c d e f g h : Int) (hd : I64 d) (h1 : c = 0) (h2 : e = 0) (h3 : d < 9223372036854775807) (h4 : d + 1 = f) (w : World) :
  Calls Tryz.prog 91 #[.agg #[.int .i8 a, .int .i64 b, .int .i8 c, .int .i64 d], .agg #[.int .i8 e, .int .i64 f, .int .i8 g, .int .i64 h]] w fun ro w' => ro = .returned (.bool true) /\ Dn w w' := by
 have tw : IntKind.i64.wrap (d + 1) = d + 1 := IntWalk.i64_in _ (by have := hd.1; omega)
 have t1 : (c == 0) = true := by simpa using h1
 have t2 : (e == 0) = true := by simpa using h2
 have t3 : decide (d < 9223372036854775807) = true := by simpa using h3
 have t4 : (d + 1 == f) = true := by simpa using h4
 clear h1 h2 h3 h4
 go_enter Tryz.func91, Tryz.ntmps91
 go_wp2_with fail
 go_ret
 exact ⟨rfl, ((Dn.refl _).alloc _).alloc _⟩
def AdjP (c d e f : Int) : Prop := c = 0 /\ e = 0 /\ d < 9223372036854775807 /\ d + 1 = f
instance decAdjP (c d e f : Int) : Decidable (AdjP c d e f) := by unfold AdjP; infer_instance
theorem rfAdj (a b c d e f g h : Int) (w : World) (hd : I64 d) :
   Calls Tryz.prog 91 #[.agg #[.int .i8 a, .int .i64 b, .int .i8 c, .int .i64 d], .agg #[.int .i8 e, .int .i64 f, .int .i8 g, .int .i64 h]] w fun ro w' => ro = .returned (.bool (decide (AdjP c d e f))) /\ Dn w w' := by
 by_cases h1 : c = 0
 · by_cases h2 : e = 0
   · by_cases h3 : d < 9223372036854775807
     · by_cases h4 : d + 1 = f
       · rw [decide_eq_true (show AdjP c d e f from ⟨h1, h2, h3, h4⟩)]; exact rfAdj_5 a b c d e f g h hd h1 h2 h3 h4 w
       · rw [decide_eq_false (fun k : AdjP c d e f => h4 k.2.2.2)]; exact rfAdj_4 a b c d e f g h hd h1 h2 h3 h4 w
     · rw [decide_eq_false (fun k : AdjP c d e f => h3 k.2.2.1)]; exact rfAdj_3 a b c d e f g h h1 h2 h3 w
   · rw [decide_eq_false (fun k : AdjP c d e f => h2 k.2.1)]; exact rfAdj_2 a b c d e f g h h1 h2 w
 · rw [decide_eq_false (fun k : AdjP c d e f => h1 k.1)]; exact rfAdj_1 a b c d e f g h h1 w
theorem rfOv_1 (a b c d e f g h : Int) (HA : Hid (∀ W, Calls Tryz.prog 110 #[.agg #[.int .i8 a, .int .i64 b, .int .i8 c, .int .i64 d], .agg #[.int .i8 e, .int .i64 f, .int .i8 g, .int .i64 h]] W fun o w' => o = .returned (.bool true) /\ Dn W w')) (w : World) :
  Calls Tryz.prog 71 #[.agg #[.int .i8 a, .int .i64 b, .int .i8 c, .int .i64 d], .agg #[.int .i8 e, .int .i64 f, .int .i8 g, .int .i64 h]] w fun ro w' => ro = .returned (.bool true) /\ Dn w w' := by
 go_enter Tryz.func71, Tryz.ntmps71
 go_wp2_with fail
 obtain ⟨W1, hW1, uW1, c2, c3, c4, c5, l6, c7, c8, c9, a0, a1⟩ := preKn48x1 w a b c d e f g h
 rw [<- hW1]
 clear hW1
 refine (HA.out _).mono ?_
 rintro e w1 ⟨rfl, qw1⟩
 obtain ⟨a2, a7⟩ := nl2 qw1.size l6 a1
 obtain ⟨a3, a4, a5, a6, a8, a9, aA, aB⟩ := mv8 qw1.cell c2 c3 c4 c5 c7 c8 c9 a0
 clear l6 c2 c3 c4 c5 a1 c7 c8 c9 a0
 have uw1 := uW1.trans qw1
 clear qw1 uW1
 go_wp2_with fail
 go_ret
 exact ⟨rfl, uw1⟩
theorem rfOv_2 (a b c d e f g h : Int) (p : Bool) (HA : Hid (∀ W, Calls Tryz.prog 110 #[.agg #[.int .i8 a, .int .i64 b, .int .i8 c, .int .i64 d], .agg #[.int .i8 e, .int .i64 f, .int .i8 g, .int .i64 h]] W fun o w' => o = .returned (.bool false) /\ Dn W w')) (HB : Hid (∀ W, Calls Tryz.prog 110 #[.agg #[.int .i8 e, .int .i64 f, .int .i8 g, .int .i64 h], .agg #[.int .i8 a, .int .i64 b, .int .i8 c, .int .i64 d]] W fun o w' => o = .returned (.bool p) /\ Dn W w')) (w : World) :
  Calls Tryz.prog 71 #[.agg #[.int .i8 a, .int .i64 b, .int .i8 c, .int .i64 d], .agg #[.int .i8 e, .int .i64 f, .int .i8 g, .int .i64 h]] w fun ro w' => ro = .returned (.bool p) /\ Dn w w' := by
 go_enter Tryz.func71, Tryz.ntmps71
 go_wp2_with fail
 obtain ⟨W1, hW1, uW1, c2, c3, c4, c5, l6, c7, c8, c9, a0, a1⟩ := preKn48x1 w a b c d e f g h
 rw [<- hW1]
 clear hW1
 refine (HA.out _).mono ?_
 rintro e w1 ⟨rfl, qw1⟩
 obtain ⟨a2, a7⟩ := nl2 qw1.size l6 a1
 obtain ⟨a3, a4, a5, a6, a8, a9, aA, aB⟩ := mv8 qw1.cell c2 c3 c4 c5 c7 c8 c9 a0
 clear l6 c2 c3 c4 c5 a1 c7 c8 c9 a0
 have uw1 := uW1.trans qw1
 clear qw1 uW1
 go_wp2_with fail
 refine (HB.out _).mono ?_
 rintro e w2 ⟨rfl, qw2⟩
 obtain ⟨aC, aH⟩ := nl2 qw2.size a2 a7
 obtain ⟨aD, aE, aF, aG, aI, aJ, aK, aL⟩ := mv8 qw2.cell a3 a4 a5 a6 a8 a9 aA aB
 clear a2 a3 a4 a5 a6 a7 a8 a9 aA aB
 have uw2 := uw1.trans qw2
 clear qw2 uw1
 go_wp2_with fail
 go_ret
 exact ⟨rfl, uw2⟩
theorem rfOv (a b c d e f g h : Int) (w : World) :
   Calls Tryz.prog 71 #[.agg #[.int .i8 a, .int .i64 b, .int .i8 c, .int .i64 d], .agg #[.int .i8 e, .int .i64 f, .int .i8 g, .int .i64 h]] w fun ro w' => ro = .returned (.bool (decide (BegP a b c d e f \/ BegP e f g h a b))) /\ Dn w w' := by
 have HA := Lib.hid (fun W => rfBeg a b c d e f g h W)
 have HB := Lib.hid (fun W => rfBeg e f g h a b c d W)
 by_cases h1 : BegP a b c d e f
 · rw [decide_eq_true h1] at HA
   rw [decide_eq_true (Or.inl h1)]; exact rfOv_1 a b c d e f g h HA w
 · rw [decide_eq_false h1] at HA
   have e1 : decide (BegP a b c d e f \/ BegP e f g h a b) = decide (BegP e f g h a b) := by simp [h1]
   rw [e1]; exact rfOv_2 a b c d e f g h _ HA HB w
theorem rfTc_1 (a b c d e f g h : Int) (HO : Hid (∀ W, Calls Tryz.prog 71 #[.agg #[.int .i8 a, .int .i64 b, .int .i8 c, .int .i64 d], .agg #[.int .i8 e, .int .i64 f, .int .i8 g, .int .i64 h]] W fun o w' => o = .returned (.bool true) /\ Dn W w')) (w : World) :
  Calls Tryz.prog 49 #[.agg #[.int .i8 a, .int .i64 b, .int .i8 c, .int .i64 d], .agg #[.int .i8 e, .int .i64 f, .int .i8 g, .int .i64 h]] w fun ro w' => ro = .returned (.bool true) /\ Dn w w' := by
 go_enter Tryz.func49, Tryz.ntmps49
 go_wp2_with fail
 obtain ⟨W1, hW1, uW1, c2, c3, c4, c5, l6, c7, c8, c9, a0, a1⟩ := preKn48x1 w a b c d e f g h
 rw [<- hW1]
 clear hW1
 refine (HO.out _).mono ?_
 rintro e w1 ⟨rfl, qw1⟩
 obtain ⟨a2, a7⟩ := nl2 qw1.size l6 a1
 obtain ⟨a3, a4, a5, a6, a8, a9, aA, aB⟩ := mv8 qw1.cell c2 c3 c4 c5 c7 c8 c9 a0
 clear l6 c2 c3 c4 c5 a1 c7 c8 c9 a0
 have uw1 := uW1.trans qw1
 clear qw1 uW1
 go_wp2_with fail
 go_ret
 exact ⟨rfl, uw1⟩
theorem rfTc_2 (a b c d e f g h : Int) (HO : Hid (∀ W, Calls Tryz.prog 71 #[.agg #[.int .i8 a, .int .i64 b, .int .i8 c, .int .i64 d], .agg #[.int .i8 e, .int .i64 f, .int .i8 g, .int .i64 h]] W fun o w' => o = .returned (.bool false) /\ Dn W w')) (HA : Hid (∀ W, Calls Tryz.prog 91 #[.agg #[.int .i8 a, .int .i64 b, .int .i8 c, .int .i64 d], .agg #[.int .i8 e, .int .i64 f, .int .i8 g, .int .i64 h]] W fun o w' => o = .returned (.bool true) /\ Dn W w')) (w : World) :
  Calls Tryz.prog 49 #[.agg #[.int .i8 a, .int .i64 b, .int .i8 c, .int .i64 d], .agg #[.int .i8 e, .int .i64 f, .int .i8 g, .int .i64 h]] w fun ro w' => ro = .returned (.bool true) /\ Dn w w' := by
 go_enter Tryz.func49, Tryz.ntmps49
 go_wp2_with fail
 obtain ⟨W1, hW1, uW1, c2, c3, c4, c5, l6, c7, c8, c9, a0, a1⟩ := preKn48x1 w a b c d e f g h
 rw [<- hW1]
 clear hW1
 refine (HO.out _).mono ?_
 rintro e w1 ⟨rfl, qw1⟩
 obtain ⟨a2, a7⟩ := nl2 qw1.size l6 a1
 obtain ⟨a3, a4, a5, a6, a8, a9, aA, aB⟩ := mv8 qw1.cell c2 c3 c4 c5 c7 c8 c9 a0
 clear l6 c2 c3 c4 c5 a1 c7 c8 c9 a0
 have uw1 := uW1.trans qw1
 clear qw1 uW1
 go_wp2_with fail
 refine (HA.out _).mono ?_
 rintro e w2 ⟨rfl, qw2⟩
 obtain ⟨aC, aH⟩ := nl2 qw2.size a2 a7
 obtain ⟨aD, aE, aF, aG, aI, aJ, aK, aL⟩ := mv8 qw2.cell a3 a4 a5 a6 a8 a9 aA aB
 clear a2 a3 a4 a5 a6 a7 a8 a9 aA aB
 have uw2 := uw1.trans qw2
 clear qw2 uw1
 go_wp2_with fail
 go_ret
 exact ⟨rfl, uw2⟩
theorem rfTc_3 (a b c d e f g h : Int) (p : Bool) (HO : Hid (∀ W, Calls Tryz.prog 71 #[.agg #[.int .i8 a, .int .i64 b, .int .i8 c, .int .i64 d], .agg #[.int .i8 e, .int .i64 f, .int .i8 g, .int .i64 h]] W fun o w' => o = .returned (.bool false) /\ Dn W w')) (HA : Hid (∀ W, Calls Tryz.prog 91 #[.agg #[.int .i8 a, .int .i64 b, .int .i8 c, .int .i64 d], .agg #[.int .i8 e, .int .i64 f, .int .i8 g, .int .i64 h]] W fun o w' => o = .returned (.bool false) /\ Dn W w')) (HB : Hid (∀ W, Calls Tryz.prog 91 #[.agg #[.int .i8 e, .int .i64 f, .int .i8 g, .int .i64 h], .agg #[.int .i8 a, .int .i64 b, .int .i8 c, .int .i64 d]] W fun o w' => o = .returned (.bool p) /\ Dn W w')) (w : World) :
  Calls Tryz.prog 49 #[.agg #[.int .i8 a, .int .i64 b, .int .i8 c, .int .i64 d], .agg #[.int .i8 e, .int .i64 f, .int .i8 g, .int .i64 h]] w fun ro w' => ro = .returned (.bool p) /\ Dn w w' := by
 go_enter Tryz.func49, Tryz.ntmps49
 go_wp2_with fail
 obtain ⟨W1, hW1, uW1, c2, c3, c4, c5, l6, c7, c8, c9, a0, a1⟩ := preKn48x1 w a b c d e f g h
 rw [<- hW1]
 clear hW1
 refine (HO.out _).mono ?_
 rintro e w1 ⟨rfl, qw1⟩
 obtain ⟨a2, a7⟩ := nl2 qw1.size l6 a1
 obtain ⟨a3, a4, a5, a6, a8, a9, aA, aB⟩ := mv8 qw1.cell c2 c3 c4 c5 c7 c8 c9 a0
 clear l6 c2 c3 c4 c5 a1 c7 c8 c9 a0
 have uw1 := uW1.trans qw1
 clear qw1 uW1
 go_wp2_with fail
 refine (HA.out _).mono ?_
 rintro e w2 ⟨rfl, qw2⟩
 obtain ⟨aC, aH⟩ := nl2 qw2.size a2 a7
 obtain ⟨aD, aE, aF, aG, aI, aJ, aK, aL⟩ := mv8 qw2.cell a3 a4 a5 a6 a8 a9 aA aB
 clear a2 a3 a4 a5 a6 a7 a8 a9 aA aB
 have uw2 := uw1.trans qw2
 clear qw2 uw1
 go_wp2_with fail
 refine (HB.out _).mono ?_
 rintro e w3 ⟨rfl, qw3⟩
 obtain ⟨aM, aR⟩ := nl2 qw3.size aC aH
 obtain ⟨aN, aO, aP, aQ, aS, aT, aU, aV⟩ := mv8 qw3.cell aD aE aF aG aI aJ aK aL
 clear aC aD aE aF aG aH aI aJ aK aL
 have uw3 := uw2.trans qw3
 clear qw3 uw2
 go_wp2_with fail
 go_ret
 exact ⟨rfl, uw3⟩
theorem beg_key {a b c d e f g h : Int} (hb : I64 b) (hd : I64 d) (hf : I64 f) (hh : I64 h) (h1 : RnOk a b c d) (h2 : RnOk e f g h) : BegP a b c d e f ↔ key a b <= key e f /\ key e f <= key c d := by
 obtain ⟨o1, o2, o3, o4, o5⟩ := h1
 obtain ⟨p1, p2, p3, p4, p5⟩ := h2
 unfold BegP HasP
 unfold I64 at *
 unfold eOk at *
 unfold key at *
 split <;> omega
theorem adj_key {a b c d e f g h : Int} (hb : I64 b) (hd : I64 d) (hf : I64 f) (hh : I64 h) (h1 : RnOk a b c d) (h2 : RnOk e f g h) : AdjP c d e f ↔ key e f = key c d + 1 := by
 obtain ⟨o1, o2, o3, o4, o5⟩ := h1
 obtain ⟨p1, p2, p3, p4, p5⟩ := h2
 unfold AdjP
 unfold I64 at *
 unfold eOk at *
 unfold key at *
 omega
theorem ov_meet {a b c d e f g h : Int} (hb : I64 b) (hd : I64 d) (hf : I64 f) (hh : I64 h) (h1 : RnOk a b c d) (h2 : RnOk e f g h) : BegP a b c d e f \/ BegP e f g h a b ↔ Meet a b c d e f g h := by
 rw [beg_key hb hd hf hh h1 h2, beg_key hf hh hb hd h2 h1]
 have := h1.2.2.2.2
 have := h2.2.2.2.2
 unfold Meet
 constructor
 · intro k; exact ⟨h1, h2, by omega, by omega⟩
 · rintro ⟨_, _, _, _⟩; omega
theorem rfMeet (a b c d e f g h : Int) (w : World) (hb : I64 b) (hd : I64 d) (hf : I64 f) (hh : I64 h) (h1 : RnOk a b c d) (h2 : RnOk e f g h) :
  Calls Tryz.prog 71 #[.agg #[.int .i8 a, .int .i64 b, .int .i8 c, .int .i64 d], .agg #[.int .i8 e, .int .i64 f, .int .i8 g, .int .i64 h]] w fun ro w' => ro = .returned (.bool (decide (Meet a b c d e f g h))) /\ Dn w w' := by
 have e1 : decide (BegP a b c d e f \/ BegP e f g h a b) = decide (Meet a b c d e f g h) := decide_eq_decide.2 (ov_meet hb hd hf hh h1 h2)
 rw [<- e1]; exact rfOv a b c d e f g h w
theorem rfTouch (a b c d e f g h : Int) (w : World) (hb : I64 b) (hd : I64 d) (hf : I64 f) (hh : I64 h) (h1 : RnOk a b c d) (h2 : RnOk e f g h) :
   Calls Tryz.prog 49 #[.agg #[.int .i8 a, .int .i64 b, .int .i8 c, .int .i64 d], .agg #[.int .i8 e, .int .i64 f, .int .i8 g, .int .i64 h]] w fun ro w' => ro = .returned (.bool (decide (Tch a b c d e f g h))) /\ Dn w w' := by
 have HO := Lib.hid (fun W => rfMeet a b c d e f g h W hb hd hf hh h1 h2)
 have HA := Lib.hid (fun W => rfAdj a b c d e f g h W hd)
 have HB := Lib.hid (fun W => rfAdj e f g h a b c d W hh)
 have k1 := adj_key hb hd hf hh h1 h2
 have k2 := adj_key hf hh hb hd h2 h1
 have l1 := h1.2.2.2.2
 have l2 := h2.2.2.2.2
 have hT : Tch a b c d e f g h ↔ key e f <= key c d + 1 /\ key a b <= key g h + 1 := ⟨fun hc => hc.2.2, fun hc => ⟨h1, h2, hc⟩⟩
 have hM : Meet a b c d e f g h ↔ key e f <= key c d /\ key a b <= key g h := ⟨fun hc => hc.2.2, fun hc => ⟨h1, h2, hc⟩⟩
 by_cases m : Meet a b c d e f g h
 · rw [decide_eq_true m] at HO
   rw [decide_eq_true (by rw [hT]; have := hM.1 m; omega)]; exact rfTc_1 a b c d e f g h HO w
 · rw [decide_eq_false m] at HO
   by_cases q : AdjP c d e f
   · rw [decide_eq_true q] at HA
     rw [decide_eq_true (by rw [hT]; have := k1.1 q; omega)]; exact rfTc_2 a b c d e f g h HO HA w
   · rw [decide_eq_false q] at HA
     have e1 : decide (Tch a b c d e f g h) = decide (AdjP g h a b) := decide_eq_decide.2 (by
      rw [hT, k2]
      have n1 : ¬ (key e f <= key c d /\ key a b <= key g h) := fun hc => m (hM.2 hc)
      have n2 : ¬ key e f = key c d + 1 := fun hc => q (k1.2 hc)
      omega)
     rw [e1]; exact rfTc_3 a b c d e f g h _ HO HA HB w
theorem rfJoin_all (a b c d e f g h : Int) (m n : Int) (res : Value) (H1 : Hid (∀ W, Calls Tryz.prog 48 #[.agg #[.int .i8 e, .int .i64 f], .agg #[.int .i8 a, .int .i64 b]] W fun o w' => o = .returned (.int .i64 m) /\ Up W w')) (H2 : Hid (∀ W, Calls Tryz.prog 48 #[.agg #[.int .i8 g, .int .i64 h], .agg #[.int .i8 c, .int .i64 d]] W fun o w' => o = .returned (.int .i64 n) /\ Up W w')) (R00 : Hid (¬ m < 0 -> ¬ 0 < n -> res = .agg #[.int .i8 a, .int .i64 b, .int .i8 c, .int .i64 d])) (R01 : Hid (¬ m < 0 -> 0 < n -> res = .agg #[.int .i8 a, .int .i64 b, .int .i8 g, .int .i64 h])) (R10 : Hid (m < 0 -> ¬ 0 < n -> res = .agg #[.int .i8 e, .int .i64 f, .int .i8 c, .int .i64 d])) (R11 : Hid (m < 0 -> 0 < n -> res = .agg #[.int .i8 e, .int .i64 f, .int .i8 g, .int .i64 h])) (w : World) :
  Calls Tryz.prog 108 #[.agg #[.int .i8 a, .int .i64 b, .int .i8 c, .int .i64 d], .agg #[.int .i8 e, .int .i64 f, .int .i8 g, .int .i64 h]] w fun ro w' => ro = .returned (res) /\ Dn w w' := by
 go_enter Tryz.func108, Tryz.ntmps108
 go_wp2_with fail
 obtain ⟨W1, hW1⟩ : ∃ W1, W1 = (((w.alloc (.cells #[.int .i8 a, .int .i64 b, .int .i8 c, .int .i64 d] 45)).alloc (.cells #[.int .i8 e, .int .i64 f, .int .i8 g, .int .i64 h] 45)).alloc (.cells #[.int .i8 0, .int .i64 0, .int .i8 0, .int .i64 0] 45)).alloc (.cells #[.int .i8 a, .int .i64 b, .int .i8 c, .int .i64 d] 45) := ⟨_, rfl⟩
 have uW1 : Dn w W1 := by rw [hW1]; exact ((((Dn.refl _).alloc _).alloc _).alloc _).alloc _
 have n2 : w.heap.size ≠ w.heap.size + 1 + 1 := by omega
 have n3 : w.heap.size ≠ w.heap.size + 1 + 1 + 1 := by omega
 have n4 : w.heap.size + 1 ≠ w.heap.size + 1 + 1 := by omega
 have n5 : w.heap.size + 1 ≠ w.heap.size + 1 + 1 + 1 := by omega
 have n6 : w.heap.size + 1 + 1 ≠ w.heap.size + 1 + 1 + 1 := by omega
 have c7 : W1.cell? ⟨w.heap.size, 0, none⟩ = some (.int .i8 a) := by rw [hW1]; simp [go_sem]
 have c8 : W1.cell? ⟨w.heap.size, 1, none⟩ = some (.int .i64 b) := by rw [hW1]; simp [go_sem]
 have c9 : W1.cell? ⟨w.heap.size, 2, none⟩ = some (.int .i8 c) := by rw [hW1]; simp [go_sem]
 have aX : W1.cell? ⟨w.heap.size, 3, none⟩ = some (.int .i64 d) := by rw [hW1]; simp [go_sem]
 have aY : w.heap.size < W1.heap.size := by rw [hW1]; simp <;> omega
 have aZ : W1.cell? ⟨w.heap.size + 1, 0, none⟩ = some (.int .i8 e) := by rw [hW1]; simp [go_sem]
 have b0 : W1.cell? ⟨w.heap.size + 1, 1, none⟩ = some (.int .i64 f) := by rw [hW1]; simp [go_sem]
 have b1 : W1.cell? ⟨w.heap.size + 1, 2, none⟩ = some (.int .i8 g) := by rw [hW1]; simp [go_sem]
 have b2 : W1.cell? ⟨w.heap.size + 1, 3, none⟩ = some (.int .i64 h) := by rw [hW1]; simp [go_sem]
 have b3 : w.heap.size + 1 < W1.heap.size := by rw [hW1]; simp <;> omega
 have b4 : W1.cell? ⟨w.heap.size + 1 + 1, 0, none⟩ = some (.int .i8 0) := by rw [hW1]; simp [go_sem]
 have b5 : W1.cell? ⟨w.heap.size + 1 + 1, 1, none⟩ = some (.int .i64 0) := by rw [hW1]; simp [go_sem]
 have b6 : W1.cell? ⟨w.heap.size + 1 + 1, 2, none⟩ = some (.int .i8 0) := by rw [hW1]; simp [go_sem]
 have b7 : W1.cell? ⟨w.heap.size + 1 + 1, 3, none⟩ = some (.int .i64 0) := by rw [hW1]; simp [go_sem]
 have a2 : w.heap.size + 1 + 1 < W1.heap.size := by rw [hW1]; simp <;> omega
 have f22 : W1.frozen? ⟨w.heap.size + 1 + 1, 0, none⟩ = false := by rw [hW1]; simp [go_sem]
 have f23 : W1.frozen? ⟨w.heap.size + 1 + 1, 1, none⟩ = false := by rw [hW1]; simp [go_sem]
 have f24 : W1.frozen? ⟨w.heap.size + 1 + 1, 2, none⟩ = false := by rw [hW1]; simp [go_sem]
 have f25 : W1.frozen? ⟨w.heap.size + 1 + 1, 3, none⟩ = false := by rw [hW1]; simp [go_sem]
 have b8 : W1.cell? ⟨w.heap.size + 1 + 1 + 1, 0, none⟩ = some (.int .i8 a) := by rw [hW1]; simp [go_sem]
 have b9 : W1.cell? ⟨w.heap.size + 1 + 1 + 1, 1, none⟩ = some (.int .i64 b) := by rw [hW1]; simp [go_sem]
 have bA : W1.cell? ⟨w.heap.size + 1 + 1 + 1, 2, none⟩ = some (.int .i8 c) := by rw [hW1]; simp [go_sem]
 have bB : W1.cell? ⟨w.heap.size + 1 + 1 + 1, 3, none⟩ = some (.int .i64 d) := by rw [hW1]; simp [go_sem]
 have a3 : w.heap.size + 1 + 1 + 1 < W1.heap.size := by rw [hW1]; simp <;> omega
 have f31 : W1.frozen? ⟨w.heap.size + 1 + 1 + 1, 0, none⟩ = false := by rw [hW1]; simp [go_sem]
 have f32 : W1.frozen? ⟨w.heap.size + 1 + 1 + 1, 1, none⟩ = false := by rw [hW1]; simp [go_sem]
 have f33 : W1.frozen? ⟨w.heap.size + 1 + 1 + 1, 2, none⟩ = false := by rw [hW1]; simp [go_sem]
 have f34 : W1.frozen? ⟨w.heap.size + 1 + 1 + 1, 3, none⟩ = false := by rw [hW1]; simp [go_sem]
 rw [<- hW1]
 clear hW1
 refine (H1.out _).mono ?_
 rintro e w1 ⟨rfl, qw1⟩
 replace qw1 := qw1.dn
 obtain ⟨aE, aJ⟩ := nl2 qw1.size aY b3
 obtain ⟨aF, aG, aH, aI, aK, aL, aM, aN⟩ := mv8 qw1.cell c7 c8 c9 aX aZ b0 b1 b2
 have f45 := fz qw1 f22 a2
 have f46 := fz qw1 f23 a2
 have f47 := fz qw1 f24 a2
 have f48 := fz qw1 f25 a2
 have a0 := nlt a2 qw1.size
 obtain ⟨aO, aP, aQ, aR⟩ := mv4 qw1.cell b4 b5 b6 b7
 have f54 := fz qw1 f31 a3
 have f55 := fz qw1 f32 a3
 have f56 := fz qw1 f33 a3
 have f57 := fz qw1 f34 a3
 have a1 := nlt a3 qw1.size
 obtain ⟨aS, aT, aU, aV⟩ := mv4 qw1.cell b8 b9 bA bB
 clear aY c7 c8 c9 aX b3 aZ b0 b1 b2 f22 f23 f24 f25 a2 b4 b5 b6 b7 f31 f32 f33 f34 a3 b8 b9 bA bB
 have uw1 := uW1.trans qw1
 clear qw1 uW1
 by_cases h1 : m < 0
 ·
  have t1 : decide (m < 0) = true := by simpa using h1
  have K1 := Lib.hid h1; clear h1; go_wp2_with fail; obtain ⟨W63, hW63⟩ : ∃ W63, W63 = (w1.setCell ⟨w.heap.size + 1 + 1 + 1, 0, none⟩ (.int .i8 e)).setCell ⟨w.heap.size + 1 + 1 + 1, 1, none⟩ (.int .i64 f) := ⟨_, rfl⟩; have hC : C4 w1 (w.heap.size + 1 + 1 + 1) (.int .i8 a) (.int .i64 b) (.int .i8 c) (.int .i64 d) := ⟨aS, aT, aU, aV, f54, f55, f56, f57, a1⟩
  have hN : C4 W63 (w.heap.size + 1 + 1 + 1) (.int .i8 e) (.int .i64 f) (.int .i8 c) (.int .i64 d) := by rw [hW63]; exact hC.fill01 (.int .i8 e) (.int .i64 f)
  have uW63 : Dn w W63 := by rw [hW63]; exact (Dn.setCell (Dn.setCell uw1 (by simp <;> omega) _) (by simp <;> omega) _)
  have a6 : W63.cell? ⟨w.heap.size, 0, none⟩ = some (.int .i8 a) := by rw [hW63]; exact cell_far2 (n3) aF
  have a7 : W63.cell? ⟨w.heap.size, 1, none⟩ = some (.int .i64 b) := by rw [hW63]; exact cell_far2 (n3) aG
  have a8 : W63.cell? ⟨w.heap.size, 2, none⟩ = some (.int .i8 c) := by rw [hW63]; exact cell_far2 (n3) aH
  have a9 : W63.cell? ⟨w.heap.size, 3, none⟩ = some (.int .i64 d) := by rw [hW63]; exact cell_far2 (n3) aI
  have aW : w.heap.size < W63.heap.size := by rw [hW63]; simpa using aE
  have aA : W63.cell? ⟨w.heap.size + 1, 0, none⟩ = some (.int .i8 e) := by rw [hW63]; exact cell_far2 (n5) aK
  have aB : W63.cell? ⟨w.heap.size + 1, 1, none⟩ = some (.int .i64 f) := by rw [hW63]; exact cell_far2 (n5) aL
  have aC : W63.cell? ⟨w.heap.size + 1, 2, none⟩ = some (.int .i8 g) := by rw [hW63]; exact cell_far2 (n5) aM
  have aD : W63.cell? ⟨w.heap.size + 1, 3, none⟩ = some (.int .i64 h) := by rw [hW63]; exact cell_far2 (n5) aN
  have bC : w.heap.size + 1 < W63.heap.size := by rw [hW63]; simpa using aJ
  have bD : W63.cell? ⟨w.heap.size + 1 + 1, 0, none⟩ = some (.int .i8 0) := by rw [hW63]; exact cell_far2 (n6) aO
  have bE : W63.cell? ⟨w.heap.size + 1 + 1, 1, none⟩ = some (.int .i64 0) := by rw [hW63]; exact cell_far2 (n6) aP
  have bF : W63.cell? ⟨w.heap.size + 1 + 1, 2, none⟩ = some (.int .i8 0) := by rw [hW63]; exact cell_far2 (n6) aQ
  have bG : W63.cell? ⟨w.heap.size + 1 + 1, 3, none⟩ = some (.int .i64 0) := by rw [hW63]; exact cell_far2 (n6) aR
  have a4 : w.heap.size + 1 + 1 < W63.heap.size := by rw [hW63]; simpa using a0
  have f79 : W63.frozen? ⟨w.heap.size + 1 + 1, 0, none⟩ = false := by rw [hW63]; simpa using f45
  have f80 : W63.frozen? ⟨w.heap.size + 1 + 1, 1, none⟩ = false := by rw [hW63]; simpa using f46
  have f81 : W63.frozen? ⟨w.heap.size + 1 + 1, 2, none⟩ = false := by rw [hW63]; simpa using f47
  have f82 : W63.frozen? ⟨w.heap.size + 1 + 1, 3, none⟩ = false := by rw [hW63]; simpa using f48
  obtain ⟨bH, bI, bJ, bK, f87, f88, f89, f90, a5⟩ := hN; rw [<- hW63]; clear hW63; clear hC uw1 aS aT aU aV f54 f55 f56 f57 a1 aF aG aH aI aE aK aL aM aN aJ aO aP aQ aR a0 f45 f46 f47 f48; refine (H2.out _).mono ?_; rintro e w2 ⟨rfl, qw2⟩; replace qw2 := qw2.dn; obtain ⟨cE, cF⟩ := nl2 qw2.size aW bC; obtain ⟨bL, bM, bN, bO, bP, bQ, bR, bS⟩ := mv8 qw2.cell a6 a7 a8 a9 aA aB aC aD; have f102 := fz qw2 f79 a4; have f103 := fz qw2 f80 a4; have f104 := fz qw2 f81 a4; have f105 := fz qw2 f82 a4; have cG := nlt a4 qw2.size; obtain ⟨bT, bU, bV, bW⟩ := mv4 qw2.cell bD bE bF bG; have f111 := fz qw2 f87 a5; have f112 := fz qw2 f88 a5; have f113 := fz qw2 f89 a5; have f114 := fz qw2 f90 a5; have cH := nlt a5 qw2.size; obtain ⟨bX, bY, bZ, c0⟩ := mv4 qw2.cell bH bI bJ bK; clear aW a6 a7 a8 a9 bC aA aB aC aD f79 f80 f81 f82 a4 bD bE bF bG f87 f88 f89 f90 a5 bH bI bJ bK; have uw2 := uW63.trans qw2; clear qw2 uW63
  by_cases h2 : 0 < n
  ·
   have t2 : decide (0 < n) = true := by simpa using h2
   have K2 := Lib.hid h2; clear h2; go_wp2_with fail; exact bodyPost_ret (v := .agg #[.int .i8 e, .int .i64 f, .int .i8 g, .int .i64 h]) (by simp [results, Tryz.results108, go_sem, bL, bM, bN, bO, bP, bQ, bR, bS, bT, bU, bV, bW, bX, bY, bZ, c0, f102, f103, f104, f105, f111, f112, f113, f114] <;> omega) rfl ⟨by rw [R11.out K1.out K2.out], (Dn.setCell (Dn.setCell (Dn.setCell (Dn.setCell (Dn.setCell (Dn.setCell uw2 (by simp <;> omega) _) (by simp <;> omega) _) (by simp <;> omega) _) (by simp <;> omega) _) (by simp <;> omega) _) (by simp <;> omega) _)⟩
  ·
   have t2 : decide (0 < n) = false := by simpa using h2
   have K2 := Lib.hid h2; clear h2; go_wp2_with fail; exact bodyPost_ret (v := .agg #[.int .i8 e, .int .i64 f, .int .i8 c, .int .i64 d]) (by simp [results, Tryz.results108, go_sem, bL, bM, bN, bO, bP, bQ, bR, bS, bT, bU, bV, bW, bX, bY, bZ, c0, f102, f103, f104, f105, f111, f112, f113, f114] <;> omega) rfl ⟨by rw [R10.out K1.out K2.out], (Dn.setCell (Dn.setCell (Dn.setCell (Dn.setCell uw2 (by simp <;> omega) _) (by simp <;> omega) _) (by simp <;> omega) _) (by simp <;> omega) _)⟩
 ·
  have t1 : decide (m < 0) = false := by simpa using h1
  have K1 := Lib.hid h1; clear h1; go_wp2_with fail; refine (H2.out _).mono ?_; rintro e w2 ⟨rfl, qw2⟩; replace qw2 := qw2.dn; obtain ⟨cI, aW⟩ := nl2 qw2.size aE aJ; obtain ⟨a6, a7, a8, a9, aA, aB, aC, aD⟩ := mv8 qw2.cell aF aG aH aI aK aL aM aN; have f73 := fz qw2 f45 a0; have f74 := fz qw2 f46 a0; have f75 := fz qw2 f47 a0; have f76 := fz qw2 f48 a0; have cJ := nlt a0 qw2.size; obtain ⟨c1, c2, c4, c5⟩ := mv4 qw2.cell aO aP aQ aR; have f82 := fz qw2 f54 a1; have f83 := fz qw2 f55 a1; have f84 := fz qw2 f56 a1; have f85 := fz qw2 f57 a1; have cK := nlt a1 qw2.size; obtain ⟨c6, cA, cB, cC⟩ := mv4 qw2.cell aS aT aU aV; clear aE aF aG aH aI aJ aK aL aM aN f45 f46 f47 f48 a0 aO aP aQ aR f54 f55 f56 f57 a1 aS aT aU aV; have uw2 := uw1.trans qw2; clear qw2 uw1
  by_cases h2 : 0 < n
  ·
   have t2 : decide (0 < n) = true := by simpa using h2
   have K2 := Lib.hid h2; clear h2; go_wp2_with fail; exact bodyPost_ret (v := .agg #[.int .i8 a, .int .i64 b, .int .i8 g, .int .i64 h]) (by simp [results, Tryz.results108, go_sem, a6, a7, a8, a9, aA, aB, aC, aD, c1, c2, c4, c5, c6, cA, cB, cC, f73, f74, f75, f76, f82, f83, f84, f85] <;> omega) rfl ⟨by rw [R01.out K1.out K2.out], (Dn.setCell (Dn.setCell (Dn.setCell (Dn.setCell (Dn.setCell (Dn.setCell uw2 (by simp <;> omega) _) (by simp <;> omega) _) (by simp <;> omega) _) (by simp <;> omega) _) (by simp <;> omega) _) (by simp <;> omega) _)⟩
  ·
   have t2 : decide (0 < n) = false := by simpa using h2
   have K2 := Lib.hid h2; clear h2; go_wp2_with fail; exact bodyPost_ret (v := .agg #[.int .i8 a, .int .i64 b, .int .i8 c, .int .i64 d]) (by simp [results, Tryz.results108, go_sem, a6, a7, a8, a9, aA, aB, aC, aD, c1, c2, c4, c5, c6, cA, cB, cC, f73, f74, f75, f76, f82, f83, f84, f85] <;> omega) rfl ⟨by rw [R00.out K1.out K2.out], (Dn.setCell (Dn.setCell (Dn.setCell (Dn.setCell uw2 (by simp <;> omega) _) (by simp <;> omega) _) (by simp <;> omega) _) (by simp <;> omega) _)⟩
theorem rfJoin (a b c d e f g h : Int) (w : World) :
  Calls Tryz.prog 108 #[.agg #[.int .i8 a, .int .i64 b, .int .i8 c, .int .i64 d], .agg #[.int .i8 e, .int .i64 f, .int .i8 g, .int .i64 h]] w fun ro w' => ro = .returned (.agg #[.int .i8 (mnI a b e f), .int .i64 (mnD a b e f), .int .i8 (mxI c d g h), .int .i64 (mxD c d g h)]) /\ Dn w w' := by
 have H1 := Lib.hid (fun W => rCmp8 e f a b W)
 have H2 := Lib.hid (fun W => rCmp8 g h c d W)
 exact rfJoin_all a b c d e f g h _ _ _ H1 H2 (Lib.hid fun h1 h2 => by unfold mnI mnD mxI mxD; rw [if_neg h1, if_neg h1, if_neg h2, if_neg h2]) (Lib.hid fun h1 h2 => by unfold mnI mnD mxI mxD; rw [if_neg h1, if_neg h1, if_pos h2, if_pos h2]) (Lib.hid fun h1 h2 => by unfold mnI mnD mxI mxD; rw [if_pos h1, if_pos h1, if_neg h2, if_neg h2]) (Lib.hid fun h1 h2 => by unfold mnI mnD mxI mxD; rw [if_pos h1, if_pos h1, if_pos h2, if_pos h2]) w
theorem rfCommon_all (a b c d e f g h : Int) (m n : Int) (res : Value) (H1 : Hid (∀ W, Calls Tryz.prog 48 #[.agg #[.int .i8 e, .int .i64 f], .agg #[.int .i8 a, .int .i64 b]] W fun o w' => o = .returned (.int .i64 m) /\ Up W w')) (H2 : Hid (∀ W, Calls Tryz.prog 48 #[.agg #[.int .i8 g, .int .i64 h], .agg #[.int .i8 c, .int .i64 d]] W fun o w' => o = .returned (.int .i64 n) /\ Up W w')) (R00 : Hid (¬ 0 < m -> ¬ n < 0 -> res = .agg #[.int .i8 a, .int .i64 b, .int .i8 c, .int .i64 d])) (R01 : Hid (¬ 0 < m -> n < 0 -> res = .agg #[.int .i8 a, .int .i64 b, .int .i8 g, .int .i64 h])) (R10 : Hid (0 < m -> ¬ n < 0 -> res = .agg #[.int .i8 e, .int .i64 f, .int .i8 c, .int .i64 d])) (R11 : Hid (0 < m -> n < 0 -> res = .agg #[.int .i8 e, .int .i64 f, .int .i8 g, .int .i64 h])) (w : World) :
  Calls Tryz.prog 72 #[.agg #[.int .i8 a, .int .i64 b, .int .i8 c, .int .i64 d], .agg #[.int .i8 e, .int .i64 f, .int .i8 g, .int .i64 h]] w fun ro w' => ro = .returned (res) /\ Dn w w' := by
 go_enter Tryz.func72, Tryz.ntmps72
 go_wp2_with fail
 obtain ⟨W1, hW1⟩ : ∃ W1, W1 = (((w.alloc (.cells #[.int .i8 a, .int .i64 b, .int .i8 c, .int .i64 d] 45)).alloc (.cells #[.int .i8 e, .int .i64 f, .int .i8 g, .int .i64 h] 45)).alloc (.cells #[.int .i8 0, .int .i64 0, .int .i8 0, .int .i64 0] 45)).alloc (.cells #[.int .i8 a, .int .i64 b, .int .i8 c, .int .i64 d] 45) := ⟨_, rfl⟩
 have uW1 : Dn w W1 := by rw [hW1]; exact ((((Dn.refl _).alloc _).alloc _).alloc _).alloc _
 have n2 : w.heap.size ≠ w.heap.size + 1 + 1 := by omega
 have n3 : w.heap.size ≠ w.heap.size + 1 + 1 + 1 := by omega
 have n4 : w.heap.size + 1 ≠ w.heap.size + 1 + 1 := by omega
 have n5 : w.heap.size + 1 ≠ w.heap.size + 1 + 1 + 1 := by omega
 have n6 : w.heap.size + 1 + 1 ≠ w.heap.size + 1 + 1 + 1 := by omega
 have c7 : W1.cell? ⟨w.heap.size, 0, none⟩ = some (.int .i8 a) := by rw [hW1]; simp [go_sem]
 have c8 : W1.cell? ⟨w.heap.size, 1, none⟩ = some (.int .i64 b) := by rw [hW1]; simp [go_sem]
 have c9 : W1.cell? ⟨w.heap.size, 2, none⟩ = some (.int .i8 c) := by rw [hW1]; simp [go_sem]
 have aX : W1.cell? ⟨w.heap.size, 3, none⟩ = some (.int .i64 d) := by rw [hW1]; simp [go_sem]
 have aY : w.heap.size < W1.heap.size := by rw [hW1]; simp <;> omega
 have aZ : W1.cell? ⟨w.heap.size + 1, 0, none⟩ = some (.int .i8 e) := by rw [hW1]; simp [go_sem]
 have b0 : W1.cell? ⟨w.heap.size + 1, 1, none⟩ = some (.int .i64 f) := by rw [hW1]; simp [go_sem]
 have b1 : W1.cell? ⟨w.heap.size + 1, 2, none⟩ = some (.int .i8 g) := by rw [hW1]; simp [go_sem]
 have b2 : W1.cell? ⟨w.heap.size + 1, 3, none⟩ = some (.int .i64 h) := by rw [hW1]; simp [go_sem]
 have b3 : w.heap.size + 1 < W1.heap.size := by rw [hW1]; simp <;> omega
 have b4 : W1.cell? ⟨w.heap.size + 1 + 1, 0, none⟩ = some (.int .i8 0) := by rw [hW1]; simp [go_sem]
 have b5 : W1.cell? ⟨w.heap.size + 1 + 1, 1, none⟩ = some (.int .i64 0) := by rw [hW1]; simp [go_sem]
 have b6 : W1.cell? ⟨w.heap.size + 1 + 1, 2, none⟩ = some (.int .i8 0) := by rw [hW1]; simp [go_sem]
 have b7 : W1.cell? ⟨w.heap.size + 1 + 1, 3, none⟩ = some (.int .i64 0) := by rw [hW1]; simp [go_sem]
 have a2 : w.heap.size + 1 + 1 < W1.heap.size := by rw [hW1]; simp <;> omega
 have f22 : W1.frozen? ⟨w.heap.size + 1 + 1, 0, none⟩ = false := by rw [hW1]; simp [go_sem]
 have f23 : W1.frozen? ⟨w.heap.size + 1 + 1, 1, none⟩ = false := by rw [hW1]; simp [go_sem]
 have f24 : W1.frozen? ⟨w.heap.size + 1 + 1, 2, none⟩ = false := by rw [hW1]; simp [go_sem]
 have f25 : W1.frozen? ⟨w.heap.size + 1 + 1, 3, none⟩ = false := by rw [hW1]; simp [go_sem]
 have b8 : W1.cell? ⟨w.heap.size + 1 + 1 + 1, 0, none⟩ = some (.int .i8 a) := by rw [hW1]; simp [go_sem]
 have b9 : W1.cell? ⟨w.heap.size + 1 + 1 + 1, 1, none⟩ = some (.int .i64 b) := by rw [hW1]; simp [go_sem]
 have bA : W1.cell? ⟨w.heap.size + 1 + 1 + 1, 2, none⟩ = some (.int .i8 c) := by rw [hW1]; simp [go_sem]
 have bB : W1.cell? ⟨w.heap.size + 1 + 1 + 1, 3, none⟩ = some (.int .i64 d) := by rw [hW1]; simp [go_sem]
 have a3 : w.heap.size + 1 + 1 + 1 < W1.heap.size := by rw [hW1]; simp <;> omega
 have f31 : W1.frozen? ⟨w.heap.size + 1 + 1 + 1, 0, none⟩ = false := by rw [hW1]; simp [go_sem]
 have f32 : W1.frozen? ⟨w.heap.size + 1 + 1 + 1, 1, none⟩ = false := by rw [hW1]; simp [go_sem]
 have f33 : W1.frozen? ⟨w.heap.size + 1 + 1 + 1, 2, none⟩ = false := by rw [hW1]; simp [go_sem]
 have f34 : W1.frozen? ⟨w.heap.size + 1 + 1 + 1, 3, none⟩ = false := by rw [hW1]; simp [go_sem]
 rw [<- hW1]
 clear hW1
 refine (H1.out _).mono ?_
 rintro e w1 ⟨rfl, qw1⟩
 replace qw1 := qw1.dn
 obtain ⟨aE, aJ⟩ := nl2 qw1.size aY b3
 obtain ⟨aF, aG, aH, aI, aK, aL, aM, aN⟩ := mv8 qw1.cell c7 c8 c9 aX aZ b0 b1 b2
 have f45 := fz qw1 f22 a2
 have f46 := fz qw1 f23 a2
 have f47 := fz qw1 f24 a2
 have f48 := fz qw1 f25 a2
 have a0 := nlt a2 qw1.size
 obtain ⟨aO, aP, aQ, aR⟩ := mv4 qw1.cell b4 b5 b6 b7
 have f54 := fz qw1 f31 a3
 have f55 := fz qw1 f32 a3
 have f56 := fz qw1 f33 a3
 have f57 := fz qw1 f34 a3
 have a1 := nlt a3 qw1.size
 obtain ⟨aS, aT, aU, aV⟩ := mv4 qw1.cell b8 b9 bA bB
 clear aY c7 c8 c9 aX b3 aZ b0 b1 b2 f22 f23 f24 f25 a2 b4 b5 b6 b7 f31 f32 f33 f34 a3 b8 b9 bA bB
 have uw1 := uW1.trans qw1
 clear qw1 uW1
 by_cases h1 : 0 < m
 ·
  have t1 : decide (0 < m) = true := by simpa using h1
  have K1 := Lib.hid h1; clear h1; go_wp2_with fail; obtain ⟨W63, hW63⟩ : ∃ W63, W63 = (w1.setCell ⟨w.heap.size + 1 + 1 + 1, 0, none⟩ (.int .i8 e)).setCell ⟨w.heap.size + 1 + 1 + 1, 1, none⟩ (.int .i64 f) := ⟨_, rfl⟩; have hC : C4 w1 (w.heap.size + 1 + 1 + 1) (.int .i8 a) (.int .i64 b) (.int .i8 c) (.int .i64 d) := ⟨aS, aT, aU, aV, f54, f55, f56, f57, a1⟩
  have hN : C4 W63 (w.heap.size + 1 + 1 + 1) (.int .i8 e) (.int .i64 f) (.int .i8 c) (.int .i64 d) := by rw [hW63]; exact hC.fill01 (.int .i8 e) (.int .i64 f)
  have uW63 : Dn w W63 := by rw [hW63]; exact (Dn.setCell (Dn.setCell uw1 (by simp <;> omega) _) (by simp <;> omega) _)
  have a6 : W63.cell? ⟨w.heap.size, 0, none⟩ = some (.int .i8 a) := by rw [hW63]; exact cell_far2 (n3) aF
  have a7 : W63.cell? ⟨w.heap.size, 1, none⟩ = some (.int .i64 b) := by rw [hW63]; exact cell_far2 (n3) aG
  have a8 : W63.cell? ⟨w.heap.size, 2, none⟩ = some (.int .i8 c) := by rw [hW63]; exact cell_far2 (n3) aH
  have a9 : W63.cell? ⟨w.heap.size, 3, none⟩ = some (.int .i64 d) := by rw [hW63]; exact cell_far2 (n3) aI
  have aW : w.heap.size < W63.heap.size := by rw [hW63]; simpa using aE
  have aA : W63.cell? ⟨w.heap.size + 1, 0, none⟩ = some (.int .i8 e) := by rw [hW63]; exact cell_far2 (n5) aK
  have aB : W63.cell? ⟨w.heap.size + 1, 1, none⟩ = some (.int .i64 f) := by rw [hW63]; exact cell_far2 (n5) aL
  have aC : W63.cell? ⟨w.heap.size + 1, 2, none⟩ = some (.int .i8 g) := by rw [hW63]; exact cell_far2 (n5) aM
  have aD : W63.cell? ⟨w.heap.size + 1, 3, none⟩ = some (.int .i64 h) := by rw [hW63]; exact cell_far2 (n5) aN
  have bC : w.heap.size + 1 < W63.heap.size := by rw [hW63]; simpa using aJ
  have bD : W63.cell? ⟨w.heap.size + 1 + 1, 0, none⟩ = some (.int .i8 0) := by rw [hW63]; exact cell_far2 (n6) aO
  have bE : W63.cell? ⟨w.heap.size + 1 + 1, 1, none⟩ = some (.int .i64 0) := by rw [hW63]; exact cell_far2 (n6) aP
  have bF : W63.cell? ⟨w.heap.size + 1 + 1, 2, none⟩ = some (.int .i8 0) := by rw [hW63]; exact cell_far2 (n6) aQ
  have bG : W63.cell? ⟨w.heap.size + 1 + 1, 3, none⟩ = some (.int .i64 0) := by rw [hW63]; exact cell_far2 (n6) aR
  have a4 : w.heap.size + 1 + 1 < W63.heap.size := by rw [hW63]; simpa using a0
  have f79 : W63.frozen? ⟨w.heap.size + 1 + 1, 0, none⟩ = false := by rw [hW63]; simpa using f45
  have f80 : W63.frozen? ⟨w.heap.size + 1 + 1, 1, none⟩ = false := by rw [hW63]; simpa using f46
  have f81 : W63.frozen? ⟨w.heap.size + 1 + 1, 2, none⟩ = false := by rw [hW63]; simpa using f47
  have f82 : W63.frozen? ⟨w.heap.size + 1 + 1, 3, none⟩ = false := by rw [hW63]; simpa using f48
  obtain ⟨bH, bI, bJ, bK, f87, f88, f89, f90, a5⟩ := hN; rw [<- hW63]; clear hW63; clear hC uw1 aS aT aU aV f54 f55 f56 f57 a1 aF aG aH aI aE aK aL aM aN aJ aO aP aQ aR a0 f45 f46 f47 f48; refine (H2.out _).mono ?_; rintro e w2 ⟨rfl, qw2⟩; replace qw2 := qw2.dn; obtain ⟨cE, cF⟩ := nl2 qw2.size aW bC; obtain ⟨bL, bM, bN, bO, bP, bQ, bR, bS⟩ := mv8 qw2.cell a6 a7 a8 a9 aA aB aC aD; have f102 := fz qw2 f79 a4; have f103 := fz qw2 f80 a4; have f104 := fz qw2 f81 a4; have f105 := fz qw2 f82 a4; have cG := nlt a4 qw2.size; obtain ⟨bT, bU, bV, bW⟩ := mv4 qw2.cell bD bE bF bG; have f111 := fz qw2 f87 a5; have f112 := fz qw2 f88 a5; have f113 := fz qw2 f89 a5; have f114 := fz qw2 f90 a5; have cH := nlt a5 qw2.size; obtain ⟨bX, bY, bZ, c0⟩ := mv4 qw2.cell bH bI bJ bK; clear aW a6 a7 a8 a9 bC aA aB aC aD f79 f80 f81 f82 a4 bD bE bF bG f87 f88 f89 f90 a5 bH bI bJ bK; have uw2 := uW63.trans qw2; clear qw2 uW63
  by_cases h2 : n < 0
  ·
   have t2 : decide (n < 0) = true := by simpa using h2
   have K2 := Lib.hid h2; clear h2; go_wp2_with fail; exact bodyPost_ret (v := .agg #[.int .i8 e, .int .i64 f, .int .i8 g, .int .i64 h]) (by simp [results, Tryz.results72, go_sem, bL, bM, bN, bO, bP, bQ, bR, bS, bT, bU, bV, bW, bX, bY, bZ, c0, f102, f103, f104, f105, f111, f112, f113, f114] <;> omega) rfl ⟨by rw [R11.out K1.out K2.out], (Dn.setCell (Dn.setCell (Dn.setCell (Dn.setCell (Dn.setCell (Dn.setCell uw2 (by simp <;> omega) _) (by simp <;> omega) _) (by simp <;> omega) _) (by simp <;> omega) _) (by simp <;> omega) _) (by simp <;> omega) _)⟩
  ·
   have t2 : decide (n < 0) = false := by simpa using h2
   have K2 := Lib.hid h2; clear h2; go_wp2_with fail; exact bodyPost_ret (v := .agg #[.int .i8 e, .int .i64 f, .int .i8 c, .int .i64 d]) (by simp [results, Tryz.results72, go_sem, bL, bM, bN, bO, bP, bQ, bR, bS, bT, bU, bV, bW, bX, bY, bZ, c0, f102, f103, f104, f105, f111, f112, f113, f114] <;> omega) rfl ⟨by rw [R10.out K1.out K2.out], (Dn.setCell (Dn.setCell (Dn.setCell (Dn.setCell uw2 (by simp <;> omega) _) (by simp <;> omega) _) (by simp <;> omega) _) (by simp <;> omega) _)⟩
 ·
  have t1 : decide (0 < m) = false := by simpa using h1
  have K1 := Lib.hid h1; clear h1; go_wp2_with fail; refine (H2.out _).mono ?_; rintro e w2 ⟨rfl, qw2⟩; replace qw2 := qw2.dn; obtain ⟨cI, aW⟩ := nl2 qw2.size aE aJ; obtain ⟨a6, a7, a8, a9, aA, aB, aC, aD⟩ := mv8 qw2.cell aF aG aH aI aK aL aM aN; have f73 := fz qw2 f45 a0; have f74 := fz qw2 f46 a0; have f75 := fz qw2 f47 a0; have f76 := fz qw2 f48 a0; have cJ := nlt a0 qw2.size; obtain ⟨c1, c2, c4, c5⟩ := mv4 qw2.cell aO aP aQ aR; have f82 := fz qw2 f54 a1; have f83 := fz qw2 f55 a1; have f84 := fz qw2 f56 a1; have f85 := fz qw2 f57 a1; have cK := nlt a1 qw2.size; obtain ⟨c6, cA, cB, cC⟩ := mv4 qw2.cell aS aT aU aV; clear aE aF aG aH aI aJ aK aL aM aN f45 f46 f47 f48 a0 aO aP aQ aR f54 f55 f56 f57 a1 aS aT aU aV; have uw2 := uw1.trans qw2; clear qw2 uw1
  by_cases h2 : n < 0
  ·
   have t2 : decide (n < 0) = true := by simpa using h2
   have K2 := Lib.hid h2; clear h2; go_wp2_with fail; exact bodyPost_ret (v := .agg #[.int .i8 a, .int .i64 b, .int .i8 g, .int .i64 h]) (by simp [results, Tryz.results72, go_sem, a6, a7, a8, a9, aA, aB, aC, aD, c1, c2, c4, c5, c6, cA, cB, cC, f73, f74, f75, f76, f82, f83, f84, f85] <;> omega) rfl ⟨by rw [R01.out K1.out K2.out], (Dn.setCell (Dn.setCell (Dn.setCell (Dn.setCell (Dn.setCell (Dn.setCell uw2 (by simp <;> omega) _) (by simp <;> omega) _) (by simp <;> omega) _) (by simp <;> omega) _) (by simp <;> omega) _) (by simp <;> omega) _)⟩
  ·
   have t2 : decide (n < 0) = false := by simpa using h2
   have K2 := Lib.hid h2; clear h2; go_wp2_with fail; exact bodyPost_ret (v := .agg #[.int .i8 a, .int .i64 b, .int .i8 c, .int .i64 d]) (by simp [results, Tryz.results72, go_sem, a6, a7, a8, a9, aA, aB, aC, aD, c1, c2, c4, c5, c6, cA, cB, cC, f73, f74, f75, f76, f82, f83, f84, f85] <;> omega) rfl ⟨by rw [R00.out K1.out K2.out], (Dn.setCell (Dn.setCell (Dn.setCell (Dn.setCell uw2 (by simp <;> omega) _) (by simp <;> omega) _) (by simp <;> omega) _) (by simp <;> omega) _)⟩
theorem rfCommon (a b c d e f g h : Int) (w : World) :
  Calls Tryz.prog 72 #[.agg #[.int .i8 a, .int .i64 b, .int .i8 c, .int .i64 d], .agg #[.int .i8 e, .int .i64 f, .int .i8 g, .int .i64 h]] w fun ro w' => ro = .returned (.agg #[.int .i8 (mxI a b e f), .int .i64 (mxD a b e f), .int .i8 (mnI c d g h), .int .i64 (mnD c d g h)]) /\ Dn w w' := by
 have H1 := Lib.hid (fun W => rCmp8 e f a b W)
 have H2 := Lib.hid (fun W => rCmp8 g h c d W)
 exact rfCommon_all a b c d e f g h _ _ _ H1 H2 (Lib.hid fun h1 h2 => by unfold mnI mnD mxI mxD; rw [if_neg h1, if_neg h1, if_neg h2, if_neg h2]) (Lib.hid fun h1 h2 => by unfold mnI mnD mxI mxD; rw [if_neg h1, if_neg h1, if_pos h2, if_pos h2]) (Lib.hid fun h1 h2 => by unfold mnI mnD mxI mxD; rw [if_pos h1, if_pos h1, if_neg h2, if_neg h2]) (Lib.hid fun h1 h2 => by unfold mnI mnD mxI mxD; rw [if_pos h1, if_pos h1, if_pos h2, if_pos h2]) w
theorem rfCmp_1 (a b c d e f g h : Int) (m : Int) (H1 : Hid (∀ W, Calls Tryz.prog 48 #[.agg #[.int .i8 a, .int .i64 b], .agg #[.int .i8 e, .int .i64 f]] W fun o w' => o = .returned (.int .i64 m) /\ Up W w')) (h1 : a ≠ e) (w : World) :
  Calls Tryz.prog 109 #[.agg #[.int .i8 a, .int .i64 b, .int .i8 c, .int .i64 d], .agg #[.int .i8 e, .int .i64 f, .int .i8 g, .int .i64 h]] w fun ro w' => ro = .returned (.int .i64 m) /\ Dn w w' := by
 have t1 : (a == e) = false := by simpa using h1
 clear h1
 go_enter Tryz.func109, Tryz.ntmps109
 go_wp2_with fail
 obtain ⟨W1, hW1, uW1, c2, c3, c4, c5, l6, c7, c8, c9, a0, a1⟩ := preKn48x1 w a b c d e f g h
 rw [<- hW1]
 clear hW1
 refine (H1.out _).mono ?_
 rintro e w1 ⟨rfl, qw1⟩
 replace qw1 := qw1.dn
 obtain ⟨a2, a7⟩ := nl2 qw1.size l6 a1
 obtain ⟨a3, a4, a5, a6, a8, a9, aA, aB⟩ := mv8 qw1.cell c2 c3 c4 c5 c7 c8 c9 a0
 clear l6 c2 c3 c4 c5 a1 c7 c8 c9 a0
 have uw1 := uW1.trans qw1
 clear qw1 uW1
 go_wp2_with fail
 go_ret
 exact ⟨rfl, uw1⟩
theorem rfCmp_2 (a b c d e f g h : Int) (m : Int) (H1 : Hid (∀ W, Calls Tryz.prog 48 #[.agg #[.int .i8 a, .int .i64 b], .agg #[.int .i8 e, .int .i64 f]] W fun o w' => o = .returned (.int .i64 m) /\ Up W w')) (h1 : a = e) (h2 : b ≠ f) (w : World) :
  Calls Tryz.prog 109 #[.agg #[.int .i8 a, .int .i64 b, .int .i8 c, .int .i64 d], .agg #[.int .i8 e, .int .i64 f, .int .i8 g, .int .i64 h]] w fun ro w' => ro = .returned (.int .i64 m) /\ Dn w w' := by
 have t1 : (a == e) = true := by simpa using h1
 have t2 : (b == f) = false := by simpa using h2
 clear h1 h2
 go_enter Tryz.func109, Tryz.ntmps109
 go_wp2_with fail
 obtain ⟨W1, hW1, uW1, c2, c3, c4, c5, l6, c7, c8, c9, a0, a1⟩ := preKn48x1 w a b c d e f g h
 rw [<- hW1]
 clear hW1
 refine (H1.out _).mono ?_
 rintro e w1 ⟨rfl, qw1⟩
 replace qw1 := qw1.dn
 obtain ⟨a2, a7⟩ := nl2 qw1.size l6 a1
 obtain ⟨a3, a4, a5, a6, a8, a9, aA, aB⟩ := mv8 qw1.cell c2 c3 c4 c5 c7 c8 c9 a0
 clear l6 c2 c3 c4 c5 a1 c7 c8 c9 a0
 have uw1 := uW1.trans qw1
 clear qw1 uW1
 go_wp2_with fail
 go_ret
 exact ⟨rfl, uw1⟩
theorem rfCmp_3 (a b c d e f g h : Int) (m : Int) (H1 : Hid (∀ W, Calls Tryz.prog 48 #[.agg #[.int .i8 c, .int .i64 d], .agg #[.int .i8 g, .int .i64 h]] W fun o w' => o = .returned (.int .i64 m) /\ Up W w')) (h1 : a = e) (h2 : b = f) (w : World) :
  Calls Tryz.prog 109 #[.agg #[.int .i8 a, .int .i64 b, .int .i8 c, .int .i64 d], .agg #[.int .i8 e, .int .i64 f, .int .i8 g, .int .i64 h]] w fun ro w' => ro = .returned (.int .i64 m) /\ Dn w w' := by
 have t1 : (a == e) = true := by simpa using h1
 have t2 : (b == f) = true := by simpa using h2
 clear h1 h2
 go_enter Tryz.func109, Tryz.ntmps109
 go_wp2_with fail
 obtain ⟨W1, hW1, uW1, c2, c3, c4, c5, l6, c7, c8, c9, a0, a1⟩ := preKn48x1 w a b c d e f g h
 rw [<- hW1]
 clear hW1
 refine (H1.out _).mono ?_
 rintro e w1 ⟨rfl, qw1⟩
 replace qw1 := qw1.dn
 obtain ⟨a2, a7⟩ := nl2 qw1.size l6 a1
 obtain ⟨a3, a4, a5, a6, a8, a9, aA, aB⟩ := mv8 qw1.cell c2 c3 c4 c5 c7 c8 c9 a0
 clear l6 c2 c3 c4 c5 a1 c7 c8 c9 a0
 have uw1 := uW1.trans qw1
 clear qw1 uW1
 go_wp2_with fail
 go_ret
 exact ⟨rfl, uw1⟩
theorem eC_zero {i d j f : Int} : eC i d j f = 0 ↔ i = j /\ d = f := by
 unfold eC c3
 repeat' split
 all_goals omega
theorem rfCmp (a b c d e f g h : Int) (w : World) :
   Calls Tryz.prog 109 #[.agg #[.int .i8 a, .int .i64 b, .int .i8 c, .int .i64 d], .agg #[.int .i8 e, .int .i64 f, .int .i8 g, .int .i64 h]] w fun ro w' => ro = .returned (.int .i64 (or2 (eC a b e f) (eC c d g h))) /\ Dn w w' := by
 have H1 := Lib.hid (fun W => rCmp8 a b e f W)
 have H2 := Lib.hid (fun W => rCmp8 c d g h W)
 unfold or2
 have k := eC_zero (i := a) (d := b) (j := e) (f := f)
 by_cases h1 : a = e
 · by_cases h2 : b = f
   · rw [if_neg (by simp [k.2 ⟨h1, h2⟩])]; exact rfCmp_3 a b c d e f g h _ H2 h1 h2 w
   · rw [if_pos (fun hc => h2 (k.1 hc).2)]; exact rfCmp_2 a b c d e f g h _ H1 h1 h2 w
 · rw [if_pos (fun hc => h1 (k.1 hc).1)]; exact rfCmp_1 a b c d e f g h _ H1 h1 w
theorem rfWi_no (a b c d e f g h : Int) (q0 q1 q2 q3 : Int) (HO : Hid (∀ W, Calls Tryz.prog 71 #[.agg #[.int .i8 a, .int .i64 b, .int .i8 c, .int .i64 d], .agg #[.int .i8 e, .int .i64 f, .int .i8 g, .int .i64 h]] W fun o w' => o = .returned (.bool false) /\ Dn W w')) (w : World) :
   Calls Tryz.prog 74 #[.agg #[.int .i8 a, .int .i64 b, .int .i8 c, .int .i64 d], .agg #[.int .i8 e, .int .i64 f, .int .i8 g, .int .i64 h]] w fun ro w' => ro = .returned (.bool false) /\ Dn w w' := by
 go_enter Tryz.func74, Tryz.ntmps74
 go_wp2_with fail
 obtain ⟨W1, hW1, uW1, c2, c3, c4, c5, l6, c7, c8, c9, a0, a1⟩ := preKn48x1 w a b c d e f g h
 rw [<- hW1]
 clear hW1
 have hS12 := kd_8 (W := W1) (Dn.refl _) ⟨Dn.refl _, c2, c3, c4, c5, c7, c8, c9, a0⟩
 have HShS12 := Lib.hid hS12
 clear c2 c3 c4 c5 c7 c8 c9 a0
 refine wp_region_held_drew (S := fun w' => Dn W1 w' /\ w'.cell? ⟨w.heap.size, 0, none⟩ = some (.int .i8 a) /\ w'.cell? ⟨w.heap.size, 1, none⟩ = some (.int .i64 b) /\ w'.cell? ⟨w.heap.size, 2, none⟩ = some (.int .i8 c) /\ w'.cell? ⟨w.heap.size, 3, none⟩ = some (.int .i64 d) /\ w'.cell? ⟨w.heap.size + 1, 0, none⟩ = some (.int .i8 e) /\ w'.cell? ⟨w.heap.size + 1, 1, none⟩ = some (.int .i64 f) /\ w'.cell? ⟨w.heap.size + 1, 2, none⟩ = some (.int .i8 g) /\ w'.cell? ⟨w.heap.size + 1, 3, none⟩ = some (.int .i64 h)) (by kernel_rfl) ?_ (fun hHeld => ?_)
 · (try dsimp only); (exact ke kd_8)
 refine tS 0 rfl ?_
 refine tS 1 rfl ?_
 refine rD 2 rfl (fun K hK => ?_)
 go_simp
 (go_at_call 71; refine (HO.out _).mono ?_; rintro e wa ⟨rfl, qa⟩)
 try go_wp2_with fail
 refine hK.out _ _ ?_ (fun hHeld => ?_)
 · (try dsimp only); (exact ke kd_8)
 clear hK K
 try simp only [Act.put, pL]
 refine tS 3 rfl ?_
 refine tV 4 rfl ?_
 refine tV 5 rfl ?_
 refine tV 6 rfl ?_
 refine tV 7 rfl ?_
 refine tV 8 rfl ?_
 refine tS 9 rfl ?_
 refine tS 10 rfl ?_
 refine wpAnyH_done (by kernel_rfl) ?_ _
 all_goals skip
 all_goals
   clear hS12; obtain ⟨uf21, a2, a3, a4, a5, a6, a7, a8, a9⟩ := (‹Dn W1 _ /\ _› : _ /\ _); obtain ⟨w22, rfl⟩ : ∃ w22 : World, w22 = wa := ⟨_, rfl⟩; have aA := nlt l6 uf21.size; clear l6; have aB := nlt a1 uf21.size; clear a1; have vuf21 := uW1.trans uf21; clear uf21 uW1 HShS12; go_wp2_with fail; go_ret; exact ⟨rfl, vuf21⟩
theorem rfWi_eq (a b c d e f g h : Int) (q0 q1 q2 q3 : Int) (HO : Hid (∀ W, Calls Tryz.prog 71 #[.agg #[.int .i8 a, .int .i64 b, .int .i8 c, .int .i64 d], .agg #[.int .i8 e, .int .i64 f, .int .i8 g, .int .i64 h]] W fun o w' => o = .returned (.bool true) /\ Dn W w')) (HJ : Hid (∀ W, Calls Tryz.prog 108 #[.agg #[.int .i8 a, .int .i64 b, .int .i8 c, .int .i64 d], .agg #[.int .i8 e, .int .i64 f, .int .i8 g, .int .i64 h]] W fun o w' => o = .returned (.agg #[.int .i8 e, .int .i64 f, .int .i8 g, .int .i64 h]) /\ Dn W w')) (w : World) :
   Calls Tryz.prog 74 #[.agg #[.int .i8 a, .int .i64 b, .int .i8 c, .int .i64 d], .agg #[.int .i8 e, .int .i64 f, .int .i8 g, .int .i64 h]] w fun ro w' => ro = .returned (.bool true) /\ Dn w w' := by
 go_enter Tryz.func74, Tryz.ntmps74
 go_wp2_with fail
 obtain ⟨W1, hW1, uW1, c2, c3, c4, c5, l6, c7, c8, c9, a0, a1⟩ := preKn48x1 w a b c d e f g h
 rw [<- hW1]
 clear hW1
 have hS12 := kd_8 (W := W1) (Dn.refl _) ⟨Dn.refl _, c2, c3, c4, c5, c7, c8, c9, a0⟩
 have HShS12 := Lib.hid hS12
 clear c2 c3 c4 c5 c7 c8 c9 a0
 refine wp_region_held_drew (S := fun w' => Dn W1 w' /\ w'.cell? ⟨w.heap.size, 0, none⟩ = some (.int .i8 a) /\ w'.cell? ⟨w.heap.size, 1, none⟩ = some (.int .i64 b) /\ w'.cell? ⟨w.heap.size, 2, none⟩ = some (.int .i8 c) /\ w'.cell? ⟨w.heap.size, 3, none⟩ = some (.int .i64 d) /\ w'.cell? ⟨w.heap.size + 1, 0, none⟩ = some (.int .i8 e) /\ w'.cell? ⟨w.heap.size + 1, 1, none⟩ = some (.int .i64 f) /\ w'.cell? ⟨w.heap.size + 1, 2, none⟩ = some (.int .i8 g) /\ w'.cell? ⟨w.heap.size + 1, 3, none⟩ = some (.int .i64 h)) (by kernel_rfl) ?_ (fun hHeld => ?_)
 · (try dsimp only); (exact ke kd_8)
 refine tS 0 rfl ?_
 refine tS 1 rfl ?_
 refine rD 2 rfl (fun K hK => ?_)
 go_simp
 (first | (go_at_call 71; refine (HO.out _).mono ?_; rintro e wa ⟨rfl, qa⟩) | (go_at_call 108; refine (HJ.out _).mono ?_; rintro e wa ⟨rfl, qa⟩))
 try go_wp2_with fail
 refine hK.out _ _ ?_ (fun hHeld => ?_)
 · (try dsimp only); (exact ke kd_8)
 clear hK K
 try simp only [Act.put, pL]
 refine tS 3 rfl ?_
 refine tS 4 rfl ?_
 refine tS 5 rfl ?_
 refine tS 7 rfl ?_
 refine rD 6 rfl (fun K hK => ?_)
 go_simp
 (first | (go_at_call 71; refine (HO.out _).mono ?_; rintro e wa ⟨rfl, qa⟩) | (go_at_call 108; refine (HJ.out _).mono ?_; rintro e wa ⟨rfl, qa⟩))
 try go_wp2_with fail
 refine hK.out _ _ ?_ (fun hHeld => ?_)
 · (try dsimp only); (exact ke kd_8)
 clear hK K
 try simp only [Act.put, pL]
 refine tS 8 rfl ?_
 refine tS 9 rfl ?_
 refine tS 10 rfl ?_
 refine wpAnyH_done (by kernel_rfl) ?_ _
 all_goals skip
 all_goals
   clear hS12; obtain ⟨uf21, a2, a3, a4, a5, a6, a7, a8, a9⟩ := (‹Dn W1 _ /\ _› : _ /\ _); obtain ⟨w22, rfl⟩ : ∃ w22 : World, w22 = wa := ⟨_, rfl⟩; have aA := nlt l6 uf21.size; clear l6; have aB := nlt a1 uf21.size; clear a1; have vuf21 := uW1.trans uf21; clear uf21 uW1 HShS12; go_wp2_with fail; go_ret; exact ⟨rfl, vuf21⟩
theorem rfWi_n0 (a b c d e f g h : Int) (q0 q1 q2 q3 : Int) (HO : Hid (∀ W, Calls Tryz.prog 71 #[.agg #[.int .i8 a, .int .i64 b, .int .i8 c, .int .i64 d], .agg #[.int .i8 e, .int .i64 f, .int .i8 g, .int .i64 h]] W fun o w' => o = .returned (.bool true) /\ Dn W w')) (HJ : Hid (∀ W, Calls Tryz.prog 108 #[.agg #[.int .i8 a, .int .i64 b, .int .i8 c, .int .i64 d], .agg #[.int .i8 e, .int .i64 f, .int .i8 g, .int .i64 h]] W fun o w' => o = .returned (.agg #[.int .i8 q0, .int .i64 q1, .int .i8 q2, .int .i64 q3]) /\ Dn W w')) (h1 : q0 ≠ e) (w : World) :
   Calls Tryz.prog 74 #[.agg #[.int .i8 a, .int .i64 b, .int .i8 c, .int .i64 d], .agg #[.int .i8 e, .int .i64 f, .int .i8 g, .int .i64 h]] w fun ro w' => ro = .returned (.bool false) /\ Dn w w' := by
 have t1 : (q0 == e) = false := by simpa using h1
 clear h1
 go_enter Tryz.func74, Tryz.ntmps74
 go_wp2_with fail
 obtain ⟨W1, hW1, uW1, c2, c3, c4, c5, l6, c7, c8, c9, a0, a1⟩ := preKn48x1 w a b c d e f g h
 rw [<- hW1]
 clear hW1
 have hS12 := kd_8 (W := W1) (Dn.refl _) ⟨Dn.refl _, c2, c3, c4, c5, c7, c8, c9, a0⟩
 have HShS12 := Lib.hid hS12
 clear c2 c3 c4 c5 c7 c8 c9 a0
 refine wp_region_held_drew (S := fun w' => Dn W1 w' /\ w'.cell? ⟨w.heap.size, 0, none⟩ = some (.int .i8 a) /\ w'.cell? ⟨w.heap.size, 1, none⟩ = some (.int .i64 b) /\ w'.cell? ⟨w.heap.size, 2, none⟩ = some (.int .i8 c) /\ w'.cell? ⟨w.heap.size, 3, none⟩ = some (.int .i64 d) /\ w'.cell? ⟨w.heap.size + 1, 0, none⟩ = some (.int .i8 e) /\ w'.cell? ⟨w.heap.size + 1, 1, none⟩ = some (.int .i64 f) /\ w'.cell? ⟨w.heap.size + 1, 2, none⟩ = some (.int .i8 g) /\ w'.cell? ⟨w.heap.size + 1, 3, none⟩ = some (.int .i64 h)) (by kernel_rfl) ?_ (fun hHeld => ?_)
 · (try dsimp only); (exact ke kd_8)
 refine tS 0 rfl ?_
 refine tS 1 rfl ?_
 refine rD 2 rfl (fun K hK => ?_)
 go_simp
 (first | (go_at_call 71; refine (HO.out _).mono ?_; rintro e wa ⟨rfl, qa⟩) | (go_at_call 108; refine (HJ.out _).mono ?_; rintro e wa ⟨rfl, qa⟩))
 try go_wp2_with fail
 refine hK.out _ _ ?_ (fun hHeld => ?_)
 · (try dsimp only); (exact ke kd_8)
 clear hK K
 try simp only [Act.put, pL]
 refine tS 3 rfl ?_
 refine tS 4 rfl ?_
 refine tS 5 rfl ?_
 refine tS 7 rfl ?_
 refine rD 6 rfl (fun K hK => ?_)
 go_simp
 (first | (go_at_call 71; refine (HO.out _).mono ?_; rintro e wa ⟨rfl, qa⟩) | (go_at_call 108; refine (HJ.out _).mono ?_; rintro e wa ⟨rfl, qa⟩))
 try go_wp2_with fail
 refine hK.out _ _ ?_ (fun hHeld => ?_)
 · (try dsimp only); (exact ke kd_8)
 clear hK K
 try simp only [Act.put, pL]
 refine tS 8 rfl ?_
 refine tS 9 rfl ?_
 refine tS 10 rfl ?_
 refine wpAnyH_done (by kernel_rfl) ?_ _
 all_goals skip
 all_goals
   clear hS12; obtain ⟨uf21, a2, a3, a4, a5, a6, a7, a8, a9⟩ := (‹Dn W1 _ /\ _› : _ /\ _); obtain ⟨w22, rfl⟩ : ∃ w22 : World, w22 = wa := ⟨_, rfl⟩; have aA := nlt l6 uf21.size; clear l6; have aB := nlt a1 uf21.size; clear a1; have vuf21 := uW1.trans uf21; clear uf21 uW1 HShS12; go_wp2_with fail; go_ret; exact ⟨rfl, vuf21⟩
theorem rfWi_n1 (a b c d e f g h : Int) (q0 q1 q2 q3 : Int) (HO : Hid (∀ W, Calls Tryz.prog 71 #[.agg #[.int .i8 a, .int .i64 b, .int .i8 c, .int .i64 d], .agg #[.int .i8 e, .int .i64 f, .int .i8 g, .int .i64 h]] W fun o w' => o = .returned (.bool true) /\ Dn W w')) (HJ : Hid (∀ W, Calls Tryz.prog 108 #[.agg #[.int .i8 a, .int .i64 b, .int .i8 c, .int .i64 d], .agg #[.int .i8 e, .int .i64 f, .int .i8 g, .int .i64 h]] W fun o w' => o = .returned (.agg #[.int .i8 q0, .int .i64 q1, .int .i8 q2, .int .i64 q3]) /\ Dn W w')) (h1 : q0 = e) (h2 : q1 ≠ f) (w : World) :
   Calls Tryz.prog 74 #[.agg #[.int .i8 a, .int .i64 b, .int .i8 c, .int .i64 d], .agg #[.int .i8 e, .int .i64 f, .int .i8 g, .int .i64 h]] w fun ro w' => ro = .returned (.bool false) /\ Dn w w' := by
 have t1 : (q0 == e) = true := by simpa using h1
 have t2 : (q1 == f) = false := by simpa using h2
 clear h1 h2
 go_enter Tryz.func74, Tryz.ntmps74
 go_wp2_with fail
 obtain ⟨W1, hW1, uW1, c2, c3, c4, c5, l6, c7, c8, c9, a0, a1⟩ := preKn48x1 w a b c d e f g h
 rw [<- hW1]
 clear hW1
 have hS12 := kd_8 (W := W1) (Dn.refl _) ⟨Dn.refl _, c2, c3, c4, c5, c7, c8, c9, a0⟩
 have HShS12 := Lib.hid hS12
 clear c2 c3 c4 c5 c7 c8 c9 a0
 refine wp_region_held_drew (S := fun w' => Dn W1 w' /\ w'.cell? ⟨w.heap.size, 0, none⟩ = some (.int .i8 a) /\ w'.cell? ⟨w.heap.size, 1, none⟩ = some (.int .i64 b) /\ w'.cell? ⟨w.heap.size, 2, none⟩ = some (.int .i8 c) /\ w'.cell? ⟨w.heap.size, 3, none⟩ = some (.int .i64 d) /\ w'.cell? ⟨w.heap.size + 1, 0, none⟩ = some (.int .i8 e) /\ w'.cell? ⟨w.heap.size + 1, 1, none⟩ = some (.int .i64 f) /\ w'.cell? ⟨w.heap.size + 1, 2, none⟩ = some (.int .i8 g) /\ w'.cell? ⟨w.heap.size + 1, 3, none⟩ = some (.int .i64 h)) (by kernel_rfl) ?_ (fun hHeld => ?_)
 · (try dsimp only); (exact ke kd_8)
 refine tS 0 rfl ?_
 refine tS 1 rfl ?_
 refine rD 2 rfl (fun K hK => ?_)
 go_simp
 (first | (go_at_call 71; refine (HO.out _).mono ?_; rintro e wa ⟨rfl, qa⟩) | (go_at_call 108; refine (HJ.out _).mono ?_; rintro e wa ⟨rfl, qa⟩))
 try go_wp2_with fail
 refine hK.out _ _ ?_ (fun hHeld => ?_)
 · (try dsimp only); (exact ke kd_8)
 clear hK K
 try simp only [Act.put, pL]
 refine tS 3 rfl ?_
 refine tS 4 rfl ?_
 refine tS 5 rfl ?_
 refine tS 7 rfl ?_
 refine rD 6 rfl (fun K hK => ?_)
 go_simp
 (first | (go_at_call 71; refine (HO.out _).mono ?_; rintro e wa ⟨rfl, qa⟩) | (go_at_call 108; refine (HJ.out _).mono ?_; rintro e wa ⟨rfl, qa⟩))
 try go_wp2_with fail
 refine hK.out _ _ ?_ (fun hHeld => ?_)
 · (try dsimp only); (exact ke kd_8)
 clear hK K
 try simp only [Act.put, pL]
 refine tS 8 rfl ?_
 refine tS 9 rfl ?_
 refine tS 10 rfl ?_
 refine wpAnyH_done (by kernel_rfl) ?_ _
 all_goals skip
 all_goals
   clear hS12; obtain ⟨uf21, a2, a3, a4, a5, a6, a7, a8, a9⟩ := (‹Dn W1 _ /\ _› : _ /\ _); obtain ⟨w22, rfl⟩ : ∃ w22 : World, w22 = wa := ⟨_, rfl⟩; have aA := nlt l6 uf21.size; clear l6; have aB := nlt a1 uf21.size; clear a1; have vuf21 := uW1.trans uf21; clear uf21 uW1 HShS12; go_wp2_with fail; go_ret; exact ⟨rfl, vuf21⟩
theorem rfWi_n2 (a b c d e f g h : Int) (q0 q1 q2 q3 : Int) (HO : Hid (∀ W, Calls Tryz.prog 71 #[.agg #[.int .i8 a, .int .i64 b, .int .i8 c, .int .i64 d], .agg #[.int .i8 e, .int .i64 f, .int .i8 g, .int .i64 h]] W fun o w' => o = .returned (.bool true) /\ Dn W w')) (HJ : Hid (∀ W, Calls Tryz.prog 108 #[.agg #[.int .i8 a, .int .i64 b, .int .i8 c, .int .i64 d], .agg #[.int .i8 e, .int .i64 f, .int .i8 g, .int .i64 h]] W fun o w' => o = .returned (.agg #[.int .i8 q0, .int .i64 q1, .int .i8 q2, .int .i64 q3]) /\ Dn W w')) (h1 : q0 = e) (h2 : q1 = f) (h3 : q2 ≠ g) (w : World) :
   Calls Tryz.prog 74 #[.agg #[.int .i8 a, .int .i64 b, .int .i8 c, .int .i64 d], .agg #[.int .i8 e, .int .i64 f, .int .i8 g, .int .i64 h]] w fun ro w' => ro = .returned (.bool false) /\ Dn w w' := by
 have t1 : (q0 == e) = true := by simpa using h1
 have t2 : (q1 == f) = true := by simpa using h2
 have t3 : (q2 == g) = false := by simpa using h3
 clear h1 h2 h3
 go_enter Tryz.func74, Tryz.ntmps74
 go_wp2_with fail
 obtain ⟨W1, hW1, uW1, c2, c3, c4, c5, l6, c7, c8, c9, a0, a1⟩ := preKn48x1 w a b c d e f g h
 rw [<- hW1]
 clear hW1
 have hS12 := kd_8 (W := W1) (Dn.refl _) ⟨Dn.refl _, c2, c3, c4, c5, c7, c8, c9, a0⟩
 have HShS12 := Lib.hid hS12
 clear c2 c3 c4 c5 c7 c8 c9 a0
 refine wp_region_held_drew (S := fun w' => Dn W1 w' /\ w'.cell? ⟨w.heap.size, 0, none⟩ = some (.int .i8 a) /\ w'.cell? ⟨w.heap.size, 1, none⟩ = some (.int .i64 b) /\ w'.cell? ⟨w.heap.size, 2, none⟩ = some (.int .i8 c) /\ w'.cell? ⟨w.heap.size, 3, none⟩ = some (.int .i64 d) /\ w'.cell? ⟨w.heap.size + 1, 0, none⟩ = some (.int .i8 e) /\ w'.cell? ⟨w.heap.size + 1, 1, none⟩ = some (.int .i64 f) /\ w'.cell? ⟨w.heap.size + 1, 2, none⟩ = some (.int .i8 g) /\ w'.cell? ⟨w.heap.size + 1, 3, none⟩ = some (.int .i64 h)) (by kernel_rfl) ?_ (fun hHeld => ?_)
 · (try dsimp only); (exact ke kd_8)
 refine tS 0 rfl ?_
 refine tS 1 rfl ?_
 refine rD 2 rfl (fun K hK => ?_)
 go_simp
 (first | (go_at_call 71; refine (HO.out _).mono ?_; rintro e wa ⟨rfl, qa⟩) | (go_at_call 108; refine (HJ.out _).mono ?_; rintro e wa ⟨rfl, qa⟩))
 try go_wp2_with fail
 refine hK.out _ _ ?_ (fun hHeld => ?_)
 · (try dsimp only); (exact ke kd_8)
 clear hK K
 try simp only [Act.put, pL]
 refine tS 3 rfl ?_
 refine tS 4 rfl ?_
 refine tS 5 rfl ?_
 refine tS 7 rfl ?_
 refine rD 6 rfl (fun K hK => ?_)
 go_simp
 (first | (go_at_call 71; refine (HO.out _).mono ?_; rintro e wa ⟨rfl, qa⟩) | (go_at_call 108; refine (HJ.out _).mono ?_; rintro e wa ⟨rfl, qa⟩))
 try go_wp2_with fail
 refine hK.out _ _ ?_ (fun hHeld => ?_)
 · (try dsimp only); (exact ke kd_8)
 clear hK K
 try simp only [Act.put, pL]
 refine tS 8 rfl ?_
 refine tS 9 rfl ?_
 refine tS 10 rfl ?_
 refine wpAnyH_done (by kernel_rfl) ?_ _
 all_goals skip
 all_goals
   clear hS12; obtain ⟨uf21, a2, a3, a4, a5, a6, a7, a8, a9⟩ := (‹Dn W1 _ /\ _› : _ /\ _); obtain ⟨w22, rfl⟩ : ∃ w22 : World, w22 = wa := ⟨_, rfl⟩; have aA := nlt l6 uf21.size; clear l6; have aB := nlt a1 uf21.size; clear a1; have vuf21 := uW1.trans uf21; clear uf21 uW1 HShS12; go_wp2_with fail; go_ret; exact ⟨rfl, vuf21⟩
theorem rfWi_n3 (a b c d e f g h : Int) (q0 q1 q2 q3 : Int) (HO : Hid (∀ W, Calls Tryz.prog 71 #[.agg #[.int .i8 a, .int .i64 b, .int .i8 c, .int .i64 d], .agg #[.int .i8 e, .int .i64 f, .int .i8 g, .int .i64 h]] W fun o w' => o = .returned (.bool true) /\ Dn W w')) (HJ : Hid (∀ W, Calls Tryz.prog 108 #[.agg #[.int .i8 a, .int .i64 b, .int .i8 c, .int .i64 d], .agg #[.int .i8 e, .int .i64 f, .int .i8 g, .int .i64 h]] W fun o w' => o = .returned (.agg #[.int .i8 q0, .int .i64 q1, .int .i8 q2, .int .i64 q3]) /\ Dn W w')) (h1 : q0 = e) (h2 : q1 = f) (h3 : q2 = g) (h4 : q3 ≠ h) (w : World) :
   Calls Tryz.prog 74 #[.agg #[.int .i8 a, .int .i64 b, .int .i8 c, .int .i64 d], .agg #[.int .i8 e, .int .i64 f, .int .i8 g, .int .i64 h]] w fun ro w' => ro = .returned (.bool false) /\ Dn w w' := by
 have t1 : (q0 == e) = true := by simpa using h1
 have t2 : (q1 == f) = true := by simpa using h2
 have t3 : (q2 == g) = true := by simpa using h3
 have t4 : (q3 == h) = false := by simpa using h4
 clear h1 h2 h3 h4
 go_enter Tryz.func74, Tryz.ntmps74
 go_wp2_with fail
 obtain ⟨W1, hW1, uW1, c2, c3, c4, c5, l6, c7, c8, c9, a0, a1⟩ := preKn48x1 w a b c d e f g h
 rw [<- hW1]
 clear hW1
 have hS12 := kd_8 (W := W1) (Dn.refl _) ⟨Dn.refl _, c2, c3, c4, c5, c7, c8, c9, a0⟩
 have HShS12 := Lib.hid hS12
 clear c2 c3 c4 c5 c7 c8 c9 a0
 refine wp_region_held_drew (S := fun w' => Dn W1 w' /\ w'.cell? ⟨w.heap.size, 0, none⟩ = some (.int .i8 a) /\ w'.cell? ⟨w.heap.size, 1, none⟩ = some (.int .i64 b) /\ w'.cell? ⟨w.heap.size, 2, none⟩ = some (.int .i8 c) /\ w'.cell? ⟨w.heap.size, 3, none⟩ = some (.int .i64 d) /\ w'.cell? ⟨w.heap.size + 1, 0, none⟩ = some (.int .i8 e) /\ w'.cell? ⟨w.heap.size + 1, 1, none⟩ = some (.int .i64 f) /\ w'.cell? ⟨w.heap.size + 1, 2, none⟩ = some (.int .i8 g) /\ w'.cell? ⟨w.heap.size + 1, 3, none⟩ = some (.int .i64 h)) (by kernel_rfl) ?_ (fun hHeld => ?_)
 · (try dsimp only); (exact ke kd_8)
 refine tS 0 rfl ?_
 refine tS 1 rfl ?_
 refine rD 2 rfl (fun K hK => ?_)
 go_simp
 (first | (go_at_call 71; refine (HO.out _).mono ?_; rintro e wa ⟨rfl, qa⟩) | (go_at_call 108; refine (HJ.out _).mono ?_; rintro e wa ⟨rfl, qa⟩))
 try go_wp2_with fail
 refine hK.out _ _ ?_ (fun hHeld => ?_)
 · (try dsimp only); (exact ke kd_8)
 clear hK K
 try simp only [Act.put, pL]
 refine tS 3 rfl ?_
 refine tS 4 rfl ?_
 refine tS 5 rfl ?_
 refine tS 7 rfl ?_
 refine rD 6 rfl (fun K hK => ?_)
 go_simp
 (first | (go_at_call 71; refine (HO.out _).mono ?_; rintro e wa ⟨rfl, qa⟩) | (go_at_call 108; refine (HJ.out _).mono ?_; rintro e wa ⟨rfl, qa⟩))
 try go_wp2_with fail
 refine hK.out _ _ ?_ (fun hHeld => ?_)
 · (try dsimp only); (exact ke kd_8)
 clear hK K
 try simp only [Act.put, pL]
 refine tS 8 rfl ?_
 refine tS 9 rfl ?_
 refine tS 10 rfl ?_
 refine wpAnyH_done (by kernel_rfl) ?_ _
 all_goals skip
 all_goals
   clear hS12; obtain ⟨uf21, a2, a3, a4, a5, a6, a7, a8, a9⟩ := (‹Dn W1 _ /\ _› : _ /\ _); obtain ⟨w22, rfl⟩ : ∃ w22 : World, w22 = wa := ⟨_, rfl⟩; have aA := nlt l6 uf21.size; clear l6; have aB := nlt a1 uf21.size; clear a1; have vuf21 := uW1.trans uf21; clear uf21 uW1 HShS12; go_wp2_with fail; go_ret; exact ⟨rfl, vuf21⟩
theorem rfWithin (a b c d e f g h : Int) (w : World) (hb : I64 b) (hd : I64 d) (hf : I64 f) (hh : I64 h) (h1 : RnOk a b c d) (h2 : RnOk e f g h) :
   Calls Tryz.prog 74 #[.agg #[.int .i8 a, .int .i64 b, .int .i8 c, .int .i64 d], .agg #[.int .i8 e, .int .i64 f, .int .i8 g, .int .i64 h]] w fun ro w' => ro = .returned (.bool (decide (Wi a b c d e f g h))) /\ Dn w w' := by
 have HO := Lib.hid (fun W => rfMeet a b c d e f g h W hb hd hf hh h1 h2)
 have HJ := Lib.hid (fun W => rfJoin a b c d e f g h W)
 have l1 := h1.2.2.2.2
 have l2 := h2.2.2.2.2
 by_cases m : Meet a b c d e f g h
 · rw [decide_eq_true m] at HO
   have k1 := mn_key (i := a) (j := e) hb hf; have k2 := mx_key (i := c) (j := g) hd hh; have j1 := key_inj (i := mnI a b e f) (j := e) (mn_i64 (i := a) (j := e) hb hf) hf; have j2 := key_inj (i := mxI c d g h) (j := g) (mx_i64 (i := c) (j := g) hd hh) hh
   have hW : Wi a b c d e f g h ↔ (mnI a b e f = e /\ mnD a b e f = f) /\ (mxI c d g h = g /\ mxD c d g h = h) := by
     rw [<- j1, <- j2, k1, k2]; unfold Wi; constructor
     · rintro ⟨_, _, _, _⟩; omega
     · intro hc; exact ⟨h1, h2, by omega, by omega⟩
   by_cases q0 : mnI a b e f = e
   · by_cases q1 : mnD a b e f = f
     · by_cases q2 : mxI c d g h = g
       · by_cases q3 : mxD c d g h = h
         · rw [decide_eq_true (hW.2 ⟨⟨q0, q1⟩, q2, q3⟩)]
           rw [q0, q1, q2, q3] at HJ; exact rfWi_eq a b c d e f g h 0 0 0 0 HO HJ w
         · rw [decide_eq_false (fun hc => q3 (hW.1 hc).2.2)]; exact rfWi_n3 a b c d e f g h _ _ _ _ HO HJ q0 q1 q2 q3 w
       · rw [decide_eq_false (fun hc => q2 (hW.1 hc).2.1)]; exact rfWi_n2 a b c d e f g h _ _ _ _ HO HJ q0 q1 q2 w
     · rw [decide_eq_false (fun hc => q1 (hW.1 hc).1.2)]; exact rfWi_n1 a b c d e f g h _ _ _ _ HO HJ q0 q1 w
   · rw [decide_eq_false (fun hc => q0 (hW.1 hc).1.1)]; exact rfWi_n0 a b c d e f g h _ _ _ _ HO HJ q0 w
 · rw [decide_eq_false m] at HO
   rw [decide_eq_false (fun hc : Wi a b c d e f g h => m ⟨h1, h2, by have := hc.2.2.1; have := hc.2.2.2; omega, by have := hc.2.2.1; have := hc.2.2.2; omega⟩)]; exact rfWi_no a b c d e f g h 0 0 0 0 HO w
end Go.Proofs.YtoghoddjkdoohaaGreatDoor
