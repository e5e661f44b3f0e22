/- Walks and laws that the claim's theorem leans on: part 4. -/
import Derived.Test.YteodjglbpfmikaaGreatDoorZUn1
import Derived.Test.YteodjglbpfmikaaGreatDoorZUn3
import Derived.WalkSmall
namespace Go.Proofs.YteodjglbpfmikaaGreatDoor
set_option maxHeartbeats 4000000
set_option maxRecDepth 100000
open Go.RowKit
set_option linter.unusedVariables false
set_option linter.unusedSimpArgs false
theorem kdR_8 {W w1 w2 : World} {a0 a1 a2 a3 a4 a5 a6 a7 : Addr} {v0 v1 v2 v3 v4 v5 v6 v7 : Value} (k : Dn w1 w2) (h : Dn W w1 ∧ w1.cell? a0 = some v0 ∧ w1.cell? a1 = some v1 ∧ w1.cell? a2 = some v2 ∧ w1.cell? a3 = some v3 ∧ w1.cell? a4 = some v4 ∧ w1.cell? a5 = some v5 ∧ w1.cell? a6 = some v6 ∧ w1.cell? a7 = some v7) :
  Dn W w2 ∧ w2.cell? a0 = some v0 ∧ w2.cell? a1 = some v1 ∧ w2.cell? a2 = some v2 ∧ w2.cell? a3 = some v3 ∧ w2.cell? a4 = some v4 ∧ w2.cell? a5 = some v5 ∧ w2.cell? a6 = some v6 ∧ w2.cell? a7 = some v7 := by
 obtain ⟨h1, c0, c1, c2, c3, c4, c5, c6, c7⟩ := h
 exact ⟨h1.trans k, k.cell c0, k.cell c1, k.cell c2, k.cell c3, k.cell c4, k.cell c5, k.cell c6, k.cell c7⟩
theorem preUn49x1 (w : World) (a b c d e f g h : Int) : ∃ W1, W1 = (w.alloc (.cells #[.int .i8 a, .int .i64 b, .int .i8 c, .int .i64 d] 30)).alloc (.cells #[.int .i8 e, .int .i64 f, .int .i8 g, .int .i64 h] 30) ∧ (Dn w W1) ∧ (W1.cell? ⟨w.heap.size, 0, none⟩ = some (.int .i8 a)) ∧ (W1.cell? ⟨w.heap.size, 1, none⟩ = some (.int .i64 b)) ∧ (W1.cell? ⟨w.heap.size, 2, none⟩ = some (.int .i8 c)) ∧ (W1.cell? ⟨w.heap.size, 3, none⟩ = some (.int .i64 d)) ∧ (w.heap.size < W1.heap.size) ∧ (W1.cell? ⟨w.heap.size + 1, 0, none⟩ = some (.int .i8 e)) ∧ (W1.cell? ⟨w.heap.size + 1, 1, none⟩ = some (.int .i64 f)) ∧ (W1.cell? ⟨w.heap.size + 1, 2, none⟩ = some (.int .i8 g)) ∧ (W1.cell? ⟨w.heap.size + 1, 3, none⟩ = some (.int .i64 h)) ∧ (w.heap.size + 1 < W1.heap.size) := by
  obtain ⟨W1, hW1⟩ : ∃ W1, W1 = (w.alloc (.cells #[.int .i8 a, .int .i64 b, .int .i8 c, .int .i64 d] 30)).alloc (.cells #[.int .i8 e, .int .i64 f, .int .i8 g, .int .i64 h] 30) := ⟨_, rfl⟩
  exact ⟨W1, hW1, (by rw [hW1]; exact ((Dn.refl _).alloc _).alloc _), (by rw [hW1]; simp [go_sem]), (by rw [hW1]; simp [go_sem]), (by rw [hW1]; simp [go_sem]), (by rw [hW1]; simp [go_sem]), (by rw [hW1]; simp <;> omega), (by rw [hW1]; simp [go_sem]), (by rw [hW1]; simp [go_sem]), (by rw [hW1]; simp [go_sem]), (by rw [hW1]; simp [go_sem]), (by rw [hW1]; simp <;> omega)⟩
theorem rnCmp (a b c d e f g h : Int) (w : World) :
    Calls Tryz.prog 67 #[.agg #[.int .i8 a, .int .i64 b, .int .i8 c, .int .i64 d], .agg #[.int .i8 e, .int .i64 f, .int .i8 g, .int .i64 h]] w fun r w' => r = .returned (.int .i64 (or2 (eC a b e f) (eC c d g h))) ∧ Dn w w' := by
  go_enter Tryz.func67, Tryz.ntmps67
  go_wp2_with fail
  obtain ⟨W1, hW1, uW1, c2, c3, c4, c5, l6, c7, c8, c9, a0, a1⟩ := preUn49x1 w a b c d e f g h
  rw [← hW1]
  clear hW1
  have hS12 := kdR_8 (W := W1) (Dn.refl _) ⟨Dn.refl _, c2, c3, c4, c5, c7, c8, c9, a0⟩
  have HShS12 := Lib.hid hS12
  clear c2 c3 c4 c5 c7 c8 c9 a0
  go_region_held3 (fun w' => Dn W1 w' ∧ w'.cell? ⟨w.heap.size, 0, none⟩ = some (.int .i8 a) ∧ w'.cell? ⟨w.heap.size, 1, none⟩ = some (.int .i64 b) ∧ w'.cell? ⟨w.heap.size, 2, none⟩ = some (.int .i8 c) ∧ w'.cell? ⟨w.heap.size, 3, none⟩ = some (.int .i64 d) ∧ w'.cell? ⟨w.heap.size + 1, 0, none⟩ = some (.int .i8 e) ∧ w'.cell? ⟨w.heap.size + 1, 1, none⟩ = some (.int .i64 f) ∧ w'.cell? ⟨w.heap.size + 1, 2, none⟩ = some (.int .i8 g) ∧ w'.cell? ⟨w.heap.size + 1, 3, none⟩ = some (.int .i64 h))
    (first | exact kdR_8 ((Dn.refl _).drew) hS12 | exact kdR_8 ‹Dn _ _› ‹_› | exact kdR_8 (Up.dn ‹Up _ _›) ‹_› | assumption | exact kdR_8 ((Dn.refl _).alloc _) ‹_›)
    (first
      | (go_at_call 15; refine (eCmp _ _ _ _ _).mono ?_; rintro e wa ⟨rfl, qa⟩; replace qa := Up.dn qa)
      | (go_at_call 54; refine (cmpOr _ (eC a b e f) (eC c d g h) _ ?_ ?_).mono ?_; (simp [go_sem]); (simp [go_sem]); rintro e wa ⟨rfl, rfl⟩))
  all_goals
    clear hS12
    obtain ⟨uf21, a2, a3, a4, a5, a6, a7, a8, a9⟩ := (‹Dn W1 _ ∧ _› : _ ∧ _)
    obtain ⟨w22, rfl⟩ : ∃ w22 : World, w22 = wa := ⟨_, rfl⟩
    have aA := nlt l6 uf21.size
    clear l6
    have aB := nlt a1 uf21.size
    clear a1
    have vuf21 := uW1.trans uf21
    clear uf21 uW1 HShS12
    go_wp2_with fail
    go_ret
    exact ⟨rfl, vuf21⟩
theorem preUn49x2 (w : World) (a b c d : Int) : ∃ W1, W1 = w.alloc (.cells #[.int .i8 a, .int .i64 b, .int .i8 c, .int .i64 d] 30) ∧ (Dn w W1) ∧ (W1.cell? ⟨w.heap.size, 0, none⟩ = some (.int .i8 a)) ∧ (W1.cell? ⟨w.heap.size, 1, none⟩ = some (.int .i64 b)) ∧ (W1.cell? ⟨w.heap.size, 2, none⟩ = some (.int .i8 c)) ∧ (W1.cell? ⟨w.heap.size, 3, none⟩ = some (.int .i64 d)) ∧ (w.heap.size < W1.heap.size) := by
  obtain ⟨W1, hW1⟩ : ∃ W1, W1 = w.alloc (.cells #[.int .i8 a, .int .i64 b, .int .i8 c, .int .i64 d] 30) := ⟨_, rfl⟩
  exact ⟨W1, hW1, (by rw [hW1]; exact (Dn.refl _).alloc _), (by rw [hW1]; simp [go_sem]), (by rw [hW1]; simp [go_sem]), (by rw [hW1]; simp [go_sem]), (by rw [hW1]; simp [go_sem]), (by rw [hW1]; simp <;> omega)⟩
theorem rnLen_bad (a b c d : Int) (m : Int) (HA : Hid (ChkIs a b c d m)) (h1 : m ≠ 0) (w : World) :
  Calls Tryz.prog 27 #[.agg #[.int .i8 a, .int .i64 b, .int .i8 c, .int .i64 d]] w fun ro w' => ro = .returned (.tuple #[.int .i64 0, .int .i64 m]) ∧ Dn w w' := by
 have t1 : (m != 0) = true := by simpa using h1
 clear h1
 go_enter Tryz.func27, Tryz.ntmps27
 go_wp2_with fail
 obtain ⟨W1, hW1, uW1, c2, c3, c4, c5, l6⟩ := preUn49x2 w a b c d
 rw [← hW1]
 clear hW1
 refine (HA.out _).mono ?_
 rintro e w1 ⟨rfl, qw1⟩
 have l7 := nlt l6 qw1.size
 obtain ⟨c8, c9, c10, c11⟩ := mv4 qw1.cell c2 c3 c4 c5
 clear l6 c2 c3 c4 c5
 have uw1 := uW1.trans qw1
 clear qw1 uW1
 go_wp2_with fail
 go_ret2
 exact ⟨rfl, uw1⟩
theorem rnLen_inf1 (a b c d : Int) (HA : Hid (ChkIs a b c d 0)) (h1 : a ≠ 0) (w : World) :
  Calls Tryz.prog 27 #[.agg #[.int .i8 a, .int .i64 b, .int .i8 c, .int .i64 d]] w fun ro w' => ro = .returned (.tuple #[.int .i64 0, .int .i64 16]) ∧ Dn w w' := by
 have t1 : (a != 0) = true := by simpa using h1
 clear h1
 go_enter Tryz.func27, Tryz.ntmps27
 go_wp2_with fail
 obtain ⟨W1, hW1, uW1, c2, c3, c4, c5, l6⟩ := preUn49x2 w a b c d
 rw [← hW1]
 clear hW1
 refine (HA.out _).mono ?_
 rintro e w1 ⟨rfl, qw1⟩
 have l7 := nlt l6 qw1.size
 obtain ⟨c8, c9, c10, c11⟩ := mv4 qw1.cell c2 c3 c4 c5
 clear l6 c2 c3 c4 c5
 have uw1 := uW1.trans qw1
 clear qw1 uW1
 go_wp2_with fail
 go_ret2
 exact ⟨rfl, uw1⟩
theorem rnLen_inf2 (a b c d : Int) (HA : Hid (ChkIs a b c d 0)) (h0 : a = 0) (h1 : c ≠ 0) (w : World) :
  Calls Tryz.prog 27 #[.agg #[.int .i8 a, .int .i64 b, .int .i8 c, .int .i64 d]] w fun ro w' => ro = .returned (.tuple #[.int .i64 0, .int .i64 16]) ∧ Dn w w' := by
 have t0 : (a != 0) = false := by simpa using h0
 have t1 : (c != 0) = true := by simpa using h1
 clear h1 h0
 go_enter Tryz.func27, Tryz.ntmps27
 go_wp2_with fail
 obtain ⟨W1, hW1, uW1, c2, c3, c4, c5, l6⟩ := preUn49x2 w a b c d
 rw [← hW1]
 clear hW1
 refine (HA.out _).mono ?_
 rintro e w1 ⟨rfl, qw1⟩
 have l7 := nlt l6 qw1.size
 obtain ⟨c8, c9, c10, c11⟩ := mv4 qw1.cell c2 c3 c4 c5
 clear l6 c2 c3 c4 c5
 have uw1 := uW1.trans qw1
 clear qw1 uW1
 go_wp2_with fail
 go_ret2
 exact ⟨rfl, uw1⟩
theorem rnLen_over (a b c d : Int) (HA : Hid (ChkIs a b c d 0)) (h0 : a = 0) (h1 : c = 0) (HS : Hid (∀ W, Calls Tryz.prog 72 #[.int .i64 d, .int .i64 b] W fun r w' => r = .returned (.tuple #[.int .i64 0, .int .i64 15]) ∧ W = w')) (w : World) :
  Calls Tryz.prog 27 #[.agg #[.int .i8 a, .int .i64 b, .int .i8 c, .int .i64 d]] w fun ro w' => ro = .returned (.tuple #[.int .i64 0, .int .i64 15]) ∧ Dn w w' := by
 have t0 : (a != 0) = false := by simpa using h0
 have t1 : (c != 0) = false := by simpa using h1
 clear h1 h0
 go_enter Tryz.func27, Tryz.ntmps27
 go_wp2_with fail
 obtain ⟨W1, hW1, uW1, c2, c3, c4, c5, l6⟩ := preUn49x2 w a b c d
 rw [← hW1]
 clear hW1
 refine (HA.out _).mono ?_
 rintro e w1 ⟨rfl, qw1⟩
 have l7 := nlt l6 qw1.size
 obtain ⟨c8, c9, c10, c11⟩ := mv4 qw1.cell c2 c3 c4 c5
 clear l6 c2 c3 c4 c5
 have uw1 := uW1.trans qw1
 clear qw1 uW1
 go_wp2_with fail
 refine (HS.out _).mono ?_
 rintro e w2 ⟨rfl, rfl⟩
 go_wp2_with fail
 go_ret2
 exact ⟨rfl, uw1⟩
theorem rnLen_fit (a b c d : Int) (k n e : Int) (HA : Hid (ChkIs a b c d 0)) (h0 : a = 0) (h1 : c = 0) (HS : Hid (∀ W, Calls Tryz.prog 72 #[.int .i64 d, .int .i64 b] W fun r w' => r = .returned (.tuple #[.int .i64 k, .int .i64 0]) ∧ W = w')) (HT : Hid (∀ W, Calls Tryz.prog 41 #[.int .i64 k, .int .i64 1] W fun r w' => r = .returned (.tuple #[.int .i64 n, .int .i64 e]) ∧ Up W w')) (w : World) :
  Calls Tryz.prog 27 #[.agg #[.int .i8 a, .int .i64 b, .int .i8 c, .int .i64 d]] w fun ro w' => ro = .returned (.tuple #[.int .i64 n, .int .i64 e]) ∧ Dn w w' := by
 have t0 : (a != 0) = false := by simpa using h0
 have t1 : (c != 0) = false := by simpa using h1
 clear h1 h0
 go_enter Tryz.func27, Tryz.ntmps27
 go_wp2_with fail
 obtain ⟨W1, hW1, uW1, c2, c3, c4, c5, l6⟩ := preUn49x2 w a b c d
 rw [← hW1]
 clear hW1
 refine (HA.out _).mono ?_
 rintro e w1 ⟨rfl, qw1⟩
 have l7 := nlt l6 qw1.size
 obtain ⟨c8, c9, a0, a1⟩ := mv4 qw1.cell c2 c3 c4 c5
 clear l6 c2 c3 c4 c5
 have uw1 := uW1.trans qw1
 clear qw1 uW1
 go_wp2_with fail
 refine (HS.out _).mono ?_
 rintro e w2 ⟨rfl, rfl⟩
 go_wp2_with fail
 refine (HT.out _).mono ?_
 rintro e w3 ⟨rfl, qw3⟩
 replace qw3 := qw3.dn
 have a2 := nlt l7 qw3.size
 obtain ⟨a3, a4, a5, a6⟩ := mv4 qw3.cell c8 c9 a0 a1
 clear l7 c8 c9 a0 a1
 have uw3 := uw1.trans qw3
 clear qw3 uw1
 go_wp2_with fail
 go_ret2
 exact ⟨rfl, uw3⟩
def LenR (a b c d n e : Int) : Prop :=
 (¬ RnOk a b c d ∧ n = 0 ∧ e = rnErr a b c d) ∨ (RnOk a b c d ∧ (a ≠ 0 ∨ c ≠ 0) ∧ n = 0 ∧ e = 16) ∨ (RnOk a b c d ∧ a = 0 ∧ c = 0 ∧ Fits (d - b + 1) n e)
theorem rnLen (a b c d n e : Int) (w : World) (hb : I64 b) (hd : I64 d) (h : LenR a b c d n e) :
   Calls Tryz.prog 27 #[.agg #[.int .i8 a, .int .i64 b, .int .i8 c, .int .i64 d]] w fun r w' => r = .returned (.tuple #[.int .i64 n, .int .i64 e]) ∧ Dn w w' := by
 have k1 := rnErr_ok (a := a) (c := c) hb hd
 have HA : Hid (ChkIs a b c d (rnErr a b c d)) := Lib.hid (rnChk a b c d)
 rcases h with ⟨h1, rfl, rfl⟩ | ⟨h1, h2, rfl, rfl⟩ | ⟨h1, h2, h3, hf⟩
 · exact rnLen_bad a b c d _ HA (fun hc => h1 (k1.1 hc)) w
 · rw [k1.2 h1] at HA
   by_cases h0 : a = 0
   · exact rnLen_inf2 a b c d HA h0 (by omega) w
   · exact rnLen_inf1 a b c d HA h0 w
 · rw [k1.2 h1] at HA
   have hk := h1.2.2.2.2
   unfold key at hk
   by_cases hi : I64 (d - b)
   · have HS := Lib.hid (fun W => isub_fits d b W hd hb hi)
     have HT := Lib.hid (fun W => add_any (d - b) 1 _ n e W hi (by decide) rfl hf)
     exact rnLen_fit a b c d _ n e HA h2 h3 HS HT w
   · have HS := Lib.hid (fun W => isub_over d b W hd hb hi)
     rcases hf with ⟨hi2, _, _⟩ | ⟨_, rfl, rfl⟩
     · unfold I64 at hi hi2 hb hd; omega
     · exact rnLen_over a b c d HA h2 h3 HS w
theorem rnTch_no (a b c d e f g h : Int) (HR : Hid (∀ W, Calls Tryz.prog 80 #[.agg #[.int .i8 a, .int .i64 b, .int .i8 c, .int .i64 d], .agg #[.int .i8 e, .int .i64 f, .int .i8 g, .int .i64 h]] W fun r w' => r = .returned (.bool false) ∧ Dn W w')) (w : World) :
  Calls Tryz.prog 135 #[.agg #[.int .i8 a, .int .i64 b, .int .i8 c, .int .i64 d], .agg #[.int .i8 e, .int .i64 f, .int .i8 g, .int .i64 h]] w fun ro w' => ro = .returned (.bool false) ∧ Dn w w' := by
 go_enter Tryz.func135, Tryz.ntmps135
 go_wp2_with fail
 obtain ⟨W1, hW1, uW1, c2, c3, c4, c5, l6, c7, c8, c9, a0, a1⟩ := preUn49x1 w a b c d e f g h
 rw [← hW1]
 clear hW1
 refine (HR.out _).mono ?_
 rintro e w1 ⟨rfl, qw1⟩
 have a2 := nlt l6 qw1.size
 have a7 := nlt a1 qw1.size
 obtain ⟨a3, a4, a5, a6, a8, a9, aA, aB⟩ := mv8 qw1.cell c2 c3 c4 c5 c7 c8 c9 a0
 clear l6 c2 c3 c4 c5 a1 c7 c8 c9 a0
 have uw1 := uW1.trans qw1
 clear qw1 uW1
 go_wp2_with fail
 go_ret
 exact ⟨rfl, uw1⟩
theorem rnTch_s0 (a b c d e f g h m n : Int) (tr : Bool) (HR : Hid (∀ W, Calls Tryz.prog 80 #[.agg #[.int .i8 a, .int .i64 b, .int .i8 c, .int .i64 d], .agg #[.int .i8 e, .int .i64 f, .int .i8 g, .int .i64 h]] W fun r w' => r = .returned (.bool true) ∧ Dn W w')) (H1 : Hid (∀ W, Calls Tryz.prog 15 #[.agg #[.int .i8 e, .int .i64 f], .agg #[.int .i8 a, .int .i64 b]] W fun r w' => r = .returned (.int .i64 m) ∧ Up W w')) (H2 : Hid (∀ W, Calls Tryz.prog 15 #[.agg #[.int .i8 e, .int .i64 f], .agg #[.int .i8 c, .int .i64 d]] W fun r w' => r = .returned (.int .i64 n) ∧ Up W w')) (h1 : ¬ m < 0) (HN : Hid (¬ n ≤ 0 → ∀ W, Calls Tryz.prog 167 #[.agg #[.int .i8 c, .int .i64 d]] W fun r w' => r = .returned (.tuple #[.agg #[.int .i8 0, .int .i64 (d + 1)], .int .i64 0]) ∧ Up W w')) (HCASE : Hid ((n ≤ 0 ∧ tr = true) ∨ (¬ n ≤ 0 ∧ e = 0 ∧ d + 1 = f ∧ tr = true) ∨ (¬ n ≤ 0 ∧ d + 1 ≠ f ∧ tr = false))) (w : World) :
  Calls Tryz.prog 135 #[.agg #[.int .i8 a, .int .i64 b, .int .i8 c, .int .i64 d], .agg #[.int .i8 e, .int .i64 f, .int .i8 g, .int .i64 h]] w fun ro w' => ro = .returned (.bool tr) ∧ Dn w w' := by
 have t1 : decide (m < 0) = false := by simpa using h1
 clear h1
 go_enter Tryz.func135, Tryz.ntmps135
 go_wp2_with fail
 obtain ⟨W1, hW1⟩ : ∃ W1, W1 = (w.alloc (.cells #[.int .i8 a, .int .i64 b, .int .i8 c, .int .i64 d] 30)).alloc (.cells #[.int .i8 e, .int .i64 f, .int .i8 g, .int .i64 h] 30) := ⟨_, rfl⟩
 have uW1 : Dn w W1 := by rw [hW1]; exact ((Dn.refl _).alloc _).alloc _
 have n2 : w.heap.size ≠ w.heap.size + 1 := by omega
 have c3 : W1.cell? ⟨w.heap.size, 0, none⟩ = some (.int .i8 a) := by rw [hW1]; simp [go_sem]
 have c4 : W1.cell? ⟨w.heap.size, 1, none⟩ = some (.int .i64 b) := by rw [hW1]; simp [go_sem]
 have c5 : W1.cell? ⟨w.heap.size, 2, none⟩ = some (.int .i8 c) := by rw [hW1]; simp [go_sem]
 have c6 : W1.cell? ⟨w.heap.size, 3, none⟩ = some (.int .i64 d) := by rw [hW1]; simp [go_sem]
 have l7 : w.heap.size < W1.heap.size := by rw [hW1]; simp <;> omega
 have f8 : W1.frozen? ⟨w.heap.size, 0, none⟩ = false := by rw [hW1]; simp [go_sem]
 have f9 : W1.frozen? ⟨w.heap.size, 1, none⟩ = false := by rw [hW1]; simp [go_sem]
 have f10 : W1.frozen? ⟨w.heap.size, 2, none⟩ = false := by rw [hW1]; simp [go_sem]
 have f11 : W1.frozen? ⟨w.heap.size, 3, none⟩ = false := by rw [hW1]; simp [go_sem]
 have aP : W1.cell? ⟨w.heap.size + 1, 0, none⟩ = some (.int .i8 e) := by rw [hW1]; simp [go_sem]
 have aQ : W1.cell? ⟨w.heap.size + 1, 1, none⟩ = some (.int .i64 f) := by rw [hW1]; simp [go_sem]
 have aR : W1.cell? ⟨w.heap.size + 1, 2, none⟩ = some (.int .i8 g) := by rw [hW1]; simp [go_sem]
 have aS : W1.cell? ⟨w.heap.size + 1, 3, none⟩ = some (.int .i64 h) := by rw [hW1]; simp [go_sem]
 have a4 : w.heap.size + 1 < W1.heap.size := by rw [hW1]; simp <;> omega
 have f17 : W1.frozen? ⟨w.heap.size + 1, 0, none⟩ = false := by rw [hW1]; simp [go_sem]
 have f18 : W1.frozen? ⟨w.heap.size + 1, 1, none⟩ = false := by rw [hW1]; simp [go_sem]
 have f19 : W1.frozen? ⟨w.heap.size + 1, 2, none⟩ = false := by rw [hW1]; simp [go_sem]
 have f20 : W1.frozen? ⟨w.heap.size + 1, 3, none⟩ = false := by rw [hW1]; simp [go_sem]
 rw [← hW1]
 clear hW1
 refine (HR.out _).mono ?_
 rintro e w1 ⟨rfl, qw1⟩
 have f21 := (qw1.frozen (a := ⟨w.heap.size, 0, none⟩) l7).trans f8
 have f22 := (qw1.frozen (a := ⟨w.heap.size, 1, none⟩) l7).trans f9
 have f23 := (qw1.frozen (a := ⟨w.heap.size, 2, none⟩) l7).trans f10
 have f24 := (qw1.frozen (a := ⟨w.heap.size, 3, none⟩) l7).trans f11
 have a5 := nlt l7 qw1.size
 obtain ⟨aT, aU, aV, aW⟩ := mv4 qw1.cell c3 c4 c5 c6
 have f30 := (qw1.frozen (a := ⟨w.heap.size + 1, 0, none⟩) a4).trans f17
 have f31 := (qw1.frozen (a := ⟨w.heap.size + 1, 1, none⟩) a4).trans f18
 have f32 := (qw1.frozen (a := ⟨w.heap.size + 1, 2, none⟩) a4).trans f19
 have f33 := (qw1.frozen (a := ⟨w.heap.size + 1, 3, none⟩) a4).trans f20
 have a6 := nlt a4 qw1.size
 obtain ⟨aX, aY, aZ, b0⟩ := mv4 qw1.cell aP aQ aR aS
 clear f8 f9 f10 f11 l7 c3 c4 c5 c6 f17 f18 f19 f20 a4 aP aQ aR aS
 have uw1 := uW1.trans qw1
 clear qw1 uW1
 go_wp2_with fail
 refine (H1.out _).mono ?_
 rintro e w2 ⟨rfl, qw2⟩
 replace qw2 := qw2.dn
 have f39 := (qw2.frozen (a := ⟨w.heap.size, 0, none⟩) a5).trans f21
 have f40 := (qw2.frozen (a := ⟨w.heap.size, 1, none⟩) a5).trans f22
 have f41 := (qw2.frozen (a := ⟨w.heap.size, 2, none⟩) a5).trans f23
 have f42 := (qw2.frozen (a := ⟨w.heap.size, 3, none⟩) a5).trans f24
 have a7 := nlt a5 qw2.size
 obtain ⟨b2, b3, b4, b5⟩ := mv4 qw2.cell aT aU aV aW
 have f48 := (qw2.frozen (a := ⟨w.heap.size + 1, 0, none⟩) a6).trans f30
 have f49 := (qw2.frozen (a := ⟨w.heap.size + 1, 1, none⟩) a6).trans f31
 have f50 := (qw2.frozen (a := ⟨w.heap.size + 1, 2, none⟩) a6).trans f32
 have f51 := (qw2.frozen (a := ⟨w.heap.size + 1, 3, none⟩) a6).trans f33
 have a8 := nlt a6 qw2.size
 obtain ⟨b6, b7, b8, b9⟩ := mv4 qw2.cell aX aY aZ b0
 clear f21 f22 f23 f24 a5 aT aU aV aW f30 f31 f32 f33 a6 aX aY aZ b0
 have uw2 := uw1.trans qw2
 clear qw2 uw1
 go_wp2_with fail
 refine (H2.out _).mono ?_
 rintro e w3 ⟨rfl, qw3⟩
 replace qw3 := qw3.dn
 have f57 := (qw3.frozen (a := ⟨w.heap.size, 0, none⟩) a7).trans f39
 have f58 := (qw3.frozen (a := ⟨w.heap.size, 1, none⟩) a7).trans f40
 have f59 := (qw3.frozen (a := ⟨w.heap.size, 2, none⟩) a7).trans f41
 have f60 := (qw3.frozen (a := ⟨w.heap.size, 3, none⟩) a7).trans f42
 have a2 := nlt a7 qw3.size
 obtain ⟨aH, aI, aJ, aK⟩ := mv4 qw3.cell b2 b3 b4 b5
 have f66 := (qw3.frozen (a := ⟨w.heap.size + 1, 0, none⟩) a8).trans f48
 have f67 := (qw3.frozen (a := ⟨w.heap.size + 1, 1, none⟩) a8).trans f49
 have f68 := (qw3.frozen (a := ⟨w.heap.size + 1, 2, none⟩) a8).trans f50
 have f69 := (qw3.frozen (a := ⟨w.heap.size + 1, 3, none⟩) a8).trans f51
 have a3 := nlt a8 qw3.size
 obtain ⟨aL, aM, aN, aO⟩ := mv4 qw3.cell b6 b7 b8 b9
 clear f39 f40 f41 f42 a7 b2 b3 b4 b5 f48 f49 f50 f51 a8 b6 b7 b8 b9
 have uw3 := uw2.trans qw3
 clear qw3 uw2
 rcases HCASE.out with ⟨h2, rfl⟩ | ⟨h2, h3, h4, rfl⟩ | ⟨h2, h3, rfl⟩
 all_goals clear HCASE
 ·
  have t2 : decide (n ≤ 0) = true := by simpa using h2
  clear h2
  go_wp2_with fail
  go_ret
  exact ⟨rfl, uw3⟩
 ·
  have HN1 := Lib.hid (HN.out h2)
  clear HN
  have t2 : decide (n ≤ 0) = false := by simpa using h2
  clear h2
  have t3 : ((0 : Int) == e) = true := by simp [h3]
  have t4 : (d + 1 == f) = true := by simpa using h4
  clear h3 h4
  go_wp2_with fail
  refine (HN1.out _).mono ?_
  rintro e w4 ⟨rfl, qw4⟩
  replace qw4 := qw4.dn
  have f75 := (qw4.frozen (a := ⟨w.heap.size, 0, none⟩) a2).trans f57
  have f76 := (qw4.frozen (a := ⟨w.heap.size, 1, none⟩) a2).trans f58
  have f77 := (qw4.frozen (a := ⟨w.heap.size, 2, none⟩) a2).trans f59
  have f78 := (qw4.frozen (a := ⟨w.heap.size, 3, none⟩) a2).trans f60
  have a0 := nlt a2 qw4.size
  obtain ⟨a9, aA, aB, aC⟩ := mv4 qw4.cell aH aI aJ aK
  have f84 := (qw4.frozen (a := ⟨w.heap.size + 1, 0, none⟩) a3).trans f66
  have f85 := (qw4.frozen (a := ⟨w.heap.size + 1, 1, none⟩) a3).trans f67
  have f86 := (qw4.frozen (a := ⟨w.heap.size + 1, 2, none⟩) a3).trans f68
  have f87 := (qw4.frozen (a := ⟨w.heap.size + 1, 3, none⟩) a3).trans f69
  have a1 := nlt a3 qw4.size
  obtain ⟨aD, aE, aF, aG⟩ := mv4 qw4.cell aL aM aN aO
  clear f57 f58 f59 f60 a2 aH aI aJ aK f66 f67 f68 f69 a3 aL aM aN aO
  have uw4 := uw3.trans qw4
  clear qw4 uw3
  go_wp2_with fail
  obtain ⟨W93, hW93⟩ : ∃ W93, W93 = w4.alloc (.cells #[.int .i8 0, .int .i64 (d + 1)] 28) := ⟨_, rfl⟩
  have uW93 : Dn w4 W93 := by rw [hW93]; exact (Dn.refl _).alloc _
  have n94 : w.heap.size ≠ w4.heap.size := by have := a0; omega
  have n95 : w.heap.size + 1 ≠ w4.heap.size := by have := a1; omega
  have f96 := (uW93.frozen (a := ⟨w.heap.size, 0, none⟩) a0).trans f75
  have f97 := (uW93.frozen (a := ⟨w.heap.size, 1, none⟩) a0).trans f76
  have f98 := (uW93.frozen (a := ⟨w.heap.size, 2, none⟩) a0).trans f77
  have f99 := (uW93.frozen (a := ⟨w.heap.size, 3, none⟩) a0).trans f78
  have bB := nlt a0 uW93.size
  obtain ⟨bC, bD, bE, bF⟩ := mv4 uW93.cell a9 aA aB aC
  have f105 := (uW93.frozen (a := ⟨w.heap.size + 1, 0, none⟩) a1).trans f84
  have f106 := (uW93.frozen (a := ⟨w.heap.size + 1, 1, none⟩) a1).trans f85
  have f107 := (uW93.frozen (a := ⟨w.heap.size + 1, 2, none⟩) a1).trans f86
  have f108 := (uW93.frozen (a := ⟨w.heap.size + 1, 3, none⟩) a1).trans f87
  have bG := nlt a1 uW93.size
  obtain ⟨bH, bI, bJ, bK⟩ := mv4 uW93.cell aD aE aF aG
  clear f75 f76 f77 f78 a0 a9 aA aB aC f84 f85 f86 f87 a1 aD aE aF aG
  have bL : W93.cell? ⟨w4.heap.size, 0, none⟩ = some (.int .i8 0) := by rw [hW93]; simp [go_sem]
  have bM : W93.cell? ⟨w4.heap.size, 1, none⟩ = some (.int .i64 (d + 1)) := by rw [hW93]; simp [go_sem]
  have bN : w4.heap.size < W93.heap.size := by rw [hW93]; simp <;> omega
  rw [← hW93]
  clear hW93
  have vW93 := uw4.trans uW93
  clear uW93 uw4
  go_wp2_with fail
  go_ret
  exact ⟨rfl, vW93⟩
 ·
  have HN1 := Lib.hid (HN.out h2)
  clear HN
  have t2 : decide (n ≤ 0) = false := by simpa using h2
  clear h2
  have t3 : (d + 1 == f) = false := by simpa using h3
  clear h3
  go_wp2_with fail
  refine (HN1.out _).mono ?_
  rintro e w4 ⟨rfl, qw4⟩
  replace qw4 := qw4.dn
  have f75 := (qw4.frozen (a := ⟨w.heap.size, 0, none⟩) a2).trans f57
  have f76 := (qw4.frozen (a := ⟨w.heap.size, 1, none⟩) a2).trans f58
  have f77 := (qw4.frozen (a := ⟨w.heap.size, 2, none⟩) a2).trans f59
  have f78 := (qw4.frozen (a := ⟨w.heap.size, 3, none⟩) a2).trans f60
  have a0 := nlt a2 qw4.size
  obtain ⟨a9, aA, aB, aC⟩ := mv4 qw4.cell aH aI aJ aK
  have f84 := (qw4.frozen (a := ⟨w.heap.size + 1, 0, none⟩) a3).trans f66
  have f85 := (qw4.frozen (a := ⟨w.heap.size + 1, 1, none⟩) a3).trans f67
  have f86 := (qw4.frozen (a := ⟨w.heap.size + 1, 2, none⟩) a3).trans f68
  have f87 := (qw4.frozen (a := ⟨w.heap.size + 1, 3, none⟩) a3).trans f69
  have a1 := nlt a3 qw4.size
  obtain ⟨aD, aE, aF, aG⟩ := mv4 qw4.cell aL aM aN aO
  clear f57 f58 f59 f60 a2 aH aI aJ aK f66 f67 f68 f69 a3 aL aM aN aO
  have uw4 := uw3.trans qw4
  clear qw4 uw3
  go_wp2_with fail
  obtain ⟨W93, hW93⟩ : ∃ W93, W93 = w4.alloc (.cells #[.int .i8 0, .int .i64 (d + 1)] 28) := ⟨_, rfl⟩
  have uW93 : Dn w4 W93 := by rw [hW93]; exact (Dn.refl _).alloc _
  have n94 : w.heap.size ≠ w4.heap.size := by have := a0; omega
  have n95 : w.heap.size + 1 ≠ w4.heap.size := by have := a1; omega
  have f96 := (uW93.frozen (a := ⟨w.heap.size, 0, none⟩) a0).trans f75
  have f97 := (uW93.frozen (a := ⟨w.heap.size, 1, none⟩) a0).trans f76
  have f98 := (uW93.frozen (a := ⟨w.heap.size, 2, none⟩) a0).trans f77
  have f99 := (uW93.frozen (a := ⟨w.heap.size, 3, none⟩) a0).trans f78
  have bB := nlt a0 uW93.size
  obtain ⟨bC, bD, bE, bF⟩ := mv4 uW93.cell a9 aA aB aC
  have f105 := (uW93.frozen (a := ⟨w.heap.size + 1, 0, none⟩) a1).trans f84
  have f106 := (uW93.frozen (a := ⟨w.heap.size + 1, 1, none⟩) a1).trans f85
  have f107 := (uW93.frozen (a := ⟨w.heap.size + 1, 2, none⟩) a1).trans f86
  have f108 := (uW93.frozen (a := ⟨w.heap.size + 1, 3, none⟩) a1).trans f87
  have bG := nlt a1 uW93.size
  obtain ⟨bH, bI, bJ, bK⟩ := mv4 uW93.cell aD aE aF aG
  clear f75 f76 f77 f78 a0 a9 aA aB aC f84 f85 f86 f87 a1 aD aE aF aG
  have bL : W93.cell? ⟨w4.heap.size, 0, none⟩ = some (.int .i8 0) := by rw [hW93]; simp [go_sem]
  have bM : W93.cell? ⟨w4.heap.size, 1, none⟩ = some (.int .i64 (d + 1)) := by rw [hW93]; simp [go_sem]
  have bN : w4.heap.size < W93.heap.size := by rw [hW93]; simp <;> omega
  rw [← hW93]
  clear hW93
  have vW93 := uw4.trans uW93
  clear uW93 uw4
  go_wp2_with fail
  go_ret
  exact ⟨rfl, vW93⟩
theorem rnTch_s1 (a b c d e f g h m n : Int) (tr : Bool) (HR : Hid (∀ W, Calls Tryz.prog 80 #[.agg #[.int .i8 a, .int .i64 b, .int .i8 c, .int .i64 d], .agg #[.int .i8 e, .int .i64 f, .int .i8 g, .int .i64 h]] W fun r w' => r = .returned (.bool true) ∧ Dn W w')) (H1 : Hid (∀ W, Calls Tryz.prog 15 #[.agg #[.int .i8 e, .int .i64 f], .agg #[.int .i8 a, .int .i64 b]] W fun r w' => r = .returned (.int .i64 m) ∧ Up W w')) (H2 : Hid (∀ W, Calls Tryz.prog 15 #[.agg #[.int .i8 a, .int .i64 b], .agg #[.int .i8 g, .int .i64 h]] W fun r w' => r = .returned (.int .i64 n) ∧ Up W w')) (h1 : m < 0) (HN : Hid (¬ n ≤ 0 → ∀ W, Calls Tryz.prog 167 #[.agg #[.int .i8 g, .int .i64 h]] W fun r w' => r = .returned (.tuple #[.agg #[.int .i8 0, .int .i64 (h + 1)], .int .i64 0]) ∧ Up W w')) (HCASE : Hid ((n ≤ 0 ∧ tr = true) ∨ (¬ n ≤ 0 ∧ a = 0 ∧ h + 1 = b ∧ tr = true) ∨ (¬ n ≤ 0 ∧ h + 1 ≠ b ∧ tr = false))) (w : World) :
  Calls Tryz.prog 135 #[.agg #[.int .i8 a, .int .i64 b, .int .i8 c, .int .i64 d], .agg #[.int .i8 e, .int .i64 f, .int .i8 g, .int .i64 h]] w fun ro w' => ro = .returned (.bool tr) ∧ Dn w w' := by
 have t1 : decide (m < 0) = true := by simpa using h1
 clear h1
 go_enter Tryz.func135, Tryz.ntmps135
 go_wp2_with fail
 obtain ⟨W1, hW1⟩ : ∃ W1, W1 = (w.alloc (.cells #[.int .i8 a, .int .i64 b, .int .i8 c, .int .i64 d] 30)).alloc (.cells #[.int .i8 e, .int .i64 f, .int .i8 g, .int .i64 h] 30) := ⟨_, rfl⟩
 have uW1 : Dn w W1 := by rw [hW1]; exact ((Dn.refl _).alloc _).alloc _
 have n2 : w.heap.size ≠ w.heap.size + 1 := by omega
 have c3 : W1.cell? ⟨w.heap.size, 0, none⟩ = some (.int .i8 a) := by rw [hW1]; simp [go_sem]
 have c4 : W1.cell? ⟨w.heap.size, 1, none⟩ = some (.int .i64 b) := by rw [hW1]; simp [go_sem]
 have c5 : W1.cell? ⟨w.heap.size, 2, none⟩ = some (.int .i8 c) := by rw [hW1]; simp [go_sem]
 have c6 : W1.cell? ⟨w.heap.size, 3, none⟩ = some (.int .i64 d) := by rw [hW1]; simp [go_sem]
 have l7 : w.heap.size < W1.heap.size := by rw [hW1]; simp <;> omega
 have f8 : W1.frozen? ⟨w.heap.size, 0, none⟩ = false := by rw [hW1]; simp [go_sem]
 have f9 : W1.frozen? ⟨w.heap.size, 1, none⟩ = false := by rw [hW1]; simp [go_sem]
 have f10 : W1.frozen? ⟨w.heap.size, 2, none⟩ = false := by rw [hW1]; simp [go_sem]
 have f11 : W1.frozen? ⟨w.heap.size, 3, none⟩ = false := by rw [hW1]; simp [go_sem]
 have aV : W1.cell? ⟨w.heap.size + 1, 0, none⟩ = some (.int .i8 e) := by rw [hW1]; simp [go_sem]
 have aW : W1.cell? ⟨w.heap.size + 1, 1, none⟩ = some (.int .i64 f) := by rw [hW1]; simp [go_sem]
 have aX : W1.cell? ⟨w.heap.size + 1, 2, none⟩ = some (.int .i8 g) := by rw [hW1]; simp [go_sem]
 have aY : W1.cell? ⟨w.heap.size + 1, 3, none⟩ = some (.int .i64 h) := by rw [hW1]; simp [go_sem]
 have a8 : w.heap.size + 1 < W1.heap.size := by rw [hW1]; simp <;> omega
 have f17 : W1.frozen? ⟨w.heap.size + 1, 0, none⟩ = false := by rw [hW1]; simp [go_sem]
 have f18 : W1.frozen? ⟨w.heap.size + 1, 1, none⟩ = false := by rw [hW1]; simp [go_sem]
 have f19 : W1.frozen? ⟨w.heap.size + 1, 2, none⟩ = false := by rw [hW1]; simp [go_sem]
 have f20 : W1.frozen? ⟨w.heap.size + 1, 3, none⟩ = false := by rw [hW1]; simp [go_sem]
 rw [← hW1]
 clear hW1
 refine (HR.out _).mono ?_
 rintro e w1 ⟨rfl, qw1⟩
 have f21 := (qw1.frozen (a := ⟨w.heap.size, 0, none⟩) l7).trans f8
 have f22 := (qw1.frozen (a := ⟨w.heap.size, 1, none⟩) l7).trans f9
 have f23 := (qw1.frozen (a := ⟨w.heap.size, 2, none⟩) l7).trans f10
 have f24 := (qw1.frozen (a := ⟨w.heap.size, 3, none⟩) l7).trans f11
 have a9 := nlt l7 qw1.size
 obtain ⟨aZ, b0, b2, b3⟩ := mv4 qw1.cell c3 c4 c5 c6
 have f30 := (qw1.frozen (a := ⟨w.heap.size + 1, 0, none⟩) a8).trans f17
 have f31 := (qw1.frozen (a := ⟨w.heap.size + 1, 1, none⟩) a8).trans f18
 have f32 := (qw1.frozen (a := ⟨w.heap.size + 1, 2, none⟩) a8).trans f19
 have f33 := (qw1.frozen (a := ⟨w.heap.size + 1, 3, none⟩) a8).trans f20
 have aA := nlt a8 qw1.size
 obtain ⟨b4, b5, b6, b7⟩ := mv4 qw1.cell aV aW aX aY
 clear f8 f9 f10 f11 l7 c3 c4 c5 c6 f17 f18 f19 f20 a8 aV aW aX aY
 have uw1 := uW1.trans qw1
 clear qw1 uW1
 go_wp2_with fail
 refine (H1.out _).mono ?_
 rintro e w2 ⟨rfl, qw2⟩
 replace qw2 := qw2.dn
 have f39 := (qw2.frozen (a := ⟨w.heap.size, 0, none⟩) a9).trans f21
 have f40 := (qw2.frozen (a := ⟨w.heap.size, 1, none⟩) a9).trans f22
 have f41 := (qw2.frozen (a := ⟨w.heap.size, 2, none⟩) a9).trans f23
 have f42 := (qw2.frozen (a := ⟨w.heap.size, 3, none⟩) a9).trans f24
 have b8 := nlt a9 qw2.size
 obtain ⟨a0, a1, a2, a3⟩ := mv4 qw2.cell aZ b0 b2 b3
 have f48 := (qw2.frozen (a := ⟨w.heap.size + 1, 0, none⟩) aA).trans f30
 have f49 := (qw2.frozen (a := ⟨w.heap.size + 1, 1, none⟩) aA).trans f31
 have f50 := (qw2.frozen (a := ⟨w.heap.size + 1, 2, none⟩) aA).trans f32
 have f51 := (qw2.frozen (a := ⟨w.heap.size + 1, 3, none⟩) aA).trans f33
 have b9 := nlt aA qw2.size
 obtain ⟨a4, a5, a6, a7⟩ := mv4 qw2.cell b4 b5 b6 b7
 clear f21 f22 f23 f24 a9 aZ b0 b2 b3 f30 f31 f32 f33 aA b4 b5 b6 b7
 have uw2 := uw1.trans qw2
 clear qw2 uw1
 go_wp2_with fail
 obtain ⟨W57, hW57⟩ : ∃ W57, W57 = (((((((w2.setCell ⟨w.heap.size, 0, none⟩ (.int .i8 e)).setCell ⟨w.heap.size, 1, none⟩ (.int .i64 f)).setCell ⟨w.heap.size, 2, none⟩ (.int .i8 g)).setCell ⟨w.heap.size, 3, none⟩ (.int .i64 h)).setCell ⟨w.heap.size + 1, 0, none⟩ (.int .i8 a)).setCell ⟨w.heap.size + 1, 1, none⟩ (.int .i64 b)).setCell ⟨w.heap.size + 1, 2, none⟩ (.int .i8 c)).setCell ⟨w.heap.size + 1, 3, none⟩ (.int .i64 d) := ⟨_, rfl⟩
 have uW57 : Dn w W57 := by rw [hW57]; exact ((((((((uw2.setCell (by simp <;> omega) _).setCell (by simp <;> omega) _).setCell (by simp <;> omega) _).setCell (by simp <;> omega) _).setCell (by simp <;> omega) _).setCell (by simp <;> omega) _).setCell (by simp <;> omega) _).setCell (by simp <;> omega) _)
 have bB : W57.cell? ⟨w.heap.size, 0, none⟩ = some (.int .i8 e) := by rw [hW57]; simp [go_sem, a0, a1, a2, a3, a4, a5, a6, a7]
 have bC : W57.cell? ⟨w.heap.size, 1, none⟩ = some (.int .i64 f) := by rw [hW57]; simp [go_sem, a0, a1, a2, a3, a4, a5, a6, a7]
 have bD : W57.cell? ⟨w.heap.size, 2, none⟩ = some (.int .i8 g) := by rw [hW57]; simp [go_sem, a0, a1, a2, a3, a4, a5, a6, a7]
 have bE : W57.cell? ⟨w.heap.size, 3, none⟩ = some (.int .i64 h) := by rw [hW57]; simp [go_sem, a0, a1, a2, a3, a4, a5, a6, a7]
 have bF : w.heap.size < W57.heap.size := by rw [hW57]; simpa using b8
 have bG : W57.cell? ⟨w.heap.size + 1, 0, none⟩ = some (.int .i8 a) := by rw [hW57]; simp [go_sem, a0, a1, a2, a3, a4, a5, a6, a7]
 have bH : W57.cell? ⟨w.heap.size + 1, 1, none⟩ = some (.int .i64 b) := by rw [hW57]; simp [go_sem, a0, a1, a2, a3, a4, a5, a6, a7]
 have bI : W57.cell? ⟨w.heap.size + 1, 2, none⟩ = some (.int .i8 c) := by rw [hW57]; simp [go_sem, a0, a1, a2, a3, a4, a5, a6, a7]
 have bJ : W57.cell? ⟨w.heap.size + 1, 3, none⟩ = some (.int .i64 d) := by rw [hW57]; simp [go_sem, a0, a1, a2, a3, a4, a5, a6, a7]
 have bK : w.heap.size + 1 < W57.heap.size := by rw [hW57]; simpa using b9
 rw [← hW57]
 clear hW57 uw2 a0 a1 a2 a3 a4 a5 a6 a7 b8 b9 f39 f40 f41 f42 f48 f49 f50 f51
 refine (H2.out _).mono ?_
 rintro e w3 ⟨rfl, qw3⟩
 replace qw3 := qw3.dn
 have aL := nlt bF qw3.size
 have aQ := nlt bK qw3.size
 obtain ⟨aM, aN, aO, aP, aR, aS, aT, aU⟩ := mv8 qw3.cell bB bC bD bE bG bH bI bJ
 clear bF bB bC bD bE bK bG bH bI bJ
 have uw3 := uW57.trans qw3
 clear qw3 uW57
 rcases HCASE.out with ⟨h2, rfl⟩ | ⟨h2, h3, h4, rfl⟩ | ⟨h2, h3, rfl⟩
 all_goals clear HCASE
 ·
  have t2 : decide (n ≤ 0) = true := by simpa using h2
  clear h2
  go_wp2_with fail
  go_ret
  exact ⟨rfl, uw3⟩
 ·
  have HN1 := Lib.hid (HN.out h2)
  clear HN
  have t2 : decide (n ≤ 0) = false := by simpa using h2
  clear h2
  have t3 : ((0 : Int) == a) = true := by simp [h3]
  have t4 : (h + 1 == b) = true := by simpa using h4
  clear h3 h4
  go_wp2_with fail
  refine (HN1.out _).mono ?_
  rintro e w4 ⟨rfl, qw4⟩
  replace qw4 := qw4.dn
  have aB := nlt aL qw4.size
  have aG := nlt aQ qw4.size
  obtain ⟨aC, aD, aE, aF, aH, aI, aJ, aK⟩ := mv8 qw4.cell aM aN aO aP aR aS aT aU
  clear aL aM aN aO aP aQ aR aS aT aU
  have uw4 := uw3.trans qw4
  clear qw4 uw3
  go_wp2_with fail
  obtain ⟨W88, hW88⟩ : ∃ W88, W88 = w4.alloc (.cells #[.int .i8 0, .int .i64 (h + 1)] 28) := ⟨_, rfl⟩
  have uW88 : Dn w4 W88 := by rw [hW88]; exact (Dn.refl _).alloc _
  have bL := nlt aB uW88.size
  have bQ := nlt aG uW88.size
  obtain ⟨bM, bN, bO, bP, bR, bS, bT, bU⟩ := mv8 uW88.cell aC aD aE aF aH aI aJ aK
  clear aB aC aD aE aF aG aH aI aJ aK
  have bV : W88.cell? ⟨w4.heap.size, 0, none⟩ = some (.int .i8 0) := by rw [hW88]; simp [go_sem]
  have bW : W88.cell? ⟨w4.heap.size, 1, none⟩ = some (.int .i64 (h + 1)) := by rw [hW88]; simp [go_sem]
  have bX : w4.heap.size < W88.heap.size := by rw [hW88]; simp <;> omega
  rw [← hW88]
  clear hW88
  have vW88 := uw4.trans uW88
  clear uW88 uw4
  go_wp2_with fail
  go_ret
  exact ⟨rfl, vW88⟩
 ·
  have HN1 := Lib.hid (HN.out h2)
  clear HN
  have t2 : decide (n ≤ 0) = false := by simpa using h2
  clear h2
  have t3 : (h + 1 == b) = false := by simpa using h3
  clear h3
  go_wp2_with fail
  refine (HN1.out _).mono ?_
  rintro e w4 ⟨rfl, qw4⟩
  replace qw4 := qw4.dn
  have aB := nlt aL qw4.size
  have aG := nlt aQ qw4.size
  obtain ⟨aC, aD, aE, aF, aH, aI, aJ, aK⟩ := mv8 qw4.cell aM aN aO aP aR aS aT aU
  clear aL aM aN aO aP aQ aR aS aT aU
  have uw4 := uw3.trans qw4
  clear qw4 uw3
  go_wp2_with fail
  obtain ⟨W88, hW88⟩ : ∃ W88, W88 = w4.alloc (.cells #[.int .i8 0, .int .i64 (h + 1)] 28) := ⟨_, rfl⟩
  have uW88 : Dn w4 W88 := by rw [hW88]; exact (Dn.refl _).alloc _
  have bL := nlt aB uW88.size
  have bQ := nlt aG uW88.size
  obtain ⟨bM, bN, bO, bP, bR, bS, bT, bU⟩ := mv8 uW88.cell aC aD aE aF aH aI aJ aK
  clear aB aC aD aE aF aG aH aI aJ aK
  have bV : W88.cell? ⟨w4.heap.size, 0, none⟩ = some (.int .i8 0) := by rw [hW88]; simp [go_sem]
  have bW : W88.cell? ⟨w4.heap.size, 1, none⟩ = some (.int .i64 (h + 1)) := by rw [hW88]; simp [go_sem]
  have bX : w4.heap.size < W88.heap.size := by rw [hW88]; simp <;> omega
  rw [← hW88]
  clear hW88
  have vW88 := uw4.trans uW88
  clear uW88 uw4
  go_wp2_with fail
  go_ret
  exact ⟨rfl, vW88⟩
theorem rnTouch (a b c d e f g h : Int) (w : World) (hb : I64 b) (hd : I64 d) (hf : I64 f) (hh : I64 h) :
   Calls Tryz.prog 135 #[.agg #[.int .i8 a, .int .i64 b, .int .i8 c, .int .i64 d], .agg #[.int .i8 e, .int .i64 f, .int .i8 g, .int .i64 h]] w fun r w' => r = .returned (.bool (decide (Tch a b c d e f g h))) ∧ Dn w w' := by
 have HR := Lib.hid (fun W => rnRight a b c d e f g h W hb hd hf hh)
 by_cases h0 : RnOk a b c d ∧ RnOk e f g h
 · rw [decide_eq_true h0] at HR
   obtain ⟨⟨o1, o2, o3, o4, o5⟩, p1, p2, p3, p4, p5⟩ := h0
   have hT : Tch a b c d e f g h ↔ key e f ≤ key c d + 1 ∧ key a b ≤ key g h + 1 := ⟨fun hc => hc.2.2, fun hc => ⟨⟨o1, o2, o3, o4, o5⟩, ⟨p1, p2, p3, p4, p5⟩, hc⟩⟩
   have k1 := eC_lt (i := e) (j := a) hf hb
   have H1 := Lib.hid (fun W => eCmp e f a b W)
   by_cases hm : eC e f a b < 0
   · have k2 := eC_le (i := a) (j := g) hb hh
     have H2 := Lib.hid (fun W => eCmp a b g h W)
     by_cases hn : eC a b g h ≤ 0
     · rw [decide_eq_true (hT.2 (by unfold key at *; omega))]
       exact rnTch_s1 a b c d e f g h _ _ _ HR H1 H2 hm (Lib.hid (fun hc => absurd hn hc)) (Lib.hid (.inl ⟨hn, rfl⟩)) w
     · have hg : g = 0 := by unfold eOk key I64 at *; omega
       subst hg
       have hfit : I64 (h + 1) := by unfold eOk key I64 at *; omega
       have HN := Lib.hid (fun W => eNext 0 h 0 (h + 1) 0 W hh (Or.inr (Or.inr ⟨rfl, rfl, Or.inl ⟨hfit, rfl, rfl⟩⟩)))
       by_cases hq : a = 0 ∧ h + 1 = b
       · rw [decide_eq_true (hT.2 (by unfold key at *; omega))]
         exact rnTch_s1 a b c d e f 0 h _ _ _ HR H1 H2 hm (Lib.hid (fun _ => HN.out)) (Lib.hid (.inr (.inl ⟨hn, hq.1, hq.2, rfl⟩))) w
       · have ha : a = 0 := by unfold eOk key I64 at *; omega
         rw [decide_eq_false (fun hc => by have := hT.1 hc; unfold key at *; omega)]
         exact rnTch_s1 a b c d e f 0 h _ _ _ HR H1 H2 hm (Lib.hid (fun _ => HN.out)) (Lib.hid (.inr (.inr ⟨hn, fun hc => hq ⟨ha, hc⟩, rfl⟩))) w
   · have k2 := eC_le (i := e) (j := c) hf hd
     have H2 := Lib.hid (fun W => eCmp e f c d W)
     by_cases hn : eC e f c d ≤ 0
     · rw [decide_eq_true (hT.2 (by unfold key at *; omega))]
       exact rnTch_s0 a b c d e f g h _ _ _ HR H1 H2 hm (Lib.hid (fun hc => absurd hn hc)) (Lib.hid (.inl ⟨hn, rfl⟩)) w
     · have hg : c = 0 := by unfold eOk key I64 at *; omega
       subst hg
       have hfit : I64 (d + 1) := by unfold eOk key I64 at *; omega
       have HN := Lib.hid (fun W => eNext 0 d 0 (d + 1) 0 W hd (Or.inr (Or.inr ⟨rfl, rfl, Or.inl ⟨hfit, rfl, rfl⟩⟩)))
       by_cases hq : e = 0 ∧ d + 1 = f
       · rw [decide_eq_true (hT.2 (by unfold key at *; omega))]
         exact rnTch_s0 a b 0 d e f g h _ _ _ HR H1 H2 hm (Lib.hid (fun _ => HN.out)) (Lib.hid (.inr (.inl ⟨hn, hq.1, hq.2, rfl⟩))) w
       · have ha : e = 0 := by unfold eOk key I64 at *; omega
         rw [decide_eq_false (fun hc => by have := hT.1 hc; unfold key at *; omega)]
         exact rnTch_s0 a b 0 d e f g h _ _ _ HR H1 H2 hm (Lib.hid (fun _ => HN.out)) (Lib.hid (.inr (.inr ⟨hn, fun hc => hq ⟨ha, hc⟩, rfl⟩))) w
 · rw [decide_eq_false h0] at HR
   rw [decide_eq_false (fun hc : Tch a b c d e f g h => h0 ⟨hc.1, hc.2.1⟩)]
   exact rnTch_no a b c d e f g h HR w
set_option maxHeartbeats 4000000
set_option maxRecDepth 100000
theorem kdJ_8 {W w1 w2 : World} {a0 a1 a2 a3 a4 a5 a6 a7 : Addr} {v0 v1 v2 v3 v4 v5 v6 v7 : Value} (k : Dn w1 w2) (h : Dn W w1 ∧ w1.cell? a0 = some v0 ∧ w1.cell? a1 = some v1 ∧ w1.cell? a2 = some v2 ∧ w1.cell? a3 = some v3 ∧ w1.cell? a4 = some v4 ∧ w1.cell? a5 = some v5 ∧ w1.cell? a6 = some v6 ∧ w1.cell? a7 = some v7) :
  Dn W w2 ∧ w2.cell? a0 = some v0 ∧ w2.cell? a1 = some v1 ∧ w2.cell? a2 = some v2 ∧ w2.cell? a3 = some v3 ∧ w2.cell? a4 = some v4 ∧ w2.cell? a5 = some v5 ∧ w2.cell? a6 = some v6 ∧ w2.cell? a7 = some v7 := by
 obtain ⟨h1, c0, c1, c2, c3, c4, c5, c6, c7⟩ := h
 exact ⟨h1.trans k, k.cell c0, k.cell c1, k.cell c2, k.cell c3, k.cell c4, k.cell c5, k.cell c6, k.cell c7⟩
theorem kdS {W w1 : World} {a0 a1 a2 a3 a4 a5 a6 a7 p : Addr} {v0 v1 v2 v3 v4 v5 v6 v7 : Value} (v : Value) (hp : W.heap.size ≤ p.block) (hn : ∀ a ∈ [a0, a1, a2, a3, a4, a5, a6, a7], p.block ≠ a.block)
  (h : Dn W w1 ∧ w1.cell? a0 = some v0 ∧ w1.cell? a1 = some v1 ∧ w1.cell? a2 = some v2 ∧ w1.cell? a3 = some v3 ∧ w1.cell? a4 = some v4 ∧ w1.cell? a5 = some v5 ∧ w1.cell? a6 = some v6 ∧ w1.cell? a7 = some v7) : Dn W (w1.setCell p v) ∧ (w1.setCell p v).cell? a0 = some v0 ∧ (w1.setCell p v).cell? a1 = some v1 ∧ (w1.setCell p v).cell? a2 = some v2 ∧ (w1.setCell p v).cell? a3 = some v3 ∧ (w1.setCell p v).cell? a4 = some v4 ∧ (w1.setCell p v).cell? a5 = some v5 ∧ (w1.setCell p v).cell? a6 = some v6 ∧ (w1.setCell p v).cell? a7 = some v7 := by
 obtain ⟨h1, c0, c1, c2, c3, c4, c5, c6, c7⟩ := h
 have hx : ∀ a, p.block ≠ a.block → ∀ u, w1.cell? a = some u → (w1.setCell p v).cell? a = some u := fun a ha u hu => by
  rw [World.cell?_setCell_other _ _ _ _ (fun e => ha (by rw [e]))]; exact hu
 exact ⟨h1.setCell hp v, hx _ (hn _ (by simp)) _ c0, hx _ (hn _ (by simp)) _ c1, hx _ (hn _ (by simp)) _ c2, hx _ (hn _ (by simp)) _ c3, hx _ (hn _ (by simp)) _ c4, hx _ (hn _ (by simp)) _ c5, hx _ (hn _ (by simp)) _ c6, hx _ (hn _ (by simp)) _ c7⟩
theorem rnJoin_no (a b c d e f g h : Int) (HT : Hid (∀ W, Calls Tryz.prog 135 #[.agg #[.int .i8 a, .int .i64 b, .int .i8 c, .int .i64 d], .agg #[.int .i8 e, .int .i64 f, .int .i8 g, .int .i64 h]] W fun r w' => r = .returned (.bool false) ∧ Dn W w')) (w : World) :
  Calls Tryz.prog 117 #[.agg #[.int .i8 a, .int .i64 b, .int .i8 c, .int .i64 d], .agg #[.int .i8 e, .int .i64 f, .int .i8 g, .int .i64 h]] w fun ro w' => ro = .returned (.tuple #[.agg #[.int .i8 0, .int .i64 0, .int .i8 0, .int .i64 0], .bool false]) ∧ Dn w w' := by
 go_enter Tryz.func117, Tryz.ntmps117
 go_wp2_with fail
 obtain ⟨W1, hW1⟩ : ∃ W1, W1 = ((w.alloc (.cells #[.int .i8 a, .int .i64 b, .int .i8 c, .int .i64 d] 30)).alloc (.cells #[.int .i8 e, .int .i64 f, .int .i8 g, .int .i64 h] 30)).alloc (.cells #[.int .i8 0, .int .i64 0, .int .i8 0, .int .i64 0] 30) := ⟨_, rfl⟩
 have uW1 : Dn w W1 := by rw [hW1]; exact (((Dn.refl _).alloc _).alloc _).alloc _
 have n2 : w.heap.size ≠ w.heap.size + 1 + 1 := by omega
 have n3 : w.heap.size + 1 ≠ w.heap.size + 1 + 1 := by omega
 have c4 : W1.cell? ⟨w.heap.size, 0, none⟩ = some (.int .i8 a) := by rw [hW1]; simp [go_sem]
 have c5 : W1.cell? ⟨w.heap.size, 1, none⟩ = some (.int .i64 b) := by rw [hW1]; simp [go_sem]
 have c6 : W1.cell? ⟨w.heap.size, 2, none⟩ = some (.int .i8 c) := by rw [hW1]; simp [go_sem]
 have c7 : W1.cell? ⟨w.heap.size, 3, none⟩ = some (.int .i64 d) := by rw [hW1]; simp [go_sem]
 have l8 : w.heap.size < W1.heap.size := by rw [hW1]; simp <;> omega
 have c9 : W1.cell? ⟨w.heap.size + 1, 0, none⟩ = some (.int .i8 e) := by rw [hW1]; simp [go_sem]
 have a1 : W1.cell? ⟨w.heap.size + 1, 1, none⟩ = some (.int .i64 f) := by rw [hW1]; simp [go_sem]
 have a2 : W1.cell? ⟨w.heap.size + 1, 2, none⟩ = some (.int .i8 g) := by rw [hW1]; simp [go_sem]
 have a3 : W1.cell? ⟨w.heap.size + 1, 3, none⟩ = some (.int .i64 h) := by rw [hW1]; simp [go_sem]
 have a4 : w.heap.size + 1 < W1.heap.size := by rw [hW1]; simp <;> omega
 have a5 : W1.cell? ⟨w.heap.size + 1 + 1, 0, none⟩ = some (.int .i8 0) := by rw [hW1]; simp [go_sem]
 have a6 : W1.cell? ⟨w.heap.size + 1 + 1, 1, none⟩ = some (.int .i64 0) := by rw [hW1]; simp [go_sem]
 have a7 : W1.cell? ⟨w.heap.size + 1 + 1, 2, none⟩ = some (.int .i8 0) := by rw [hW1]; simp [go_sem]
 have a8 : W1.cell? ⟨w.heap.size + 1 + 1, 3, none⟩ = some (.int .i64 0) := by rw [hW1]; simp [go_sem]
 have a0 : w.heap.size + 1 + 1 < W1.heap.size := by rw [hW1]; simp <;> omega
 have f19 : W1.frozen? ⟨w.heap.size + 1 + 1, 0, none⟩ = false := by rw [hW1]; simp [go_sem]
 have f20 : W1.frozen? ⟨w.heap.size + 1 + 1, 1, none⟩ = false := by rw [hW1]; simp [go_sem]
 have f21 : W1.frozen? ⟨w.heap.size + 1 + 1, 2, none⟩ = false := by rw [hW1]; simp [go_sem]
 have f22 : W1.frozen? ⟨w.heap.size + 1 + 1, 3, none⟩ = false := by rw [hW1]; simp [go_sem]
 rw [← hW1]
 clear hW1
 refine (HT.out _).mono ?_
 rintro e w1 ⟨rfl, qw1⟩
 have aL := nlt l8 qw1.size
 have aM := nlt a4 qw1.size
 obtain ⟨a9, aA, aB, aC, aD, aE, aF, aG⟩ := mv8 qw1.cell c4 c5 c6 c7 c9 a1 a2 a3
 have f33 := (qw1.frozen (a := ⟨w.heap.size + 1 + 1, 0, none⟩) a0).trans f19
 have f34 := (qw1.frozen (a := ⟨w.heap.size + 1 + 1, 1, none⟩) a0).trans f20
 have f35 := (qw1.frozen (a := ⟨w.heap.size + 1 + 1, 2, none⟩) a0).trans f21
 have f36 := (qw1.frozen (a := ⟨w.heap.size + 1 + 1, 3, none⟩) a0).trans f22
 have aN := nlt a0 qw1.size
 obtain ⟨aH, aI, aJ, aK⟩ := mv4 qw1.cell a5 a6 a7 a8
 clear l8 c4 c5 c6 c7 a4 c9 a1 a2 a3 f19 f20 f21 f22 a0 a5 a6 a7 a8
 have uw1 := uW1.trans qw1
 clear qw1 uW1
 go_wp2_with fail
 exact bodyPost_ret (v := .tuple #[.agg #[.int .i8 0, .int .i64 0, .int .i8 0, .int .i64 0], .bool false]) (by simp [results, Tryz.results117, go_sem, a9, aA, aB, aC, aD, aE, aF, aG, aH, aI, aJ, aK, f33, f34, f35, f36] <;> omega) rfl ⟨rfl, ((((uw1.setCell (by simp <;> omega) _).setCell (by simp <;> omega) _).setCell (by simp <;> omega) _).setCell (by simp <;> omega) _)⟩
theorem rnJoin_yes (a b c d e f g h i1 d1 i2 d2 : Int) (HT : Hid (∀ W, Calls Tryz.prog 135 #[.agg #[.int .i8 a, .int .i64 b, .int .i8 c, .int .i64 d], .agg #[.int .i8 e, .int .i64 f, .int .i8 g, .int .i64 h]] W fun r w' => r = .returned (.bool true) ∧ Dn W w')) (HM : Hid (∀ W, Calls Tryz.prog 151 #[.agg #[.int .i8 a, .int .i64 b], .agg #[.int .i8 e, .int .i64 f]] W fun r w' => r = .returned (.agg #[.int .i8 i1, .int .i64 d1]) ∧ Up W w')) (HX : Hid (∀ W, Calls Tryz.prog 152 #[.agg #[.int .i8 c, .int .i64 d], .agg #[.int .i8 g, .int .i64 h]] W fun r w' => r = .returned (.agg #[.int .i8 i2, .int .i64 d2]) ∧ Up W w')) (w : World) :
    Calls Tryz.prog 117 #[.agg #[.int .i8 a, .int .i64 b, .int .i8 c, .int .i64 d], .agg #[.int .i8 e, .int .i64 f, .int .i8 g, .int .i64 h]] w fun ro w' => ro = .returned (.tuple #[.agg #[.int .i8 i1, .int .i64 d1, .int .i8 i2, .int .i64 d2], .bool true]) ∧ Dn w w' := by
  go_enter Tryz.func117, Tryz.ntmps117
  go_wp2_with fail
  obtain ⟨W1, hW1⟩ : ∃ W1, W1 = ((w.alloc (.cells #[.int .i8 a, .int .i64 b, .int .i8 c, .int .i64 d] 30)).alloc (.cells #[.int .i8 e, .int .i64 f, .int .i8 g, .int .i64 h] 30)).alloc (.cells #[.int .i8 0, .int .i64 0, .int .i8 0, .int .i64 0] 30) := ⟨_, rfl⟩
  have uW1 : Dn w W1 := by rw [hW1]; exact (((Dn.refl _).alloc _).alloc _).alloc _
  have n2 : w.heap.size ≠ w.heap.size + 1 + 1 := by omega
  have n3 : w.heap.size + 1 ≠ w.heap.size + 1 + 1 := by omega
  have c4 : W1.cell? ⟨w.heap.size, 0, none⟩ = some (.int .i8 a) := by rw [hW1]; simp [go_sem]
  have c5 : W1.cell? ⟨w.heap.size, 1, none⟩ = some (.int .i64 b) := by rw [hW1]; simp [go_sem]
  have c6 : W1.cell? ⟨w.heap.size, 2, none⟩ = some (.int .i8 c) := by rw [hW1]; simp [go_sem]
  have c7 : W1.cell? ⟨w.heap.size, 3, none⟩ = some (.int .i64 d) := by rw [hW1]; simp [go_sem]
  have l8 : w.heap.size < W1.heap.size := by rw [hW1]; simp <;> omega
  have c9 : W1.cell? ⟨w.heap.size + 1, 0, none⟩ = some (.int .i8 e) := by rw [hW1]; simp [go_sem]
  have a1 : W1.cell? ⟨w.heap.size + 1, 1, none⟩ = some (.int .i64 f) := by rw [hW1]; simp [go_sem]
  have a2 : W1.cell? ⟨w.heap.size + 1, 2, none⟩ = some (.int .i8 g) := by rw [hW1]; simp [go_sem]
  have a3 : W1.cell? ⟨w.heap.size + 1, 3, none⟩ = some (.int .i64 h) := by rw [hW1]; simp [go_sem]
  have a4 : w.heap.size + 1 < W1.heap.size := by rw [hW1]; simp <;> omega
  have a5 : W1.cell? ⟨w.heap.size + 1 + 1, 0, none⟩ = some (.int .i8 0) := by rw [hW1]; simp [go_sem]
  have a6 : W1.cell? ⟨w.heap.size + 1 + 1, 1, none⟩ = some (.int .i64 0) := by rw [hW1]; simp [go_sem]
  have a7 : W1.cell? ⟨w.heap.size + 1 + 1, 2, none⟩ = some (.int .i8 0) := by rw [hW1]; simp [go_sem]
  have a8 : W1.cell? ⟨w.heap.size + 1 + 1, 3, none⟩ = some (.int .i64 0) := by rw [hW1]; simp [go_sem]
  have a0 : w.heap.size + 1 + 1 < W1.heap.size := by rw [hW1]; simp <;> omega
  have f19 : W1.frozen? ⟨w.heap.size + 1 + 1, 0, none⟩ = false := by rw [hW1]; simp [go_sem]
  have f20 : W1.frozen? ⟨w.heap.size + 1 + 1, 1, none⟩ = false := by rw [hW1]; simp [go_sem]
  have f21 : W1.frozen? ⟨w.heap.size + 1 + 1, 2, none⟩ = false := by rw [hW1]; simp [go_sem]
  have f22 : W1.frozen? ⟨w.heap.size + 1 + 1, 3, none⟩ = false := by rw [hW1]; simp [go_sem]
  rw [← hW1]
  clear hW1
  refine (HT.out _).mono ?_
  rintro e w1 ⟨rfl, qw1⟩
  have aM := nlt l8 qw1.size
  have aN := nlt a4 qw1.size
  obtain ⟨a9, aA, aB, aC, aD, aE, aF, aG⟩ := mv8 qw1.cell c4 c5 c6 c7 c9 a1 a2 a3
  have f33 := (qw1.frozen (a := ⟨w.heap.size + 1 + 1, 0, none⟩) a0).trans f19
  have f34 := (qw1.frozen (a := ⟨w.heap.size + 1 + 1, 1, none⟩) a0).trans f20
  have f35 := (qw1.frozen (a := ⟨w.heap.size + 1 + 1, 2, none⟩) a0).trans f21
  have f36 := (qw1.frozen (a := ⟨w.heap.size + 1 + 1, 3, none⟩) a0).trans f22
  have aH := nlt a0 qw1.size
  obtain ⟨aI, aJ, aK, aL⟩ := mv4 qw1.cell a5 a6 a7 a8
  clear l8 c4 c5 c6 c7 a4 c9 a1 a2 a3 f19 f20 f21 f22 a0 a5 a6 a7 a8
  have uw1 := uW1.trans qw1
  clear qw1 uW1
  go_wp2_with fail
  have hS := kdJ_8 (W := w) (Dn.refl w1) ⟨uw1, a9, aA, aB, aC, aD, aE, aF, aG⟩
  have z0 := aI
  have f0 := f33
  have z1 := aJ
  have f1 := f34
  have z2 := aK
  have f2 := f35
  have z3 := aL
  have f3 := f36
  have lz := aH
  clear a9 aA aB aC aD aE aF aG aI aJ aK aL f33 f34 f35 f36 aH
  go_region_held3 (fun w' => Dn w w' ∧ w'.cell? ⟨w.heap.size, 0, none⟩ = some (.int .i8 a) ∧ w'.cell? ⟨w.heap.size, 1, none⟩ = some (.int .i64 b) ∧ w'.cell? ⟨w.heap.size, 2, none⟩ = some (.int .i8 c) ∧ w'.cell? ⟨w.heap.size, 3, none⟩ = some (.int .i64 d) ∧ w'.cell? ⟨w.heap.size + 1, 0, none⟩ = some (.int .i8 e) ∧ w'.cell? ⟨w.heap.size + 1, 1, none⟩ = some (.int .i64 f) ∧ w'.cell? ⟨w.heap.size + 1, 2, none⟩ = some (.int .i8 g) ∧ w'.cell? ⟨w.heap.size + 1, 3, none⟩ = some (.int .i64 h))
    (first | exact kdJ_8 ((Dn.refl _).drew) hS | exact kdJ_8 ‹Dn _ _› ‹_› | exact kdJ_8 (Up.dn ‹Up _ _›) ‹_› | exact kdS _ (by simp <;> omega) (by simp <;> omega) (kdS _ (by simp <;> omega) (by simp <;> omega) (kdS _ (by simp <;> omega) (by simp <;> omega) (kdS _ (by simp <;> omega) (by simp <;> omega) ‹Dn w _ ∧ _›))) | assumption)
    (first
      | (go_at_call 151; refine (HM.out _).mono ?_; rintro e wa ⟨rfl, qa⟩; replace qa := Up.dn qa; have z0 := qa.cell (a := ⟨w.heap.size + 1 + 1, 0, none⟩) (by assumption); have z1 := qa.cell (a := ⟨w.heap.size + 1 + 1, 1, none⟩) (by assumption); have z2 := qa.cell (a := ⟨w.heap.size + 1 + 1, 2, none⟩) (by assumption); have z3 := qa.cell (a := ⟨w.heap.size + 1 + 1, 3, none⟩) (by assumption); have f0 := (qa.frozen (a := ⟨w.heap.size + 1 + 1, 0, none⟩) (by assumption)).trans (by assumption); have f1 := (qa.frozen (a := ⟨w.heap.size + 1 + 1, 1, none⟩) (by assumption)).trans (by assumption); have f2 := (qa.frozen (a := ⟨w.heap.size + 1 + 1, 2, none⟩) (by assumption)).trans (by assumption); have f3 := (qa.frozen (a := ⟨w.heap.size + 1 + 1, 3, none⟩) (by assumption)).trans (by assumption); have lz : w.heap.size + 1 + 1 < wa.heap.size := Nat.lt_of_lt_of_le (by assumption) qa.size)
      | (go_at_call 152; refine (HX.out _).mono ?_; rintro e wa ⟨rfl, qa⟩; replace qa := Up.dn qa; have z0 := qa.cell (a := ⟨w.heap.size + 1 + 1, 0, none⟩) (by assumption); have z1 := qa.cell (a := ⟨w.heap.size + 1 + 1, 1, none⟩) (by assumption); have z2 := qa.cell (a := ⟨w.heap.size + 1 + 1, 2, none⟩) (by assumption); have z3 := qa.cell (a := ⟨w.heap.size + 1 + 1, 3, none⟩) (by assumption); have f0 := (qa.frozen (a := ⟨w.heap.size + 1 + 1, 0, none⟩) (by assumption)).trans (by assumption); have f1 := (qa.frozen (a := ⟨w.heap.size + 1 + 1, 1, none⟩) (by assumption)).trans (by assumption); have f2 := (qa.frozen (a := ⟨w.heap.size + 1 + 1, 2, none⟩) (by assumption)).trans (by assumption); have f3 := (qa.frozen (a := ⟨w.heap.size + 1 + 1, 3, none⟩) (by assumption)).trans (by assumption); have lz : w.heap.size + 1 + 1 < wa.heap.size := Nat.lt_of_lt_of_le (by assumption) qa.size))
  all_goals
    have hf : Dn w _ := (‹Dn w _ ∧ _› : _ ∧ _).1
    go_wp2_with fail
    exact bodyPost_ret (v := .tuple #[.agg #[.int .i8 i1, .int .i64 d1, .int .i8 i2, .int .i64 d2], .bool true]) (by simp [results, Tryz.results117, go_sem, z0, z1, z2, z3, f0, f1, f2, f3] <;> omega) rfl ⟨rfl, hf⟩
structure C4 (w : World) (B : Nat) (v0 v1 v2 v3 : Value) : Prop where
 c0 : w.cell? ⟨B, 0, none⟩ = some v0
 c1 : w.cell? ⟨B, 1, none⟩ = some v1
 c2 : w.cell? ⟨B, 2, none⟩ = some v2
 c3 : w.cell? ⟨B, 3, none⟩ = some v3
 f0 : w.frozen? ⟨B, 0, none⟩ = false
 f1 : w.frozen? ⟨B, 1, none⟩ = false
 f2 : w.frozen? ⟨B, 2, none⟩ = false
 f3 : w.frozen? ⟨B, 3, none⟩ = false
 lt : B < w.heap.size
theorem C4.dn {w w' : World} {B : Nat} {v0 v1 v2 v3 : Value} (h : C4 w B v0 v1 v2 v3) (k : Dn w w') : C4 w' B v0 v1 v2 v3 :=
 ⟨k.cell h.c0, k.cell h.c1, k.cell h.c2, k.cell h.c3, by rw [k.frozen h.lt]; exact h.f0, by rw [k.frozen h.lt]; exact h.f1, by rw [k.frozen h.lt]; exact h.f2, by rw [k.frozen h.lt]; exact h.f3, Nat.lt_of_lt_of_le h.lt k.size⟩
theorem C4.alloc {w : World} {B : Nat} {v0 v1 v2 v3 : Value} (h : C4 w B v0 v1 v2 v3) (o : Obj) : C4 (w.alloc o) B v0 v1 v2 v3 := h.dn ((Dn.refl _).alloc o)
theorem C4.drew {w : World} {B : Nat} {v0 v1 v2 v3 : Value} (h : C4 w B v0 v1 v2 v3) : C4 w.drew B v0 v1 v2 v3 := h.dn (Dn.refl _).drew
theorem C4.new (w : World) (v0 v1 v2 v3 : Value) (t : TypeId) : C4 (w.alloc (.cells #[v0, v1, v2, v3] t)) w.heap.size v0 v1 v2 v3 := by
 refine ⟨?_, ?_, ?_, ?_, ?_, ?_, ?_, ?_, ?_⟩ <;> simp [go_sem]
theorem C4.new1 (w : World) (o : Obj) (v0 v1 v2 v3 : Value) (t : TypeId) : C4 ((w.alloc o).alloc (.cells #[v0, v1, v2, v3] t)) (w.heap.size + 1) v0 v1 v2 v3 := by
 have := C4.new (w.alloc o) v0 v1 v2 v3 t
 simpa using this
theorem C4.new2 (w : World) (o o2 : Obj) (v0 v1 v2 v3 : Value) (t : TypeId) : C4 (((w.alloc o).alloc o2).alloc (.cells #[v0, v1, v2, v3] t)) (w.heap.size + 1 + 1) v0 v1 v2 v3 := by
 have := C4.new ((w.alloc o).alloc o2) v0 v1 v2 v3 t
 simpa using this
theorem C4.far {w : World} {B n : Nat} {v0 v1 v2 v3 : Value} (h : C4 w n v0 v1 v2 v3) (hn : n ≠ B) (j : Nat) (v : Value) : C4 (w.setCell ⟨B, j, none⟩ v) n v0 v1 v2 v3 := by
 have hx : ∀ i u, w.cell? ⟨n, i, none⟩ = some u → (w.setCell ⟨B, j, none⟩ v).cell? ⟨n, i, none⟩ = some u := fun i u hu => by
  rw [World.cell?_setCell_other _ _ _ _ (fun e => hn (by simpa using (congrArg Addr.block e).symm))]; exact hu
 exact ⟨hx _ _ h.c0, hx _ _ h.c1, hx _ _ h.c2, hx _ _ h.c3, by simpa using h.f0, by simpa using h.f1, by simpa using h.f2, by simpa using h.f3, by simpa using h.lt⟩
theorem C4.fill {w : World} {B : Nat} {z0 z1 z2 z3 : Value} (h : C4 w B z0 z1 z2 z3) (v0 v1 v2 v3 : Value) :
  C4 ((((w.setCell ⟨B, 0, none⟩ v0).setCell ⟨B, 1, none⟩ v1).setCell ⟨B, 2, none⟩ v2).setCell ⟨B, 3, none⟩ v3) B v0 v1 v2 v3 := by
 have h0 := h.c0; have h1 := h.c1; have h2 := h.c2; have h3 := h.c3
 refine ⟨?_, ?_, ?_, ?_, by simpa using h.f0, by simpa using h.f1, by simpa using h.f2, by simpa using h.f3, by simpa using h.lt⟩ <;> simp [go_sem, h0, h1, h2, h3]
theorem C4.far4 {w : World} {B n : Nat} {z0 z1 z2 z3 : Value} (h : C4 w n z0 z1 z2 z3) (hn : n ≠ B) (v0 v1 v2 v3 : Value) :
  C4 ((((w.setCell ⟨B, 0, none⟩ v0).setCell ⟨B, 1, none⟩ v1).setCell ⟨B, 2, none⟩ v2).setCell ⟨B, 3, none⟩ v3) n z0 z1 z2 z3 :=
 (((h.far hn _ _).far hn _ _).far hn _ _).far hn _ _
structure NB (w : World) (B L : Nat) : Prop where
 z : C4 w B (.int .i8 0) (.int .i64 0) (.int .i8 0) (.int .i64 0)
 lt : L < B
theorem NB.new {w : World} {L : Nat} (h : L < w.heap.size) (t : TypeId) : NB (w.alloc (.cells #[.int .i8 0, .int .i64 0, .int .i8 0, .int .i64 0] t)) w.heap.size L := ⟨C4.new _ _ _ _ _ _, h⟩
theorem NB.dn {w w' : World} {B L : Nat} (h : NB w B L) (q : Dn w w') : NB w' B L := ⟨h.z.dn q, h.lt⟩
end Go.Proofs.YteodjglbpfmikaaGreatDoor
