/- Walks and laws that the claim's theorem leans on: part 4. -/
import Derived.Test.YteodjglbpfmikaaGreatDoorZAx1
import Derived.Test.YteodjglbpfmikaaGreatDoorZAx3
namespace Go.Proofs.YteodjglbpfmikaaGreatDoor
set_option maxHeartbeats 4000000
set_option maxRecDepth 100000
open Go.RowKit
set_option linter.unusedVariables false
set_option linter.unusedSimpArgs false
theorem kdR_4 {W w1 w2 : World} {a0 a1 a2 a3 : Addr} {v0 v1 v2 v3 : Value} (k : Dn w1 w2) (h : Dn W w1 ∧ w1.cell? a0 = some v0 ∧ w1.cell? a1 = some v1 ∧ w1.cell? a2 = some v2 ∧ w1.cell? a3 = some v3) :
  Dn W w2 ∧ w2.cell? a0 = some v0 ∧ w2.cell? a1 = some v1 ∧ w2.cell? a2 = some v2 ∧ w2.cell? a3 = some v3 := by
 obtain ⟨h1, c0, c1, c2, c3⟩ := h
 exact ⟨h1.trans k, k.cell c0, k.cell c1, k.cell c2, k.cell c3⟩
theorem kdR_8 {W w1 w2 : World} {a0 a1 a2 a3 a4 a5 a6 a7 : Addr} {v0 v1 v2 v3 v4 v5 v6 v7 : Value} (k : Dn w1 w2) (h : Dn W w1 ∧ w1.cell? a0 = some v0 ∧ w1.cell? a1 = some v1 ∧ w1.cell? a2 = some v2 ∧ w1.cell? a3 = some v3 ∧ w1.cell? a4 = some v4 ∧ w1.cell? a5 = some v5 ∧ w1.cell? a6 = some v6 ∧ w1.cell? a7 = some v7) :
  Dn W w2 ∧ w2.cell? a0 = some v0 ∧ w2.cell? a1 = some v1 ∧ w2.cell? a2 = some v2 ∧ w2.cell? a3 = some v3 ∧ w2.cell? a4 = some v4 ∧ w2.cell? a5 = some v5 ∧ w2.cell? a6 = some v6 ∧ w2.cell? a7 = some v7 := by
 obtain ⟨h1, c0, c1, c2, c3, c4, c5, c6, c7⟩ := h
 exact ⟨h1.trans k, k.cell c0, k.cell c1, k.cell c2, k.cell c3, k.cell c4, k.cell c5, k.cell c6, k.cell c7⟩
theorem preAx38x1 (w : World) (a b c d : Int) : ∃ W1, W1 = w.alloc (.cells #[.int .i8 a, .int .i64 b, .int .i8 c, .int .i64 d] 30) ∧ (Dn w W1) ∧ (W1.cell? ⟨w.heap.size, 0, none⟩ = some (.int .i8 a)) ∧ (W1.cell? ⟨w.heap.size, 1, none⟩ = some (.int .i64 b)) ∧ (W1.cell? ⟨w.heap.size, 2, none⟩ = some (.int .i8 c)) ∧ (W1.cell? ⟨w.heap.size, 3, none⟩ = some (.int .i64 d)) ∧ (w.heap.size < W1.heap.size) := by
  obtain ⟨W1, hW1⟩ : ∃ W1, W1 = w.alloc (.cells #[.int .i8 a, .int .i64 b, .int .i8 c, .int .i64 d] 30) := ⟨_, rfl⟩
  exact ⟨W1, hW1, (by rw [hW1]; exact (Dn.refl _).alloc _), (by rw [hW1]; simp [go_sem]), (by rw [hW1]; simp [go_sem]), (by rw [hW1]; simp [go_sem]), (by rw [hW1]; simp [go_sem]), (by rw [hW1]; simp <;> omega)⟩
theorem rnHas_is (a b c d day : Int) (r : Bool) (HW : Hid (∀ W, Calls Tryz.prog 33 #[.agg #[.int .i8 0, .int .i64 day, .int .i8 0, .int .i64 day], .agg #[.int .i8 a, .int .i64 b, .int .i8 c, .int .i64 d]] W fun e w' => e = .returned (.bool r) ∧ Dn W w')) (w : World) :
    Calls Tryz.prog 14 #[.agg #[.int .i8 a, .int .i64 b, .int .i8 c, .int .i64 d], .int .i64 day] w fun e w' => e = .returned (.bool r) ∧ Dn w w' := by
  go_enter Tryz.func14, Tryz.ntmps14
  go_wp2_with fail
  obtain ⟨W1, hW1, uW1, c2, c3, c4, c5, l6⟩ := preAx38x1 w a b c d
  rw [← hW1]
  clear hW1
  have hS7 := kdR_4 (W := W1) (Dn.refl _) ⟨Dn.refl _, c2, c3, c4, c5⟩
  have HShS7 := Lib.hid hS7
  clear c2 c3 c4 c5
  go_region_held3 (fun w' => Dn W1 w' ∧ w'.cell? ⟨w.heap.size, 0, none⟩ = some (.int .i8 a) ∧ w'.cell? ⟨w.heap.size, 1, none⟩ = some (.int .i64 b) ∧ w'.cell? ⟨w.heap.size, 2, none⟩ = some (.int .i8 c) ∧ w'.cell? ⟨w.heap.size, 3, none⟩ = some (.int .i64 d))
    (first | exact kdR_4 ((Dn.refl _).drew) hS7 | exact kdR_4 ‹Dn _ _› ‹_› | exact kdR_4 (Up.dn ‹Up _ _›) ‹_› | assumption | exact kdR_4 ((Dn.refl _).alloc _) ‹_›)
    (first
      | (go_at_call 16; refine (eOf _ _).mono ?_; rintro e wa ⟨rfl, qa⟩; replace qa := Up.dn qa)
      | (go_at_call 33; refine (HW.out _).mono ?_; rintro e wa ⟨rfl, qa⟩))
  all_goals
    clear hS7
    obtain ⟨uf12, c8, c9, c10, c11⟩ := (‹Dn W1 _ ∧ _› : _ ∧ _)
    obtain ⟨w13, rfl⟩ : ∃ w13 : World, w13 = wa := ⟨_, rfl⟩
    have l14 := nlt l6 uf12.size
    clear l6
    have vuf12 := uW1.trans uf12
    clear uf12 uW1 HShS7
    go_wp2_with fail
    go_ret
    exact ⟨rfl, vuf12⟩
theorem rnHas (a b c d day : Int) (w : World) (hb : I64 b) (hd : I64 d) (hy : I64 day) :
  Calls Tryz.prog 14 #[.agg #[.int .i8 a, .int .i64 b, .int .i8 c, .int .i64 d], .int .i64 day] w fun e w' => e = .returned (.bool (decide (Wi 0 day 0 day a b c d))) ∧ Dn w w' :=
 rnHas_is a b c d day _ (Lib.hid (fun W => rnWithin 0 day 0 day a b c d W hy hy hb hd)) w
theorem preAx38x2 (w : World) (a b c d e f g h : Int) : ∃ W1, W1 = (w.alloc (.cells #[.int .i8 a, .int .i64 b, .int .i8 c, .int .i64 d] 30)).alloc (.cells #[.int .i8 e, .int .i64 f, .int .i8 g, .int .i64 h] 30) ∧ (Dn w W1) ∧ (W1.cell? ⟨w.heap.size, 0, none⟩ = some (.int .i8 a)) ∧ (W1.cell? ⟨w.heap.size, 1, none⟩ = some (.int .i64 b)) ∧ (W1.cell? ⟨w.heap.size, 2, none⟩ = some (.int .i8 c)) ∧ (W1.cell? ⟨w.heap.size, 3, none⟩ = some (.int .i64 d)) ∧ (w.heap.size < W1.heap.size) ∧ (W1.cell? ⟨w.heap.size + 1, 0, none⟩ = some (.int .i8 e)) ∧ (W1.cell? ⟨w.heap.size + 1, 1, none⟩ = some (.int .i64 f)) ∧ (W1.cell? ⟨w.heap.size + 1, 2, none⟩ = some (.int .i8 g)) ∧ (W1.cell? ⟨w.heap.size + 1, 3, none⟩ = some (.int .i64 h)) ∧ (w.heap.size + 1 < W1.heap.size) := by
  obtain ⟨W1, hW1⟩ : ∃ W1, W1 = (w.alloc (.cells #[.int .i8 a, .int .i64 b, .int .i8 c, .int .i64 d] 30)).alloc (.cells #[.int .i8 e, .int .i64 f, .int .i8 g, .int .i64 h] 30) := ⟨_, rfl⟩
  exact ⟨W1, hW1, (by rw [hW1]; exact ((Dn.refl _).alloc _).alloc _), (by rw [hW1]; simp [go_sem]), (by rw [hW1]; simp [go_sem]), (by rw [hW1]; simp [go_sem]), (by rw [hW1]; simp [go_sem]), (by rw [hW1]; simp <;> omega), (by rw [hW1]; simp [go_sem]), (by rw [hW1]; simp [go_sem]), (by rw [hW1]; simp [go_sem]), (by rw [hW1]; simp [go_sem]), (by rw [hW1]; simp <;> omega)⟩
theorem rnCmp (a b c d e f g h : Int) (w : World) :
    Calls Tryz.prog 67 #[.agg #[.int .i8 a, .int .i64 b, .int .i8 c, .int .i64 d], .agg #[.int .i8 e, .int .i64 f, .int .i8 g, .int .i64 h]] w fun r w' => r = .returned (.int .i64 (or2 (eC a b e f) (eC c d g h))) ∧ Dn w w' := by
  go_enter Tryz.func67, Tryz.ntmps67
  go_wp2_with fail
  obtain ⟨W1, hW1, uW1, c2, c3, c4, c5, l6, c7, c8, c9, a0, a1⟩ := preAx38x2 w a b c d e f g h
  rw [← hW1]
  clear hW1
  have hS12 := kdR_8 (W := W1) (Dn.refl _) ⟨Dn.refl _, c2, c3, c4, c5, c7, c8, c9, a0⟩
  have HShS12 := Lib.hid hS12
  clear c2 c3 c4 c5 c7 c8 c9 a0
  go_region_held3 (fun w' => Dn W1 w' ∧ w'.cell? ⟨w.heap.size, 0, none⟩ = some (.int .i8 a) ∧ w'.cell? ⟨w.heap.size, 1, none⟩ = some (.int .i64 b) ∧ w'.cell? ⟨w.heap.size, 2, none⟩ = some (.int .i8 c) ∧ w'.cell? ⟨w.heap.size, 3, none⟩ = some (.int .i64 d) ∧ w'.cell? ⟨w.heap.size + 1, 0, none⟩ = some (.int .i8 e) ∧ w'.cell? ⟨w.heap.size + 1, 1, none⟩ = some (.int .i64 f) ∧ w'.cell? ⟨w.heap.size + 1, 2, none⟩ = some (.int .i8 g) ∧ w'.cell? ⟨w.heap.size + 1, 3, none⟩ = some (.int .i64 h))
    (first | exact kdR_8 ((Dn.refl _).drew) hS12 | exact kdR_8 ‹Dn _ _› ‹_› | exact kdR_8 (Up.dn ‹Up _ _›) ‹_› | assumption | exact kdR_8 ((Dn.refl _).alloc _) ‹_›)
    (first
      | (go_at_call 15; refine (eCmp _ _ _ _ _).mono ?_; rintro e wa ⟨rfl, qa⟩; replace qa := Up.dn qa)
      | (go_at_call 54; refine (cmpOr _ (eC a b e f) (eC c d g h) _ ?_ ?_).mono ?_; (simp [go_sem]); (simp [go_sem]); rintro e wa ⟨rfl, rfl⟩))
  all_goals
    clear hS12
    obtain ⟨uf21, a2, a3, a4, a5, a6, a7, a8, a9⟩ := (‹Dn W1 _ ∧ _› : _ ∧ _)
    obtain ⟨w22, rfl⟩ : ∃ w22 : World, w22 = wa := ⟨_, rfl⟩
    have aA := nlt l6 uf21.size
    clear l6
    have aB := nlt a1 uf21.size
    clear a1
    have vuf21 := uW1.trans uf21
    clear uf21 uW1 HShS12
    go_wp2_with fail
    go_ret
    exact ⟨rfl, vuf21⟩
theorem rnLen_bad (a b c d : Int) (m : Int) (HA : Hid (ChkIs a b c d m)) (h1 : m ≠ 0) (w : World) :
  Calls Tryz.prog 27 #[.agg #[.int .i8 a, .int .i64 b, .int .i8 c, .int .i64 d]] w fun ro w' => ro = .returned (.tuple #[.int .i64 0, .int .i64 m]) ∧ Dn w w' := by
 have t1 : (m != 0) = true := by simpa using h1
 clear h1
 go_enter Tryz.func27, Tryz.ntmps27
 go_wp2_with fail
 obtain ⟨W1, hW1, uW1, c2, c3, c4, c5, l6⟩ := preAx38x1 w a b c d
 rw [← hW1]
 clear hW1
 refine (HA.out _).mono ?_
 rintro e w1 ⟨rfl, qw1⟩
 have l7 := nlt l6 qw1.size
 obtain ⟨c8, c9, c10, c11⟩ := mv4 qw1.cell c2 c3 c4 c5
 clear l6 c2 c3 c4 c5
 have uw1 := uW1.trans qw1
 clear qw1 uW1
 go_wp2_with fail
 go_ret2
 exact ⟨rfl, uw1⟩
theorem rnLen_inf1 (a b c d : Int) (HA : Hid (ChkIs a b c d 0)) (h1 : a ≠ 0) (w : World) :
  Calls Tryz.prog 27 #[.agg #[.int .i8 a, .int .i64 b, .int .i8 c, .int .i64 d]] w fun ro w' => ro = .returned (.tuple #[.int .i64 0, .int .i64 16]) ∧ Dn w w' := by
 have t1 : (a != 0) = true := by simpa using h1
 clear h1
 go_enter Tryz.func27, Tryz.ntmps27
 go_wp2_with fail
 obtain ⟨W1, hW1, uW1, c2, c3, c4, c5, l6⟩ := preAx38x1 w a b c d
 rw [← hW1]
 clear hW1
 refine (HA.out _).mono ?_
 rintro e w1 ⟨rfl, qw1⟩
 have l7 := nlt l6 qw1.size
 obtain ⟨c8, c9, c10, c11⟩ := mv4 qw1.cell c2 c3 c4 c5
 clear l6 c2 c3 c4 c5
 have uw1 := uW1.trans qw1
 clear qw1 uW1
 go_wp2_with fail
 go_ret2
 exact ⟨rfl, uw1⟩
theorem rnLen_inf2 (a b c d : Int) (HA : Hid (ChkIs a b c d 0)) (h0 : a = 0) (h1 : c ≠ 0) (w : World) :
  Calls Tryz.prog 27 #[.agg #[.int .i8 a, .int .i64 b, .int .i8 c, .int .i64 d]] w fun ro w' => ro = .returned (.tuple #[.int .i64 0, .int .i64 16]) ∧ Dn w w' := by
 have t0 : (a != 0) = false := by simpa using h0
 have t1 : (c != 0) = true := by simpa using h1
 clear h1 h0
 go_enter Tryz.func27, Tryz.ntmps27
 go_wp2_with fail
 obtain ⟨W1, hW1, uW1, c2, c3, c4, c5, l6⟩ := preAx38x1 w a b c d
 rw [← hW1]
 clear hW1
 refine (HA.out _).mono ?_
 rintro e w1 ⟨rfl, qw1⟩
 have l7 := nlt l6 qw1.size
 obtain ⟨c8, c9, c10, c11⟩ := mv4 qw1.cell c2 c3 c4 c5
 clear l6 c2 c3 c4 c5
 have uw1 := uW1.trans qw1
 clear qw1 uW1
 go_wp2_with fail
 go_ret2
 exact ⟨rfl, uw1⟩
theorem rnLen_over (a b c d : Int) (HA : Hid (ChkIs a b c d 0)) (h0 : a = 0) (h1 : c = 0) (HS : Hid (∀ W, Calls Tryz.prog 72 #[.int .i64 d, .int .i64 b] W fun r w' => r = .returned (.tuple #[.int .i64 0, .int .i64 15]) ∧ W = w')) (w : World) :
  Calls Tryz.prog 27 #[.agg #[.int .i8 a, .int .i64 b, .int .i8 c, .int .i64 d]] w fun ro w' => ro = .returned (.tuple #[.int .i64 0, .int .i64 15]) ∧ Dn w w' := by
 have t0 : (a != 0) = false := by simpa using h0
 have t1 : (c != 0) = false := by simpa using h1
 clear h1 h0
 go_enter Tryz.func27, Tryz.ntmps27
 go_wp2_with fail
 obtain ⟨W1, hW1, uW1, c2, c3, c4, c5, l6⟩ := preAx38x1 w a b c d
 rw [← hW1]
 clear hW1
 refine (HA.out _).mono ?_
 rintro e w1 ⟨rfl, qw1⟩
 have l7 := nlt l6 qw1.size
 obtain ⟨c8, c9, c10, c11⟩ := mv4 qw1.cell c2 c3 c4 c5
 clear l6 c2 c3 c4 c5
 have uw1 := uW1.trans qw1
 clear qw1 uW1
 go_wp2_with fail
 refine (HS.out _).mono ?_
 rintro e w2 ⟨rfl, rfl⟩
 go_wp2_with fail
 go_ret2
 exact ⟨rfl, uw1⟩
theorem rnLen_fit (a b c d : Int) (k n e : Int) (HA : Hid (ChkIs a b c d 0)) (h0 : a = 0) (h1 : c = 0) (HS : Hid (∀ W, Calls Tryz.prog 72 #[.int .i64 d, .int .i64 b] W fun r w' => r = .returned (.tuple #[.int .i64 k, .int .i64 0]) ∧ W = w')) (HT : Hid (∀ W, Calls Tryz.prog 41 #[.int .i64 k, .int .i64 1] W fun r w' => r = .returned (.tuple #[.int .i64 n, .int .i64 e]) ∧ Up W w')) (w : World) :
  Calls Tryz.prog 27 #[.agg #[.int .i8 a, .int .i64 b, .int .i8 c, .int .i64 d]] w fun ro w' => ro = .returned (.tuple #[.int .i64 n, .int .i64 e]) ∧ Dn w w' := by
 have t0 : (a != 0) = false := by simpa using h0
 have t1 : (c != 0) = false := by simpa using h1
 clear h1 h0
 go_enter Tryz.func27, Tryz.ntmps27
 go_wp2_with fail
 obtain ⟨W1, hW1, uW1, c2, c3, c4, c5, l6⟩ := preAx38x1 w a b c d
 rw [← hW1]
 clear hW1
 refine (HA.out _).mono ?_
 rintro e w1 ⟨rfl, qw1⟩
 have l7 := nlt l6 qw1.size
 obtain ⟨c8, c9, a0, a1⟩ := mv4 qw1.cell c2 c3 c4 c5
 clear l6 c2 c3 c4 c5
 have uw1 := uW1.trans qw1
 clear qw1 uW1
 go_wp2_with fail
 refine (HS.out _).mono ?_
 rintro e w2 ⟨rfl, rfl⟩
 go_wp2_with fail
 refine (HT.out _).mono ?_
 rintro e w3 ⟨rfl, qw3⟩
 replace qw3 := qw3.dn
 have a2 := nlt l7 qw3.size
 obtain ⟨a3, a4, a5, a6⟩ := mv4 qw3.cell c8 c9 a0 a1
 clear l7 c8 c9 a0 a1
 have uw3 := uw1.trans qw3
 clear qw3 uw1
 go_wp2_with fail
 go_ret2
 exact ⟨rfl, uw3⟩
def LenR (a b c d n e : Int) : Prop :=
 (¬ RnOk a b c d ∧ n = 0 ∧ e = rnErr a b c d) ∨ (RnOk a b c d ∧ (a ≠ 0 ∨ c ≠ 0) ∧ n = 0 ∧ e = 16) ∨ (RnOk a b c d ∧ a = 0 ∧ c = 0 ∧ Fits (d - b + 1) n e)
theorem rnLen (a b c d n e : Int) (w : World) (hb : I64 b) (hd : I64 d) (h : LenR a b c d n e) :
   Calls Tryz.prog 27 #[.agg #[.int .i8 a, .int .i64 b, .int .i8 c, .int .i64 d]] w fun r w' => r = .returned (.tuple #[.int .i64 n, .int .i64 e]) ∧ Dn w w' := by
 have k1 := rnErr_ok (a := a) (c := c) hb hd
 have HA : Hid (ChkIs a b c d (rnErr a b c d)) := Lib.hid (rnChk a b c d)
 rcases h with ⟨h1, rfl, rfl⟩ | ⟨h1, h2, rfl, rfl⟩ | ⟨h1, h2, h3, hf⟩
 · exact rnLen_bad a b c d _ HA (fun hc => h1 (k1.1 hc)) w
 · rw [k1.2 h1] at HA
   by_cases h0 : a = 0
   · exact rnLen_inf2 a b c d HA h0 (by omega) w
   · exact rnLen_inf1 a b c d HA h0 w
 · rw [k1.2 h1] at HA
   have hk := h1.2.2.2.2
   unfold key at hk
   by_cases hi : I64 (d - b)
   · have HS := Lib.hid (fun W => isub_fits d b W hd hb hi)
     have HT := Lib.hid (fun W => add_any (d - b) 1 _ n e W hi (by decide) rfl hf)
     exact rnLen_fit a b c d _ n e HA h2 h3 HS HT w
   · have HS := Lib.hid (fun W => isub_over d b W hd hb hi)
     rcases hf with ⟨hi2, _, _⟩ | ⟨_, rfl, rfl⟩
     · unfold I64 at hi hi2 hb hd; omega
     · exact rnLen_over a b c d HA h2 h3 HS w
theorem rnTch_no (a b c d e f g h : Int) (HR : Hid (∀ W, Calls Tryz.prog 80 #[.agg #[.int .i8 a, .int .i64 b, .int .i8 c, .int .i64 d], .agg #[.int .i8 e, .int .i64 f, .int .i8 g, .int .i64 h]] W fun r w' => r = .returned (.bool false) ∧ Dn W w')) (w : World) :
  Calls Tryz.prog 135 #[.agg #[.int .i8 a, .int .i64 b, .int .i8 c, .int .i64 d], .agg #[.int .i8 e, .int .i64 f, .int .i8 g, .int .i64 h]] w fun ro w' => ro = .returned (.bool false) ∧ Dn w w' := by
 go_enter Tryz.func135, Tryz.ntmps135
 go_wp2_with fail
 obtain ⟨W1, hW1, uW1, c2, c3, c4, c5, l6, c7, c8, c9, a0, a1⟩ := preAx38x2 w a b c d e f g h
 rw [← hW1]
 clear hW1
 refine (HR.out _).mono ?_
 rintro e w1 ⟨rfl, qw1⟩
 have a2 := nlt l6 qw1.size
 have a7 := nlt a1 qw1.size
 obtain ⟨a3, a4, a5, a6, a8, a9, aA, aB⟩ := mv8 qw1.cell c2 c3 c4 c5 c7 c8 c9 a0
 clear l6 c2 c3 c4 c5 a1 c7 c8 c9 a0
 have uw1 := uW1.trans qw1
 clear qw1 uW1
 go_wp2_with fail
 go_ret
 exact ⟨rfl, uw1⟩
theorem preAx38x3 (w : World) (a b c d e f g h : Int) : ∃ W1, W1 = (w.alloc (.cells #[.int .i8 a, .int .i64 b, .int .i8 c, .int .i64 d] 30)).alloc (.cells #[.int .i8 e, .int .i64 f, .int .i8 g, .int .i64 h] 30) ∧ (Dn w W1) ∧ (W1.cell? ⟨w.heap.size, 0, none⟩ = some (.int .i8 a)) ∧ (W1.cell? ⟨w.heap.size, 1, none⟩ = some (.int .i64 b)) ∧ (W1.cell? ⟨w.heap.size, 2, none⟩ = some (.int .i8 c)) ∧ (W1.cell? ⟨w.heap.size, 3, none⟩ = some (.int .i64 d)) ∧ (w.heap.size < W1.heap.size) ∧ (W1.frozen? ⟨w.heap.size, 0, none⟩ = false) ∧ (W1.frozen? ⟨w.heap.size, 1, none⟩ = false) ∧ (W1.frozen? ⟨w.heap.size, 2, none⟩ = false) ∧ (W1.frozen? ⟨w.heap.size, 3, none⟩ = false) ∧ (W1.cell? ⟨w.heap.size + 1, 0, none⟩ = some (.int .i8 e)) ∧ (W1.cell? ⟨w.heap.size + 1, 1, none⟩ = some (.int .i64 f)) ∧ (W1.cell? ⟨w.heap.size + 1, 2, none⟩ = some (.int .i8 g)) ∧ (W1.cell? ⟨w.heap.size + 1, 3, none⟩ = some (.int .i64 h)) ∧ (w.heap.size + 1 < W1.heap.size) ∧ (W1.frozen? ⟨w.heap.size + 1, 0, none⟩ = false) ∧ (W1.frozen? ⟨w.heap.size + 1, 1, none⟩ = false) ∧ (W1.frozen? ⟨w.heap.size + 1, 2, none⟩ = false) ∧ (W1.frozen? ⟨w.heap.size + 1, 3, none⟩ = false) := by
  obtain ⟨W1, hW1⟩ : ∃ W1, W1 = (w.alloc (.cells #[.int .i8 a, .int .i64 b, .int .i8 c, .int .i64 d] 30)).alloc (.cells #[.int .i8 e, .int .i64 f, .int .i8 g, .int .i64 h] 30) := ⟨_, rfl⟩
  exact ⟨W1, hW1, (by rw [hW1]; exact ((Dn.refl _).alloc _).alloc _), (by rw [hW1]; simp [go_sem]), (by rw [hW1]; simp [go_sem]), (by rw [hW1]; simp [go_sem]), (by rw [hW1]; simp [go_sem]), (by rw [hW1]; simp <;> omega), (by rw [hW1]; simp [go_sem]), (by rw [hW1]; simp [go_sem]), (by rw [hW1]; simp [go_sem]), (by rw [hW1]; simp [go_sem]), (by rw [hW1]; simp [go_sem]), (by rw [hW1]; simp [go_sem]), (by rw [hW1]; simp [go_sem]), (by rw [hW1]; simp [go_sem]), (by rw [hW1]; simp <;> omega), (by rw [hW1]; simp [go_sem]), (by rw [hW1]; simp [go_sem]), (by rw [hW1]; simp [go_sem]), (by rw [hW1]; simp [go_sem])⟩
theorem rnTch_0le (a b c d e f g h m n : Int) (HR : Hid (∀ W, Calls Tryz.prog 80 #[.agg #[.int .i8 a, .int .i64 b, .int .i8 c, .int .i64 d], .agg #[.int .i8 e, .int .i64 f, .int .i8 g, .int .i64 h]] W fun r w' => r = .returned (.bool true) ∧ Dn W w')) (H1 : Hid (∀ W, Calls Tryz.prog 15 #[.agg #[.int .i8 e, .int .i64 f], .agg #[.int .i8 a, .int .i64 b]] W fun r w' => r = .returned (.int .i64 m) ∧ Up W w')) (H2 : Hid (∀ W, Calls Tryz.prog 15 #[.agg #[.int .i8 e, .int .i64 f], .agg #[.int .i8 c, .int .i64 d]] W fun r w' => r = .returned (.int .i64 n) ∧ Up W w')) (h1 : ¬ m < 0) (h2 : n ≤ 0) (w : World) :
  Calls Tryz.prog 135 #[.agg #[.int .i8 a, .int .i64 b, .int .i8 c, .int .i64 d], .agg #[.int .i8 e, .int .i64 f, .int .i8 g, .int .i64 h]] w fun ro w' => ro = .returned (.bool true) ∧ Dn w w' := by
 have t1 : decide (m < 0) = false := by simpa using h1
 have t2 : decide (n ≤ 0) = true := by simpa using h2
 clear h1 h2
 go_enter Tryz.func135, Tryz.ntmps135
 go_wp2_with fail
 obtain ⟨W1, hW1, uW1, c2, c3, c4, c5, l6, f7, f8, f9, f10, a5, a6, a7, a8, a0, f16, f17, f18, f19⟩ := preAx38x3 w a b c d e f g h
 rw [← hW1]
 clear hW1
 refine (HR.out _).mono ?_
 rintro e w1 ⟨rfl, qw1⟩
 have f20 := (qw1.frozen (a := ⟨w.heap.size, 0, none⟩) l6).trans f7
 have f21 := (qw1.frozen (a := ⟨w.heap.size, 1, none⟩) l6).trans f8
 have f22 := (qw1.frozen (a := ⟨w.heap.size, 2, none⟩) l6).trans f9
 have f23 := (qw1.frozen (a := ⟨w.heap.size, 3, none⟩) l6).trans f10
 have a1 := nlt l6 qw1.size
 obtain ⟨a9, aA, aB, aC⟩ := mv4 qw1.cell c2 c3 c4 c5
 have f29 := (qw1.frozen (a := ⟨w.heap.size + 1, 0, none⟩) a0).trans f16
 have f30 := (qw1.frozen (a := ⟨w.heap.size + 1, 1, none⟩) a0).trans f17
 have f31 := (qw1.frozen (a := ⟨w.heap.size + 1, 2, none⟩) a0).trans f18
 have f32 := (qw1.frozen (a := ⟨w.heap.size + 1, 3, none⟩) a0).trans f19
 have a2 := nlt a0 qw1.size
 obtain ⟨aD, aE, aF, aG⟩ := mv4 qw1.cell a5 a6 a7 a8
 clear f7 f8 f9 f10 l6 c2 c3 c4 c5 f16 f17 f18 f19 a0 a5 a6 a7 a8
 have uw1 := uW1.trans qw1
 clear qw1 uW1
 go_wp2_with fail
 refine (H1.out _).mono ?_
 rintro e w2 ⟨rfl, qw2⟩
 replace qw2 := qw2.dn
 have f38 := (qw2.frozen (a := ⟨w.heap.size, 0, none⟩) a1).trans f20
 have f39 := (qw2.frozen (a := ⟨w.heap.size, 1, none⟩) a1).trans f21
 have f40 := (qw2.frozen (a := ⟨w.heap.size, 2, none⟩) a1).trans f22
 have f41 := (qw2.frozen (a := ⟨w.heap.size, 3, none⟩) a1).trans f23
 have a3 := nlt a1 qw2.size
 obtain ⟨aH, aI, aJ, aK⟩ := mv4 qw2.cell a9 aA aB aC
 have f47 := (qw2.frozen (a := ⟨w.heap.size + 1, 0, none⟩) a2).trans f29
 have f48 := (qw2.frozen (a := ⟨w.heap.size + 1, 1, none⟩) a2).trans f30
 have f49 := (qw2.frozen (a := ⟨w.heap.size + 1, 2, none⟩) a2).trans f31
 have f50 := (qw2.frozen (a := ⟨w.heap.size + 1, 3, none⟩) a2).trans f32
 have a4 := nlt a2 qw2.size
 obtain ⟨aL, c53, aM, aN⟩ := mv4 qw2.cell aD aE aF aG
 clear f20 f21 f22 f23 a1 a9 aA aB aC f29 f30 f31 f32 a2 aD aE aF aG
 have uw2 := uw1.trans qw2
 clear qw2 uw1
 go_wp2_with fail
 refine (H2.out _).mono ?_
 rintro e w3 ⟨rfl, qw3⟩
 replace qw3 := qw3.dn
 have f56 := (qw3.frozen (a := ⟨w.heap.size, 0, none⟩) a3).trans f38
 have f57 := (qw3.frozen (a := ⟨w.heap.size, 1, none⟩) a3).trans f39
 have f58 := (qw3.frozen (a := ⟨w.heap.size, 2, none⟩) a3).trans f40
 have f59 := (qw3.frozen (a := ⟨w.heap.size, 3, none⟩) a3).trans f41
 have aO := nlt a3 qw3.size
 obtain ⟨aP, aQ, aR, aS⟩ := mv4 qw3.cell aH aI aJ aK
 have f65 := (qw3.frozen (a := ⟨w.heap.size + 1, 0, none⟩) a4).trans f47
 have f66 := (qw3.frozen (a := ⟨w.heap.size + 1, 1, none⟩) a4).trans f48
 have f67 := (qw3.frozen (a := ⟨w.heap.size + 1, 2, none⟩) a4).trans f49
 have f68 := (qw3.frozen (a := ⟨w.heap.size + 1, 3, none⟩) a4).trans f50
 have aT := nlt a4 qw3.size
 obtain ⟨aU, aV, aW, aX⟩ := mv4 qw3.cell aL c53 aM aN
 clear f38 f39 f40 f41 a3 aH aI aJ aK f47 f48 f49 f50 a4 aL c53 aM aN
 have uw3 := uw2.trans qw3
 clear qw3 uw2
 go_wp2_with fail
 go_ret
 exact ⟨rfl, uw3⟩
theorem rnTch_0eq (a b c d e f g h m n : Int) (HR : Hid (∀ W, Calls Tryz.prog 80 #[.agg #[.int .i8 a, .int .i64 b, .int .i8 c, .int .i64 d], .agg #[.int .i8 e, .int .i64 f, .int .i8 g, .int .i64 h]] W fun r w' => r = .returned (.bool true) ∧ Dn W w')) (H1 : Hid (∀ W, Calls Tryz.prog 15 #[.agg #[.int .i8 e, .int .i64 f], .agg #[.int .i8 a, .int .i64 b]] W fun r w' => r = .returned (.int .i64 m) ∧ Up W w')) (H2 : Hid (∀ W, Calls Tryz.prog 15 #[.agg #[.int .i8 e, .int .i64 f], .agg #[.int .i8 c, .int .i64 d]] W fun r w' => r = .returned (.int .i64 n) ∧ Up W w')) (h1 : ¬ m < 0) (h2 : ¬ n ≤ 0) (HN : Hid (∀ W, Calls Tryz.prog 167 #[.agg #[.int .i8 c, .int .i64 d]] W fun r w' => r = .returned (.tuple #[.agg #[.int .i8 0, .int .i64 (d + 1)], .int .i64 0]) ∧ Up W w')) (h3 : e = 0) (h4 : d + 1 = f) (w : World) :
  Calls Tryz.prog 135 #[.agg #[.int .i8 a, .int .i64 b, .int .i8 c, .int .i64 d], .agg #[.int .i8 e, .int .i64 f, .int .i8 g, .int .i64 h]] w fun ro w' => ro = .returned (.bool true) ∧ Dn w w' := by
 have t1 : decide (m < 0) = false := by simpa using h1
 have t2 : decide (n ≤ 0) = false := by simpa using h2
 clear h1 h2
 have t3 : ((0 : Int) == e) = true := by simp [h3]
 have t4 : (d + 1 == f) = true := by simpa using h4
 clear h3 h4
 go_enter Tryz.func135, Tryz.ntmps135
 go_wp2_with fail
 obtain ⟨W1, hW1, uW1, c2, c3, c4, c5, l6, f7, f8, f9, f10, a9, aA, aB, aC, a0, f16, f17, f18, f19⟩ := preAx38x3 w a b c d e f g h
 rw [← hW1]
 clear hW1
 refine (HR.out _).mono ?_
 rintro e w1 ⟨rfl, qw1⟩
 have f20 := (qw1.frozen (a := ⟨w.heap.size, 0, none⟩) l6).trans f7
 have f21 := (qw1.frozen (a := ⟨w.heap.size, 1, none⟩) l6).trans f8
 have f22 := (qw1.frozen (a := ⟨w.heap.size, 2, none⟩) l6).trans f9
 have f23 := (qw1.frozen (a := ⟨w.heap.size, 3, none⟩) l6).trans f10
 have a1 := nlt l6 qw1.size
 obtain ⟨aD, aE, aF, aG⟩ := mv4 qw1.cell c2 c3 c4 c5
 have f29 := (qw1.frozen (a := ⟨w.heap.size + 1, 0, none⟩) a0).trans f16
 have f30 := (qw1.frozen (a := ⟨w.heap.size + 1, 1, none⟩) a0).trans f17
 have f31 := (qw1.frozen (a := ⟨w.heap.size + 1, 2, none⟩) a0).trans f18
 have f32 := (qw1.frozen (a := ⟨w.heap.size + 1, 3, none⟩) a0).trans f19
 have a2 := nlt a0 qw1.size
 obtain ⟨aH, aI, aJ, aK⟩ := mv4 qw1.cell a9 aA aB aC
 clear f7 f8 f9 f10 l6 c2 c3 c4 c5 f16 f17 f18 f19 a0 a9 aA aB aC
 have uw1 := uW1.trans qw1
 clear qw1 uW1
 go_wp2_with fail
 refine (H1.out _).mono ?_
 rintro e w2 ⟨rfl, qw2⟩
 replace qw2 := qw2.dn
 have f38 := (qw2.frozen (a := ⟨w.heap.size, 0, none⟩) a1).trans f20
 have f39 := (qw2.frozen (a := ⟨w.heap.size, 1, none⟩) a1).trans f21
 have f40 := (qw2.frozen (a := ⟨w.heap.size, 2, none⟩) a1).trans f22
 have f41 := (qw2.frozen (a := ⟨w.heap.size, 3, none⟩) a1).trans f23
 have a3 := nlt a1 qw2.size
 obtain ⟨aL, aM, aN, aO⟩ := mv4 qw2.cell aD aE aF aG
 have f47 := (qw2.frozen (a := ⟨w.heap.size + 1, 0, none⟩) a2).trans f29
 have f48 := (qw2.frozen (a := ⟨w.heap.size + 1, 1, none⟩) a2).trans f30
 have f49 := (qw2.frozen (a := ⟨w.heap.size + 1, 2, none⟩) a2).trans f31
 have f50 := (qw2.frozen (a := ⟨w.heap.size + 1, 3, none⟩) a2).trans f32
 have a4 := nlt a2 qw2.size
 obtain ⟨aP, c53, aQ, aR⟩ := mv4 qw2.cell aH aI aJ aK
 clear f20 f21 f22 f23 a1 aD aE aF aG f29 f30 f31 f32 a2 aH aI aJ aK
 have uw2 := uw1.trans qw2
 clear qw2 uw1
 go_wp2_with fail
 refine (H2.out _).mono ?_
 rintro e w3 ⟨rfl, qw3⟩
 replace qw3 := qw3.dn
 have f56 := (qw3.frozen (a := ⟨w.heap.size, 0, none⟩) a3).trans f38
 have f57 := (qw3.frozen (a := ⟨w.heap.size, 1, none⟩) a3).trans f39
 have f58 := (qw3.frozen (a := ⟨w.heap.size, 2, none⟩) a3).trans f40
 have f59 := (qw3.frozen (a := ⟨w.heap.size, 3, none⟩) a3).trans f41
 have a5 := nlt a3 qw3.size
 obtain ⟨aS, aT, aU, aV⟩ := mv4 qw3.cell aL aM aN aO
 have f65 := (qw3.frozen (a := ⟨w.heap.size + 1, 0, none⟩) a4).trans f47
 have f66 := (qw3.frozen (a := ⟨w.heap.size + 1, 1, none⟩) a4).trans f48
 have f67 := (qw3.frozen (a := ⟨w.heap.size + 1, 2, none⟩) a4).trans f49
 have f68 := (qw3.frozen (a := ⟨w.heap.size + 1, 3, none⟩) a4).trans f50
 have a6 := nlt a4 qw3.size
 obtain ⟨aW, aX, aY, aZ⟩ := mv4 qw3.cell aP c53 aQ aR
 clear f38 f39 f40 f41 a3 aL aM aN aO f47 f48 f49 f50 a4 aP c53 aQ aR
 have uw3 := uw2.trans qw3
 clear qw3 uw2
 go_wp2_with fail
 refine (HN.out _).mono ?_
 rintro e w4 ⟨rfl, qw4⟩
 replace qw4 := qw4.dn
 have f74 := (qw4.frozen (a := ⟨w.heap.size, 0, none⟩) a5).trans f56
 have f75 := (qw4.frozen (a := ⟨w.heap.size, 1, none⟩) a5).trans f57
 have f76 := (qw4.frozen (a := ⟨w.heap.size, 2, none⟩) a5).trans f58
 have f77 := (qw4.frozen (a := ⟨w.heap.size, 3, none⟩) a5).trans f59
 have a7 := nlt a5 qw4.size
 obtain ⟨b0, b2, b3, b4⟩ := mv4 qw4.cell aS aT aU aV
 have f83 := (qw4.frozen (a := ⟨w.heap.size + 1, 0, none⟩) a6).trans f65
 have f84 := (qw4.frozen (a := ⟨w.heap.size + 1, 1, none⟩) a6).trans f66
 have f85 := (qw4.frozen (a := ⟨w.heap.size + 1, 2, none⟩) a6).trans f67
 have f86 := (qw4.frozen (a := ⟨w.heap.size + 1, 3, none⟩) a6).trans f68
 have a8 := nlt a6 qw4.size
 obtain ⟨b5, b6, b7, b8⟩ := mv4 qw4.cell aW aX aY aZ
 clear f56 f57 f58 f59 a5 aS aT aU aV f65 f66 f67 f68 a6 aW aX aY aZ
 have uw4 := uw3.trans qw4
 clear qw4 uw3
 go_wp2_with fail
 obtain ⟨W92, hW92⟩ : ∃ W92, W92 = w4.alloc (.cells #[.int .i8 0, .int .i64 (d + 1)] 28) := ⟨_, rfl⟩
 have uW92 : Dn w4 W92 := by rw [hW92]; exact (Dn.refl _).alloc _
 have f93 := (uW92.frozen (a := ⟨w.heap.size, 0, none⟩) a7).trans f74
 have f94 := (uW92.frozen (a := ⟨w.heap.size, 1, none⟩) a7).trans f75
 have f95 := (uW92.frozen (a := ⟨w.heap.size, 2, none⟩) a7).trans f76
 have f96 := (uW92.frozen (a := ⟨w.heap.size, 3, none⟩) a7).trans f77
 have b9 := nlt a7 uW92.size
 obtain ⟨bA, bB, bC, bD⟩ := mv4 uW92.cell b0 b2 b3 b4
 have f102 := (uW92.frozen (a := ⟨w.heap.size + 1, 0, none⟩) a8).trans f83
 have f103 := (uW92.frozen (a := ⟨w.heap.size + 1, 1, none⟩) a8).trans f84
 have f104 := (uW92.frozen (a := ⟨w.heap.size + 1, 2, none⟩) a8).trans f85
 have f105 := (uW92.frozen (a := ⟨w.heap.size + 1, 3, none⟩) a8).trans f86
 have bE := nlt a8 uW92.size
 obtain ⟨bF, bG, bH, bI⟩ := mv4 uW92.cell b5 b6 b7 b8
 clear f74 f75 f76 f77 a7 b0 b2 b3 b4 f83 f84 f85 f86 a8 b5 b6 b7 b8
 have bJ : W92.cell? ⟨w4.heap.size, 0, none⟩ = some (.int .i8 0) := by rw [hW92]; simp [go_sem]
 have bK : W92.cell? ⟨w4.heap.size, 1, none⟩ = some (.int .i64 (d + 1)) := by rw [hW92]; simp [go_sem]
 have bL : w4.heap.size < W92.heap.size := by rw [hW92]; simp <;> omega
 rw [← hW92]
 clear hW92
 have vW92 := uw4.trans uW92
 clear uW92 uw4
 go_wp2_with fail
 go_ret
 exact ⟨rfl, vW92⟩
theorem rnTch_0nd (a b c d e f g h m n : Int) (HR : Hid (∀ W, Calls Tryz.prog 80 #[.agg #[.int .i8 a, .int .i64 b, .int .i8 c, .int .i64 d], .agg #[.int .i8 e, .int .i64 f, .int .i8 g, .int .i64 h]] W fun r w' => r = .returned (.bool true) ∧ Dn W w')) (H1 : Hid (∀ W, Calls Tryz.prog 15 #[.agg #[.int .i8 e, .int .i64 f], .agg #[.int .i8 a, .int .i64 b]] W fun r w' => r = .returned (.int .i64 m) ∧ Up W w')) (H2 : Hid (∀ W, Calls Tryz.prog 15 #[.agg #[.int .i8 e, .int .i64 f], .agg #[.int .i8 c, .int .i64 d]] W fun r w' => r = .returned (.int .i64 n) ∧ Up W w')) (h1 : ¬ m < 0) (h2 : ¬ n ≤ 0) (HN : Hid (∀ W, Calls Tryz.prog 167 #[.agg #[.int .i8 c, .int .i64 d]] W fun r w' => r = .returned (.tuple #[.agg #[.int .i8 0, .int .i64 (d + 1)], .int .i64 0]) ∧ Up W w')) (h3 : d + 1 ≠ f) (w : World) :
  Calls Tryz.prog 135 #[.agg #[.int .i8 a, .int .i64 b, .int .i8 c, .int .i64 d], .agg #[.int .i8 e, .int .i64 f, .int .i8 g, .int .i64 h]] w fun ro w' => ro = .returned (.bool false) ∧ Dn w w' := by
 have t1 : decide (m < 0) = false := by simpa using h1
 have t2 : decide (n ≤ 0) = false := by simpa using h2
 clear h1 h2
 have t3 : (d + 1 == f) = false := by simpa using h3
 clear h3
 go_enter Tryz.func135, Tryz.ntmps135
 go_wp2_with fail
 obtain ⟨W1, hW1, uW1, c2, c3, c4, c5, l6, f7, f8, f9, f10, a9, aA, aB, aC, a0, f16, f17, f18, f19⟩ := preAx38x3 w a b c d e f g h
 rw [← hW1]
 clear hW1
 refine (HR.out _).mono ?_
 rintro e w1 ⟨rfl, qw1⟩
 have f20 := (qw1.frozen (a := ⟨w.heap.size, 0, none⟩) l6).trans f7
 have f21 := (qw1.frozen (a := ⟨w.heap.size, 1, none⟩) l6).trans f8
 have f22 := (qw1.frozen (a := ⟨w.heap.size, 2, none⟩) l6).trans f9
 have f23 := (qw1.frozen (a := ⟨w.heap.size, 3, none⟩) l6).trans f10
 have a1 := nlt l6 qw1.size
 obtain ⟨aD, aE, aF, aG⟩ := mv4 qw1.cell c2 c3 c4 c5
 have f29 := (qw1.frozen (a := ⟨w.heap.size + 1, 0, none⟩) a0).trans f16
 have f30 := (qw1.frozen (a := ⟨w.heap.size + 1, 1, none⟩) a0).trans f17
 have f31 := (qw1.frozen (a := ⟨w.heap.size + 1, 2, none⟩) a0).trans f18
 have f32 := (qw1.frozen (a := ⟨w.heap.size + 1, 3, none⟩) a0).trans f19
 have a2 := nlt a0 qw1.size
 obtain ⟨aH, aI, aJ, aK⟩ := mv4 qw1.cell a9 aA aB aC
 clear f7 f8 f9 f10 l6 c2 c3 c4 c5 f16 f17 f18 f19 a0 a9 aA aB aC
 have uw1 := uW1.trans qw1
 clear qw1 uW1
 go_wp2_with fail
 refine (H1.out _).mono ?_
 rintro e w2 ⟨rfl, qw2⟩
 replace qw2 := qw2.dn
 have f38 := (qw2.frozen (a := ⟨w.heap.size, 0, none⟩) a1).trans f20
 have f39 := (qw2.frozen (a := ⟨w.heap.size, 1, none⟩) a1).trans f21
 have f40 := (qw2.frozen (a := ⟨w.heap.size, 2, none⟩) a1).trans f22
 have f41 := (qw2.frozen (a := ⟨w.heap.size, 3, none⟩) a1).trans f23
 have a3 := nlt a1 qw2.size
 obtain ⟨aL, aM, aN, aO⟩ := mv4 qw2.cell aD aE aF aG
 have f47 := (qw2.frozen (a := ⟨w.heap.size + 1, 0, none⟩) a2).trans f29
 have f48 := (qw2.frozen (a := ⟨w.heap.size + 1, 1, none⟩) a2).trans f30
 have f49 := (qw2.frozen (a := ⟨w.heap.size + 1, 2, none⟩) a2).trans f31
 have f50 := (qw2.frozen (a := ⟨w.heap.size + 1, 3, none⟩) a2).trans f32
 have a4 := nlt a2 qw2.size
 obtain ⟨aP, c53, aQ, aR⟩ := mv4 qw2.cell aH aI aJ aK
 clear f20 f21 f22 f23 a1 aD aE aF aG f29 f30 f31 f32 a2 aH aI aJ aK
 have uw2 := uw1.trans qw2
 clear qw2 uw1
 go_wp2_with fail
 refine (H2.out _).mono ?_
 rintro e w3 ⟨rfl, qw3⟩
 replace qw3 := qw3.dn
 have f56 := (qw3.frozen (a := ⟨w.heap.size, 0, none⟩) a3).trans f38
 have f57 := (qw3.frozen (a := ⟨w.heap.size, 1, none⟩) a3).trans f39
 have f58 := (qw3.frozen (a := ⟨w.heap.size, 2, none⟩) a3).trans f40
 have f59 := (qw3.frozen (a := ⟨w.heap.size, 3, none⟩) a3).trans f41
 have a5 := nlt a3 qw3.size
 obtain ⟨aS, aT, aU, aV⟩ := mv4 qw3.cell aL aM aN aO
 have f65 := (qw3.frozen (a := ⟨w.heap.size + 1, 0, none⟩) a4).trans f47
 have f66 := (qw3.frozen (a := ⟨w.heap.size + 1, 1, none⟩) a4).trans f48
 have f67 := (qw3.frozen (a := ⟨w.heap.size + 1, 2, none⟩) a4).trans f49
 have f68 := (qw3.frozen (a := ⟨w.heap.size + 1, 3, none⟩) a4).trans f50
 have a6 := nlt a4 qw3.size
 obtain ⟨aW, aX, aY, aZ⟩ := mv4 qw3.cell aP c53 aQ aR
 clear f38 f39 f40 f41 a3 aL aM aN aO f47 f48 f49 f50 a4 aP c53 aQ aR
 have uw3 := uw2.trans qw3
 clear qw3 uw2
 go_wp2_with fail
 refine (HN.out _).mono ?_
 rintro e w4 ⟨rfl, qw4⟩
 replace qw4 := qw4.dn
 have f74 := (qw4.frozen (a := ⟨w.heap.size, 0, none⟩) a5).trans f56
 have f75 := (qw4.frozen (a := ⟨w.heap.size, 1, none⟩) a5).trans f57
 have f76 := (qw4.frozen (a := ⟨w.heap.size, 2, none⟩) a5).trans f58
 have f77 := (qw4.frozen (a := ⟨w.heap.size, 3, none⟩) a5).trans f59
 have a7 := nlt a5 qw4.size
 obtain ⟨b0, b2, b3, b4⟩ := mv4 qw4.cell aS aT aU aV
 have f83 := (qw4.frozen (a := ⟨w.heap.size + 1, 0, none⟩) a6).trans f65
 have f84 := (qw4.frozen (a := ⟨w.heap.size + 1, 1, none⟩) a6).trans f66
 have f85 := (qw4.frozen (a := ⟨w.heap.size + 1, 2, none⟩) a6).trans f67
 have f86 := (qw4.frozen (a := ⟨w.heap.size + 1, 3, none⟩) a6).trans f68
 have a8 := nlt a6 qw4.size
 obtain ⟨b5, b6, b7, b8⟩ := mv4 qw4.cell aW aX aY aZ
 clear f56 f57 f58 f59 a5 aS aT aU aV f65 f66 f67 f68 a6 aW aX aY aZ
 have uw4 := uw3.trans qw4
 clear qw4 uw3
 go_wp2_with fail
 obtain ⟨W92, hW92⟩ : ∃ W92, W92 = w4.alloc (.cells #[.int .i8 0, .int .i64 (d + 1)] 28) := ⟨_, rfl⟩
 have uW92 : Dn w4 W92 := by rw [hW92]; exact (Dn.refl _).alloc _
 have f93 := (uW92.frozen (a := ⟨w.heap.size, 0, none⟩) a7).trans f74
 have f94 := (uW92.frozen (a := ⟨w.heap.size, 1, none⟩) a7).trans f75
 have f95 := (uW92.frozen (a := ⟨w.heap.size, 2, none⟩) a7).trans f76
 have f96 := (uW92.frozen (a := ⟨w.heap.size, 3, none⟩) a7).trans f77
 have b9 := nlt a7 uW92.size
 obtain ⟨bA, bB, bC, bD⟩ := mv4 uW92.cell b0 b2 b3 b4
 have f102 := (uW92.frozen (a := ⟨w.heap.size + 1, 0, none⟩) a8).trans f83
 have f103 := (uW92.frozen (a := ⟨w.heap.size + 1, 1, none⟩) a8).trans f84
 have f104 := (uW92.frozen (a := ⟨w.heap.size + 1, 2, none⟩) a8).trans f85
 have f105 := (uW92.frozen (a := ⟨w.heap.size + 1, 3, none⟩) a8).trans f86
 have bE := nlt a8 uW92.size
 obtain ⟨bF, bG, bH, bI⟩ := mv4 uW92.cell b5 b6 b7 b8
 clear f74 f75 f76 f77 a7 b0 b2 b3 b4 f83 f84 f85 f86 a8 b5 b6 b7 b8
 have bJ : W92.cell? ⟨w4.heap.size, 0, none⟩ = some (.int .i8 0) := by rw [hW92]; simp [go_sem]
 have bK : W92.cell? ⟨w4.heap.size, 1, none⟩ = some (.int .i64 (d + 1)) := by rw [hW92]; simp [go_sem]
 have bL : w4.heap.size < W92.heap.size := by rw [hW92]; simp <;> omega
 rw [← hW92]
 clear hW92
 have vW92 := uw4.trans uW92
 clear uW92 uw4
 go_wp2_with fail
 go_ret
 exact ⟨rfl, vW92⟩
theorem rnTch_1le (a b c d e f g h m n : Int) (HR : Hid (∀ W, Calls Tryz.prog 80 #[.agg #[.int .i8 a, .int .i64 b, .int .i8 c, .int .i64 d], .agg #[.int .i8 e, .int .i64 f, .int .i8 g, .int .i64 h]] W fun r w' => r = .returned (.bool true) ∧ Dn W w')) (H1 : Hid (∀ W, Calls Tryz.prog 15 #[.agg #[.int .i8 e, .int .i64 f], .agg #[.int .i8 a, .int .i64 b]] W fun r w' => r = .returned (.int .i64 m) ∧ Up W w')) (H2 : Hid (∀ W, Calls Tryz.prog 15 #[.agg #[.int .i8 a, .int .i64 b], .agg #[.int .i8 g, .int .i64 h]] W fun r w' => r = .returned (.int .i64 n) ∧ Up W w')) (h1 : m < 0) (h2 : n ≤ 0) (w : World) :
  Calls Tryz.prog 135 #[.agg #[.int .i8 a, .int .i64 b, .int .i8 c, .int .i64 d], .agg #[.int .i8 e, .int .i64 f, .int .i8 g, .int .i64 h]] w fun ro w' => ro = .returned (.bool true) ∧ Dn w w' := by
 have t1 : decide (m < 0) = true := by simpa using h1
 have t2 : decide (n ≤ 0) = true := by simpa using h2
 clear h1 h2
 go_enter Tryz.func135, Tryz.ntmps135
 go_wp2_with fail
 obtain ⟨W1, hW1, uW1, c2, c3, c4, c5, l6, f7, f8, f9, f10, aA, aB, aC, aD, a7, f16, f17, f18, f19⟩ := preAx38x3 w a b c d e f g h
 rw [← hW1]
 clear hW1
 refine (HR.out _).mono ?_
 rintro e w1 ⟨rfl, qw1⟩
 have f20 := (qw1.frozen (a := ⟨w.heap.size, 0, none⟩) l6).trans f7
 have f21 := (qw1.frozen (a := ⟨w.heap.size, 1, none⟩) l6).trans f8
 have f22 := (qw1.frozen (a := ⟨w.heap.size, 2, none⟩) l6).trans f9
 have f23 := (qw1.frozen (a := ⟨w.heap.size, 3, none⟩) l6).trans f10
 have a8 := nlt l6 qw1.size
 obtain ⟨aE, aF, aG, aH⟩ := mv4 qw1.cell c2 c3 c4 c5
 have f29 := (qw1.frozen (a := ⟨w.heap.size + 1, 0, none⟩) a7).trans f16
 have f30 := (qw1.frozen (a := ⟨w.heap.size + 1, 1, none⟩) a7).trans f17
 have f31 := (qw1.frozen (a := ⟨w.heap.size + 1, 2, none⟩) a7).trans f18
 have f32 := (qw1.frozen (a := ⟨w.heap.size + 1, 3, none⟩) a7).trans f19
 have a9 := nlt a7 qw1.size
 obtain ⟨aI, aJ, aK, aL⟩ := mv4 qw1.cell aA aB aC aD
 clear f7 f8 f9 f10 l6 c2 c3 c4 c5 f16 f17 f18 f19 a7 aA aB aC aD
 have uw1 := uW1.trans qw1
 clear qw1 uW1
 go_wp2_with fail
 refine (H1.out _).mono ?_
 rintro e w2 ⟨rfl, qw2⟩
 replace qw2 := qw2.dn
 have f38 := (qw2.frozen (a := ⟨w.heap.size, 0, none⟩) a8).trans f20
 have f39 := (qw2.frozen (a := ⟨w.heap.size, 1, none⟩) a8).trans f21
 have f40 := (qw2.frozen (a := ⟨w.heap.size, 2, none⟩) a8).trans f22
 have f41 := (qw2.frozen (a := ⟨w.heap.size, 3, none⟩) a8).trans f23
 have aM := nlt a8 qw2.size
 obtain ⟨a0, a1, a2, a3⟩ := mv4 qw2.cell aE aF aG aH
 have f47 := (qw2.frozen (a := ⟨w.heap.size + 1, 0, none⟩) a9).trans f29
 have f48 := (qw2.frozen (a := ⟨w.heap.size + 1, 1, none⟩) a9).trans f30
 have f49 := (qw2.frozen (a := ⟨w.heap.size + 1, 2, none⟩) a9).trans f31
 have f50 := (qw2.frozen (a := ⟨w.heap.size + 1, 3, none⟩) a9).trans f32
 have aN := nlt a9 qw2.size
 obtain ⟨a4, c53, a5, a6⟩ := mv4 qw2.cell aI aJ aK aL
 clear f20 f21 f22 f23 a8 aE aF aG aH f29 f30 f31 f32 a9 aI aJ aK aL
 have uw2 := uw1.trans qw2
 clear qw2 uw1
 go_wp2_with fail
 obtain ⟨W56, hW56⟩ : ∃ W56, W56 = (((((((w2.setCell ⟨w.heap.size, 0, none⟩ (.int .i8 e)).setCell ⟨w.heap.size, 1, none⟩ (.int .i64 f)).setCell ⟨w.heap.size, 2, none⟩ (.int .i8 g)).setCell ⟨w.heap.size, 3, none⟩ (.int .i64 h)).setCell ⟨w.heap.size + 1, 0, none⟩ (.int .i8 a)).setCell ⟨w.heap.size + 1, 1, none⟩ (.int .i64 b)).setCell ⟨w.heap.size + 1, 2, none⟩ (.int .i8 c)).setCell ⟨w.heap.size + 1, 3, none⟩ (.int .i64 d) := ⟨_, rfl⟩
 have uW56 : Dn w W56 := by rw [hW56]; exact ((((((((uw2.setCell (by simp <;> omega) _).setCell (by simp <;> omega) _).setCell (by simp <;> omega) _).setCell (by simp <;> omega) _).setCell (by simp <;> omega) _).setCell (by simp <;> omega) _).setCell (by simp <;> omega) _).setCell (by simp <;> omega) _)
 have aO : W56.cell? ⟨w.heap.size, 0, none⟩ = some (.int .i8 e) := by rw [hW56]; simp [go_sem, a0, a1, a2, a3, a4, c53, a5, a6]
 have aP : W56.cell? ⟨w.heap.size, 1, none⟩ = some (.int .i64 f) := by rw [hW56]; simp [go_sem, a0, a1, a2, a3, a4, c53, a5, a6]
 have aQ : W56.cell? ⟨w.heap.size, 2, none⟩ = some (.int .i8 g) := by rw [hW56]; simp [go_sem, a0, a1, a2, a3, a4, c53, a5, a6]
 have aR : W56.cell? ⟨w.heap.size, 3, none⟩ = some (.int .i64 h) := by rw [hW56]; simp [go_sem, a0, a1, a2, a3, a4, c53, a5, a6]
 have aS : w.heap.size < W56.heap.size := by rw [hW56]; simpa using aM
 have aT : W56.cell? ⟨w.heap.size + 1, 0, none⟩ = some (.int .i8 a) := by rw [hW56]; simp [go_sem, a0, a1, a2, a3, a4, c53, a5, a6]
 have aU : W56.cell? ⟨w.heap.size + 1, 1, none⟩ = some (.int .i64 b) := by rw [hW56]; simp [go_sem, a0, a1, a2, a3, a4, c53, a5, a6]
 have aV : W56.cell? ⟨w.heap.size + 1, 2, none⟩ = some (.int .i8 c) := by rw [hW56]; simp [go_sem, a0, a1, a2, a3, a4, c53, a5, a6]
 have aW : W56.cell? ⟨w.heap.size + 1, 3, none⟩ = some (.int .i64 d) := by rw [hW56]; simp [go_sem, a0, a1, a2, a3, a4, c53, a5, a6]
 have aX : w.heap.size + 1 < W56.heap.size := by rw [hW56]; simpa using aN
 rw [← hW56]
 clear hW56 uw2 a0 a1 a2 a3 a4 c53 a5 a6 aM aN f38 f39 f40 f41 f47 f48 f49 f50
 refine (H2.out _).mono ?_
 rintro e w3 ⟨rfl, qw3⟩
 replace qw3 := qw3.dn
 have aY := nlt aS qw3.size
 have b4 := nlt aX qw3.size
 obtain ⟨aZ, b0, b2, b3, b5, b6, b7, b8⟩ := mv8 qw3.cell aO aP aQ aR aT aU aV aW
 clear aS aO aP aQ aR aX aT aU aV aW
 have uw3 := uW56.trans qw3
 clear qw3 uW56
 go_wp2_with fail
 go_ret
 exact ⟨rfl, uw3⟩
theorem rnTch_1eq (a b c d e f g h m n : Int) (HR : Hid (∀ W, Calls Tryz.prog 80 #[.agg #[.int .i8 a, .int .i64 b, .int .i8 c, .int .i64 d], .agg #[.int .i8 e, .int .i64 f, .int .i8 g, .int .i64 h]] W fun r w' => r = .returned (.bool true) ∧ Dn W w')) (H1 : Hid (∀ W, Calls Tryz.prog 15 #[.agg #[.int .i8 e, .int .i64 f], .agg #[.int .i8 a, .int .i64 b]] W fun r w' => r = .returned (.int .i64 m) ∧ Up W w')) (H2 : Hid (∀ W, Calls Tryz.prog 15 #[.agg #[.int .i8 a, .int .i64 b], .agg #[.int .i8 g, .int .i64 h]] W fun r w' => r = .returned (.int .i64 n) ∧ Up W w')) (h1 : m < 0) (h2 : ¬ n ≤ 0) (HN : Hid (∀ W, Calls Tryz.prog 167 #[.agg #[.int .i8 g, .int .i64 h]] W fun r w' => r = .returned (.tuple #[.agg #[.int .i8 0, .int .i64 (h + 1)], .int .i64 0]) ∧ Up W w')) (h3 : a = 0) (h4 : h + 1 = b) (w : World) :
  Calls Tryz.prog 135 #[.agg #[.int .i8 a, .int .i64 b, .int .i8 c, .int .i64 d], .agg #[.int .i8 e, .int .i64 f, .int .i8 g, .int .i64 h]] w fun ro w' => ro = .returned (.bool true) ∧ Dn w w' := by
 have t1 : decide (m < 0) = true := by simpa using h1
 have t2 : decide (n ≤ 0) = false := by simpa using h2
 clear h1 h2
 have t3 : ((0 : Int) == a) = true := by simp [h3]
 have t4 : (h + 1 == b) = true := by simpa using h4
 clear h3 h4
 go_enter Tryz.func135, Tryz.ntmps135
 go_wp2_with fail
 obtain ⟨W1, hW1, uW1, c2, c3, c4, c5, l6, f7, f8, f9, f10, aA, aB, aC, aD, a7, f16, f17, f18, f19⟩ := preAx38x3 w a b c d e f g h
 rw [← hW1]
 clear hW1
 refine (HR.out _).mono ?_
 rintro e w1 ⟨rfl, qw1⟩
 have f20 := (qw1.frozen (a := ⟨w.heap.size, 0, none⟩) l6).trans f7
 have f21 := (qw1.frozen (a := ⟨w.heap.size, 1, none⟩) l6).trans f8
 have f22 := (qw1.frozen (a := ⟨w.heap.size, 2, none⟩) l6).trans f9
 have f23 := (qw1.frozen (a := ⟨w.heap.size, 3, none⟩) l6).trans f10
 have a8 := nlt l6 qw1.size
 obtain ⟨aE, aF, aG, aH⟩ := mv4 qw1.cell c2 c3 c4 c5
 have f29 := (qw1.frozen (a := ⟨w.heap.size + 1, 0, none⟩) a7).trans f16
 have f30 := (qw1.frozen (a := ⟨w.heap.size + 1, 1, none⟩) a7).trans f17
 have f31 := (qw1.frozen (a := ⟨w.heap.size + 1, 2, none⟩) a7).trans f18
 have f32 := (qw1.frozen (a := ⟨w.heap.size + 1, 3, none⟩) a7).trans f19
 have a9 := nlt a7 qw1.size
 obtain ⟨aI, aJ, aK, aL⟩ := mv4 qw1.cell aA aB aC aD
 clear f7 f8 f9 f10 l6 c2 c3 c4 c5 f16 f17 f18 f19 a7 aA aB aC aD
 have uw1 := uW1.trans qw1
 clear qw1 uW1
 go_wp2_with fail
 refine (H1.out _).mono ?_
 rintro e w2 ⟨rfl, qw2⟩
 replace qw2 := qw2.dn
 have f38 := (qw2.frozen (a := ⟨w.heap.size, 0, none⟩) a8).trans f20
 have f39 := (qw2.frozen (a := ⟨w.heap.size, 1, none⟩) a8).trans f21
 have f40 := (qw2.frozen (a := ⟨w.heap.size, 2, none⟩) a8).trans f22
 have f41 := (qw2.frozen (a := ⟨w.heap.size, 3, none⟩) a8).trans f23
 have aM := nlt a8 qw2.size
 obtain ⟨a0, a1, a2, a3⟩ := mv4 qw2.cell aE aF aG aH
 have f47 := (qw2.frozen (a := ⟨w.heap.size + 1, 0, none⟩) a9).trans f29
 have f48 := (qw2.frozen (a := ⟨w.heap.size + 1, 1, none⟩) a9).trans f30
 have f49 := (qw2.frozen (a := ⟨w.heap.size + 1, 2, none⟩) a9).trans f31
 have f50 := (qw2.frozen (a := ⟨w.heap.size + 1, 3, none⟩) a9).trans f32
 have aN := nlt a9 qw2.size
 obtain ⟨a4, c53, a5, a6⟩ := mv4 qw2.cell aI aJ aK aL
 clear f20 f21 f22 f23 a8 aE aF aG aH f29 f30 f31 f32 a9 aI aJ aK aL
 have uw2 := uw1.trans qw2
 clear qw2 uw1
 go_wp2_with fail
 obtain ⟨W56, hW56⟩ : ∃ W56, W56 = (((((((w2.setCell ⟨w.heap.size, 0, none⟩ (.int .i8 e)).setCell ⟨w.heap.size, 1, none⟩ (.int .i64 f)).setCell ⟨w.heap.size, 2, none⟩ (.int .i8 g)).setCell ⟨w.heap.size, 3, none⟩ (.int .i64 h)).setCell ⟨w.heap.size + 1, 0, none⟩ (.int .i8 a)).setCell ⟨w.heap.size + 1, 1, none⟩ (.int .i64 b)).setCell ⟨w.heap.size + 1, 2, none⟩ (.int .i8 c)).setCell ⟨w.heap.size + 1, 3, none⟩ (.int .i64 d) := ⟨_, rfl⟩
 have uW56 : Dn w W56 := by rw [hW56]; exact ((((((((uw2.setCell (by simp <;> omega) _).setCell (by simp <;> omega) _).setCell (by simp <;> omega) _).setCell (by simp <;> omega) _).setCell (by simp <;> omega) _).setCell (by simp <;> omega) _).setCell (by simp <;> omega) _).setCell (by simp <;> omega) _)
 have aO : W56.cell? ⟨w.heap.size, 0, none⟩ = some (.int .i8 e) := by rw [hW56]; simp [go_sem, a0, a1, a2, a3, a4, c53, a5, a6]
 have aP : W56.cell? ⟨w.heap.size, 1, none⟩ = some (.int .i64 f) := by rw [hW56]; simp [go_sem, a0, a1, a2, a3, a4, c53, a5, a6]
 have aQ : W56.cell? ⟨w.heap.size, 2, none⟩ = some (.int .i8 g) := by rw [hW56]; simp [go_sem, a0, a1, a2, a3, a4, c53, a5, a6]
 have aR : W56.cell? ⟨w.heap.size, 3, none⟩ = some (.int .i64 h) := by rw [hW56]; simp [go_sem, a0, a1, a2, a3, a4, c53, a5, a6]
 have aS : w.heap.size < W56.heap.size := by rw [hW56]; simpa using aM
 have aT : W56.cell? ⟨w.heap.size + 1, 0, none⟩ = some (.int .i8 a) := by rw [hW56]; simp [go_sem, a0, a1, a2, a3, a4, c53, a5, a6]
 have aU : W56.cell? ⟨w.heap.size + 1, 1, none⟩ = some (.int .i64 b) := by rw [hW56]; simp [go_sem, a0, a1, a2, a3, a4, c53, a5, a6]
 have aV : W56.cell? ⟨w.heap.size + 1, 2, none⟩ = some (.int .i8 c) := by rw [hW56]; simp [go_sem, a0, a1, a2, a3, a4, c53, a5, a6]
 have aW : W56.cell? ⟨w.heap.size + 1, 3, none⟩ = some (.int .i64 d) := by rw [hW56]; simp [go_sem, a0, a1, a2, a3, a4, c53, a5, a6]
 have aX : w.heap.size + 1 < W56.heap.size := by rw [hW56]; simpa using aN
 rw [← hW56]
 clear hW56 uw2 a0 a1 a2 a3 a4 c53 a5 a6 aM aN f38 f39 f40 f41 f47 f48 f49 f50
 refine (H2.out _).mono ?_
 rintro e w3 ⟨rfl, qw3⟩
 replace qw3 := qw3.dn
 have aY := nlt aS qw3.size
 have b4 := nlt aX qw3.size
 obtain ⟨aZ, b0, b2, b3, b5, b6, b7, b8⟩ := mv8 qw3.cell aO aP aQ aR aT aU aV aW
 clear aS aO aP aQ aR aX aT aU aV aW
 have uw3 := uW56.trans qw3
 clear qw3 uW56
 go_wp2_with fail
 refine (HN.out _).mono ?_
 rintro e w4 ⟨rfl, qw4⟩
 replace qw4 := qw4.dn
 have b9 := nlt aY qw4.size
 have bE := nlt b4 qw4.size
 obtain ⟨bA, bB, bC, bD, bF, bG, bH, bI⟩ := mv8 qw4.cell aZ b0 b2 b3 b5 b6 b7 b8
 clear aY aZ b0 b2 b3 b4 b5 b6 b7 b8
 have uw4 := uw3.trans qw4
 clear qw4 uw3
 go_wp2_with fail
 obtain ⟨W87, hW87⟩ : ∃ W87, W87 = w4.alloc (.cells #[.int .i8 0, .int .i64 (h + 1)] 28) := ⟨_, rfl⟩
 have uW87 : Dn w4 W87 := by rw [hW87]; exact (Dn.refl _).alloc _
 have bJ := nlt b9 uW87.size
 have bO := nlt bE uW87.size
 obtain ⟨bK, bL, bM, bN, bP, bQ, bR, bS⟩ := mv8 uW87.cell bA bB bC bD bF bG bH bI
 clear b9 bA bB bC bD bE bF bG bH bI
 have bT : W87.cell? ⟨w4.heap.size, 0, none⟩ = some (.int .i8 0) := by rw [hW87]; simp [go_sem]
 have bU : W87.cell? ⟨w4.heap.size, 1, none⟩ = some (.int .i64 (h + 1)) := by rw [hW87]; simp [go_sem]
 have bV : w4.heap.size < W87.heap.size := by rw [hW87]; simp <;> omega
 rw [← hW87]
 clear hW87
 have vW87 := uw4.trans uW87
 clear uW87 uw4
 go_wp2_with fail
 go_ret
 exact ⟨rfl, vW87⟩
theorem rnTch_1nd (a b c d e f g h m n : Int) (HR : Hid (∀ W, Calls Tryz.prog 80 #[.agg #[.int .i8 a, .int .i64 b, .int .i8 c, .int .i64 d], .agg #[.int .i8 e, .int .i64 f, .int .i8 g, .int .i64 h]] W fun r w' => r = .returned (.bool true) ∧ Dn W w')) (H1 : Hid (∀ W, Calls Tryz.prog 15 #[.agg #[.int .i8 e, .int .i64 f], .agg #[.int .i8 a, .int .i64 b]] W fun r w' => r = .returned (.int .i64 m) ∧ Up W w')) (H2 : Hid (∀ W, Calls Tryz.prog 15 #[.agg #[.int .i8 a, .int .i64 b], .agg #[.int .i8 g, .int .i64 h]] W fun r w' => r = .returned (.int .i64 n) ∧ Up W w')) (h1 : m < 0) (h2 : ¬ n ≤ 0) (HN : Hid (∀ W, Calls Tryz.prog 167 #[.agg #[.int .i8 g, .int .i64 h]] W fun r w' => r = .returned (.tuple #[.agg #[.int .i8 0, .int .i64 (h + 1)], .int .i64 0]) ∧ Up W w')) (h3 : h + 1 ≠ b) (w : World) :
  Calls Tryz.prog 135 #[.agg #[.int .i8 a, .int .i64 b, .int .i8 c, .int .i64 d], .agg #[.int .i8 e, .int .i64 f, .int .i8 g, .int .i64 h]] w fun ro w' => ro = .returned (.bool false) ∧ Dn w w' := by
 have t1 : decide (m < 0) = true := by simpa using h1
 have t2 : decide (n ≤ 0) = false := by simpa using h2
 clear h1 h2
 have t3 : (h + 1 == b) = false := by simpa using h3
 clear h3
 go_enter Tryz.func135, Tryz.ntmps135
 go_wp2_with fail
 obtain ⟨W1, hW1, uW1, c2, c3, c4, c5, l6, f7, f8, f9, f10, aA, aB, aC, aD, a7, f16, f17, f18, f19⟩ := preAx38x3 w a b c d e f g h
 rw [← hW1]
 clear hW1
 refine (HR.out _).mono ?_
 rintro e w1 ⟨rfl, qw1⟩
 have f20 := (qw1.frozen (a := ⟨w.heap.size, 0, none⟩) l6).trans f7
 have f21 := (qw1.frozen (a := ⟨w.heap.size, 1, none⟩) l6).trans f8
 have f22 := (qw1.frozen (a := ⟨w.heap.size, 2, none⟩) l6).trans f9
 have f23 := (qw1.frozen (a := ⟨w.heap.size, 3, none⟩) l6).trans f10
 have a8 := nlt l6 qw1.size
 obtain ⟨aE, aF, aG, aH⟩ := mv4 qw1.cell c2 c3 c4 c5
 have f29 := (qw1.frozen (a := ⟨w.heap.size + 1, 0, none⟩) a7).trans f16
 have f30 := (qw1.frozen (a := ⟨w.heap.size + 1, 1, none⟩) a7).trans f17
 have f31 := (qw1.frozen (a := ⟨w.heap.size + 1, 2, none⟩) a7).trans f18
 have f32 := (qw1.frozen (a := ⟨w.heap.size + 1, 3, none⟩) a7).trans f19
 have a9 := nlt a7 qw1.size
 obtain ⟨aI, aJ, aK, aL⟩ := mv4 qw1.cell aA aB aC aD
 clear f7 f8 f9 f10 l6 c2 c3 c4 c5 f16 f17 f18 f19 a7 aA aB aC aD
 have uw1 := uW1.trans qw1
 clear qw1 uW1
 go_wp2_with fail
 refine (H1.out _).mono ?_
 rintro e w2 ⟨rfl, qw2⟩
 replace qw2 := qw2.dn
 have f38 := (qw2.frozen (a := ⟨w.heap.size, 0, none⟩) a8).trans f20
 have f39 := (qw2.frozen (a := ⟨w.heap.size, 1, none⟩) a8).trans f21
 have f40 := (qw2.frozen (a := ⟨w.heap.size, 2, none⟩) a8).trans f22
 have f41 := (qw2.frozen (a := ⟨w.heap.size, 3, none⟩) a8).trans f23
 have aM := nlt a8 qw2.size
 obtain ⟨a0, a1, a2, a3⟩ := mv4 qw2.cell aE aF aG aH
 have f47 := (qw2.frozen (a := ⟨w.heap.size + 1, 0, none⟩) a9).trans f29
 have f48 := (qw2.frozen (a := ⟨w.heap.size + 1, 1, none⟩) a9).trans f30
 have f49 := (qw2.frozen (a := ⟨w.heap.size + 1, 2, none⟩) a9).trans f31
 have f50 := (qw2.frozen (a := ⟨w.heap.size + 1, 3, none⟩) a9).trans f32
 have aN := nlt a9 qw2.size
 obtain ⟨a4, c53, a5, a6⟩ := mv4 qw2.cell aI aJ aK aL
 clear f20 f21 f22 f23 a8 aE aF aG aH f29 f30 f31 f32 a9 aI aJ aK aL
 have uw2 := uw1.trans qw2
 clear qw2 uw1
 go_wp2_with fail
 obtain ⟨W56, hW56⟩ : ∃ W56, W56 = (((((((w2.setCell ⟨w.heap.size, 0, none⟩ (.int .i8 e)).setCell ⟨w.heap.size, 1, none⟩ (.int .i64 f)).setCell ⟨w.heap.size, 2, none⟩ (.int .i8 g)).setCell ⟨w.heap.size, 3, none⟩ (.int .i64 h)).setCell ⟨w.heap.size + 1, 0, none⟩ (.int .i8 a)).setCell ⟨w.heap.size + 1, 1, none⟩ (.int .i64 b)).setCell ⟨w.heap.size + 1, 2, none⟩ (.int .i8 c)).setCell ⟨w.heap.size + 1, 3, none⟩ (.int .i64 d) := ⟨_, rfl⟩
 have uW56 : Dn w W56 := by rw [hW56]; exact ((((((((uw2.setCell (by simp <;> omega) _).setCell (by simp <;> omega) _).setCell (by simp <;> omega) _).setCell (by simp <;> omega) _).setCell (by simp <;> omega) _).setCell (by simp <;> omega) _).setCell (by simp <;> omega) _).setCell (by simp <;> omega) _)
 have aO : W56.cell? ⟨w.heap.size, 0, none⟩ = some (.int .i8 e) := by rw [hW56]; simp [go_sem, a0, a1, a2, a3, a4, c53, a5, a6]
 have aP : W56.cell? ⟨w.heap.size, 1, none⟩ = some (.int .i64 f) := by rw [hW56]; simp [go_sem, a0, a1, a2, a3, a4, c53, a5, a6]
 have aQ : W56.cell? ⟨w.heap.size, 2, none⟩ = some (.int .i8 g) := by rw [hW56]; simp [go_sem, a0, a1, a2, a3, a4, c53, a5, a6]
 have aR : W56.cell? ⟨w.heap.size, 3, none⟩ = some (.int .i64 h) := by rw [hW56]; simp [go_sem, a0, a1, a2, a3, a4, c53, a5, a6]
 have aS : w.heap.size < W56.heap.size := by rw [hW56]; simpa using aM
 have aT : W56.cell? ⟨w.heap.size + 1, 0, none⟩ = some (.int .i8 a) := by rw [hW56]; simp [go_sem, a0, a1, a2, a3, a4, c53, a5, a6]
 have aU : W56.cell? ⟨w.heap.size + 1, 1, none⟩ = some (.int .i64 b) := by rw [hW56]; simp [go_sem, a0, a1, a2, a3, a4, c53, a5, a6]
 have aV : W56.cell? ⟨w.heap.size + 1, 2, none⟩ = some (.int .i8 c) := by rw [hW56]; simp [go_sem, a0, a1, a2, a3, a4, c53, a5, a6]
 have aW : W56.cell? ⟨w.heap.size + 1, 3, none⟩ = some (.int .i64 d) := by rw [hW56]; simp [go_sem, a0, a1, a2, a3, a4, c53, a5, a6]
 have aX : w.heap.size + 1 < W56.heap.size := by rw [hW56]; simpa using aN
 rw [← hW56]
 clear hW56 uw2 a0 a1 a2 a3 a4 c53 a5 a6 aM aN f38 f39 f40 f41 f47 f48 f49 f50
 refine (H2.out _).mono ?_
 rintro e w3 ⟨rfl, qw3⟩
 replace qw3 := qw3.dn
 have aY := nlt aS qw3.size
 have b4 := nlt aX qw3.size
 obtain ⟨aZ, b0, b2, b3, b5, b6, b7, b8⟩ := mv8 qw3.cell aO aP aQ aR aT aU aV aW
 clear aS aO aP aQ aR aX aT aU aV aW
 have uw3 := uW56.trans qw3
 clear qw3 uW56
 go_wp2_with fail
 refine (HN.out _).mono ?_
 rintro e w4 ⟨rfl, qw4⟩
 replace qw4 := qw4.dn
 have b9 := nlt aY qw4.size
 have bE := nlt b4 qw4.size
 obtain ⟨bA, bB, bC, bD, bF, bG, bH, bI⟩ := mv8 qw4.cell aZ b0 b2 b3 b5 b6 b7 b8
 clear aY aZ b0 b2 b3 b4 b5 b6 b7 b8
 have uw4 := uw3.trans qw4
 clear qw4 uw3
 go_wp2_with fail
 obtain ⟨W87, hW87⟩ : ∃ W87, W87 = w4.alloc (.cells #[.int .i8 0, .int .i64 (h + 1)] 28) := ⟨_, rfl⟩
 have uW87 : Dn w4 W87 := by rw [hW87]; exact (Dn.refl _).alloc _
 have bJ := nlt b9 uW87.size
 have bO := nlt bE uW87.size
 obtain ⟨bK, bL, bM, bN, bP, bQ, bR, bS⟩ := mv8 uW87.cell bA bB bC bD bF bG bH bI
 clear b9 bA bB bC bD bE bF bG bH bI
 have bT : W87.cell? ⟨w4.heap.size, 0, none⟩ = some (.int .i8 0) := by rw [hW87]; simp [go_sem]
 have bU : W87.cell? ⟨w4.heap.size, 1, none⟩ = some (.int .i64 (h + 1)) := by rw [hW87]; simp [go_sem]
 have bV : w4.heap.size < W87.heap.size := by rw [hW87]; simp <;> omega
 rw [← hW87]
 clear hW87
 have vW87 := uw4.trans uW87
 clear uW87 uw4
 go_wp2_with fail
 go_ret
 exact ⟨rfl, vW87⟩
theorem rnTouch (a b c d e f g h : Int) (w : World) (hb : I64 b) (hd : I64 d) (hf : I64 f) (hh : I64 h) :
   Calls Tryz.prog 135 #[.agg #[.int .i8 a, .int .i64 b, .int .i8 c, .int .i64 d], .agg #[.int .i8 e, .int .i64 f, .int .i8 g, .int .i64 h]] w fun r w' => r = .returned (.bool (decide (Tch a b c d e f g h))) ∧ Dn w w' := by
 have HR := Lib.hid (fun W => rnRight a b c d e f g h W hb hd hf hh)
 by_cases h0 : RnOk a b c d ∧ RnOk e f g h
 · rw [decide_eq_true h0] at HR
   obtain ⟨⟨o1, o2, o3, o4, o5⟩, p1, p2, p3, p4, p5⟩ := h0
   have hT : Tch a b c d e f g h ↔ key e f ≤ key c d + 1 ∧ key a b ≤ key g h + 1 := ⟨fun hc => hc.2.2, fun hc => ⟨⟨o1, o2, o3, o4, o5⟩, ⟨p1, p2, p3, p4, p5⟩, hc⟩⟩
   have k1 := eC_lt (i := e) (j := a) hf hb
   have H1 := Lib.hid (fun W => eCmp e f a b W)
   by_cases hm : eC e f a b < 0
   · have k2 := eC_le (i := a) (j := g) hb hh
     have H2 := Lib.hid (fun W => eCmp a b g h W)
     by_cases hn : eC a b g h ≤ 0
     · rw [decide_eq_true (hT.2 (by unfold key at *; omega))]
       exact rnTch_1le a b c d e f g h _ _ HR H1 H2 hm hn w
     · have hg : g = 0 := by unfold eOk key I64 at *; omega
       subst hg
       have hfit : I64 (h + 1) := by unfold eOk key I64 at *; omega
       have HN := Lib.hid (fun W => eNext 0 h 0 (h + 1) 0 W hh (Or.inr (Or.inr ⟨rfl, rfl, Or.inl ⟨hfit, rfl, rfl⟩⟩)))
       by_cases hq : a = 0 ∧ h + 1 = b
       · rw [decide_eq_true (hT.2 (by unfold key at *; omega))]
         exact rnTch_1eq a b c d e f 0 h _ _ HR H1 H2 hm hn HN hq.1 hq.2 w
       · have ha : a = 0 := by unfold eOk key I64 at *; omega
         rw [decide_eq_false (fun hc => by have := hT.1 hc; unfold key at *; omega)]
         exact rnTch_1nd a b c d e f 0 h _ _ HR H1 H2 hm hn HN (fun hc => hq ⟨ha, hc⟩) w
   · have k2 := eC_le (i := e) (j := c) hf hd
     have H2 := Lib.hid (fun W => eCmp e f c d W)
     by_cases hn : eC e f c d ≤ 0
     · rw [decide_eq_true (hT.2 (by unfold key at *; omega))]
       exact rnTch_0le a b c d e f g h _ _ HR H1 H2 hm hn w
     · have hg : c = 0 := by unfold eOk key I64 at *; omega
       subst hg
       have hfit : I64 (d + 1) := by unfold eOk key I64 at *; omega
       have HN := Lib.hid (fun W => eNext 0 d 0 (d + 1) 0 W hd (Or.inr (Or.inr ⟨rfl, rfl, Or.inl ⟨hfit, rfl, rfl⟩⟩)))
       by_cases hq : e = 0 ∧ d + 1 = f
       · rw [decide_eq_true (hT.2 (by unfold key at *; omega))]
         exact rnTch_0eq a b 0 d e f g h _ _ HR H1 H2 hm hn HN hq.1 hq.2 w
       · have ha : e = 0 := by unfold eOk key I64 at *; omega
         rw [decide_eq_false (fun hc => by have := hT.1 hc; unfold key at *; omega)]
         exact rnTch_0nd a b 0 d e f g h _ _ HR H1 H2 hm hn HN (fun hc => hq ⟨ha, hc⟩) w
 · rw [decide_eq_false h0] at HR
   rw [decide_eq_false (fun hc : Tch a b c d e f g h => h0 ⟨hc.1, hc.2.1⟩)]
   exact rnTch_no a b c d e f g h HR w
end Go.Proofs.YteodjglbpfmikaaGreatDoor
