/- Walks and laws that the claim's theorem leans on: part 27. -/
import Derived.Test.YtcdkeiolblifkaaGreatDoorZKn1
import Derived.Test.YtcdkeiolblifkaaGreatDoorZKn12
import Derived.Test.YtcdkeiolblifkaaGreatDoorZKn14
namespace Go.Proofs.YtcdkeiolblifkaaGreatDoor
set_option maxHeartbeats 4000000
set_option maxRecDepth 100000
open Go.RowKit
set_option linter.unusedVariables false
set_option linter.unusedSimpArgs false
theorem kdRf_4 {W w1 w2 : World} {a0 a1 a2 a3 : Addr} {v0 v1 v2 v3 : Value} (k : Dn w1 w2) (h : Dn W w1 ∧ w1.cell? a0 = some v0 ∧ w1.cell? a1 = some v1 ∧ w1.cell? a2 = some v2 ∧ w1.cell? a3 = some v3) :
  Dn W w2 ∧ w2.cell? a0 = some v0 ∧ w2.cell? a1 = some v1 ∧ w2.cell? a2 = some v2 ∧ w2.cell? a3 = some v3 := by
 obtain ⟨h1, c0, c1, c2, c3⟩ := h
 exact ⟨h1.trans k, k.cell c0, k.cell c1, k.cell c2, k.cell c3⟩
theorem rfEnd_inf (i d k : Int) (h1 : i ≠ 0) (w : World) :
  Calls Tryz.prog 62 #[.agg #[.int .i8 i, .int .i64 d], .int .i64 k] w fun ro w' => ro = .returned (.tuple #[.agg #[.int .i8 i, .int .i64 d], .bool true]) ∧ Dn w w' := by
 have t1 : (i != 0) = true := by simpa using h1
 clear h1
 go_enter Tryz.func62, Tryz.ntmps62
 go_wp2_with fail
 exact bodyPost_ret (v := .tuple #[.agg #[.int .i8 i, .int .i64 d], .bool true]) (by simp [results, Tryz.results62, go_sem]) rfl ⟨rfl, ((Dn.refl _).alloc _).alloc _⟩
theorem rfEnd_yes (d k : Int) (HD : Hid (I64 d)) (HK : Hid (I64 k)) (HL1 : Hid (Len d)) (HL2 : Hid (Len k)) (HL3 : Hid (Len (d + k))) (HF : Hid (I64 (d + k))) (w : World) :
  Calls Tryz.prog 62 #[.agg #[.int .i8 0, .int .i64 d], .int .i64 k] w fun ro w' => ro = .returned (.tuple #[.agg #[.int .i8 0, .int .i64 (d + k)], .bool true]) ∧ Dn w w' := by
 go_enter Tryz.func62, Tryz.ntmps62
 go_wp2_with fail
 obtain ⟨W1, hW1⟩ : ∃ W1, W1 = (w.alloc (.cells #[.int .i8 0, .int .i64 d] 24)).alloc (.cells #[.int .i8 0, .int .i64 0] 24) := ⟨_, rfl⟩
 have uW1 : Dn w W1 := by rw [hW1]; exact ((Dn.refl _).alloc _).alloc _
 have n2 : w.heap.size ≠ w.heap.size + 1 := by omega
 have c3 : W1.cell? ⟨w.heap.size, 0, none⟩ = some (.int .i8 0) := by rw [hW1]; simp [go_sem]
 have c4 : W1.cell? ⟨w.heap.size, 1, none⟩ = some (.int .i64 d) := by rw [hW1]; simp [go_sem]
 have l5 : w.heap.size < W1.heap.size := by rw [hW1]; simp <;> omega
 have c6 : W1.cell? ⟨w.heap.size + 1, 0, none⟩ = some (.int .i8 0) := by rw [hW1]; simp [go_sem]
 have c7 : W1.cell? ⟨w.heap.size + 1, 1, none⟩ = some (.int .i64 0) := by rw [hW1]; simp [go_sem]
 have l8 : w.heap.size + 1 < W1.heap.size := by rw [hW1]; simp <;> omega
 have f9 : W1.frozen? ⟨w.heap.size + 1, 0, none⟩ = false := by rw [hW1]; simp [go_sem]
 have f10 : W1.frozen? ⟨w.heap.size + 1, 1, none⟩ = false := by rw [hW1]; simp [go_sem]
 rw [← hW1]
 clear hW1
 refine (rOf_c d _ HD.out).mono ?_
 rintro e w1 ⟨b1, p1, m1, c1, rfl, hI1, qw1⟩
 have a3 := nlt l5 qw1.size
 have a4 := qw1.cell c3
 have a5 := qw1.cell c4
 have f14 := (qw1.frozen (a := ⟨w.heap.size + 1, 0, none⟩) l8).trans f9
 have f15 := (qw1.frozen (a := ⟨w.heap.size + 1, 1, none⟩) l8).trans f10
 have a0 := nlt l8 qw1.size
 have a6 := qw1.cell c6
 have a7 := qw1.cell c7
 clear l5 c3 c4 f9 f10 l8 c6 c7
 have uw1 := uW1.trans qw1
 clear qw1 uW1
 go_wp2_with fail
 refine (rOf_c k _ HK.out).mono ?_
 rintro e w2 ⟨b2, p2, m2, c2, rfl, hI2, qw2⟩
 replace hI1 := hI1.dn qw2
 have a8 := nlt a3 qw2.size
 have a9 := qw2.cell a4
 have aA := qw2.cell a5
 have f22 := (qw2.frozen (a := ⟨w.heap.size + 1, 0, none⟩) a0).trans f14
 have f23 := (qw2.frozen (a := ⟨w.heap.size + 1, 1, none⟩) a0).trans f15
 have a1 := nlt a0 qw2.size
 have aB := qw2.cell a6
 have aC := qw2.cell a7
 clear a3 a4 a5 f14 f15 a0 a6 a7
 have uw2 := uw1.trans qw2
 clear qw2 uw1
 go_wp2_with fail
 refine (rAdd_c _ _ d k _ hI1 hI2 HL1.out HL2.out).mono ?_
 rintro e w3 ⟨b3, p3, m3, c3, rfl, hI3, qw3⟩
 replace hI1 := hI1.dn qw3
 replace hI2 := hI2.dn qw3
 have aD := nlt a8 qw3.size
 have aE := qw3.cell a9
 have aF := qw3.cell aA
 have f30 := (qw3.frozen (a := ⟨w.heap.size + 1, 0, none⟩) a1).trans f22
 have f31 := (qw3.frozen (a := ⟨w.heap.size + 1, 1, none⟩) a1).trans f23
 have a2 := nlt a1 qw3.size
 have aG := qw3.cell aB
 have aH := qw3.cell aC
 clear a8 a9 aA f22 f23 a1 aB aC
 have uw3 := uw2.trans qw3
 clear qw3 uw2
 go_wp2_with fail
 refine (rInt_yes _ (d + k) _ hI3 HL3.out HF.out).mono ?_
 rintro e w4 ⟨rfl, qw4⟩
 replace hI1 := hI1.dn qw4
 replace hI2 := hI2.dn qw4
 replace hI3 := hI3.dn qw4
 have aM := nlt aD qw4.size
 have aI := qw4.cell aE
 have aJ := qw4.cell aF
 have f38 := (qw4.frozen (a := ⟨w.heap.size + 1, 0, none⟩) a2).trans f30
 have f39 := (qw4.frozen (a := ⟨w.heap.size + 1, 1, none⟩) a2).trans f31
 have aN := nlt a2 qw4.size
 have aK := qw4.cell aG
 have aL := qw4.cell aH
 clear aD aE aF f30 f31 a2 aG aH
 have uw4 := uw3.trans qw4
 clear qw4 uw3
 go_wp2_with fail
 exact bodyPost_ret (v := .tuple #[.agg #[.int .i8 0, .int .i64 (d + k)], .bool true]) (by simp [results, Tryz.results62, go_sem, aI, aJ, aK, aL, f38, f39] <;> omega) rfl ⟨rfl, ((uw4.setCell (by simp <;> omega) _).setCell (by simp <;> omega) _)⟩
theorem rfEnd_no (d k : Int) (HD : Hid (I64 d)) (HK : Hid (I64 k)) (HL1 : Hid (Len d)) (HL2 : Hid (Len k)) (HL3 : Hid (Len (d + k))) (HF : Hid (¬ I64 (d + k))) (w : World) :
  Calls Tryz.prog 62 #[.agg #[.int .i8 0, .int .i64 d], .int .i64 k] w fun ro w' => ro = .returned (.tuple #[.agg #[.int .i8 0, .int .i64 0], .bool false]) ∧ Dn w w' := by
 go_enter Tryz.func62, Tryz.ntmps62
 go_wp2_with fail
 obtain ⟨W1, hW1⟩ : ∃ W1, W1 = (w.alloc (.cells #[.int .i8 0, .int .i64 d] 24)).alloc (.cells #[.int .i8 0, .int .i64 0] 24) := ⟨_, rfl⟩
 have uW1 : Dn w W1 := by rw [hW1]; exact ((Dn.refl _).alloc _).alloc _
 have n2 : w.heap.size ≠ w.heap.size + 1 := by omega
 have c3 : W1.cell? ⟨w.heap.size, 0, none⟩ = some (.int .i8 0) := by rw [hW1]; simp [go_sem]
 have c4 : W1.cell? ⟨w.heap.size, 1, none⟩ = some (.int .i64 d) := by rw [hW1]; simp [go_sem]
 have l5 : w.heap.size < W1.heap.size := by rw [hW1]; simp <;> omega
 have c6 : W1.cell? ⟨w.heap.size + 1, 0, none⟩ = some (.int .i8 0) := by rw [hW1]; simp [go_sem]
 have c7 : W1.cell? ⟨w.heap.size + 1, 1, none⟩ = some (.int .i64 0) := by rw [hW1]; simp [go_sem]
 have l8 : w.heap.size + 1 < W1.heap.size := by rw [hW1]; simp <;> omega
 have f9 : W1.frozen? ⟨w.heap.size + 1, 0, none⟩ = false := by rw [hW1]; simp [go_sem]
 have f10 : W1.frozen? ⟨w.heap.size + 1, 1, none⟩ = false := by rw [hW1]; simp [go_sem]
 rw [← hW1]
 clear hW1
 refine (rOf_c d _ HD.out).mono ?_
 rintro e w1 ⟨b1, p1, m1, c1, rfl, hI1, qw1⟩
 have a3 := nlt l5 qw1.size
 have a4 := qw1.cell c3
 have a5 := qw1.cell c4
 have f14 := (qw1.frozen (a := ⟨w.heap.size + 1, 0, none⟩) l8).trans f9
 have f15 := (qw1.frozen (a := ⟨w.heap.size + 1, 1, none⟩) l8).trans f10
 have a0 := nlt l8 qw1.size
 have a6 := qw1.cell c6
 have a7 := qw1.cell c7
 clear l5 c3 c4 f9 f10 l8 c6 c7
 have uw1 := uW1.trans qw1
 clear qw1 uW1
 go_wp2_with fail
 refine (rOf_c k _ HK.out).mono ?_
 rintro e w2 ⟨b2, p2, m2, c2, rfl, hI2, qw2⟩
 replace hI1 := hI1.dn qw2
 have a8 := nlt a3 qw2.size
 have a9 := qw2.cell a4
 have aA := qw2.cell a5
 have f22 := (qw2.frozen (a := ⟨w.heap.size + 1, 0, none⟩) a0).trans f14
 have f23 := (qw2.frozen (a := ⟨w.heap.size + 1, 1, none⟩) a0).trans f15
 have a1 := nlt a0 qw2.size
 have aB := qw2.cell a6
 have aC := qw2.cell a7
 clear a3 a4 a5 f14 f15 a0 a6 a7
 have uw2 := uw1.trans qw2
 clear qw2 uw1
 go_wp2_with fail
 refine (rAdd_c _ _ d k _ hI1 hI2 HL1.out HL2.out).mono ?_
 rintro e w3 ⟨b3, p3, m3, c3, rfl, hI3, qw3⟩
 replace hI1 := hI1.dn qw3
 replace hI2 := hI2.dn qw3
 have aD := nlt a8 qw3.size
 have aE := qw3.cell a9
 have aF := qw3.cell aA
 have f30 := (qw3.frozen (a := ⟨w.heap.size + 1, 0, none⟩) a1).trans f22
 have f31 := (qw3.frozen (a := ⟨w.heap.size + 1, 1, none⟩) a1).trans f23
 have a2 := nlt a1 qw3.size
 have aG := qw3.cell aB
 have aH := qw3.cell aC
 clear a8 a9 aA f22 f23 a1 aB aC
 have uw3 := uw2.trans qw3
 clear qw3 uw2
 go_wp2_with fail
 refine (rInt_no _ (d + k) _ hI3 HL3.out HF.out).mono ?_
 rintro e w4 ⟨rfl, qw4⟩
 replace hI1 := hI1.dn qw4
 replace hI2 := hI2.dn qw4
 replace hI3 := hI3.dn qw4
 have aM := nlt aD qw4.size
 have aI := qw4.cell aE
 have aJ := qw4.cell aF
 have f38 := (qw4.frozen (a := ⟨w.heap.size + 1, 0, none⟩) a2).trans f30
 have f39 := (qw4.frozen (a := ⟨w.heap.size + 1, 1, none⟩) a2).trans f31
 have aN := nlt a2 qw4.size
 have aK := qw4.cell aG
 have aL := qw4.cell aH
 clear aD aE aF f30 f31 a2 aG aH
 have uw4 := uw3.trans qw4
 clear qw4 uw3
 go_wp2_with fail
 exact bodyPost_ret (v := .tuple #[.agg #[.int .i8 0, .int .i64 0], .bool false]) (by simp [results, Tryz.results62, go_sem, aI, aJ, aK, aL, f38, f39] <;> omega) rfl ⟨rfl, ((uw4.setCell (by simp <;> omega) _).setCell (by simp <;> omega) _)⟩
theorem rfEnd (i d k j f r : Int) (w : World) (hd : I64 d) (hk : I64 k) (h : Sft i d k j f r) :
   Calls Tryz.prog 62 #[.agg #[.int .i8 i, .int .i64 d], .int .i64 k] w fun ro w' => ro = .returned (.tuple #[.agg #[.int .i8 j, .int .i64 f], .bool (decide (r = 0))]) ∧ Dn w w' := by
 rcases h with ⟨h0, rfl, rfl, rfl⟩ | ⟨rfl, rfl, hf⟩
 · exact rfEnd_inf _ _ k h0 w
 · have HL := Lib.hid (show Len (d + k) from Len.of (by have := hd.1; have := hd.2; have := hk.1; have := hk.2; omega))
   rcases hf with ⟨hi, rfl, rfl⟩ | ⟨hi, rfl, rfl⟩
   · exact rfEnd_yes d k (Lib.hid hd) (Lib.hid hk) (Lib.hid (Len.i64 hd)) (Lib.hid (Len.i64 hk)) HL (Lib.hid hi) w
   · exact rfEnd_no d k (Lib.hid hd) (Lib.hid hk) (Lib.hid (Len.i64 hd)) (Lib.hid (Len.i64 hk)) HL (Lib.hid hi) w
theorem rfSh_1 (a b c d k j1 f1 j2 f2 : Int) (HA : Hid (∀ W, Calls Tryz.prog 62 #[.agg #[.int .i8 a, .int .i64 b], .int .i64 k] W fun o w' => o = .returned (.tuple #[.agg #[.int .i8 j1, .int .i64 f1], .bool false]) ∧ Dn W w')) (HB : Hid (∀ W, Calls Tryz.prog 62 #[.agg #[.int .i8 c, .int .i64 d], .int .i64 k] W fun o w' => o = .returned (.tuple #[.agg #[.int .i8 j2, .int .i64 f2], .bool true]) ∧ Dn W w')) (w : World) :
  Calls Tryz.prog 34 #[.agg #[.int .i8 a, .int .i64 b, .int .i8 c, .int .i64 d], .int .i64 k] w fun ro w' => ro = .returned (.tuple #[.agg #[.int .i8 0, .int .i64 0, .int .i8 0, .int .i64 0], .int .i64 15]) ∧ Dn w w' := by
 go_enter Tryz.func34, Tryz.ntmps34
 go_wp2_with fail
 obtain ⟨W1, hW1⟩ : ∃ W1, W1 = (w.alloc (.cells #[.int .i8 a, .int .i64 b, .int .i8 c, .int .i64 d] 28)).alloc (.cells #[.int .i8 0, .int .i64 0, .int .i8 0, .int .i64 0] 28) := ⟨_, rfl⟩
 have uW1 : Dn w W1 := by rw [hW1]; exact ((Dn.refl _).alloc _).alloc _
 have n2 : w.heap.size ≠ w.heap.size + 1 := by omega
 have c3 : W1.cell? ⟨w.heap.size, 0, none⟩ = some (.int .i8 a) := by rw [hW1]; simp [go_sem]
 have c4 : W1.cell? ⟨w.heap.size, 1, none⟩ = some (.int .i64 b) := by rw [hW1]; simp [go_sem]
 have c5 : W1.cell? ⟨w.heap.size, 2, none⟩ = some (.int .i8 c) := by rw [hW1]; simp [go_sem]
 have c6 : W1.cell? ⟨w.heap.size, 3, none⟩ = some (.int .i64 d) := by rw [hW1]; simp [go_sem]
 have l7 : w.heap.size < W1.heap.size := by rw [hW1]; simp <;> omega
 have c8 : W1.cell? ⟨w.heap.size + 1, 0, none⟩ = some (.int .i8 0) := by rw [hW1]; simp [go_sem]
 have c9 : W1.cell? ⟨w.heap.size + 1, 1, none⟩ = some (.int .i64 0) := by rw [hW1]; simp [go_sem]
 have a3 : W1.cell? ⟨w.heap.size + 1, 2, none⟩ = some (.int .i8 0) := by rw [hW1]; simp [go_sem]
 have a4 : W1.cell? ⟨w.heap.size + 1, 3, none⟩ = some (.int .i64 0) := by rw [hW1]; simp [go_sem]
 have a1 : w.heap.size + 1 < W1.heap.size := by rw [hW1]; simp <;> omega
 have f13 : W1.frozen? ⟨w.heap.size + 1, 0, none⟩ = false := by rw [hW1]; simp [go_sem]
 have f14 : W1.frozen? ⟨w.heap.size + 1, 1, none⟩ = false := by rw [hW1]; simp [go_sem]
 have f15 : W1.frozen? ⟨w.heap.size + 1, 2, none⟩ = false := by rw [hW1]; simp [go_sem]
 have f16 : W1.frozen? ⟨w.heap.size + 1, 3, none⟩ = false := by rw [hW1]; simp [go_sem]
 rw [← hW1]
 clear hW1
 refine (HA.out _).mono ?_
 rintro e w1 ⟨rfl, qw1⟩
 have a5 := nlt l7 qw1.size
 obtain ⟨a6, a7, a8, a9⟩ := mv4 qw1.cell c3 c4 c5 c6
 have f22 := (qw1.frozen (a := ⟨w.heap.size + 1, 0, none⟩) a1).trans f13
 have f23 := (qw1.frozen (a := ⟨w.heap.size + 1, 1, none⟩) a1).trans f14
 have f24 := (qw1.frozen (a := ⟨w.heap.size + 1, 2, none⟩) a1).trans f15
 have f25 := (qw1.frozen (a := ⟨w.heap.size + 1, 3, none⟩) a1).trans f16
 have a0 := nlt a1 qw1.size
 obtain ⟨aA, aB, aC, aD⟩ := mv4 qw1.cell c8 c9 a3 a4
 clear l7 c3 c4 c5 c6 f13 f14 f15 f16 a1 c8 c9 a3 a4
 have uw1 := uW1.trans qw1
 clear qw1 uW1
 go_wp2_with fail
 obtain ⟨W31, hW31⟩ : ∃ W31, W31 = w1.alloc (.cells #[.int .i8 j1, .int .i64 f1] 24) := ⟨_, rfl⟩
 have uW31 : Dn w1 W31 := by rw [hW31]; exact (Dn.refl _).alloc _
 have n32 : w.heap.size + 1 ≠ w1.heap.size := by have := a0; omega
 have aE := nlt a5 uW31.size
 obtain ⟨aF, aG, aH, aI⟩ := mv4 uW31.cell a6 a7 a8 a9
 have f38 := (uW31.frozen (a := ⟨w.heap.size + 1, 0, none⟩) a0).trans f22
 have f39 := (uW31.frozen (a := ⟨w.heap.size + 1, 1, none⟩) a0).trans f23
 have f40 := (uW31.frozen (a := ⟨w.heap.size + 1, 2, none⟩) a0).trans f24
 have f41 := (uW31.frozen (a := ⟨w.heap.size + 1, 3, none⟩) a0).trans f25
 have a2 := nlt a0 uW31.size
 obtain ⟨aJ, aK, aL, aM⟩ := mv4 uW31.cell aA aB aC aD
 clear a5 a6 a7 a8 a9 f22 f23 f24 f25 a0 aA aB aC aD
 have aN : W31.cell? ⟨w1.heap.size, 0, none⟩ = some (.int .i8 j1) := by rw [hW31]; simp [go_sem]
 have aO : W31.cell? ⟨w1.heap.size, 1, none⟩ = some (.int .i64 f1) := by rw [hW31]; simp [go_sem]
 have aP : w1.heap.size < W31.heap.size := by rw [hW31]; simp <;> omega
 rw [← hW31]
 clear hW31
 have vW31 := uw1.trans uW31
 clear uW31 uw1
 refine (HB.out _).mono ?_
 rintro e w2 ⟨rfl, qw2⟩
 have aV := nlt aE qw2.size
 obtain ⟨aW, aX, aY, aZ⟩ := mv4 qw2.cell aF aG aH aI
 have f55 := (qw2.frozen (a := ⟨w.heap.size + 1, 0, none⟩) a2).trans f38
 have f56 := (qw2.frozen (a := ⟨w.heap.size + 1, 1, none⟩) a2).trans f39
 have f57 := (qw2.frozen (a := ⟨w.heap.size + 1, 2, none⟩) a2).trans f40
 have f58 := (qw2.frozen (a := ⟨w.heap.size + 1, 3, none⟩) a2).trans f41
 have aU := nlt a2 qw2.size
 have b0 := nlt aP qw2.size
 obtain ⟨aQ, aR, aS, aT, b1, b2⟩ := mv6 qw2.cell aJ aK aL aM aN aO
 clear aE aF aG aH aI f38 f39 f40 f41 a2 aJ aK aL aM aP aN aO
 have uw2 := vW31.trans qw2
 clear qw2 vW31
 go_wp2_with fail
 have hC : C4 w2 (w.heap.size + 1) (.int .i8 0) (.int .i64 0) (.int .i8 0) (.int .i64 0) := ⟨aQ, aR, aS, aT, f55, f56, f57, f58, aU⟩
 have hZ := fun o : Obj => (hC.fill (.int .i8 0) (.int .i64 0) (.int .i8 0) (.int .i64 0)).alloc o
 have z0 := fun o : Obj => (hZ o).c0
 have y0 := fun o : Obj => (hZ o).f0
 have z1 := fun o : Obj => (hZ o).c1
 have y1 := fun o : Obj => (hZ o).f1
 have z2 := fun o : Obj => (hZ o).c2
 have y2 := fun o : Obj => (hZ o).f2
 have z3 := fun o : Obj => (hZ o).c3
 have y3 := fun o : Obj => (hZ o).f3
 exact bodyPost_ret (v := .tuple #[.agg #[.int .i8 0, .int .i64 0, .int .i8 0, .int .i64 0], .int .i64 15]) (by simp [results, Tryz.results34, go_sem, z0, z1, z2, z3, y0, y1, y2, y3, aQ, aR, aS, aT, f55, f56, f57, f58] <;> omega) rfl ⟨rfl, (((((uw2.setCell (by simp <;> omega) _).setCell (by simp <;> omega) _).setCell (by simp <;> omega) _).setCell (by simp <;> omega) _).alloc _)⟩
theorem rfSh_0 (a b c d k j1 f1 j2 f2 : Int) (HA : Hid (∀ W, Calls Tryz.prog 62 #[.agg #[.int .i8 a, .int .i64 b], .int .i64 k] W fun o w' => o = .returned (.tuple #[.agg #[.int .i8 j1, .int .i64 f1], .bool false]) ∧ Dn W w')) (HB : Hid (∀ W, Calls Tryz.prog 62 #[.agg #[.int .i8 c, .int .i64 d], .int .i64 k] W fun o w' => o = .returned (.tuple #[.agg #[.int .i8 j2, .int .i64 f2], .bool false]) ∧ Dn W w')) (w : World) :
  Calls Tryz.prog 34 #[.agg #[.int .i8 a, .int .i64 b, .int .i8 c, .int .i64 d], .int .i64 k] w fun ro w' => ro = .returned (.tuple #[.agg #[.int .i8 0, .int .i64 0, .int .i8 0, .int .i64 0], .int .i64 15]) ∧ Dn w w' := by
 go_enter Tryz.func34, Tryz.ntmps34
 go_wp2_with fail
 obtain ⟨W1, hW1⟩ : ∃ W1, W1 = (w.alloc (.cells #[.int .i8 a, .int .i64 b, .int .i8 c, .int .i64 d] 28)).alloc (.cells #[.int .i8 0, .int .i64 0, .int .i8 0, .int .i64 0] 28) := ⟨_, rfl⟩
 have uW1 : Dn w W1 := by rw [hW1]; exact ((Dn.refl _).alloc _).alloc _
 have n2 : w.heap.size ≠ w.heap.size + 1 := by omega
 have c3 : W1.cell? ⟨w.heap.size, 0, none⟩ = some (.int .i8 a) := by rw [hW1]; simp [go_sem]
 have c4 : W1.cell? ⟨w.heap.size, 1, none⟩ = some (.int .i64 b) := by rw [hW1]; simp [go_sem]
 have c5 : W1.cell? ⟨w.heap.size, 2, none⟩ = some (.int .i8 c) := by rw [hW1]; simp [go_sem]
 have c6 : W1.cell? ⟨w.heap.size, 3, none⟩ = some (.int .i64 d) := by rw [hW1]; simp [go_sem]
 have l7 : w.heap.size < W1.heap.size := by rw [hW1]; simp <;> omega
 have c8 : W1.cell? ⟨w.heap.size + 1, 0, none⟩ = some (.int .i8 0) := by rw [hW1]; simp [go_sem]
 have c9 : W1.cell? ⟨w.heap.size + 1, 1, none⟩ = some (.int .i64 0) := by rw [hW1]; simp [go_sem]
 have a3 : W1.cell? ⟨w.heap.size + 1, 2, none⟩ = some (.int .i8 0) := by rw [hW1]; simp [go_sem]
 have a4 : W1.cell? ⟨w.heap.size + 1, 3, none⟩ = some (.int .i64 0) := by rw [hW1]; simp [go_sem]
 have a1 : w.heap.size + 1 < W1.heap.size := by rw [hW1]; simp <;> omega
 have f13 : W1.frozen? ⟨w.heap.size + 1, 0, none⟩ = false := by rw [hW1]; simp [go_sem]
 have f14 : W1.frozen? ⟨w.heap.size + 1, 1, none⟩ = false := by rw [hW1]; simp [go_sem]
 have f15 : W1.frozen? ⟨w.heap.size + 1, 2, none⟩ = false := by rw [hW1]; simp [go_sem]
 have f16 : W1.frozen? ⟨w.heap.size + 1, 3, none⟩ = false := by rw [hW1]; simp [go_sem]
 rw [← hW1]
 clear hW1
 refine (HA.out _).mono ?_
 rintro e w1 ⟨rfl, qw1⟩
 have a5 := nlt l7 qw1.size
 obtain ⟨a6, a7, a8, a9⟩ := mv4 qw1.cell c3 c4 c5 c6
 have f22 := (qw1.frozen (a := ⟨w.heap.size + 1, 0, none⟩) a1).trans f13
 have f23 := (qw1.frozen (a := ⟨w.heap.size + 1, 1, none⟩) a1).trans f14
 have f24 := (qw1.frozen (a := ⟨w.heap.size + 1, 2, none⟩) a1).trans f15
 have f25 := (qw1.frozen (a := ⟨w.heap.size + 1, 3, none⟩) a1).trans f16
 have a0 := nlt a1 qw1.size
 obtain ⟨aA, aB, aC, aD⟩ := mv4 qw1.cell c8 c9 a3 a4
 clear l7 c3 c4 c5 c6 f13 f14 f15 f16 a1 c8 c9 a3 a4
 have uw1 := uW1.trans qw1
 clear qw1 uW1
 go_wp2_with fail
 obtain ⟨W31, hW31⟩ : ∃ W31, W31 = w1.alloc (.cells #[.int .i8 j1, .int .i64 f1] 24) := ⟨_, rfl⟩
 have uW31 : Dn w1 W31 := by rw [hW31]; exact (Dn.refl _).alloc _
 have n32 : w.heap.size + 1 ≠ w1.heap.size := by have := a0; omega
 have aE := nlt a5 uW31.size
 obtain ⟨aF, aG, aH, aI⟩ := mv4 uW31.cell a6 a7 a8 a9
 have f38 := (uW31.frozen (a := ⟨w.heap.size + 1, 0, none⟩) a0).trans f22
 have f39 := (uW31.frozen (a := ⟨w.heap.size + 1, 1, none⟩) a0).trans f23
 have f40 := (uW31.frozen (a := ⟨w.heap.size + 1, 2, none⟩) a0).trans f24
 have f41 := (uW31.frozen (a := ⟨w.heap.size + 1, 3, none⟩) a0).trans f25
 have a2 := nlt a0 uW31.size
 obtain ⟨aJ, aK, aL, aM⟩ := mv4 uW31.cell aA aB aC aD
 clear a5 a6 a7 a8 a9 f22 f23 f24 f25 a0 aA aB aC aD
 have aN : W31.cell? ⟨w1.heap.size, 0, none⟩ = some (.int .i8 j1) := by rw [hW31]; simp [go_sem]
 have aO : W31.cell? ⟨w1.heap.size, 1, none⟩ = some (.int .i64 f1) := by rw [hW31]; simp [go_sem]
 have aP : w1.heap.size < W31.heap.size := by rw [hW31]; simp <;> omega
 rw [← hW31]
 clear hW31
 have vW31 := uw1.trans uW31
 clear uW31 uw1
 refine (HB.out _).mono ?_
 rintro e w2 ⟨rfl, qw2⟩
 have aV := nlt aE qw2.size
 obtain ⟨aW, aX, aY, aZ⟩ := mv4 qw2.cell aF aG aH aI
 have f55 := (qw2.frozen (a := ⟨w.heap.size + 1, 0, none⟩) a2).trans f38
 have f56 := (qw2.frozen (a := ⟨w.heap.size + 1, 1, none⟩) a2).trans f39
 have f57 := (qw2.frozen (a := ⟨w.heap.size + 1, 2, none⟩) a2).trans f40
 have f58 := (qw2.frozen (a := ⟨w.heap.size + 1, 3, none⟩) a2).trans f41
 have aU := nlt a2 qw2.size
 have b0 := nlt aP qw2.size
 obtain ⟨aQ, aR, aS, aT, b1, b2⟩ := mv6 qw2.cell aJ aK aL aM aN aO
 clear aE aF aG aH aI f38 f39 f40 f41 a2 aJ aK aL aM aP aN aO
 have uw2 := vW31.trans qw2
 clear qw2 vW31
 go_wp2_with fail
 have hC : C4 w2 (w.heap.size + 1) (.int .i8 0) (.int .i64 0) (.int .i8 0) (.int .i64 0) := ⟨aQ, aR, aS, aT, f55, f56, f57, f58, aU⟩
 have hZ := fun o : Obj => (hC.fill (.int .i8 0) (.int .i64 0) (.int .i8 0) (.int .i64 0)).alloc o
 have z0 := fun o : Obj => (hZ o).c0
 have y0 := fun o : Obj => (hZ o).f0
 have z1 := fun o : Obj => (hZ o).c1
 have y1 := fun o : Obj => (hZ o).f1
 have z2 := fun o : Obj => (hZ o).c2
 have y2 := fun o : Obj => (hZ o).f2
 have z3 := fun o : Obj => (hZ o).c3
 have y3 := fun o : Obj => (hZ o).f3
 exact bodyPost_ret (v := .tuple #[.agg #[.int .i8 0, .int .i64 0, .int .i8 0, .int .i64 0], .int .i64 15]) (by simp [results, Tryz.results34, go_sem, z0, z1, z2, z3, y0, y1, y2, y3, aQ, aR, aS, aT, f55, f56, f57, f58] <;> omega) rfl ⟨rfl, (((((uw2.setCell (by simp <;> omega) _).setCell (by simp <;> omega) _).setCell (by simp <;> omega) _).setCell (by simp <;> omega) _).alloc _)⟩
theorem rfSh_2 (a b c d k j1 f1 j2 f2 : Int) (HA : Hid (∀ W, Calls Tryz.prog 62 #[.agg #[.int .i8 a, .int .i64 b], .int .i64 k] W fun o w' => o = .returned (.tuple #[.agg #[.int .i8 j1, .int .i64 f1], .bool true]) ∧ Dn W w')) (HB : Hid (∀ W, Calls Tryz.prog 62 #[.agg #[.int .i8 c, .int .i64 d], .int .i64 k] W fun o w' => o = .returned (.tuple #[.agg #[.int .i8 j2, .int .i64 f2], .bool false]) ∧ Dn W w')) (w : World) :
  Calls Tryz.prog 34 #[.agg #[.int .i8 a, .int .i64 b, .int .i8 c, .int .i64 d], .int .i64 k] w fun ro w' => ro = .returned (.tuple #[.agg #[.int .i8 0, .int .i64 0, .int .i8 0, .int .i64 0], .int .i64 15]) ∧ Dn w w' := by
 go_enter Tryz.func34, Tryz.ntmps34
 go_wp2_with fail
 obtain ⟨W1, hW1⟩ : ∃ W1, W1 = (w.alloc (.cells #[.int .i8 a, .int .i64 b, .int .i8 c, .int .i64 d] 28)).alloc (.cells #[.int .i8 0, .int .i64 0, .int .i8 0, .int .i64 0] 28) := ⟨_, rfl⟩
 have uW1 : Dn w W1 := by rw [hW1]; exact ((Dn.refl _).alloc _).alloc _
 have n2 : w.heap.size ≠ w.heap.size + 1 := by omega
 have c3 : W1.cell? ⟨w.heap.size, 0, none⟩ = some (.int .i8 a) := by rw [hW1]; simp [go_sem]
 have c4 : W1.cell? ⟨w.heap.size, 1, none⟩ = some (.int .i64 b) := by rw [hW1]; simp [go_sem]
 have c5 : W1.cell? ⟨w.heap.size, 2, none⟩ = some (.int .i8 c) := by rw [hW1]; simp [go_sem]
 have c6 : W1.cell? ⟨w.heap.size, 3, none⟩ = some (.int .i64 d) := by rw [hW1]; simp [go_sem]
 have l7 : w.heap.size < W1.heap.size := by rw [hW1]; simp <;> omega
 have c8 : W1.cell? ⟨w.heap.size + 1, 0, none⟩ = some (.int .i8 0) := by rw [hW1]; simp [go_sem]
 have c9 : W1.cell? ⟨w.heap.size + 1, 1, none⟩ = some (.int .i64 0) := by rw [hW1]; simp [go_sem]
 have a3 : W1.cell? ⟨w.heap.size + 1, 2, none⟩ = some (.int .i8 0) := by rw [hW1]; simp [go_sem]
 have a4 : W1.cell? ⟨w.heap.size + 1, 3, none⟩ = some (.int .i64 0) := by rw [hW1]; simp [go_sem]
 have a1 : w.heap.size + 1 < W1.heap.size := by rw [hW1]; simp <;> omega
 have f13 : W1.frozen? ⟨w.heap.size + 1, 0, none⟩ = false := by rw [hW1]; simp [go_sem]
 have f14 : W1.frozen? ⟨w.heap.size + 1, 1, none⟩ = false := by rw [hW1]; simp [go_sem]
 have f15 : W1.frozen? ⟨w.heap.size + 1, 2, none⟩ = false := by rw [hW1]; simp [go_sem]
 have f16 : W1.frozen? ⟨w.heap.size + 1, 3, none⟩ = false := by rw [hW1]; simp [go_sem]
 rw [← hW1]
 clear hW1
 refine (HA.out _).mono ?_
 rintro e w1 ⟨rfl, qw1⟩
 have a5 := nlt l7 qw1.size
 obtain ⟨a6, a7, a8, a9⟩ := mv4 qw1.cell c3 c4 c5 c6
 have f22 := (qw1.frozen (a := ⟨w.heap.size + 1, 0, none⟩) a1).trans f13
 have f23 := (qw1.frozen (a := ⟨w.heap.size + 1, 1, none⟩) a1).trans f14
 have f24 := (qw1.frozen (a := ⟨w.heap.size + 1, 2, none⟩) a1).trans f15
 have f25 := (qw1.frozen (a := ⟨w.heap.size + 1, 3, none⟩) a1).trans f16
 have a0 := nlt a1 qw1.size
 obtain ⟨aA, aB, aC, aD⟩ := mv4 qw1.cell c8 c9 a3 a4
 clear l7 c3 c4 c5 c6 f13 f14 f15 f16 a1 c8 c9 a3 a4
 have uw1 := uW1.trans qw1
 clear qw1 uW1
 go_wp2_with fail
 obtain ⟨W31, hW31⟩ : ∃ W31, W31 = w1.alloc (.cells #[.int .i8 j1, .int .i64 f1] 24) := ⟨_, rfl⟩
 have uW31 : Dn w1 W31 := by rw [hW31]; exact (Dn.refl _).alloc _
 have n32 : w.heap.size + 1 ≠ w1.heap.size := by have := a0; omega
 have aE := nlt a5 uW31.size
 obtain ⟨aF, aG, aH, aI⟩ := mv4 uW31.cell a6 a7 a8 a9
 have f38 := (uW31.frozen (a := ⟨w.heap.size + 1, 0, none⟩) a0).trans f22
 have f39 := (uW31.frozen (a := ⟨w.heap.size + 1, 1, none⟩) a0).trans f23
 have f40 := (uW31.frozen (a := ⟨w.heap.size + 1, 2, none⟩) a0).trans f24
 have f41 := (uW31.frozen (a := ⟨w.heap.size + 1, 3, none⟩) a0).trans f25
 have a2 := nlt a0 uW31.size
 obtain ⟨aJ, aK, aL, aM⟩ := mv4 uW31.cell aA aB aC aD
 clear a5 a6 a7 a8 a9 f22 f23 f24 f25 a0 aA aB aC aD
 have aN : W31.cell? ⟨w1.heap.size, 0, none⟩ = some (.int .i8 j1) := by rw [hW31]; simp [go_sem]
 have aO : W31.cell? ⟨w1.heap.size, 1, none⟩ = some (.int .i64 f1) := by rw [hW31]; simp [go_sem]
 have aP : w1.heap.size < W31.heap.size := by rw [hW31]; simp <;> omega
 rw [← hW31]
 clear hW31
 have vW31 := uw1.trans uW31
 clear uW31 uw1
 refine (HB.out _).mono ?_
 rintro e w2 ⟨rfl, qw2⟩
 have aV := nlt aE qw2.size
 obtain ⟨aW, aX, aY, aZ⟩ := mv4 qw2.cell aF aG aH aI
 have f55 := (qw2.frozen (a := ⟨w.heap.size + 1, 0, none⟩) a2).trans f38
 have f56 := (qw2.frozen (a := ⟨w.heap.size + 1, 1, none⟩) a2).trans f39
 have f57 := (qw2.frozen (a := ⟨w.heap.size + 1, 2, none⟩) a2).trans f40
 have f58 := (qw2.frozen (a := ⟨w.heap.size + 1, 3, none⟩) a2).trans f41
 have aU := nlt a2 qw2.size
 have b0 := nlt aP qw2.size
 obtain ⟨aQ, aR, aS, aT, b1, b2⟩ := mv6 qw2.cell aJ aK aL aM aN aO
 clear aE aF aG aH aI f38 f39 f40 f41 a2 aJ aK aL aM aP aN aO
 have uw2 := vW31.trans qw2
 clear qw2 vW31
 go_wp2_with fail
 have hC : C4 w2 (w.heap.size + 1) (.int .i8 0) (.int .i64 0) (.int .i8 0) (.int .i64 0) := ⟨aQ, aR, aS, aT, f55, f56, f57, f58, aU⟩
 have hZ := fun o : Obj => (hC.fill (.int .i8 0) (.int .i64 0) (.int .i8 0) (.int .i64 0)).alloc o
 have z0 := fun o : Obj => (hZ o).c0
 have y0 := fun o : Obj => (hZ o).f0
 have z1 := fun o : Obj => (hZ o).c1
 have y1 := fun o : Obj => (hZ o).f1
 have z2 := fun o : Obj => (hZ o).c2
 have y2 := fun o : Obj => (hZ o).f2
 have z3 := fun o : Obj => (hZ o).c3
 have y3 := fun o : Obj => (hZ o).f3
 exact bodyPost_ret (v := .tuple #[.agg #[.int .i8 0, .int .i64 0, .int .i8 0, .int .i64 0], .int .i64 15]) (by simp [results, Tryz.results34, go_sem, z0, z1, z2, z3, y0, y1, y2, y3, aQ, aR, aS, aT, f55, f56, f57, f58] <;> omega) rfl ⟨rfl, (((((uw2.setCell (by simp <;> omega) _).setCell (by simp <;> omega) _).setCell (by simp <;> omega) _).setCell (by simp <;> omega) _).alloc _)⟩
theorem rfSh_3 (a b c d k j1 f1 j2 f2 : Int) (HA : Hid (∀ W, Calls Tryz.prog 62 #[.agg #[.int .i8 a, .int .i64 b], .int .i64 k] W fun o w' => o = .returned (.tuple #[.agg #[.int .i8 j1, .int .i64 f1], .bool true]) ∧ Dn W w')) (HB : Hid (∀ W, Calls Tryz.prog 62 #[.agg #[.int .i8 c, .int .i64 d], .int .i64 k] W fun o w' => o = .returned (.tuple #[.agg #[.int .i8 j2, .int .i64 f2], .bool true]) ∧ Dn W w')) (w : World) :
  Calls Tryz.prog 34 #[.agg #[.int .i8 a, .int .i64 b, .int .i8 c, .int .i64 d], .int .i64 k] w fun ro w' => ro = .returned (.tuple #[.agg #[.int .i8 j1, .int .i64 f1, .int .i8 j2, .int .i64 f2], .int .i64 0]) ∧ Dn w w' := by
 go_enter Tryz.func34, Tryz.ntmps34
 go_wp2_with fail
 obtain ⟨W1, hW1⟩ : ∃ W1, W1 = (w.alloc (.cells #[.int .i8 a, .int .i64 b, .int .i8 c, .int .i64 d] 28)).alloc (.cells #[.int .i8 0, .int .i64 0, .int .i8 0, .int .i64 0] 28) := ⟨_, rfl⟩
 have uW1 : Dn w W1 := by rw [hW1]; exact ((Dn.refl _).alloc _).alloc _
 have n2 : w.heap.size ≠ w.heap.size + 1 := by omega
 have c3 : W1.cell? ⟨w.heap.size, 0, none⟩ = some (.int .i8 a) := by rw [hW1]; simp [go_sem]
 have c4 : W1.cell? ⟨w.heap.size, 1, none⟩ = some (.int .i64 b) := by rw [hW1]; simp [go_sem]
 have c5 : W1.cell? ⟨w.heap.size, 2, none⟩ = some (.int .i8 c) := by rw [hW1]; simp [go_sem]
 have c6 : W1.cell? ⟨w.heap.size, 3, none⟩ = some (.int .i64 d) := by rw [hW1]; simp [go_sem]
 have l7 : w.heap.size < W1.heap.size := by rw [hW1]; simp <;> omega
 have c8 : W1.cell? ⟨w.heap.size + 1, 0, none⟩ = some (.int .i8 0) := by rw [hW1]; simp [go_sem]
 have c9 : W1.cell? ⟨w.heap.size + 1, 1, none⟩ = some (.int .i64 0) := by rw [hW1]; simp [go_sem]
 have a3 : W1.cell? ⟨w.heap.size + 1, 2, none⟩ = some (.int .i8 0) := by rw [hW1]; simp [go_sem]
 have a4 : W1.cell? ⟨w.heap.size + 1, 3, none⟩ = some (.int .i64 0) := by rw [hW1]; simp [go_sem]
 have a1 : w.heap.size + 1 < W1.heap.size := by rw [hW1]; simp <;> omega
 have f13 : W1.frozen? ⟨w.heap.size + 1, 0, none⟩ = false := by rw [hW1]; simp [go_sem]
 have f14 : W1.frozen? ⟨w.heap.size + 1, 1, none⟩ = false := by rw [hW1]; simp [go_sem]
 have f15 : W1.frozen? ⟨w.heap.size + 1, 2, none⟩ = false := by rw [hW1]; simp [go_sem]
 have f16 : W1.frozen? ⟨w.heap.size + 1, 3, none⟩ = false := by rw [hW1]; simp [go_sem]
 rw [← hW1]
 clear hW1
 refine (HA.out _).mono ?_
 rintro e w1 ⟨rfl, qw1⟩
 have a5 := nlt l7 qw1.size
 obtain ⟨a6, a7, a8, a9⟩ := mv4 qw1.cell c3 c4 c5 c6
 have f22 := (qw1.frozen (a := ⟨w.heap.size + 1, 0, none⟩) a1).trans f13
 have f23 := (qw1.frozen (a := ⟨w.heap.size + 1, 1, none⟩) a1).trans f14
 have f24 := (qw1.frozen (a := ⟨w.heap.size + 1, 2, none⟩) a1).trans f15
 have f25 := (qw1.frozen (a := ⟨w.heap.size + 1, 3, none⟩) a1).trans f16
 have a0 := nlt a1 qw1.size
 obtain ⟨aA, aB, aC, aD⟩ := mv4 qw1.cell c8 c9 a3 a4
 clear l7 c3 c4 c5 c6 f13 f14 f15 f16 a1 c8 c9 a3 a4
 have uw1 := uW1.trans qw1
 clear qw1 uW1
 go_wp2_with fail
 obtain ⟨W31, hW31⟩ : ∃ W31, W31 = w1.alloc (.cells #[.int .i8 j1, .int .i64 f1] 24) := ⟨_, rfl⟩
 have uW31 : Dn w1 W31 := by rw [hW31]; exact (Dn.refl _).alloc _
 have n32 : w.heap.size + 1 ≠ w1.heap.size := by have := a0; omega
 have aE := nlt a5 uW31.size
 obtain ⟨aF, aG, aH, aI⟩ := mv4 uW31.cell a6 a7 a8 a9
 have f38 := (uW31.frozen (a := ⟨w.heap.size + 1, 0, none⟩) a0).trans f22
 have f39 := (uW31.frozen (a := ⟨w.heap.size + 1, 1, none⟩) a0).trans f23
 have f40 := (uW31.frozen (a := ⟨w.heap.size + 1, 2, none⟩) a0).trans f24
 have f41 := (uW31.frozen (a := ⟨w.heap.size + 1, 3, none⟩) a0).trans f25
 have a2 := nlt a0 uW31.size
 obtain ⟨aJ, aK, aL, aM⟩ := mv4 uW31.cell aA aB aC aD
 clear a5 a6 a7 a8 a9 f22 f23 f24 f25 a0 aA aB aC aD
 have aN : W31.cell? ⟨w1.heap.size, 0, none⟩ = some (.int .i8 j1) := by rw [hW31]; simp [go_sem]
 have aO : W31.cell? ⟨w1.heap.size, 1, none⟩ = some (.int .i64 f1) := by rw [hW31]; simp [go_sem]
 have aP : w1.heap.size < W31.heap.size := by rw [hW31]; simp <;> omega
 rw [← hW31]
 clear hW31
 have vW31 := uw1.trans uW31
 clear uW31 uw1
 refine (HB.out _).mono ?_
 rintro e w2 ⟨rfl, qw2⟩
 have aV := nlt aE qw2.size
 obtain ⟨aW, aX, aY, aZ⟩ := mv4 qw2.cell aF aG aH aI
 have f55 := (qw2.frozen (a := ⟨w.heap.size + 1, 0, none⟩) a2).trans f38
 have f56 := (qw2.frozen (a := ⟨w.heap.size + 1, 1, none⟩) a2).trans f39
 have f57 := (qw2.frozen (a := ⟨w.heap.size + 1, 2, none⟩) a2).trans f40
 have f58 := (qw2.frozen (a := ⟨w.heap.size + 1, 3, none⟩) a2).trans f41
 have aU := nlt a2 qw2.size
 have b0 := nlt aP qw2.size
 obtain ⟨aQ, aR, aS, aT, b1, b2⟩ := mv6 qw2.cell aJ aK aL aM aN aO
 clear aE aF aG aH aI f38 f39 f40 f41 a2 aJ aK aL aM aP aN aO
 have uw2 := vW31.trans qw2
 clear qw2 vW31
 go_wp2_with fail
 have hC : C4 w2 (w.heap.size + 1) (.int .i8 0) (.int .i64 0) (.int .i8 0) (.int .i64 0) := ⟨aQ, aR, aS, aT, f55, f56, f57, f58, aU⟩
 have hZ := fun o : Obj => (hC.fill (.int .i8 j1) (.int .i64 f1) (.int .i8 j2) (.int .i64 f2)).alloc o
 have z0 := fun o : Obj => (hZ o).c0
 have y0 := fun o : Obj => (hZ o).f0
 have z1 := fun o : Obj => (hZ o).c1
 have y1 := fun o : Obj => (hZ o).f1
 have z2 := fun o : Obj => (hZ o).c2
 have y2 := fun o : Obj => (hZ o).f2
 have z3 := fun o : Obj => (hZ o).c3
 have y3 := fun o : Obj => (hZ o).f3
 exact bodyPost_ret (v := .tuple #[.agg #[.int .i8 j1, .int .i64 f1, .int .i8 j2, .int .i64 f2], .int .i64 0]) (by simp [results, Tryz.results34, go_sem, z0, z1, z2, z3, y0, y1, y2, y3, aQ, aR, aS, aT, f55, f56, f57, f58] <;> omega) rfl ⟨rfl, (((((uw2.setCell (by simp <;> omega) _).setCell (by simp <;> omega) _).setCell (by simp <;> omega) _).setCell (by simp <;> omega) _).alloc _)⟩
theorem sft_err {i d k j f r : Int} (h : Sft i d k j f r) : r = 0 ∨ r = 15 := by
 rcases h with ⟨_, _, _, rfl⟩ | ⟨_, _, ⟨_, _, rfl⟩ | ⟨_, _, rfl⟩⟩ <;> simp
theorem rfShift (a b c d k q0 q1 q2 q3 r : Int) (w : World) (hb : I64 b) (hd : I64 d) (hk : I64 k) (h0 : rnErr a b c d = 0) (h : ShR a b c d k q0 q1 q2 q3 r) :
   Calls Tryz.prog 34 #[.agg #[.int .i8 a, .int .i64 b, .int .i8 c, .int .i64 d], .int .i64 k] w fun ro w' => ro = .returned (.tuple #[.agg #[.int .i8 q0, .int .i64 q1, .int .i8 q2, .int .i64 q3], .int .i64 r]) ∧ Dn w w' := by
 rcases h with ⟨h1, _⟩ | ⟨_, j1, f1, r1, j2, f2, r2, s1, s2, hx⟩
 · exact absurd h0 h1
 · have e1 := sft_err s1
   have e2 := sft_err s2
   have HA := Lib.hid (fun W => rfEnd a b k j1 f1 r1 W hb hk s1)
   have HB := Lib.hid (fun W => rfEnd c d k j2 f2 r2 W hd hk s2)
   rcases hx with ⟨h1, rfl, rfl, rfl, rfl, rfl⟩ | ⟨rfl, h1, rfl, rfl, rfl, rfl, rfl⟩ | ⟨rfl, rfl, rfl, rfl, rfl, rfl, rfl⟩
   · have : r = 15 := by omega
     subst this
     rcases e2 with rfl | rfl
     · exact rfSh_1 a b c d k _ _ _ _ HA HB w
     · exact rfSh_0 a b c d k _ _ _ _ HA HB w
   · have : r = 15 := by omega
     subst this
     exact rfSh_2 a b c d k _ _ _ _ HA HB w
   · exact rfSh_3 a b c d k _ _ _ _ HA HB w
theorem rfLen_1 (a b c d : Int) (h1 : a ≠ 0) (w : World) :
  Calls Tryz.prog 33 #[.agg #[.int .i8 a, .int .i64 b, .int .i8 c, .int .i64 d]] w fun ro w' => ro = .returned (.tuple #[.int .i64 0, .int .i64 16]) ∧ Dn w w' := by
 have t1 : (a != 0) = true := by simpa using h1
 clear h1
 go_enter Tryz.func33, Tryz.ntmps33
 go_wp2_with fail
 go_ret2
 exact ⟨rfl, (Dn.refl _).alloc _⟩
theorem rfLen_2 (a b c d : Int) (h1 : a = 0) (h2 : c ≠ 0) (w : World) :
  Calls Tryz.prog 33 #[.agg #[.int .i8 a, .int .i64 b, .int .i8 c, .int .i64 d]] w fun ro w' => ro = .returned (.tuple #[.int .i64 0, .int .i64 16]) ∧ Dn w w' := by
 have t1 : (a != 0) = false := by simpa using h1
 have t2 : (c != 0) = true := by simpa using h2
 clear h1 h2
 go_enter Tryz.func33, Tryz.ntmps33
 go_wp2_with fail
 go_ret2
 exact ⟨rfl, (Dn.refl _).alloc _⟩
theorem preKn56x1 (w : World) (b d : Int) : ∃ W1, W1 = w.alloc (.cells #[.int .i8 0, .int .i64 b, .int .i8 0, .int .i64 d] 28) ∧ (Dn w W1) ∧ (W1.cell? ⟨w.heap.size, 0, none⟩ = some (.int .i8 0)) ∧ (W1.cell? ⟨w.heap.size, 1, none⟩ = some (.int .i64 b)) ∧ (W1.cell? ⟨w.heap.size, 2, none⟩ = some (.int .i8 0)) ∧ (W1.cell? ⟨w.heap.size, 3, none⟩ = some (.int .i64 d)) ∧ (w.heap.size < W1.heap.size) := by
  obtain ⟨W1, hW1⟩ : ∃ W1, W1 = w.alloc (.cells #[.int .i8 0, .int .i64 b, .int .i8 0, .int .i64 d] 28) := ⟨_, rfl⟩
  exact ⟨W1, hW1, (by rw [hW1]; exact (Dn.refl _).alloc _), (by rw [hW1]; simp [go_sem]), (by rw [hW1]; simp [go_sem]), (by rw [hW1]; simp [go_sem]), (by rw [hW1]; simp [go_sem]), (by rw [hW1]; simp <;> omega)⟩
theorem rfLen_yes (b d : Int) (HD : Hid (I64 d)) (HB : Hid (I64 b)) (HL1 : Hid (Len d)) (HL2 : Hid (Len (-b))) (HL3 : Hid (Len (d + -b))) (HL4 : Hid (Len (d + -b + 1))) (HL5 : Hid (Len 1)) (HF : Hid (I64 (d + -b + 1))) (w : World) :
   Calls Tryz.prog 33 #[.agg #[.int .i8 0, .int .i64 b, .int .i8 0, .int .i64 d]] w fun ro w' => ro = .returned (.tuple #[.int .i64 (d + -b + 1), .int .i64 0]) ∧ Dn w w' := by
 go_enter Tryz.func33, Tryz.ntmps33
 go_wp2_with fail
 obtain ⟨W1, hW1, uW1, c2, c3, c4, c5, l6⟩ := preKn56x1 w b d
 rw [← hW1]
 clear hW1
 have hS := kdRf_4 (W := w) (Dn.refl W1) ⟨uW1, c2, c3, c4, c5⟩
 refine wp_region_held_drew (S := fun w' => Dn w w' ∧ w'.cell? ⟨w.heap.size, 0, none⟩ = some (.int .i8 0) ∧ w'.cell? ⟨w.heap.size, 1, none⟩ = some (.int .i64 b) ∧ w'.cell? ⟨w.heap.size, 2, none⟩ = some (.int .i8 0) ∧ w'.cell? ⟨w.heap.size, 3, none⟩ = some (.int .i64 d)) (by kernel_rfl) ?_ (fun hHeld => ?_)
 · (try dsimp only); exact kdRf_4 ((Dn.refl _).drew) hS
 refine tk 0 ?_ rfl (by kernel_rfl) (fun _ _ _ => id) (by rfl) (by assumption) ?_ ?_
 rotate_left
 · (intro w hSw; (try dsimp only at hSw); go_simp)
   all_goals with_reducible rfl
 try simp only [Act.put, pL]
 refine tk 1 ?_ rfl (by kernel_rfl) (fun _ _ _ => id) (by rfl) (by assumption) ?_ ?_
 rotate_left
 · (intro w hSw; (try dsimp only at hSw); go_simp)
   all_goals with_reducible rfl
 try simp only [Act.put, pL]
 refine tk 2 ?_ rfl (by kernel_rfl) (fun _ _ _ => id) (by rfl) (by assumption) ?_ ?_
 rotate_left
 · (intro w hSw; (try dsimp only at hSw); go_simp)
   all_goals with_reducible rfl
 try simp only [Act.put, pL]
 refine tk 4 ?_ rfl (by kernel_rfl) (fun _ _ _ => id) (by rfl) (by assumption) ?_ ?_
 rotate_left
 · (intro w hSw; (try dsimp only at hSw); go_simp)
   all_goals with_reducible rfl
 try simp only [Act.put, pL]
 refine tk 5 ?_ rfl (by kernel_rfl) (fun _ _ _ => id) (by rfl) (by assumption) ?_ ?_
 rotate_left
 · (intro w hSw; (try dsimp only at hSw); go_simp)
   all_goals with_reducible rfl
 try simp only [Act.put, pL]
 refine tk 6 ?_ rfl (by kernel_rfl) (fun _ _ _ => id) (by rfl) (by assumption) ?_ ?_
 rotate_left
 · (intro w hSw; (try dsimp only at hSw); go_simp)
   all_goals with_reducible rfl
 try simp only [Act.put, pL]
 refine wpAnyH_ready (rs := [3]) (by kernel_rfl) (by simp) ?_
 refine AllReadyH.cons rfl (fun K hK => ?_) AllReadyH.nil
 ·
   go_simp
   go_at_call 60
   refine (rOf_c d _ HD.out).mono ?_
   rintro e wa1 ⟨b1, p1, m1, c1, rfl, hI1, q1⟩
   have g1 := kdRf_4 q1 hHeld
   try go_wp2_with fail
   refine hK.out _ _ ?_ (fun hHeld => ?_)
   · (try dsimp only); exact g1
   clear hK K
   try simp only [Act.put, pL]
   refine wpAnyH_ready (rs := [7]) (by kernel_rfl) (by simp) ?_
   refine AllReadyH.cons rfl (fun K hK => ?_) AllReadyH.nil
   ·
     go_simp
     go_at_call 60
     refine (rOf_c b _ HB.out).mono ?_
     rintro e wa2 ⟨b2, p2, m2, c2, rfl, hI2, q2⟩
     have hId2 := hI1.dn q2
     have g2 := kdRf_4 q2 g1
     try go_wp2_with fail
     refine hK.out _ _ ?_ (fun hHeld => ?_)
     · (try dsimp only); exact g2
     clear hK K
     try simp only [Act.put, pL]
     refine wpAnyH_ready (rs := [8]) (by kernel_rfl) (by simp) ?_
     refine AllReadyH.cons rfl (fun K hK => ?_) AllReadyH.nil
     ·
       go_simp
       go_at_call 61
       refine (rNeg_c _ b _ hI2).mono ?_
       rintro e wa3 ⟨b3, p3, m3, c3, rfl, hI3, q3⟩
       have hId3 := hId2.dn q3
       have hIb3 := hI2.dn q3
       have g3 := kdRf_4 q3 g2
       try go_wp2_with fail
       refine hK.out _ _ ?_ (fun hHeld => ?_)
       · (try dsimp only); exact g3
       clear hK K
       try simp only [Act.put, pL]
       refine wpAnyH_ready (rs := [9]) (by kernel_rfl) (by simp) ?_
       refine AllReadyH.cons rfl (fun K hK => ?_) AllReadyH.nil
       ·
         go_simp
         go_at_call 59
         refine (rAdd_c _ _ d (-b) _ hId3 hI3 HL1.out HL2.out).mono ?_
         rintro e wa4 ⟨b4, p4, m4, c4, rfl, hI4, q4⟩
         have hId4 := hId3.dn q4
         have hIb4 := hIb3.dn q4
         have hIn4 := hI3.dn q4
         have g4 := kdRf_4 q4 g3
         try go_wp2_with fail
         refine hK.out _ _ ?_ (fun hHeld => ?_)
         · (try dsimp only); exact g4
         clear hK K
         try simp only [Act.put, pL]
         refine wpAnyH_ready (rs := [10]) (by kernel_rfl) (by simp) ?_
         refine AllReadyH.cons rfl (fun K hK => ?_) AllReadyH.nil
         ·
           go_simp
           go_at_call 60
           refine (rOf_c 1 _ (by decide)).mono ?_
           rintro e wa5 ⟨b5, p5, m5, c5, rfl, hI5, q5⟩
           have hId5 := hId4.dn q5
           have hIb5 := hIb4.dn q5
           have hIn5 := hIn4.dn q5
           have hIs5 := hI4.dn q5
           have g5 := kdRf_4 q5 g4
           try go_wp2_with fail
           refine hK.out _ _ ?_ (fun hHeld => ?_)
           · (try dsimp only); exact g5
           clear hK K
           try simp only [Act.put, pL]
           refine wpAnyH_ready (rs := [11]) (by kernel_rfl) (by simp) ?_
           refine AllReadyH.cons rfl (fun K hK => ?_) AllReadyH.nil
           ·
             go_simp
             go_at_call 59
             refine (rAdd_c _ _ (d + -b) 1 _ hIs5 hI5 HL3.out HL5.out).mono ?_
             rintro e wa6 ⟨b6, p6, m6, c6, rfl, hI6, q6⟩
             have hId6 := hId5.dn q6
             have hIb6 := hIb5.dn q6
             have hIn6 := hIn5.dn q6
             have hIs6 := hIs5.dn q6
             have hIo6 := hI5.dn q6
             have g6 := kdRf_4 q6 g5
             try go_wp2_with fail
             refine hK.out _ _ ?_ (fun hHeld => ?_)
             · (try dsimp only); exact g6
             clear hK K
             try simp only [Act.put, pL]
             refine wpAnyH_ready (rs := [12]) (by kernel_rfl) (by simp) ?_
             refine AllReadyH.cons rfl (fun K hK => ?_) AllReadyH.nil
             ·
               go_simp
               go_at_call 58
               refine (rInt_yes _ (d + -b + 1) _ hI6 HL4.out HF.out).mono ?_
               rintro e wa7 ⟨rfl, q7⟩
               have hId7 := hId6.dn q7
               have hIb7 := hIb6.dn q7
               have hIn7 := hIn6.dn q7
               have hIs7 := hIs6.dn q7
               have hIo7 := hIo6.dn q7
               have hIr7 := hI6.dn q7
               have g7 := kdRf_4 q7 g6
               try go_wp2_with fail
               refine hK.out _ _ ?_ (fun hHeld => ?_)
               · (try dsimp only); exact g7
               clear hK K
               try simp only [Act.put, pL]
               refine tk 13 ?_ rfl (by kernel_rfl) (fun _ _ _ => id) (by rfl) (by assumption) ?_ ?_
               rotate_left
               · (intro w hSw; (try dsimp only at hSw); go_simp)
                 all_goals with_reducible rfl
               try simp only [Act.put, pL]
               refine tk 14 ?_ rfl (by kernel_rfl) (fun _ _ _ => id) (by rfl) (by assumption) ?_ ?_
               rotate_left
               · (intro w hSw; (try dsimp only at hSw); go_simp)
                 all_goals with_reducible rfl
               try simp only [Act.put, pL]
               refine tk 15 ?_ rfl (by kernel_rfl) (fun _ _ _ => id) (by rfl) (by assumption) ?_ ?_
               rotate_left
               · (intro w hSw; (try dsimp only at hSw); go_simp)
                 all_goals with_reducible rfl
               try simp only [Act.put, pL]
               refine tk 16 ?_ rfl (by kernel_rfl) (fun _ _ _ => id) (by rfl) (by assumption) ?_ ?_
               rotate_left
               · (intro w hSw; (try dsimp only at hSw); go_simp)
                 all_goals with_reducible rfl
               try simp only [Act.put, pL]
               refine tk 17 ?_ rfl (by kernel_rfl) (fun _ _ _ => id) (by rfl) (by assumption) ?_ ?_
               rotate_left
               · (intro w hSw; (try dsimp only at hSw); go_simp)
                 all_goals with_reducible rfl
               try simp only [Act.put, pL]
               refine wpAnyH_done (by kernel_rfl) ?_ _
               have hf : Dn w _ := g7.1
               go_wp2_with fail
               go_ret2
               exact ⟨rfl, hf⟩
theorem rfLen_no (b d : Int) (HD : Hid (I64 d)) (HB : Hid (I64 b)) (HL1 : Hid (Len d)) (HL2 : Hid (Len (-b))) (HL3 : Hid (Len (d + -b))) (HL4 : Hid (Len (d + -b + 1))) (HL5 : Hid (Len 1)) (HF : Hid (¬ I64 (d + -b + 1))) (w : World) :
   Calls Tryz.prog 33 #[.agg #[.int .i8 0, .int .i64 b, .int .i8 0, .int .i64 d]] w fun ro w' => ro = .returned (.tuple #[.int .i64 0, .int .i64 15]) ∧ Dn w w' := by
 go_enter Tryz.func33, Tryz.ntmps33
 go_wp2_with fail
 obtain ⟨W1, hW1, uW1, c2, c3, c4, c5, l6⟩ := preKn56x1 w b d
 rw [← hW1]
 clear hW1
 have hS := kdRf_4 (W := w) (Dn.refl W1) ⟨uW1, c2, c3, c4, c5⟩
 refine wp_region_held_drew (S := fun w' => Dn w w' ∧ w'.cell? ⟨w.heap.size, 0, none⟩ = some (.int .i8 0) ∧ w'.cell? ⟨w.heap.size, 1, none⟩ = some (.int .i64 b) ∧ w'.cell? ⟨w.heap.size, 2, none⟩ = some (.int .i8 0) ∧ w'.cell? ⟨w.heap.size, 3, none⟩ = some (.int .i64 d)) (by kernel_rfl) ?_ (fun hHeld => ?_)
 · (try dsimp only); exact kdRf_4 ((Dn.refl _).drew) hS
 refine tk 0 ?_ rfl (by kernel_rfl) (fun _ _ _ => id) (by rfl) (by assumption) ?_ ?_
 rotate_left
 · (intro w hSw; (try dsimp only at hSw); go_simp)
   all_goals with_reducible rfl
 try simp only [Act.put, pL]
 refine tk 1 ?_ rfl (by kernel_rfl) (fun _ _ _ => id) (by rfl) (by assumption) ?_ ?_
 rotate_left
 · (intro w hSw; (try dsimp only at hSw); go_simp)
   all_goals with_reducible rfl
 try simp only [Act.put, pL]
 refine tk 2 ?_ rfl (by kernel_rfl) (fun _ _ _ => id) (by rfl) (by assumption) ?_ ?_
 rotate_left
 · (intro w hSw; (try dsimp only at hSw); go_simp)
   all_goals with_reducible rfl
 try simp only [Act.put, pL]
 refine tk 4 ?_ rfl (by kernel_rfl) (fun _ _ _ => id) (by rfl) (by assumption) ?_ ?_
 rotate_left
 · (intro w hSw; (try dsimp only at hSw); go_simp)
   all_goals with_reducible rfl
 try simp only [Act.put, pL]
 refine tk 5 ?_ rfl (by kernel_rfl) (fun _ _ _ => id) (by rfl) (by assumption) ?_ ?_
 rotate_left
 · (intro w hSw; (try dsimp only at hSw); go_simp)
   all_goals with_reducible rfl
 try simp only [Act.put, pL]
 refine tk 6 ?_ rfl (by kernel_rfl) (fun _ _ _ => id) (by rfl) (by assumption) ?_ ?_
 rotate_left
 · (intro w hSw; (try dsimp only at hSw); go_simp)
   all_goals with_reducible rfl
 try simp only [Act.put, pL]
 refine wpAnyH_ready (rs := [3]) (by kernel_rfl) (by simp) ?_
 refine AllReadyH.cons rfl (fun K hK => ?_) AllReadyH.nil
 ·
   go_simp
   go_at_call 60
   refine (rOf_c d _ HD.out).mono ?_
   rintro e wa1 ⟨b1, p1, m1, c1, rfl, hI1, q1⟩
   have g1 := kdRf_4 q1 hHeld
   try go_wp2_with fail
   refine hK.out _ _ ?_ (fun hHeld => ?_)
   · (try dsimp only); exact g1
   clear hK K
   try simp only [Act.put, pL]
   refine wpAnyH_ready (rs := [7]) (by kernel_rfl) (by simp) ?_
   refine AllReadyH.cons rfl (fun K hK => ?_) AllReadyH.nil
   ·
     go_simp
     go_at_call 60
     refine (rOf_c b _ HB.out).mono ?_
     rintro e wa2 ⟨b2, p2, m2, c2, rfl, hI2, q2⟩
     have hId2 := hI1.dn q2
     have g2 := kdRf_4 q2 g1
     try go_wp2_with fail
     refine hK.out _ _ ?_ (fun hHeld => ?_)
     · (try dsimp only); exact g2
     clear hK K
     try simp only [Act.put, pL]
     refine wpAnyH_ready (rs := [8]) (by kernel_rfl) (by simp) ?_
     refine AllReadyH.cons rfl (fun K hK => ?_) AllReadyH.nil
     ·
       go_simp
       go_at_call 61
       refine (rNeg_c _ b _ hI2).mono ?_
       rintro e wa3 ⟨b3, p3, m3, c3, rfl, hI3, q3⟩
       have hId3 := hId2.dn q3
       have hIb3 := hI2.dn q3
       have g3 := kdRf_4 q3 g2
       try go_wp2_with fail
       refine hK.out _ _ ?_ (fun hHeld => ?_)
       · (try dsimp only); exact g3
       clear hK K
       try simp only [Act.put, pL]
       refine wpAnyH_ready (rs := [9]) (by kernel_rfl) (by simp) ?_
       refine AllReadyH.cons rfl (fun K hK => ?_) AllReadyH.nil
       ·
         go_simp
         go_at_call 59
         refine (rAdd_c _ _ d (-b) _ hId3 hI3 HL1.out HL2.out).mono ?_
         rintro e wa4 ⟨b4, p4, m4, c4, rfl, hI4, q4⟩
         have hId4 := hId3.dn q4
         have hIb4 := hIb3.dn q4
         have hIn4 := hI3.dn q4
         have g4 := kdRf_4 q4 g3
         try go_wp2_with fail
         refine hK.out _ _ ?_ (fun hHeld => ?_)
         · (try dsimp only); exact g4
         clear hK K
         try simp only [Act.put, pL]
         refine wpAnyH_ready (rs := [10]) (by kernel_rfl) (by simp) ?_
         refine AllReadyH.cons rfl (fun K hK => ?_) AllReadyH.nil
         ·
           go_simp
           go_at_call 60
           refine (rOf_c 1 _ (by decide)).mono ?_
           rintro e wa5 ⟨b5, p5, m5, c5, rfl, hI5, q5⟩
           have hId5 := hId4.dn q5
           have hIb5 := hIb4.dn q5
           have hIn5 := hIn4.dn q5
           have hIs5 := hI4.dn q5
           have g5 := kdRf_4 q5 g4
           try go_wp2_with fail
           refine hK.out _ _ ?_ (fun hHeld => ?_)
           · (try dsimp only); exact g5
           clear hK K
           try simp only [Act.put, pL]
           refine wpAnyH_ready (rs := [11]) (by kernel_rfl) (by simp) ?_
           refine AllReadyH.cons rfl (fun K hK => ?_) AllReadyH.nil
           ·
             go_simp
             go_at_call 59
             refine (rAdd_c _ _ (d + -b) 1 _ hIs5 hI5 HL3.out HL5.out).mono ?_
             rintro e wa6 ⟨b6, p6, m6, c6, rfl, hI6, q6⟩
             have hId6 := hId5.dn q6
             have hIb6 := hIb5.dn q6
             have hIn6 := hIn5.dn q6
             have hIs6 := hIs5.dn q6
             have hIo6 := hI5.dn q6
             have g6 := kdRf_4 q6 g5
             try go_wp2_with fail
             refine hK.out _ _ ?_ (fun hHeld => ?_)
             · (try dsimp only); exact g6
             clear hK K
             try simp only [Act.put, pL]
             refine wpAnyH_ready (rs := [12]) (by kernel_rfl) (by simp) ?_
             refine AllReadyH.cons rfl (fun K hK => ?_) AllReadyH.nil
             ·
               go_simp
               go_at_call 58
               refine (rInt_no _ (d + -b + 1) _ hI6 HL4.out HF.out).mono ?_
               rintro e wa7 ⟨rfl, q7⟩
               have hId7 := hId6.dn q7
               have hIb7 := hIb6.dn q7
               have hIn7 := hIn6.dn q7
               have hIs7 := hIs6.dn q7
               have hIo7 := hIo6.dn q7
               have hIr7 := hI6.dn q7
               have g7 := kdRf_4 q7 g6
               try go_wp2_with fail
               refine hK.out _ _ ?_ (fun hHeld => ?_)
               · (try dsimp only); exact g7
               clear hK K
               try simp only [Act.put, pL]
               refine tk 13 ?_ rfl (by kernel_rfl) (fun _ _ _ => id) (by rfl) (by assumption) ?_ ?_
               rotate_left
               · (intro w hSw; (try dsimp only at hSw); go_simp)
                 all_goals with_reducible rfl
               try simp only [Act.put, pL]
               refine tk 14 ?_ rfl (by kernel_rfl) (fun _ _ _ => id) (by rfl) (by assumption) ?_ ?_
               rotate_left
               · (intro w hSw; (try dsimp only at hSw); go_simp)
                 all_goals with_reducible rfl
               try simp only [Act.put, pL]
               refine tk 15 ?_ rfl (by kernel_rfl) (fun _ _ _ => id) (by rfl) (by assumption) ?_ ?_
               rotate_left
               · (intro w hSw; (try dsimp only at hSw); go_simp)
                 all_goals with_reducible rfl
               try simp only [Act.put, pL]
               refine tk 16 ?_ rfl (by kernel_rfl) (fun _ _ _ => id) (by rfl) (by assumption) ?_ ?_
               rotate_left
               · (intro w hSw; (try dsimp only at hSw); go_simp)
                 all_goals with_reducible rfl
               try simp only [Act.put, pL]
               refine tk 17 ?_ rfl (by kernel_rfl) (fun _ _ _ => id) (by rfl) (by assumption) ?_ ?_
               rotate_left
               · (intro w hSw; (try dsimp only at hSw); go_simp)
                 all_goals with_reducible rfl
               try simp only [Act.put, pL]
               refine wpAnyH_done (by kernel_rfl) ?_ _
               have hf : Dn w _ := g7.1
               go_wp2_with fail
               go_ret2
               exact ⟨rfl, hf⟩
theorem rfLen (a b c d n e : Int) (w : World) (hb : I64 b) (hd : I64 d) (h0 : RnOk a b c d) (h : LenR a b c d n e) :
   Calls Tryz.prog 33 #[.agg #[.int .i8 a, .int .i64 b, .int .i8 c, .int .i64 d]] w fun ro w' => ro = .returned (.tuple #[.int .i64 n, .int .i64 e]) ∧ Dn w w' := by
 rcases h with ⟨h1, _⟩ | ⟨_, h1, rfl, rfl⟩ | ⟨_, rfl, rfl, hf⟩
 · exact absurd h0 h1
 · by_cases h2 : a = 0
   · exact rfLen_2 a b c d h2 (by omega) w
   · exact rfLen_1 a b c d h2 w
 · have i1 := hb.1; have i2 := hb.2; have i3 := hd.1; have i4 := hd.2
   have e1 : d - b + 1 = d + -b + 1 := by omega
   rw [e1] at hf
   have L2 := Lib.hid (show Len (-b) from Len.of (by omega))
   have L3 := Lib.hid (show Len (d + -b) from Len.of (by omega))
   have L4 := Lib.hid (show Len (d + -b + 1) from Len.of (by omega))
   rcases hf with ⟨hi, rfl, rfl⟩ | ⟨hi, rfl, rfl⟩
   · exact rfLen_yes b d (Lib.hid hd) (Lib.hid hb) (Lib.hid (Len.i64 hd)) L2 L3 L4 (Lib.hid (Len.of (by omega))) (Lib.hid hi) w
   · exact rfLen_no b d (Lib.hid hd) (Lib.hid hb) (Lib.hid (Len.i64 hd)) L2 L3 L4 (Lib.hid (Len.of (by omega))) (Lib.hid hi) w
end Go.Proofs.YtcdkeiolblifkaaGreatDoor
