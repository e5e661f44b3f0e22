/-
  WALKS OF circalaw06: CivilsText. (Printed by wip/gen/civ11.py.)
-/
import Derived.Test.YtopbbcbpanfigaaGreatDoorCivL
import Derived.Test.YtopbbcbpanfigaaGreatDoorCivH
namespace Go.Proofs.YtopbbcbpanfigaaGreatDoor
open Go.RowKit
set_option linter.unusedVariables false
set_option linter.unusedSimpArgs false
set_option maxHeartbeats 16000000 in
set_option maxRecDepth 100000 in
theorem tx6_bad (y m d E : Int) (he : cErr y m d = E) (h0 : E ≠ 0) (w : World) (hE : EnvC w) :
    Calls Tryz.prog 4 #[.agg #[.int .i64 y, .int .i64 m, .int .i64 d]] w fun ro w' => ro = .returned (.bool true) ∧ Dn w w' := by
  have H := Lib.hid he
  have H0 := Lib.hid h0
  have t : (E != 0) = true := by simpa using h0
  clear he h0
  go_enter Tryz.func4, Tryz.ntmps4
  go_wp2_with fail
  obtain ⟨W1, hW1⟩ : ∃ W1, W1 = w.alloc (.cells #[.int .i64 y, .int .i64 m, .int .i64 d] 23) := ⟨_, rfl⟩
  have uW1 : Dn w W1 := by rw [hW1]; exact (Dn.refl _).alloc _
  have c2 : W1.cell? ⟨w.heap.size, 0, none⟩ = some (.int .i64 y) := by rw [hW1]; simp [go_sem]
  have c3 : W1.cell? ⟨w.heap.size, 1, none⟩ = some (.int .i64 m) := by rw [hW1]; simp [go_sem]
  have c4 : W1.cell? ⟨w.heap.size, 2, none⟩ = some (.int .i64 d) := by rw [hW1]; simp [go_sem]
  have l5 : w.heap.size < W1.heap.size := by rw [hW1]; simp <;> omega
  rw [← hW1]
  clear hW1
  refine (rc6Chk y m d E _ H.out).mono ?_
  rintro e w1 ⟨rfl, qw1⟩
  have l6 := Nat.lt_of_lt_of_le l5 qw1.size
  have c7 := qw1.cell c2
  have c8 := qw1.cell c3
  have c9 := qw1.cell c4
  clear l5 c2 c3 c4
  have uw1 := uW1.trans qw1
  clear qw1 uW1
  go_wp2_with fail
  refine (cvTx_bad y m d E H.out H0.out _ (hE.dn uw1)).mono ?_
  rintro e w2 ⟨rfl, qw2⟩
  have l10 := Nat.lt_of_lt_of_le l6 qw2.size
  have c11 := qw2.cell c7
  have c12 := qw2.cell c8
  have c13 := qw2.cell c9
  clear l6 c7 c8 c9
  have uw2 := uw1.trans qw2
  clear qw2 uw1
  go_wp2_with fail
  refine (lives6 _ (hE.dn uw2)).mono ?_
  rintro e w3 ⟨rfl, qw3⟩
  have l14 := Nat.lt_of_lt_of_le l10 qw3.size
  have c15 := qw3.cell c11
  have c16 := qw3.cell c12
  have c17 := qw3.cell c13
  clear l10 c11 c12 c13
  have uw3 := uw2.trans qw3
  clear qw3 uw2
  go_wp2_with fail
  go_ret
  exact ⟨retb (by simp), uw3⟩
set_option maxHeartbeats 16000000 in
set_option maxRecDepth 100000 in
theorem tx6_ok (y m d : Int) (S : ByteArray) (H : Hid (cErr y m d = 0)) (HTx : Hid (∀ W, EnvC W → Calls Tryz.prog 20 #[.agg #[.int .i64 y, .int .i64 m, .int .i64 d]] W fun o w' => o = .returned (.tuple #[.string S, .int .i64 0]) ∧ Dn W w')) (HPs : Hid (∀ W, EnvC W → Calls Tryz.prog 21 #[.string S] W fun o w' => o = .returned (.tuple #[.agg #[.int .i64 y, .int .i64 m, .int .i64 d], .int .i64 0]) ∧ Dn W w')) (HRx : Hid (∀ W, Calls Tryz.prog 22 #[.agg #[.int .i64 y, .int .i64 m, .int .i64 d]] W fun o w' => o = .returned (.string S) ∧ Dn W w')) (w : World) (hE : EnvC w) :
    Calls Tryz.prog 4 #[.agg #[.int .i64 y, .int .i64 m, .int .i64 d]] w fun ro w' => ro = .returned (.bool true) ∧ Dn w w' := by
  go_enter Tryz.func4, Tryz.ntmps4
  go_wp2_with fail
  obtain ⟨W1, hW1⟩ : ∃ W1, W1 = w.alloc (.cells #[.int .i64 y, .int .i64 m, .int .i64 d] 23) := ⟨_, rfl⟩
  have uW1 : Dn w W1 := by rw [hW1]; exact (Dn.refl _).alloc _
  have c2 : W1.cell? ⟨w.heap.size, 0, none⟩ = some (.int .i64 y) := by rw [hW1]; simp [go_sem]
  have c3 : W1.cell? ⟨w.heap.size, 1, none⟩ = some (.int .i64 m) := by rw [hW1]; simp [go_sem]
  have c4 : W1.cell? ⟨w.heap.size, 2, none⟩ = some (.int .i64 d) := by rw [hW1]; simp [go_sem]
  have l5 : w.heap.size < W1.heap.size := by rw [hW1]; simp <;> omega
  rw [← hW1]
  clear hW1
  refine (rc6Chk y m d 0 _ H.out).mono ?_
  rintro e w1 ⟨rfl, qw1⟩
  have l6 := Nat.lt_of_lt_of_le l5 qw1.size
  have c7 := qw1.cell c2
  have c8 := qw1.cell c3
  have c9 := qw1.cell c4
  clear l5 c2 c3 c4
  have uw1 := uW1.trans qw1
  clear qw1 uW1
  go_wp2_with fail
  refine (HTx.out _ (hE.dn uw1)).mono ?_
  rintro e w2 ⟨rfl, qw2⟩
  have l10 := Nat.lt_of_lt_of_le l6 qw2.size
  have c11 := qw2.cell c7
  have c12 := qw2.cell c8
  have c13 := qw2.cell c9
  clear l6 c7 c8 c9
  have uw2 := uw1.trans qw2
  clear qw2 uw1
  go_wp2_with fail
  refine (HPs.out _ (hE.dn uw2)).mono ?_
  rintro e w3 ⟨rfl, qw3⟩
  have l14 := Nat.lt_of_lt_of_le l10 qw3.size
  have c15 := qw3.cell c11
  have c16 := qw3.cell c12
  have c17 := qw3.cell c13
  clear l10 c11 c12 c13
  have uw3 := uw2.trans qw3
  clear qw3 uw2
  go_wp2_with fail
  obtain ⟨W18, hW18⟩ : ∃ W18, W18 = w3.alloc (.cells #[.int .i64 y, .int .i64 m, .int .i64 d] 23) := ⟨_, rfl⟩
  have uW18 : Dn w3 W18 := by rw [hW18]; exact (Dn.refl _).alloc _
  have l19 := Nat.lt_of_lt_of_le l14 uW18.size
  have c20 := uW18.cell c15
  have c21 := uW18.cell c16
  have c22 := uW18.cell c17
  clear l14 c15 c16 c17
  have c23 : W18.cell? ⟨w3.heap.size, 0, none⟩ = some (.int .i64 y) := by rw [hW18]; simp [go_sem]
  have c24 : W18.cell? ⟨w3.heap.size, 1, none⟩ = some (.int .i64 m) := by rw [hW18]; simp [go_sem]
  have c25 : W18.cell? ⟨w3.heap.size, 2, none⟩ = some (.int .i64 d) := by rw [hW18]; simp [go_sem]
  have l26 : w3.heap.size < W18.heap.size := by rw [hW18]; simp <;> omega
  rw [← hW18]
  clear hW18
  have vW18 := uw3.trans uW18
  clear uW18 uw3
  refine (HRx.out _).mono ?_
  rintro e w4 ⟨rfl, qw4⟩
  have l27 := Nat.lt_of_lt_of_le l19 qw4.size
  have c28 := qw4.cell c20
  have c29 := qw4.cell c21
  have c30 := qw4.cell c22
  have l31 := Nat.lt_of_lt_of_le l26 qw4.size
  have c32 := qw4.cell c23
  have c33 := qw4.cell c24
  have c34 := qw4.cell c25
  clear l19 c20 c21 c22 l26 c23 c24 c25
  have uw4 := vW18.trans qw4
  clear qw4 vW18
  go_wp2_with fail
  refine (g6_any y m d 0 y m d 0 _ (Or.inl ⟨rfl, rfl, rfl, rfl, rfl⟩)).mono ?_
  rintro e w5 ⟨rfl, qw5⟩
  have l35 := Nat.lt_of_lt_of_le l27 qw5.size
  have c36 := qw5.cell c28
  have c37 := qw5.cell c29
  have c38 := qw5.cell c30
  have l39 := Nat.lt_of_lt_of_le l31 qw5.size
  have c40 := qw5.cell c32
  have c41 := qw5.cell c33
  have c42 := qw5.cell c34
  clear l27 c28 c29 c30 l31 c32 c33 c34
  have uw5 := uw4.trans qw5
  clear qw5 uw4
  go_wp2_with fail
  refine (lives6 _ (hE.dn uw5)).mono ?_
  rintro e w6 ⟨rfl, qw6⟩
  have l43 := Nat.lt_of_lt_of_le l35 qw6.size
  have c44 := qw6.cell c36
  have c45 := qw6.cell c37
  have c46 := qw6.cell c38
  have l47 := Nat.lt_of_lt_of_le l39 qw6.size
  have c48 := qw6.cell c40
  have c49 := qw6.cell c41
  have c50 := qw6.cell c42
  clear l35 c36 c37 c38 l39 c40 c41 c42
  have uw6 := uw5.trans qw6
  clear qw6 uw5
  go_wp2_with fail
  go_ret
  exact ⟨retb (by simp), uw6⟩
theorem cT_len (y m d : Int) (h : cErr y m d = 0) : (cT y m d).length ≤ 1000 := by
  obtain ⟨⟨⟨y1, y2⟩, m1, m2⟩, d1, d2⟩ := cErr_ok h
  have hml := Cal.mlen_bd y m
  have ly : (dcm y.natAbs).length ≤ 17 := dcm_len _ 17 (by decide) (by rw [show Dg.p10 17 = 100000000000000000 by decide]; omega)
  have lm := dcm_two m.natAbs (by omega)
  have ld := dcm_two d.natAbs (by omega)
  unfold cT
  split <;> simp [padd_len] <;> omega
theorem civilsText_true (y m d : Int) (w : World) (_ : I64 y) (_ : I64 m) (_ : I64 d) (hE : EnvC w) :
    Calls Tryz.prog 4 #[.agg #[.int .i64 y, .int .i64 m, .int .i64 d]] w fun ro w' => ro = .returned (.bool true) ∧ Dn w w' := by
  by_cases h0 : cErr y m d = 0
  · obtain ⟨hm, d1, d2⟩ := cErr_ok h0
    have hl := Cal.mlen_bd y m
    obtain ⟨f1, f2, f3, f4⟩ := cT_form y m d ⟨by have := hm.2; omega, by have := hm.2; omega⟩ ⟨by omega, by omega⟩
    have hp : PRes (cT y m d) y m d 0 := Or.inr (Or.inr ⟨f1, by rw [f2, f3, f4]; exact h0, f2.symm, f3.symm, f4.symm, rfl⟩)
    exact tx6_ok y m d _ (Lib.hid h0) (Lib.hid fun W hW => cvTx_ok y m d W hW h0) (Lib.hid fun W hW => cvParse (cT y m d) y m d 0 W hW (cT_len y m d h0) hp) (Lib.hid fun W => rc6Tx y m d W h0) w hE
  · exact tx6_bad y m d _ rfl h0 w hE
end Go.Proofs.YtopbbcbpanfigaaGreatDoor
