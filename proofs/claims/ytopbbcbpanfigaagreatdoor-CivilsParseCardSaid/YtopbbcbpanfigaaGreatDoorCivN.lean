/-
  WALKS OF circalaw06: CivilsParse. (Printed by wip/gen/civ11.py.)
-/
import Derived.Test.YtopbbcbpanfigaaGreatDoorCivS
import Derived.Test.YtopbbcbpanfigaaGreatDoorCivH
namespace Go.Proofs.YtopbbcbpanfigaaGreatDoor
open Go.RowKit
set_option linter.unusedVariables false
set_option linter.unusedSimpArgs false
set_option maxHeartbeats 16000000 in
set_option maxRecDepth 100000 in
theorem ps6_big (s : ByteArray) (h : 100 < s.size) (w : World) (hE : EnvC w) :
    Calls Tryz.prog 5 #[.string s] w fun ro w' => ro = .returned (.bool true) ∧ Dn w w' := by
  have t1 : decide (100 < (s.size : Int)) = true := by simp; omega
  go_enter Tryz.func5, Tryz.ntmps5
  go_wp2_with fail
  refine (lives6 _ hE).mono ?_
  rintro e w1 ⟨rfl, qw1⟩
  have uw1 := qw1
  clear qw1
  go_wp2_with fail
  go_ret
  exact ⟨rfl, uw1⟩
set_option maxHeartbeats 16000000 in
set_option maxRecDepth 100000 in
theorem ps6_bad (s : ByteArray) (E : Int) (h : ¬ 100 < s.size) (h0 : E ≠ 0) (HP : Hid (∀ W, EnvC W → Calls Tryz.prog 21 #[.string s] W fun o w' => o = .returned (.tuple #[.agg #[.int .i64 0, .int .i64 0, .int .i64 0], .int .i64 E]) ∧ Dn W w')) (HR : Hid (∀ W, EnvC W → Calls Tryz.prog 23 #[.string s] W fun o w' => o = .returned (.tuple #[.agg #[.int .i64 0, .int .i64 0, .int .i64 0], .int .i64 E]) ∧ Dn W w')) (w : World) (hE : EnvC w) :
    Calls Tryz.prog 5 #[.string s] w fun ro w' => ro = .returned (.bool true) ∧ Dn w w' := by
  have t1 : decide (100 < (s.size : Int)) = false := by simp; omega
  have t2 : ¬ 100 < s.size := by omega
  have t3 : s.size ≤ 100 := by omega
  clear h
  have H0 := Lib.hid h0
  have t0 : (E != 0) = true := by simpa using h0
  clear h0
  go_enter Tryz.func5, Tryz.ntmps5
  go_wp2_with fail
  refine (HP.out _ hE).mono ?_
  rintro e w1 ⟨rfl, qw1⟩
  have uw1 := qw1
  clear qw1
  go_wp2_with fail
  obtain ⟨W1, hW1⟩ : ∃ W1, W1 = w1.alloc (.cells #[.int .i64 0, .int .i64 0, .int .i64 0] 23) := ⟨_, rfl⟩
  have uW1 : Dn w1 W1 := by rw [hW1]; exact (Dn.refl _).alloc _
  have c2 : W1.cell? ⟨w1.heap.size, 0, none⟩ = some (.int .i64 0) := by rw [hW1]; simp [go_sem]
  have c3 : W1.cell? ⟨w1.heap.size, 1, none⟩ = some (.int .i64 0) := by rw [hW1]; simp [go_sem]
  have c4 : W1.cell? ⟨w1.heap.size, 2, none⟩ = some (.int .i64 0) := by rw [hW1]; simp [go_sem]
  have l5 : w1.heap.size < W1.heap.size := by rw [hW1]; simp <;> omega
  rw [← hW1]
  clear hW1
  have vW1 := uw1.trans uW1
  clear uW1 uw1
  refine (HR.out _ (hE.dn vW1)).mono ?_
  rintro e w2 ⟨rfl, qw2⟩
  have l6 := Nat.lt_of_lt_of_le l5 qw2.size
  have c7 := qw2.cell c2
  have c8 := qw2.cell c3
  have c9 := qw2.cell c4
  clear l5 c2 c3 c4
  have uw2 := vW1.trans qw2
  clear qw2 vW1
  go_wp2_with fail
  obtain ⟨W10, hW10⟩ : ∃ W10, W10 = w2.alloc (.cells #[.int .i64 0, .int .i64 0, .int .i64 0] 23) := ⟨_, rfl⟩
  have uW10 : Dn w2 W10 := by rw [hW10]; exact (Dn.refl _).alloc _
  have l11 := Nat.lt_of_lt_of_le l6 uW10.size
  have c12 := uW10.cell c7
  have c13 := uW10.cell c8
  have c14 := uW10.cell c9
  clear l6 c7 c8 c9
  have c15 : W10.cell? ⟨w2.heap.size, 0, none⟩ = some (.int .i64 0) := by rw [hW10]; simp [go_sem]
  have c16 : W10.cell? ⟨w2.heap.size, 1, none⟩ = some (.int .i64 0) := by rw [hW10]; simp [go_sem]
  have c17 : W10.cell? ⟨w2.heap.size, 2, none⟩ = some (.int .i64 0) := by rw [hW10]; simp [go_sem]
  have l18 : w2.heap.size < W10.heap.size := by rw [hW10]; simp <;> omega
  rw [← hW10]
  clear hW10
  have vW10 := uw2.trans uW10
  clear uW10 uw2
  refine (g6_any 0 0 0 E 0 0 0 E _ (Or.inr ⟨H0.out, rfl, rfl, rfl, rfl⟩)).mono ?_
  rintro e w3 ⟨rfl, qw3⟩
  have l19 := Nat.lt_of_lt_of_le l11 qw3.size
  have c20 := qw3.cell c12
  have c21 := qw3.cell c13
  have c22 := qw3.cell c14
  have l23 := Nat.lt_of_lt_of_le l18 qw3.size
  have c24 := qw3.cell c15
  have c25 := qw3.cell c16
  have c26 := qw3.cell c17
  clear l11 c12 c13 c14 l18 c15 c16 c17
  have uw3 := vW10.trans qw3
  clear qw3 vW10
  go_wp2_with fail
  refine (lives6 _ (hE.dn uw3)).mono ?_
  rintro e w4 ⟨rfl, qw4⟩
  have l27 := Nat.lt_of_lt_of_le l19 qw4.size
  have c28 := qw4.cell c20
  have c29 := qw4.cell c21
  have c30 := qw4.cell c22
  have l31 := Nat.lt_of_lt_of_le l23 qw4.size
  have c32 := qw4.cell c24
  have c33 := qw4.cell c25
  have c34 := qw4.cell c26
  clear l19 c20 c21 c22 l23 c24 c25 c26
  have uw4 := uw3.trans qw4
  clear qw4 uw3
  go_wp2_with fail
  go_ret
  exact ⟨rfl, uw4⟩
set_option maxHeartbeats 16000000 in
set_option maxRecDepth 100000 in
theorem ps6_ok (s : ByteArray) (y m d : Int) (h : ¬ 100 < s.size) (HP : Hid (∀ W, EnvC W → Calls Tryz.prog 21 #[.string s] W fun o w' => o = .returned (.tuple #[.agg #[.int .i64 y, .int .i64 m, .int .i64 d], .int .i64 0]) ∧ Dn W w')) (HR : Hid (∀ W, EnvC W → Calls Tryz.prog 23 #[.string s] W fun o w' => o = .returned (.tuple #[.agg #[.int .i64 y, .int .i64 m, .int .i64 d], .int .i64 0]) ∧ Dn W w')) (HTx : Hid (∀ W, EnvC W → Calls Tryz.prog 20 #[.agg #[.int .i64 y, .int .i64 m, .int .i64 d]] W fun o w' => o = .returned (.tuple #[.string s, .int .i64 0]) ∧ Dn W w')) (w : World) (hE : EnvC w) :
    Calls Tryz.prog 5 #[.string s] w fun ro w' => ro = .returned (.bool true) ∧ Dn w w' := by
  have t1 : decide (100 < (s.size : Int)) = false := by simp; omega
  have t2 : ¬ 100 < s.size := by omega
  have t3 : s.size ≤ 100 := by omega
  clear h
  go_enter Tryz.func5, Tryz.ntmps5
  go_wp2_with fail
  refine (HP.out _ hE).mono ?_
  rintro e w1 ⟨rfl, qw1⟩
  have uw1 := qw1
  clear qw1
  go_wp2_with fail
  obtain ⟨W1, hW1⟩ : ∃ W1, W1 = w1.alloc (.cells #[.int .i64 y, .int .i64 m, .int .i64 d] 23) := ⟨_, rfl⟩
  have uW1 : Dn w1 W1 := by rw [hW1]; exact (Dn.refl _).alloc _
  have c2 : W1.cell? ⟨w1.heap.size, 0, none⟩ = some (.int .i64 y) := by rw [hW1]; simp [go_sem]
  have c3 : W1.cell? ⟨w1.heap.size, 1, none⟩ = some (.int .i64 m) := by rw [hW1]; simp [go_sem]
  have c4 : W1.cell? ⟨w1.heap.size, 2, none⟩ = some (.int .i64 d) := by rw [hW1]; simp [go_sem]
  have l5 : w1.heap.size < W1.heap.size := by rw [hW1]; simp <;> omega
  rw [← hW1]
  clear hW1
  have vW1 := uw1.trans uW1
  clear uW1 uw1
  refine (HR.out _ (hE.dn vW1)).mono ?_
  rintro e w2 ⟨rfl, qw2⟩
  have l6 := Nat.lt_of_lt_of_le l5 qw2.size
  have c7 := qw2.cell c2
  have c8 := qw2.cell c3
  have c9 := qw2.cell c4
  clear l5 c2 c3 c4
  have uw2 := vW1.trans qw2
  clear qw2 vW1
  go_wp2_with fail
  obtain ⟨W10, hW10⟩ : ∃ W10, W10 = w2.alloc (.cells #[.int .i64 y, .int .i64 m, .int .i64 d] 23) := ⟨_, rfl⟩
  have uW10 : Dn w2 W10 := by rw [hW10]; exact (Dn.refl _).alloc _
  have l11 := Nat.lt_of_lt_of_le l6 uW10.size
  have c12 := uW10.cell c7
  have c13 := uW10.cell c8
  have c14 := uW10.cell c9
  clear l6 c7 c8 c9
  have c15 : W10.cell? ⟨w2.heap.size, 0, none⟩ = some (.int .i64 y) := by rw [hW10]; simp [go_sem]
  have c16 : W10.cell? ⟨w2.heap.size, 1, none⟩ = some (.int .i64 m) := by rw [hW10]; simp [go_sem]
  have c17 : W10.cell? ⟨w2.heap.size, 2, none⟩ = some (.int .i64 d) := by rw [hW10]; simp [go_sem]
  have l18 : w2.heap.size < W10.heap.size := by rw [hW10]; simp <;> omega
  rw [← hW10]
  clear hW10
  have vW10 := uw2.trans uW10
  clear uW10 uw2
  refine (g6_any y m d 0 y m d 0 _ (Or.inl ⟨rfl, rfl, rfl, rfl, rfl⟩)).mono ?_
  rintro e w3 ⟨rfl, qw3⟩
  have l19 := Nat.lt_of_lt_of_le l11 qw3.size
  have c20 := qw3.cell c12
  have c21 := qw3.cell c13
  have c22 := qw3.cell c14
  have l23 := Nat.lt_of_lt_of_le l18 qw3.size
  have c24 := qw3.cell c15
  have c25 := qw3.cell c16
  have c26 := qw3.cell c17
  clear l11 c12 c13 c14 l18 c15 c16 c17
  have uw3 := vW10.trans qw3
  clear qw3 vW10
  go_wp2_with fail
  refine (HTx.out _ (hE.dn uw3)).mono ?_
  rintro e w4 ⟨rfl, qw4⟩
  have l27 := Nat.lt_of_lt_of_le l19 qw4.size
  have c28 := qw4.cell c20
  have c29 := qw4.cell c21
  have c30 := qw4.cell c22
  have l31 := Nat.lt_of_lt_of_le l23 qw4.size
  have c32 := qw4.cell c24
  have c33 := qw4.cell c25
  have c34 := qw4.cell c26
  clear l19 c20 c21 c22 l23 c24 c25 c26
  have uw4 := uw3.trans qw4
  clear qw4 uw3
  go_wp2_with fail
  refine (lives6 _ (hE.dn uw4)).mono ?_
  rintro e w5 ⟨rfl, qw5⟩
  have l35 := Nat.lt_of_lt_of_le l27 qw5.size
  have c36 := qw5.cell c28
  have c37 := qw5.cell c29
  have c38 := qw5.cell c30
  have l39 := Nat.lt_of_lt_of_le l31 qw5.size
  have c40 := qw5.cell c32
  have c41 := qw5.cell c33
  have c42 := qw5.cell c34
  clear l27 c28 c29 c30 l31 c32 c33 c34
  have uw5 := uw4.trans qw5
  clear qw5 uw4
  go_wp2_with fail
  go_ret
  exact ⟨retb (by simp), uw5⟩
theorem civilsParse_true (s : ByteArray) (w : World) (_ : s.size ≤ 9223372036854775807) (hE : EnvC w) :
    Calls Tryz.prog 5 #[.string s] w fun ro w' => ro = .returned (.bool true) ∧ Dn w w' := by
  by_cases h : 100 < s.size
  · exact ps6_big s h w hE
  · have hl : s.data.toList.length ≤ 100 := by rw [len_is]; omega
    obtain ⟨y, m, d, e, hp⟩ := PRes.ex s.data.toList
    have HP := Lib.hid (fun W (hW : EnvC W) => cvParse s.data.toList y m d e W hW (by omega) hp)
    have HR := Lib.hid (fun W (hW : EnvC W) => rc6Parse s.data.toList y m d e W hl hp)
    rcases hp with ⟨_, rfl, rfl, rfl, rfl⟩ | ⟨_, _, h0, rfl, rfl, rfl⟩ | ⟨hc, h1, rfl, rfl, rfl, rfl⟩
    · exact ps6_bad s 5 h (by decide) HP HR w hE
    · exact ps6_bad s e h h0 HP HR w hE
    · have hT := fun W (hW : EnvC W) => cvTx_ok (yV s.data.toList) (mV s.data.toList) (dV s.data.toList) W hW h1
      rw [cT_of _ hc] at hT
      exact ps6_ok s _ _ _ h HP HR (Lib.hid hT) w hE
end Go.Proofs.YtopbbcbpanfigaaGreatDoor
