/-
  WALKS OF circalaw08: EndsText, EndsParse, EndsNext: each returns true. (Printed by wip/gen/law8b.py.)
-/
import Derived.Test.YtnibmofbalgobaaDoorLawEight
namespace Go.Proofs.YtnibmofbalgobaaDoor
open Go.RowKit
set_option linter.unusedVariables false
set_option linter.unusedSimpArgs false
theorem ep_ex (s : ByteArray) : ∃ i d e, EP s i d e ∧ G8 i d e i d e := by
  by_cases h1 : s = sP
  · exact ⟨1, 0, 0, Or.inl ⟨h1, rfl, rfl, rfl⟩, Or.inl ⟨rfl, rfl, rfl, rfl⟩⟩
  by_cases h2 : s = sM
  · exact ⟨-1, 0, 0, Or.inr (Or.inl ⟨h2, rfl, rfl, rfl⟩), Or.inl ⟨rfl, rfl, rfl, rfl⟩⟩
  by_cases hp : pOk s.data.toList
  · by_cases hi : I64 (pVal s.data.toList)
    · exact ⟨0, _, 0, Or.inr (Or.inr ⟨h1, h2, rfl, Or.inl ⟨hp, Or.inl ⟨hi, rfl, rfl⟩⟩⟩), Or.inl ⟨rfl, rfl, rfl, rfl⟩⟩
    · exact ⟨0, 0, 15, Or.inr (Or.inr ⟨h1, h2, rfl, Or.inl ⟨hp, Or.inr ⟨hi, rfl, rfl⟩⟩⟩), Or.inr ⟨by decide, rfl, rfl, rfl⟩⟩
  · exact ⟨0, 0, 5, Or.inr (Or.inr ⟨h1, h2, rfl, Or.inr ⟨hp, rfl, rfl⟩⟩), Or.inr ⟨by decide, rfl, rfl, rfl⟩⟩
theorem ep_str (i d : Int) (h : eOk i d) (hd : I64 d) : EP (eStr i d) i d 0 := by
  rcases h with rfl | ⟨rfl | rfl, rfl⟩
  · obtain ⟨h1, h2⟩ := itoa_ok d
    have hl : (eStr 0 d).data.toList = Lib.itoa d := by rw [eStr_day]
    refine Or.inr (Or.inr ⟨?_, ?_, rfl, Or.inl ⟨by rw [hl]; exact h1, Or.inl ⟨by rw [hl, h2]; exact hd, by rw [hl, h2], rfl⟩⟩⟩)
    · intro e
      rw [e] at hl
      rw [← hl] at h1
      exact absurd h1 (by decide +kernel)
    · intro e
      rw [e] at hl
      rw [← hl] at h1
      exact absurd h1 (by decide +kernel)
  · exact Or.inl ⟨rfl, rfl, rfl, rfl⟩
  · exact Or.inr (Or.inl ⟨rfl, rfl, rfl, rfl⟩)
theorem eStr_size (i d : Int) (hd : I64 d) : (eStr i d).size ≤ 1000 := by
  unfold eStr
  split
  · exact size_itoa d hd
  · split <;> decide
theorem mv_ex (i d k : Int) (h : I64 d) : ∃ i' d' e, Mv i d k i' d' e ∧ I64 d' := by
  by_cases h0 : i = 0
  · obtain ⟨s, e, hf⟩ := fits_ex (d + k)
    exact ⟨0, s, e, Or.inr (Or.inr ⟨h0, rfl, hf⟩), hf.i64⟩
  · by_cases hk : eOk i d
    · exact ⟨i, d, 0, Or.inr (Or.inl ⟨hk, h0, rfl, rfl, rfl⟩), h⟩
    · exact ⟨0, 0, 5, Or.inl ⟨hk, rfl, rfl, rfl⟩, by decide⟩
theorem mv_g8 {i d k i' d' e : Int} (h : Mv i d k i' d' e) : G8 i' d' e i' d' e := by
  rcases h with ⟨_, rfl, rfl, rfl⟩ | ⟨_, _, rfl, rfl, rfl⟩ | ⟨_, rfl, ⟨_, _, rfl⟩ | ⟨_, rfl, rfl⟩⟩
  · exact Or.inr ⟨by decide, rfl, rfl, rfl⟩
  · exact Or.inl ⟨rfl, rfl, rfl, rfl⟩
  · exact Or.inl ⟨rfl, rfl, rfl, rfl⟩
  · exact Or.inr ⟨by decide, rfl, rfl, rfl⟩
theorem eC_next (d j f : Int) (h : eC 0 d j f < 0) : 0 ≤ eC j f 0 (d + 1) := by
  unfold eC c3 at *
  repeat' split at *
  all_goals omega
set_option maxHeartbeats 8000000 in
set_option maxRecDepth 100000 in
theorem endsParse_long (s : ByteArray) (w : World) (hs : 60 < s.size) (hm : s.size ≤ 9223372036854775807) (hE : EnvI w) :
    Calls Tryd.prog 12 #[.string s] w fun e w' => e = .returned (.bool true) ∧ Dn w w' := by
  have c1 : decide (60 < (s.size : Int)) = true := by rw [decide_eq_true_eq]; omega
  go_enter Tryd.func12, Tryd.ntmps12
  go_wp2_with fail
  refine (lives8 _ hE).mono ?_
  rintro e w1 ⟨rfl, qw1⟩
  have uw1 := qw1
  clear qw1
  go_wp2_with fail
  go_ret
  exact ⟨rfl, uw1⟩
set_option maxHeartbeats 8000000 in
set_option maxRecDepth 100000 in
theorem endsParse_short (s : ByteArray) (w : World) (hs : s.size ≤ 60) (hE : EnvI w) :
    Calls Tryd.prog 12 #[.string s] w fun e w' => e = .returned (.bool true) ∧ Dn w w' := by
  have c1 : decide (60 < (s.size : Int)) = false := by rw [decide_eq_false_iff_not]; omega
  have hs2 : s.size ≤ 1000 := by omega
  obtain ⟨i, d, r, hp, hg⟩ := ep_ex s
  have HP := Lib.hid hp
  clear hp
  go_enter Tryd.func12, Tryd.ntmps12
  go_wp2_with fail
  refine (eParse s i d r _ hs2 HP.out hE).mono ?_
  rintro e w1 ⟨rfl, qw1⟩
  have uw1 := qw1
  clear qw1
  go_wp2_with fail
  obtain ⟨W1, hW1⟩ : ∃ W1, W1 = w1.alloc (.cells #[.int .i8 i, .int .i64 d] 50) := ⟨_, rfl⟩
  have uW1 : Dn w1 W1 := by rw [hW1]; exact (Dn.refl _).alloc _
  have c2 : W1.cell? ⟨w1.heap.size, 0, none⟩ = some (.int .i8 i) := by rw [hW1]; simp [go_sem]
  have c3 : W1.cell? ⟨w1.heap.size, 1, none⟩ = some (.int .i64 d) := by rw [hW1]; simp [go_sem]
  have l4 : w1.heap.size < W1.heap.size := by rw [hW1]; simp <;> omega
  rw [← hW1]
  clear hW1
  have vW1 := uw1.trans uW1
  clear uW1 uw1
  refine (rParse8 s i d r _ hs2 HP.out).mono ?_
  rintro e w2 ⟨rfl, qw2⟩
  have l5 := Nat.lt_of_lt_of_le l4 qw2.size
  have c6 := qw2.cell c2
  have c7 := qw2.cell c3
  clear l4 c2 c3
  have uw2 := vW1.trans qw2
  clear qw2 vW1
  go_wp2_with fail
  obtain ⟨W8, hW8⟩ : ∃ W8, W8 = w2.alloc (.cells #[.int .i8 i, .int .i64 d] 50) := ⟨_, rfl⟩
  have uW8 : Dn w2 W8 := by rw [hW8]; exact (Dn.refl _).alloc _
  have l9 := Nat.lt_of_lt_of_le l5 uW8.size
  have c10 := uW8.cell c6
  have c11 := uW8.cell c7
  clear l5 c6 c7
  have c12 : W8.cell? ⟨w2.heap.size, 0, none⟩ = some (.int .i8 i) := by rw [hW8]; simp [go_sem]
  have c13 : W8.cell? ⟨w2.heap.size, 1, none⟩ = some (.int .i64 d) := by rw [hW8]; simp [go_sem]
  have l14 : w2.heap.size < W8.heap.size := by rw [hW8]; simp <;> omega
  rw [← hW8]
  clear hW8
  have vW8 := uw2.trans uW8
  clear uW8 uw2
  refine (g8_any i d r i d r _ hg).mono ?_
  rintro e w3 ⟨rfl, qw3⟩
  replace qw3 := qw3.dn
  have l15 := Nat.lt_of_lt_of_le l9 qw3.size
  have c16 := qw3.cell c10
  have c17 := qw3.cell c11
  have l18 := Nat.lt_of_lt_of_le l14 qw3.size
  have c19 := qw3.cell c12
  have c20 := qw3.cell c13
  clear l9 c10 c11 l14 c12 c13
  have uw3 := vW8.trans qw3
  clear qw3 vW8
  go_wp2_with fail
  refine (lives8 _ (hE.dn uw3)).mono ?_
  rintro e w4 ⟨rfl, qw4⟩
  have l21 := Nat.lt_of_lt_of_le l15 qw4.size
  have c22 := qw4.cell c16
  have c23 := qw4.cell c17
  have l24 := Nat.lt_of_lt_of_le l18 qw4.size
  have c25 := qw4.cell c19
  have c26 := qw4.cell c20
  clear l15 c16 c17 l18 c19 c20
  have uw4 := uw3.trans qw4
  clear qw4 uw3
  go_wp2_with fail
  go_ret
  exact ⟨rfl, uw4⟩
theorem endsParse_true (s : ByteArray) (w : World) (hm : s.size ≤ 9223372036854775807) (hE : EnvI w) :
    Calls Tryd.prog 12 #[.string s] w fun e w' => e = .returned (.bool true) ∧ Dn w w' := by
  by_cases hs : s.size ≤ 60
  · exact endsParse_short s w hs hE
  · exact endsParse_long s w (by omega) hm hE
set_option maxHeartbeats 8000000 in
set_option maxRecDepth 100000 in
theorem endsText_bad (i d : Int) (w : World) (h : ¬ eOk i d) (hE : EnvI w) :
    Calls Tryd.prog 11 #[.agg #[.int .i8 i, .int .i64 d]] w fun e w' => e = .returned (.bool true) ∧ Dn w w' := by
  have HN := Lib.hid h
  clear h
  go_enter Tryd.func11, Tryd.ntmps11
  go_wp2_with fail
  obtain ⟨W1, hW1⟩ : ∃ W1, W1 = w.alloc (.cells #[.int .i8 i, .int .i64 d] 50) := ⟨_, rfl⟩
  have uW1 : Dn w W1 := by rw [hW1]; exact (Dn.refl _).alloc _
  have c2 : W1.cell? ⟨w.heap.size, 0, none⟩ = some (.int .i8 i) := by rw [hW1]; simp [go_sem]
  have c3 : W1.cell? ⟨w.heap.size, 1, none⟩ = some (.int .i64 d) := by rw [hW1]; simp [go_sem]
  have l4 : w.heap.size < W1.heap.size := by rw [hW1]; simp <;> omega
  rw [← hW1]
  clear hW1
  refine (eText_bad i d _ HN.out).mono ?_
  rintro e w1 ⟨rfl, qw1⟩
  replace qw1 := qw1.dn
  have l5 := Nat.lt_of_lt_of_le l4 qw1.size
  have c6 := qw1.cell c2
  have c7 := qw1.cell c3
  clear l4 c2 c3
  have uw1 := uW1.trans qw1
  clear qw1 uW1
  go_wp2_with fail
  refine (rChk8_bad i d _ HN.out).mono ?_
  rintro e w2 ⟨rfl, qw2⟩
  replace qw2 := qw2.dn
  have l8 := Nat.lt_of_lt_of_le l5 qw2.size
  have c9 := qw2.cell c6
  have c10 := qw2.cell c7
  clear l5 c6 c7
  have uw2 := uw1.trans qw2
  clear qw2 uw1
  go_wp2_with fail
  refine (lives8 _ (hE.dn uw2)).mono ?_
  rintro e w3 ⟨rfl, qw3⟩
  have l11 := Nat.lt_of_lt_of_le l8 qw3.size
  have c12 := qw3.cell c9
  have c13 := qw3.cell c10
  clear l8 c9 c10
  have uw3 := uw2.trans qw3
  clear qw3 uw2
  go_wp2_with fail
  go_ret
  exact ⟨rfl, uw3⟩
set_option maxHeartbeats 8000000 in
set_option maxRecDepth 100000 in
theorem endsText_ok (i d : Int) (w : World) (h : eOk i d) (hd : I64 d) (hE : EnvI w) :
    Calls Tryd.prog 11 #[.agg #[.int .i8 i, .int .i64 d]] w fun e w' => e = .returned (.bool true) ∧ Dn w w' := by
  have HO := Lib.hid h
  have HT := Lib.hid (fun W hW => eText_ok i d W h hd hW)
  have HP := Lib.hid (fun W hW => eParse (eStr i d) i d 0 W (eStr_size i d hd) (ep_str i d h hd) hW)
  have HR := Lib.hid (fun W => rText8 i d W h hd)
  clear h
  generalize eStr i d = s at *
  go_enter Tryd.func11, Tryd.ntmps11
  go_wp2_with fail
  obtain ⟨W1, hW1⟩ : ∃ W1, W1 = w.alloc (.cells #[.int .i8 i, .int .i64 d] 50) := ⟨_, rfl⟩
  have uW1 : Dn w W1 := by rw [hW1]; exact (Dn.refl _).alloc _
  have c2 : W1.cell? ⟨w.heap.size, 0, none⟩ = some (.int .i8 i) := by rw [hW1]; simp [go_sem]
  have c3 : W1.cell? ⟨w.heap.size, 1, none⟩ = some (.int .i64 d) := by rw [hW1]; simp [go_sem]
  have l4 : w.heap.size < W1.heap.size := by rw [hW1]; simp <;> omega
  rw [← hW1]
  clear hW1
  refine (HT.out _ (hE.dn uW1)).mono ?_
  rintro e w1 ⟨rfl, qw1⟩
  replace qw1 := qw1.dn
  have l5 := Nat.lt_of_lt_of_le l4 qw1.size
  have c6 := qw1.cell c2
  have c7 := qw1.cell c3
  clear l4 c2 c3
  have uw1 := uW1.trans qw1
  clear qw1 uW1
  go_wp2_with fail
  refine (rChk8_ok i d _ HO.out).mono ?_
  rintro e w2 ⟨rfl, qw2⟩
  replace qw2 := qw2.dn
  have l8 := Nat.lt_of_lt_of_le l5 qw2.size
  have c9 := qw2.cell c6
  have c10 := qw2.cell c7
  clear l5 c6 c7
  have uw2 := uw1.trans qw2
  clear qw2 uw1
  go_wp2_with fail
  refine (HP.out _ (hE.dn uw2)).mono ?_
  rintro e w3 ⟨rfl, qw3⟩
  have l11 := Nat.lt_of_lt_of_le l8 qw3.size
  have c12 := qw3.cell c9
  have c13 := qw3.cell c10
  clear l8 c9 c10
  have uw3 := uw2.trans qw3
  clear qw3 uw2
  go_wp2_with fail
  obtain ⟨W14, hW14⟩ : ∃ W14, W14 = w3.alloc (.cells #[.int .i8 i, .int .i64 d] 50) := ⟨_, rfl⟩
  have uW14 : Dn w3 W14 := by rw [hW14]; exact (Dn.refl _).alloc _
  have l15 := Nat.lt_of_lt_of_le l11 uW14.size
  have c16 := uW14.cell c12
  have c17 := uW14.cell c13
  clear l11 c12 c13
  have c18 : W14.cell? ⟨w3.heap.size, 0, none⟩ = some (.int .i8 i) := by rw [hW14]; simp [go_sem]
  have c19 : W14.cell? ⟨w3.heap.size, 1, none⟩ = some (.int .i64 d) := by rw [hW14]; simp [go_sem]
  have l20 : w3.heap.size < W14.heap.size := by rw [hW14]; simp <;> omega
  rw [← hW14]
  clear hW14
  have vW14 := uw3.trans uW14
  clear uW14 uw3
  refine (HR.out _).mono ?_
  rintro e w4 ⟨rfl, qw4⟩
  have l21 := Nat.lt_of_lt_of_le l15 qw4.size
  have c22 := qw4.cell c16
  have c23 := qw4.cell c17
  have l24 := Nat.lt_of_lt_of_le l20 qw4.size
  have c25 := qw4.cell c18
  have c26 := qw4.cell c19
  clear l15 c16 c17 l20 c18 c19
  have uw4 := vW14.trans qw4
  clear qw4 vW14
  go_wp2_with fail
  refine (g8_ok i d _).mono ?_
  rintro e w5 ⟨rfl, qw5⟩
  replace qw5 := qw5.dn
  have l27 := Nat.lt_of_lt_of_le l21 qw5.size
  have c28 := qw5.cell c22
  have c29 := qw5.cell c23
  have l30 := Nat.lt_of_lt_of_le l24 qw5.size
  have c31 := qw5.cell c25
  have c32 := qw5.cell c26
  clear l21 c22 c23 l24 c25 c26
  have uw5 := uw4.trans qw5
  clear qw5 uw4
  go_wp2_with fail
  refine (lives8 _ (hE.dn uw5)).mono ?_
  rintro e w6 ⟨rfl, qw6⟩
  have l33 := Nat.lt_of_lt_of_le l27 qw6.size
  have c34 := qw6.cell c28
  have c35 := qw6.cell c29
  have l36 := Nat.lt_of_lt_of_le l30 qw6.size
  have c37 := qw6.cell c31
  have c38 := qw6.cell c32
  clear l27 c28 c29 l30 c31 c32
  have uw6 := uw5.trans qw6
  clear qw6 uw5
  go_wp2_with fail
  go_ret
  exact ⟨rfl, uw6⟩
theorem endsText_true (i d : Int) (w : World) (hd : I64 d) (hE : EnvI w) :
    Calls Tryd.prog 11 #[.agg #[.int .i8 i, .int .i64 d]] w fun e w' => e = .returned (.bool true) ∧ Dn w w' := by
  by_cases h : eOk i d
  · exact endsText_ok i d w h hd hE
  · exact endsText_bad i d w h hE
end Go.Proofs.YtnibmofbalgobaaDoor
