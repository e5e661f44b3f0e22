/-
  WALKS OF circalaw08: EndsNext returns true. (Printed by wip/gen/law8b.py.)
-/
import Derived.Test.YtnibmofbalgobaaDoorLawEightB
namespace Go.Proofs.YtnibmofbalgobaaDoor
open Go.RowKit
set_option linter.unusedVariables false
set_option linter.unusedSimpArgs false
theorem kdB_8 {W w1 w2 : World} {a0 a1 a2 a3 a4 a5 a6 a7 : Addr} {v0 v1 v2 v3 v4 v5 v6 v7 : Value} (k : Dn w1 w2) (h : Dn W w1 ∧ w1.cell? a0 = some v0 ∧ w1.cell? a1 = some v1 ∧ w1.cell? a2 = some v2 ∧ w1.cell? a3 = some v3 ∧ w1.cell? a4 = some v4 ∧ w1.cell? a5 = some v5 ∧ w1.cell? a6 = some v6 ∧ w1.cell? a7 = some v7) :
    Dn W w2 ∧ w2.cell? a0 = some v0 ∧ w2.cell? a1 = some v1 ∧ w2.cell? a2 = some v2 ∧ w2.cell? a3 = some v3 ∧ w2.cell? a4 = some v4 ∧ w2.cell? a5 = some v5 ∧ w2.cell? a6 = some v6 ∧ w2.cell? a7 = some v7 := by
  obtain ⟨h1, c0, c1, c2, c3, c4, c5, c6, c7⟩ := h
  exact ⟨h1.trans k, k.cell c0, k.cell c1, k.cell c2, k.cell c3, k.cell c4, k.cell c5, k.cell c6, k.cell c7⟩
theorem kdB_12 {W w1 w2 : World} {a0 a1 a2 a3 a4 a5 a6 a7 a8 a9 a10 a11 : Addr} {v0 v1 v2 v3 v4 v5 v6 v7 v8 v9 v10 v11 : Value} (k : Dn w1 w2) (h : Dn W w1 ∧ w1.cell? a0 = some v0 ∧ w1.cell? a1 = some v1 ∧ w1.cell? a2 = some v2 ∧ w1.cell? a3 = some v3 ∧ w1.cell? a4 = some v4 ∧ w1.cell? a5 = some v5 ∧ w1.cell? a6 = some v6 ∧ w1.cell? a7 = some v7 ∧ w1.cell? a8 = some v8 ∧ w1.cell? a9 = some v9 ∧ w1.cell? a10 = some v10 ∧ w1.cell? a11 = some v11) :
    Dn W w2 ∧ w2.cell? a0 = some v0 ∧ w2.cell? a1 = some v1 ∧ w2.cell? a2 = some v2 ∧ w2.cell? a3 = some v3 ∧ w2.cell? a4 = some v4 ∧ w2.cell? a5 = some v5 ∧ w2.cell? a6 = some v6 ∧ w2.cell? a7 = some v7 ∧ w2.cell? a8 = some v8 ∧ w2.cell? a9 = some v9 ∧ w2.cell? a10 = some v10 ∧ w2.cell? a11 = some v11 := by
  obtain ⟨h1, c0, c1, c2, c3, c4, c5, c6, c7, c8, c9, c10, c11⟩ := h
  exact ⟨h1.trans k, k.cell c0, k.cell c1, k.cell c2, k.cell c3, k.cell c4, k.cell c5, k.cell c6, k.cell c7, k.cell c8, k.cell c9, k.cell c10, k.cell c11⟩
set_option maxHeartbeats 8000000 in
set_option maxRecDepth 100000 in
theorem endsNext_inf (i d j f i1 d1 r1 i2 d2 r2 : Int) (hd : I64 d) (h1 : Mv i d 1 i1 d1 r1) (h2 : Mv i d (-1) i2 d2 r2) (hi : i ≠ 0) (w : World) (hE : EnvI w) :
    Calls Tryd.prog 10 #[.agg #[.int .i8 i, .int .i64 d], .agg #[.int .i8 j, .int .i64 f]] w fun e w' => e = .returned (.bool true) ∧ Dn w w' := by
  have H1 := Lib.hid (fun W => eNext i d i1 d1 r1 W hd h1)
  have H2 := Lib.hid (fun W => ePrev i d i2 d2 r2 W hd h2)
  have H3 := Lib.hid (fun W => rNext8 i d i1 d1 r1 W hd h1)
  have H4 := Lib.hid (fun W => rPrev8 i d i2 d2 r2 W hd h2)
  have G1 := Lib.hid (mv_g8 h1)
  have G2 := Lib.hid (mv_g8 h2)
  have n0 : (i != 0) = true := by simpa using hi
  clear h1 h2
  go_enter Tryd.func10, Tryd.ntmps10
  go_wp2_with fail
  obtain ⟨W1, hW1⟩ : ∃ W1, W1 = (w.alloc (.cells #[.int .i8 i, .int .i64 d] 50)).alloc (.cells #[.int .i8 j, .int .i64 f] 50) := ⟨_, rfl⟩
  have uW1 : Dn w W1 := by rw [hW1]; exact ((Dn.refl _).alloc _).alloc _
  have c2 : W1.cell? ⟨w.heap.size, 0, none⟩ = some (.int .i8 i) := by rw [hW1]; simp [go_sem]
  have c3 : W1.cell? ⟨w.heap.size, 1, none⟩ = some (.int .i64 d) := by rw [hW1]; simp [go_sem]
  have l4 : w.heap.size < W1.heap.size := by rw [hW1]; simp <;> omega
  have c5 : W1.cell? ⟨w.heap.size + 1, 0, none⟩ = some (.int .i8 j) := by rw [hW1]; simp [go_sem]
  have c6 : W1.cell? ⟨w.heap.size + 1, 1, none⟩ = some (.int .i64 f) := by rw [hW1]; simp [go_sem]
  have l7 : w.heap.size + 1 < W1.heap.size := by rw [hW1]; simp <;> omega
  rw [← hW1]
  clear hW1
  refine (H1.out _).mono ?_
  rintro e w1 ⟨rfl, qw1⟩
  replace qw1 := qw1.dn
  have l8 := Nat.lt_of_lt_of_le l4 qw1.size
  have c9 := qw1.cell c2
  have c10 := qw1.cell c3
  have l11 := Nat.lt_of_lt_of_le l7 qw1.size
  have c12 := qw1.cell c5
  have c13 := qw1.cell c6
  clear l4 c2 c3 l7 c5 c6
  have uw1 := uW1.trans qw1
  clear qw1 uW1
  go_wp2_with fail
  obtain ⟨W14, hW14⟩ : ∃ W14, W14 = w1.alloc (.cells #[.int .i8 i1, .int .i64 d1] 50) := ⟨_, rfl⟩
  have uW14 : Dn w1 W14 := by rw [hW14]; exact (Dn.refl _).alloc _
  have l15 := Nat.lt_of_lt_of_le l8 uW14.size
  have c16 := uW14.cell c9
  have c17 := uW14.cell c10
  have l18 := Nat.lt_of_lt_of_le l11 uW14.size
  have c19 := uW14.cell c12
  have c20 := uW14.cell c13
  clear l8 c9 c10 l11 c12 c13
  have c21 : W14.cell? ⟨w1.heap.size, 0, none⟩ = some (.int .i8 i1) := by rw [hW14]; simp [go_sem]
  have c22 : W14.cell? ⟨w1.heap.size, 1, none⟩ = some (.int .i64 d1) := by rw [hW14]; simp [go_sem]
  have l23 : w1.heap.size < W14.heap.size := by rw [hW14]; simp <;> omega
  rw [← hW14]
  clear hW14
  have vW14 := uw1.trans uW14
  clear uW14 uw1
  refine (H2.out _).mono ?_
  rintro e w2 ⟨rfl, qw2⟩
  replace qw2 := qw2.dn
  have l24 := Nat.lt_of_lt_of_le l15 qw2.size
  have c25 := qw2.cell c16
  have c26 := qw2.cell c17
  have l27 := Nat.lt_of_lt_of_le l18 qw2.size
  have c28 := qw2.cell c19
  have c29 := qw2.cell c20
  have l30 := Nat.lt_of_lt_of_le l23 qw2.size
  have c31 := qw2.cell c21
  have c32 := qw2.cell c22
  clear l15 c16 c17 l18 c19 c20 l23 c21 c22
  have uw2 := vW14.trans qw2
  clear qw2 vW14
  go_wp2_with fail
  obtain ⟨W33, hW33⟩ : ∃ W33, W33 = w2.alloc (.cells #[.int .i8 i2, .int .i64 d2] 50) := ⟨_, rfl⟩
  have uW33 : Dn w2 W33 := by rw [hW33]; exact (Dn.refl _).alloc _
  have l34 := Nat.lt_of_lt_of_le l24 uW33.size
  have c35 := uW33.cell c25
  have c36 := uW33.cell c26
  have l37 := Nat.lt_of_lt_of_le l27 uW33.size
  have c38 := uW33.cell c28
  have c39 := uW33.cell c29
  have l40 := Nat.lt_of_lt_of_le l30 uW33.size
  have c41 := uW33.cell c31
  have c42 := uW33.cell c32
  clear l24 c25 c26 l27 c28 c29 l30 c31 c32
  have c43 : W33.cell? ⟨w2.heap.size, 0, none⟩ = some (.int .i8 i2) := by rw [hW33]; simp [go_sem]
  have c44 : W33.cell? ⟨w2.heap.size, 1, none⟩ = some (.int .i64 d2) := by rw [hW33]; simp [go_sem]
  have l45 : w2.heap.size < W33.heap.size := by rw [hW33]; simp <;> omega
  rw [← hW33]
  clear hW33
  have vW33 := uw2.trans uW33
  clear uW33 uw2
  refine (H3.out _).mono ?_
  rintro e w3 ⟨rfl, qw3⟩
  replace qw3 := qw3.dn
  have l46 := Nat.lt_of_lt_of_le l34 qw3.size
  have c47 := qw3.cell c35
  have c48 := qw3.cell c36
  have l49 := Nat.lt_of_lt_of_le l37 qw3.size
  have c50 := qw3.cell c38
  have c51 := qw3.cell c39
  have l52 := Nat.lt_of_lt_of_le l40 qw3.size
  have c53 := qw3.cell c41
  have c54 := qw3.cell c42
  have l55 := Nat.lt_of_lt_of_le l45 qw3.size
  have c56 := qw3.cell c43
  have c57 := qw3.cell c44
  clear l34 c35 c36 l37 c38 c39 l40 c41 c42 l45 c43 c44
  have uw3 := vW33.trans qw3
  clear qw3 vW33
  go_wp2_with fail
  obtain ⟨W58, hW58⟩ : ∃ W58, W58 = w3.alloc (.cells #[.int .i8 i1, .int .i64 d1] 50) := ⟨_, rfl⟩
  have uW58 : Dn w3 W58 := by rw [hW58]; exact (Dn.refl _).alloc _
  have l59 := Nat.lt_of_lt_of_le l46 uW58.size
  have c60 := uW58.cell c47
  have c61 := uW58.cell c48
  have l62 := Nat.lt_of_lt_of_le l49 uW58.size
  have c63 := uW58.cell c50
  have c64 := uW58.cell c51
  have l65 := Nat.lt_of_lt_of_le l52 uW58.size
  have c66 := uW58.cell c53
  have c67 := uW58.cell c54
  have l68 := Nat.lt_of_lt_of_le l55 uW58.size
  have c69 := uW58.cell c56
  have c70 := uW58.cell c57
  clear l46 c47 c48 l49 c50 c51 l52 c53 c54 l55 c56 c57
  have c71 : W58.cell? ⟨w3.heap.size, 0, none⟩ = some (.int .i8 i1) := by rw [hW58]; simp [go_sem]
  have c72 : W58.cell? ⟨w3.heap.size, 1, none⟩ = some (.int .i64 d1) := by rw [hW58]; simp [go_sem]
  have l73 : w3.heap.size < W58.heap.size := by rw [hW58]; simp <;> omega
  rw [← hW58]
  clear hW58
  have vW58 := uw3.trans uW58
  clear uW58 uw3
  refine (H4.out _).mono ?_
  rintro e w4 ⟨rfl, qw4⟩
  replace qw4 := qw4.dn
  have l74 := Nat.lt_of_lt_of_le l59 qw4.size
  have c75 := qw4.cell c60
  have c76 := qw4.cell c61
  have l77 := Nat.lt_of_lt_of_le l62 qw4.size
  have c78 := qw4.cell c63
  have c79 := qw4.cell c64
  have l80 := Nat.lt_of_lt_of_le l65 qw4.size
  have c81 := qw4.cell c66
  have c82 := qw4.cell c67
  have l83 := Nat.lt_of_lt_of_le l68 qw4.size
  have c84 := qw4.cell c69
  have c85 := qw4.cell c70
  have l86 := Nat.lt_of_lt_of_le l73 qw4.size
  have c87 := qw4.cell c71
  have c88 := qw4.cell c72
  clear l59 c60 c61 l62 c63 c64 l65 c66 c67 l68 c69 c70 l73 c71 c72
  have uw4 := vW58.trans qw4
  clear qw4 vW58
  go_wp2_with fail
  obtain ⟨W89, hW89⟩ : ∃ W89, W89 = w4.alloc (.cells #[.int .i8 i2, .int .i64 d2] 50) := ⟨_, rfl⟩
  have uW89 : Dn w4 W89 := by rw [hW89]; exact (Dn.refl _).alloc _
  have l90 := Nat.lt_of_lt_of_le l74 uW89.size
  have c91 := uW89.cell c75
  have c92 := uW89.cell c76
  have l93 := Nat.lt_of_lt_of_le l77 uW89.size
  have c94 := uW89.cell c78
  have c95 := uW89.cell c79
  have l96 := Nat.lt_of_lt_of_le l80 uW89.size
  have c97 := uW89.cell c81
  have c98 := uW89.cell c82
  have l99 := Nat.lt_of_lt_of_le l83 uW89.size
  have c100 := uW89.cell c84
  have c101 := uW89.cell c85
  have l102 := Nat.lt_of_lt_of_le l86 uW89.size
  have c103 := uW89.cell c87
  have c104 := uW89.cell c88
  clear l74 c75 c76 l77 c78 c79 l80 c81 c82 l83 c84 c85 l86 c87 c88
  have c105 : W89.cell? ⟨w4.heap.size, 0, none⟩ = some (.int .i8 i2) := by rw [hW89]; simp [go_sem]
  have c106 : W89.cell? ⟨w4.heap.size, 1, none⟩ = some (.int .i64 d2) := by rw [hW89]; simp [go_sem]
  have l107 : w4.heap.size < W89.heap.size := by rw [hW89]; simp <;> omega
  rw [← hW89]
  clear hW89
  have vW89 := uw4.trans uW89
  clear uW89 uw4
  have hS108 := kdB_12 (W := W89) (Dn.refl _) ⟨Dn.refl _, c91, c92, c94, c95, c97, c98, c100, c101, c103, c104, c105, c106⟩
  have HShS108 := Lib.hid hS108
  clear c91 c92 c94 c95 c97 c98 c100 c101 c103 c104 c105 c106
  go_region_held3 (fun w' => Dn W89 w' ∧ w'.cell? ⟨w.heap.size, 0, none⟩ = some (.int .i8 i) ∧ w'.cell? ⟨w.heap.size, 1, none⟩ = some (.int .i64 d) ∧ w'.cell? ⟨w.heap.size + 1, 0, none⟩ = some (.int .i8 j) ∧ w'.cell? ⟨w.heap.size + 1, 1, none⟩ = some (.int .i64 f) ∧ w'.cell? ⟨w1.heap.size, 0, none⟩ = some (.int .i8 i1) ∧ w'.cell? ⟨w1.heap.size, 1, none⟩ = some (.int .i64 d1) ∧ w'.cell? ⟨w2.heap.size, 0, none⟩ = some (.int .i8 i2) ∧ w'.cell? ⟨w2.heap.size, 1, none⟩ = some (.int .i64 d2) ∧ w'.cell? ⟨w3.heap.size, 0, none⟩ = some (.int .i8 i1) ∧ w'.cell? ⟨w3.heap.size, 1, none⟩ = some (.int .i64 d1) ∧ w'.cell? ⟨w4.heap.size, 0, none⟩ = some (.int .i8 i2) ∧ w'.cell? ⟨w4.heap.size, 1, none⟩ = some (.int .i64 d2))
    (first | exact kdB_12 ((Dn.refl _).drew) hS108 | exact kdB_12 ‹Dn _ _› ‹_› | exact kdB_12 (Up.dn ‹Up _ _›) ‹_› | assumption)
    (first
      | (go_at_call 48; refine (eChk _ _ _).mono ?_; rintro e wa ⟨rfl, qa⟩; replace qa := Up.dn qa)
      | (go_at_call 49; refine (rChk8 _ _ _).mono ?_; rintro e wa ⟨rfl, qa⟩; replace qa := Up.dn qa)
      | (go_at_call 50; refine (g8_any _ _ _ _ _ _ _ (by first | assumption | exact G1.out | exact G2.out)).mono ?_; rintro e wa ⟨rfl, qa⟩; replace qa := Up.dn qa))
  all_goals
    clear hS108
    obtain ⟨uf121, c109, c110, c111, c112, c113, c114, c115, c116, c117, c118, c119, c120⟩ := (‹Dn W89 _ ∧ _› : _ ∧ _)
    obtain ⟨w122, rfl⟩ : ∃ w122 : World, w122 = wa := ⟨_, rfl⟩
    have l123 := Nat.lt_of_lt_of_le l90 uf121.size
    clear l90
    have l124 := Nat.lt_of_lt_of_le l93 uf121.size
    clear l93
    have l125 := Nat.lt_of_lt_of_le l96 uf121.size
    clear l96
    have l126 := Nat.lt_of_lt_of_le l99 uf121.size
    clear l99
    have l127 := Nat.lt_of_lt_of_le l102 uf121.size
    clear l102
    have l128 := Nat.lt_of_lt_of_le l107 uf121.size
    clear l107
    have vuf121 := vW89.trans uf121
    clear uf121 vW89 HShS108
    clear c115 c116 l126
    clear c117 c118 l127
    clear c119 c120 l128
    go_wp2_with fail
    refine (lives8 _ (hE.dn vuf121)).mono ?_
    rintro e w5 ⟨rfl, qw5⟩
    have l129 := Nat.lt_of_lt_of_le l123 qw5.size
    have c130 := qw5.cell c109
    have c131 := qw5.cell c110
    have l132 := Nat.lt_of_lt_of_le l124 qw5.size
    have c133 := qw5.cell c111
    have c134 := qw5.cell c112
    have l135 := Nat.lt_of_lt_of_le l125 qw5.size
    have c136 := qw5.cell c113
    have c137 := qw5.cell c114
    clear l123 c109 c110 l124 c111 c112 l125 c113 c114
    have uw5 := vuf121.trans qw5
    clear qw5 vuf121
    go_wp2_with fail
    go_ret
    exact ⟨rfl, uw5⟩
set_option maxHeartbeats 8000000 in
set_option maxRecDepth 100000 in
theorem endsNext_over (i d j f i1 d1 r1 i2 d2 r2 : Int) (hd : I64 d) (h1 : Mv i d 1 i1 d1 r1) (h2 : Mv i d (-1) i2 d2 r2) (hi : r1 ≠ 0) (h0 : i = 0) (w : World) (hE : EnvI w) :
    Calls Tryd.prog 10 #[.agg #[.int .i8 i, .int .i64 d], .agg #[.int .i8 j, .int .i64 f]] w fun e w' => e = .returned (.bool true) ∧ Dn w w' := by
  have H1 := Lib.hid (fun W => eNext i d i1 d1 r1 W hd h1)
  have H2 := Lib.hid (fun W => ePrev i d i2 d2 r2 W hd h2)
  have H3 := Lib.hid (fun W => rNext8 i d i1 d1 r1 W hd h1)
  have H4 := Lib.hid (fun W => rPrev8 i d i2 d2 r2 W hd h2)
  have G1 := Lib.hid (mv_g8 h1)
  have G2 := Lib.hid (mv_g8 h2)
  have n0 : (r1 != 0) = true := by simpa using hi
  have n1 : (i != 0) = false := by simp [h0]
  clear h1 h2 h0
  go_enter Tryd.func10, Tryd.ntmps10
  go_wp2_with fail
  obtain ⟨W1, hW1⟩ : ∃ W1, W1 = (w.alloc (.cells #[.int .i8 i, .int .i64 d] 50)).alloc (.cells #[.int .i8 j, .int .i64 f] 50) := ⟨_, rfl⟩
  have uW1 : Dn w W1 := by rw [hW1]; exact ((Dn.refl _).alloc _).alloc _
  have c2 : W1.cell? ⟨w.heap.size, 0, none⟩ = some (.int .i8 i) := by rw [hW1]; simp [go_sem]
  have c3 : W1.cell? ⟨w.heap.size, 1, none⟩ = some (.int .i64 d) := by rw [hW1]; simp [go_sem]
  have l4 : w.heap.size < W1.heap.size := by rw [hW1]; simp <;> omega
  have c5 : W1.cell? ⟨w.heap.size + 1, 0, none⟩ = some (.int .i8 j) := by rw [hW1]; simp [go_sem]
  have c6 : W1.cell? ⟨w.heap.size + 1, 1, none⟩ = some (.int .i64 f) := by rw [hW1]; simp [go_sem]
  have l7 : w.heap.size + 1 < W1.heap.size := by rw [hW1]; simp <;> omega
  rw [← hW1]
  clear hW1
  refine (H1.out _).mono ?_
  rintro e w1 ⟨rfl, qw1⟩
  replace qw1 := qw1.dn
  have l8 := Nat.lt_of_lt_of_le l4 qw1.size
  have c9 := qw1.cell c2
  have c10 := qw1.cell c3
  have l11 := Nat.lt_of_lt_of_le l7 qw1.size
  have c12 := qw1.cell c5
  have c13 := qw1.cell c6
  clear l4 c2 c3 l7 c5 c6
  have uw1 := uW1.trans qw1
  clear qw1 uW1
  go_wp2_with fail
  obtain ⟨W14, hW14⟩ : ∃ W14, W14 = w1.alloc (.cells #[.int .i8 i1, .int .i64 d1] 50) := ⟨_, rfl⟩
  have uW14 : Dn w1 W14 := by rw [hW14]; exact (Dn.refl _).alloc _
  have l15 := Nat.lt_of_lt_of_le l8 uW14.size
  have c16 := uW14.cell c9
  have c17 := uW14.cell c10
  have l18 := Nat.lt_of_lt_of_le l11 uW14.size
  have c19 := uW14.cell c12
  have c20 := uW14.cell c13
  clear l8 c9 c10 l11 c12 c13
  have c21 : W14.cell? ⟨w1.heap.size, 0, none⟩ = some (.int .i8 i1) := by rw [hW14]; simp [go_sem]
  have c22 : W14.cell? ⟨w1.heap.size, 1, none⟩ = some (.int .i64 d1) := by rw [hW14]; simp [go_sem]
  have l23 : w1.heap.size < W14.heap.size := by rw [hW14]; simp <;> omega
  rw [← hW14]
  clear hW14
  have vW14 := uw1.trans uW14
  clear uW14 uw1
  refine (H2.out _).mono ?_
  rintro e w2 ⟨rfl, qw2⟩
  replace qw2 := qw2.dn
  have l24 := Nat.lt_of_lt_of_le l15 qw2.size
  have c25 := qw2.cell c16
  have c26 := qw2.cell c17
  have l27 := Nat.lt_of_lt_of_le l18 qw2.size
  have c28 := qw2.cell c19
  have c29 := qw2.cell c20
  have l30 := Nat.lt_of_lt_of_le l23 qw2.size
  have c31 := qw2.cell c21
  have c32 := qw2.cell c22
  clear l15 c16 c17 l18 c19 c20 l23 c21 c22
  have uw2 := vW14.trans qw2
  clear qw2 vW14
  go_wp2_with fail
  obtain ⟨W33, hW33⟩ : ∃ W33, W33 = w2.alloc (.cells #[.int .i8 i2, .int .i64 d2] 50) := ⟨_, rfl⟩
  have uW33 : Dn w2 W33 := by rw [hW33]; exact (Dn.refl _).alloc _
  have l34 := Nat.lt_of_lt_of_le l24 uW33.size
  have c35 := uW33.cell c25
  have c36 := uW33.cell c26
  have l37 := Nat.lt_of_lt_of_le l27 uW33.size
  have c38 := uW33.cell c28
  have c39 := uW33.cell c29
  have l40 := Nat.lt_of_lt_of_le l30 uW33.size
  have c41 := uW33.cell c31
  have c42 := uW33.cell c32
  clear l24 c25 c26 l27 c28 c29 l30 c31 c32
  have c43 : W33.cell? ⟨w2.heap.size, 0, none⟩ = some (.int .i8 i2) := by rw [hW33]; simp [go_sem]
  have c44 : W33.cell? ⟨w2.heap.size, 1, none⟩ = some (.int .i64 d2) := by rw [hW33]; simp [go_sem]
  have l45 : w2.heap.size < W33.heap.size := by rw [hW33]; simp <;> omega
  rw [← hW33]
  clear hW33
  have vW33 := uw2.trans uW33
  clear uW33 uw2
  refine (H3.out _).mono ?_
  rintro e w3 ⟨rfl, qw3⟩
  replace qw3 := qw3.dn
  have l46 := Nat.lt_of_lt_of_le l34 qw3.size
  have c47 := qw3.cell c35
  have c48 := qw3.cell c36
  have l49 := Nat.lt_of_lt_of_le l37 qw3.size
  have c50 := qw3.cell c38
  have c51 := qw3.cell c39
  have l52 := Nat.lt_of_lt_of_le l40 qw3.size
  have c53 := qw3.cell c41
  have c54 := qw3.cell c42
  have l55 := Nat.lt_of_lt_of_le l45 qw3.size
  have c56 := qw3.cell c43
  have c57 := qw3.cell c44
  clear l34 c35 c36 l37 c38 c39 l40 c41 c42 l45 c43 c44
  have uw3 := vW33.trans qw3
  clear qw3 vW33
  go_wp2_with fail
  obtain ⟨W58, hW58⟩ : ∃ W58, W58 = w3.alloc (.cells #[.int .i8 i1, .int .i64 d1] 50) := ⟨_, rfl⟩
  have uW58 : Dn w3 W58 := by rw [hW58]; exact (Dn.refl _).alloc _
  have l59 := Nat.lt_of_lt_of_le l46 uW58.size
  have c60 := uW58.cell c47
  have c61 := uW58.cell c48
  have l62 := Nat.lt_of_lt_of_le l49 uW58.size
  have c63 := uW58.cell c50
  have c64 := uW58.cell c51
  have l65 := Nat.lt_of_lt_of_le l52 uW58.size
  have c66 := uW58.cell c53
  have c67 := uW58.cell c54
  have l68 := Nat.lt_of_lt_of_le l55 uW58.size
  have c69 := uW58.cell c56
  have c70 := uW58.cell c57
  clear l46 c47 c48 l49 c50 c51 l52 c53 c54 l55 c56 c57
  have c71 : W58.cell? ⟨w3.heap.size, 0, none⟩ = some (.int .i8 i1) := by rw [hW58]; simp [go_sem]
  have c72 : W58.cell? ⟨w3.heap.size, 1, none⟩ = some (.int .i64 d1) := by rw [hW58]; simp [go_sem]
  have l73 : w3.heap.size < W58.heap.size := by rw [hW58]; simp <;> omega
  rw [← hW58]
  clear hW58
  have vW58 := uw3.trans uW58
  clear uW58 uw3
  refine (H4.out _).mono ?_
  rintro e w4 ⟨rfl, qw4⟩
  replace qw4 := qw4.dn
  have l74 := Nat.lt_of_lt_of_le l59 qw4.size
  have c75 := qw4.cell c60
  have c76 := qw4.cell c61
  have l77 := Nat.lt_of_lt_of_le l62 qw4.size
  have c78 := qw4.cell c63
  have c79 := qw4.cell c64
  have l80 := Nat.lt_of_lt_of_le l65 qw4.size
  have c81 := qw4.cell c66
  have c82 := qw4.cell c67
  have l83 := Nat.lt_of_lt_of_le l68 qw4.size
  have c84 := qw4.cell c69
  have c85 := qw4.cell c70
  have l86 := Nat.lt_of_lt_of_le l73 qw4.size
  have c87 := qw4.cell c71
  have c88 := qw4.cell c72
  clear l59 c60 c61 l62 c63 c64 l65 c66 c67 l68 c69 c70 l73 c71 c72
  have uw4 := vW58.trans qw4
  clear qw4 vW58
  go_wp2_with fail
  obtain ⟨W89, hW89⟩ : ∃ W89, W89 = w4.alloc (.cells #[.int .i8 i2, .int .i64 d2] 50) := ⟨_, rfl⟩
  have uW89 : Dn w4 W89 := by rw [hW89]; exact (Dn.refl _).alloc _
  have l90 := Nat.lt_of_lt_of_le l74 uW89.size
  have c91 := uW89.cell c75
  have c92 := uW89.cell c76
  have l93 := Nat.lt_of_lt_of_le l77 uW89.size
  have c94 := uW89.cell c78
  have c95 := uW89.cell c79
  have l96 := Nat.lt_of_lt_of_le l80 uW89.size
  have c97 := uW89.cell c81
  have c98 := uW89.cell c82
  have l99 := Nat.lt_of_lt_of_le l83 uW89.size
  have c100 := uW89.cell c84
  have c101 := uW89.cell c85
  have l102 := Nat.lt_of_lt_of_le l86 uW89.size
  have c103 := uW89.cell c87
  have c104 := uW89.cell c88
  clear l74 c75 c76 l77 c78 c79 l80 c81 c82 l83 c84 c85 l86 c87 c88
  have c105 : W89.cell? ⟨w4.heap.size, 0, none⟩ = some (.int .i8 i2) := by rw [hW89]; simp [go_sem]
  have c106 : W89.cell? ⟨w4.heap.size, 1, none⟩ = some (.int .i64 d2) := by rw [hW89]; simp [go_sem]
  have l107 : w4.heap.size < W89.heap.size := by rw [hW89]; simp <;> omega
  rw [← hW89]
  clear hW89
  have vW89 := uw4.trans uW89
  clear uW89 uw4
  have hS108 := kdB_12 (W := W89) (Dn.refl _) ⟨Dn.refl _, c91, c92, c94, c95, c97, c98, c100, c101, c103, c104, c105, c106⟩
  have HShS108 := Lib.hid hS108
  clear c91 c92 c94 c95 c97 c98 c100 c101 c103 c104 c105 c106
  go_region_held3 (fun w' => Dn W89 w' ∧ w'.cell? ⟨w.heap.size, 0, none⟩ = some (.int .i8 i) ∧ w'.cell? ⟨w.heap.size, 1, none⟩ = some (.int .i64 d) ∧ w'.cell? ⟨w.heap.size + 1, 0, none⟩ = some (.int .i8 j) ∧ w'.cell? ⟨w.heap.size + 1, 1, none⟩ = some (.int .i64 f) ∧ w'.cell? ⟨w1.heap.size, 0, none⟩ = some (.int .i8 i1) ∧ w'.cell? ⟨w1.heap.size, 1, none⟩ = some (.int .i64 d1) ∧ w'.cell? ⟨w2.heap.size, 0, none⟩ = some (.int .i8 i2) ∧ w'.cell? ⟨w2.heap.size, 1, none⟩ = some (.int .i64 d2) ∧ w'.cell? ⟨w3.heap.size, 0, none⟩ = some (.int .i8 i1) ∧ w'.cell? ⟨w3.heap.size, 1, none⟩ = some (.int .i64 d1) ∧ w'.cell? ⟨w4.heap.size, 0, none⟩ = some (.int .i8 i2) ∧ w'.cell? ⟨w4.heap.size, 1, none⟩ = some (.int .i64 d2))
    (first | exact kdB_12 ((Dn.refl _).drew) hS108 | exact kdB_12 ‹Dn _ _› ‹_› | exact kdB_12 (Up.dn ‹Up _ _›) ‹_› | assumption)
    (first
      | (go_at_call 48; refine (eChk _ _ _).mono ?_; rintro e wa ⟨rfl, qa⟩; replace qa := Up.dn qa)
      | (go_at_call 49; refine (rChk8 _ _ _).mono ?_; rintro e wa ⟨rfl, qa⟩; replace qa := Up.dn qa)
      | (go_at_call 50; refine (g8_any _ _ _ _ _ _ _ (by first | assumption | exact G1.out | exact G2.out)).mono ?_; rintro e wa ⟨rfl, qa⟩; replace qa := Up.dn qa))
  all_goals
    clear hS108
    obtain ⟨uf121, c109, c110, c111, c112, c113, c114, c115, c116, c117, c118, c119, c120⟩ := (‹Dn W89 _ ∧ _› : _ ∧ _)
    obtain ⟨w122, rfl⟩ : ∃ w122 : World, w122 = wa := ⟨_, rfl⟩
    have l123 := Nat.lt_of_lt_of_le l90 uf121.size
    clear l90
    have l124 := Nat.lt_of_lt_of_le l93 uf121.size
    clear l93
    have l125 := Nat.lt_of_lt_of_le l96 uf121.size
    clear l96
    have l126 := Nat.lt_of_lt_of_le l99 uf121.size
    clear l99
    have l127 := Nat.lt_of_lt_of_le l102 uf121.size
    clear l102
    have l128 := Nat.lt_of_lt_of_le l107 uf121.size
    clear l107
    have vuf121 := vW89.trans uf121
    clear uf121 vW89 HShS108
    clear c115 c116 l126
    clear c117 c118 l127
    clear c119 c120 l128
    go_wp2_with fail
    refine (lives8 _ (hE.dn vuf121)).mono ?_
    rintro e w5 ⟨rfl, qw5⟩
    have l129 := Nat.lt_of_lt_of_le l123 qw5.size
    have c130 := qw5.cell c109
    have c131 := qw5.cell c110
    have l132 := Nat.lt_of_lt_of_le l124 qw5.size
    have c133 := qw5.cell c111
    have c134 := qw5.cell c112
    have l135 := Nat.lt_of_lt_of_le l125 qw5.size
    have c136 := qw5.cell c113
    have c137 := qw5.cell c114
    clear l123 c109 c110 l124 c111 c112 l125 c113 c114
    have uw5 := vuf121.trans qw5
    clear qw5 vuf121
    go_wp2_with fail
    go_ret
    exact ⟨rfl, uw5⟩
set_option maxHeartbeats 8000000 in
set_option maxRecDepth 100000 in
theorem endsNext_fit1 (d j f i2 d2 r2 : Int) (hd : I64 d) (hn : I64 (d + 1)) (h2 : Mv 0 d (-1) i2 d2 r2) (hc : 0 ≤ eC 0 d j f) (w : World) (hE : EnvI w) :
    Calls Tryd.prog 10 #[.agg #[.int .i8 0, .int .i64 d], .agg #[.int .i8 j, .int .i64 f]] w fun e w' => e = .returned (.bool true) ∧ Dn w w' := by
  have h1 : Mv 0 d 1 0 (d + 1) 0 := Or.inr (Or.inr ⟨rfl, rfl, Or.inl ⟨hn, rfl, rfl⟩⟩)
  have H1 := Lib.hid (fun W => eNext 0 d 0 (d + 1) 0 W hd h1)
  have H2 := Lib.hid (fun W => ePrev 0 d i2 d2 r2 W hd h2)
  have H3 := Lib.hid (fun W => rNext8 0 d 0 (d + 1) 0 W hd h1)
  have H4 := Lib.hid (fun W => rPrev8 0 d i2 d2 r2 W hd h2)
  have G1 := Lib.hid (mv_g8 h1)
  have G2 := Lib.hid (mv_g8 h2)
  have HB := Lib.hid (fun W => ePrev 0 (d + 1) 0 d 0 W hn (Or.inr (Or.inr ⟨rfl, rfl, Or.inl ⟨by rw [show d + 1 + -1 = d by omega]; exact hd, by omega, rfl⟩⟩)))
  have HC := Lib.hid (fun W => eCmp 0 d j f W)
  generalize eC 0 d j f = c at *
  have t1 : decide (0 ≤ c) = true := by simpa using hc
  clear hc
  have hd1 := hd.1
  have hd2 := hd.2
  have hn1 := hn.1
  have hn2 := hn.2
  clear h1 h2 hd hn
  go_enter Tryd.func10, Tryd.ntmps10
  go_wp2_with fail
  obtain ⟨W1, hW1⟩ : ∃ W1, W1 = (w.alloc (.cells #[.int .i8 0, .int .i64 d] 50)).alloc (.cells #[.int .i8 j, .int .i64 f] 50) := ⟨_, rfl⟩
  have uW1 : Dn w W1 := by rw [hW1]; exact ((Dn.refl _).alloc _).alloc _
  have c2 : W1.cell? ⟨w.heap.size, 0, none⟩ = some (.int .i8 0) := by rw [hW1]; simp [go_sem]
  have c3 : W1.cell? ⟨w.heap.size, 1, none⟩ = some (.int .i64 d) := by rw [hW1]; simp [go_sem]
  have l4 : w.heap.size < W1.heap.size := by rw [hW1]; simp <;> omega
  have c5 : W1.cell? ⟨w.heap.size + 1, 0, none⟩ = some (.int .i8 j) := by rw [hW1]; simp [go_sem]
  have c6 : W1.cell? ⟨w.heap.size + 1, 1, none⟩ = some (.int .i64 f) := by rw [hW1]; simp [go_sem]
  have l7 : w.heap.size + 1 < W1.heap.size := by rw [hW1]; simp <;> omega
  rw [← hW1]
  clear hW1
  refine (H1.out _).mono ?_
  rintro e w1 ⟨rfl, qw1⟩
  replace qw1 := qw1.dn
  have l8 := Nat.lt_of_lt_of_le l4 qw1.size
  have c9 := qw1.cell c2
  have c10 := qw1.cell c3
  have l11 := Nat.lt_of_lt_of_le l7 qw1.size
  have c12 := qw1.cell c5
  have c13 := qw1.cell c6
  clear l4 c2 c3 l7 c5 c6
  have uw1 := uW1.trans qw1
  clear qw1 uW1
  go_wp2_with fail
  obtain ⟨W14, hW14⟩ : ∃ W14, W14 = w1.alloc (.cells #[.int .i8 0, .int .i64 (d + 1)] 50) := ⟨_, rfl⟩
  have uW14 : Dn w1 W14 := by rw [hW14]; exact (Dn.refl _).alloc _
  have l15 := Nat.lt_of_lt_of_le l8 uW14.size
  have c16 := uW14.cell c9
  have c17 := uW14.cell c10
  have l18 := Nat.lt_of_lt_of_le l11 uW14.size
  have c19 := uW14.cell c12
  have c20 := uW14.cell c13
  clear l8 c9 c10 l11 c12 c13
  have c21 : W14.cell? ⟨w1.heap.size, 0, none⟩ = some (.int .i8 0) := by rw [hW14]; simp [go_sem]
  have c22 : W14.cell? ⟨w1.heap.size, 1, none⟩ = some (.int .i64 (d + 1)) := by rw [hW14]; simp [go_sem]
  have l23 : w1.heap.size < W14.heap.size := by rw [hW14]; simp <;> omega
  rw [← hW14]
  clear hW14
  have vW14 := uw1.trans uW14
  clear uW14 uw1
  refine (H2.out _).mono ?_
  rintro e w2 ⟨rfl, qw2⟩
  replace qw2 := qw2.dn
  have l24 := Nat.lt_of_lt_of_le l15 qw2.size
  have c25 := qw2.cell c16
  have c26 := qw2.cell c17
  have l27 := Nat.lt_of_lt_of_le l18 qw2.size
  have c28 := qw2.cell c19
  have c29 := qw2.cell c20
  have l30 := Nat.lt_of_lt_of_le l23 qw2.size
  have c31 := qw2.cell c21
  have c32 := qw2.cell c22
  clear l15 c16 c17 l18 c19 c20 l23 c21 c22
  have uw2 := vW14.trans qw2
  clear qw2 vW14
  go_wp2_with fail
  obtain ⟨W33, hW33⟩ : ∃ W33, W33 = w2.alloc (.cells #[.int .i8 i2, .int .i64 d2] 50) := ⟨_, rfl⟩
  have uW33 : Dn w2 W33 := by rw [hW33]; exact (Dn.refl _).alloc _
  have l34 := Nat.lt_of_lt_of_le l24 uW33.size
  have c35 := uW33.cell c25
  have c36 := uW33.cell c26
  have l37 := Nat.lt_of_lt_of_le l27 uW33.size
  have c38 := uW33.cell c28
  have c39 := uW33.cell c29
  have l40 := Nat.lt_of_lt_of_le l30 uW33.size
  have c41 := uW33.cell c31
  have c42 := uW33.cell c32
  clear l24 c25 c26 l27 c28 c29 l30 c31 c32
  have c43 : W33.cell? ⟨w2.heap.size, 0, none⟩ = some (.int .i8 i2) := by rw [hW33]; simp [go_sem]
  have c44 : W33.cell? ⟨w2.heap.size, 1, none⟩ = some (.int .i64 d2) := by rw [hW33]; simp [go_sem]
  have l45 : w2.heap.size < W33.heap.size := by rw [hW33]; simp <;> omega
  rw [← hW33]
  clear hW33
  have vW33 := uw2.trans uW33
  clear uW33 uw2
  refine (H3.out _).mono ?_
  rintro e w3 ⟨rfl, qw3⟩
  replace qw3 := qw3.dn
  have l46 := Nat.lt_of_lt_of_le l34 qw3.size
  have c47 := qw3.cell c35
  have c48 := qw3.cell c36
  have l49 := Nat.lt_of_lt_of_le l37 qw3.size
  have c50 := qw3.cell c38
  have c51 := qw3.cell c39
  have l52 := Nat.lt_of_lt_of_le l40 qw3.size
  have c53 := qw3.cell c41
  have c54 := qw3.cell c42
  have l55 := Nat.lt_of_lt_of_le l45 qw3.size
  have c56 := qw3.cell c43
  have c57 := qw3.cell c44
  clear l34 c35 c36 l37 c38 c39 l40 c41 c42 l45 c43 c44
  have uw3 := vW33.trans qw3
  clear qw3 vW33
  go_wp2_with fail
  obtain ⟨W58, hW58⟩ : ∃ W58, W58 = w3.alloc (.cells #[.int .i8 0, .int .i64 (d + 1)] 50) := ⟨_, rfl⟩
  have uW58 : Dn w3 W58 := by rw [hW58]; exact (Dn.refl _).alloc _
  have l59 := Nat.lt_of_lt_of_le l46 uW58.size
  have c60 := uW58.cell c47
  have c61 := uW58.cell c48
  have l62 := Nat.lt_of_lt_of_le l49 uW58.size
  have c63 := uW58.cell c50
  have c64 := uW58.cell c51
  have l65 := Nat.lt_of_lt_of_le l52 uW58.size
  have c66 := uW58.cell c53
  have c67 := uW58.cell c54
  have l68 := Nat.lt_of_lt_of_le l55 uW58.size
  have c69 := uW58.cell c56
  have c70 := uW58.cell c57
  clear l46 c47 c48 l49 c50 c51 l52 c53 c54 l55 c56 c57
  have c71 : W58.cell? ⟨w3.heap.size, 0, none⟩ = some (.int .i8 0) := by rw [hW58]; simp [go_sem]
  have c72 : W58.cell? ⟨w3.heap.size, 1, none⟩ = some (.int .i64 (d + 1)) := by rw [hW58]; simp [go_sem]
  have l73 : w3.heap.size < W58.heap.size := by rw [hW58]; simp <;> omega
  rw [← hW58]
  clear hW58
  have vW58 := uw3.trans uW58
  clear uW58 uw3
  refine (H4.out _).mono ?_
  rintro e w4 ⟨rfl, qw4⟩
  replace qw4 := qw4.dn
  have l74 := Nat.lt_of_lt_of_le l59 qw4.size
  have c75 := qw4.cell c60
  have c76 := qw4.cell c61
  have l77 := Nat.lt_of_lt_of_le l62 qw4.size
  have c78 := qw4.cell c63
  have c79 := qw4.cell c64
  have l80 := Nat.lt_of_lt_of_le l65 qw4.size
  have c81 := qw4.cell c66
  have c82 := qw4.cell c67
  have l83 := Nat.lt_of_lt_of_le l68 qw4.size
  have c84 := qw4.cell c69
  have c85 := qw4.cell c70
  have l86 := Nat.lt_of_lt_of_le l73 qw4.size
  have c87 := qw4.cell c71
  have c88 := qw4.cell c72
  clear l59 c60 c61 l62 c63 c64 l65 c66 c67 l68 c69 c70 l73 c71 c72
  have uw4 := vW58.trans qw4
  clear qw4 vW58
  go_wp2_with fail
  obtain ⟨W89, hW89⟩ : ∃ W89, W89 = w4.alloc (.cells #[.int .i8 i2, .int .i64 d2] 50) := ⟨_, rfl⟩
  have uW89 : Dn w4 W89 := by rw [hW89]; exact (Dn.refl _).alloc _
  have l90 := Nat.lt_of_lt_of_le l74 uW89.size
  have c91 := uW89.cell c75
  have c92 := uW89.cell c76
  have l93 := Nat.lt_of_lt_of_le l77 uW89.size
  have c94 := uW89.cell c78
  have c95 := uW89.cell c79
  have l96 := Nat.lt_of_lt_of_le l80 uW89.size
  have c97 := uW89.cell c81
  have c98 := uW89.cell c82
  have l99 := Nat.lt_of_lt_of_le l83 uW89.size
  have c100 := uW89.cell c84
  have c101 := uW89.cell c85
  have l102 := Nat.lt_of_lt_of_le l86 uW89.size
  have c103 := uW89.cell c87
  have c104 := uW89.cell c88
  clear l74 c75 c76 l77 c78 c79 l80 c81 c82 l83 c84 c85 l86 c87 c88
  have c105 : W89.cell? ⟨w4.heap.size, 0, none⟩ = some (.int .i8 i2) := by rw [hW89]; simp [go_sem]
  have c106 : W89.cell? ⟨w4.heap.size, 1, none⟩ = some (.int .i64 d2) := by rw [hW89]; simp [go_sem]
  have l107 : w4.heap.size < W89.heap.size := by rw [hW89]; simp <;> omega
  rw [← hW89]
  clear hW89
  have vW89 := uw4.trans uW89
  clear uW89 uw4
  have hS108 := kdB_12 (W := W89) (Dn.refl _) ⟨Dn.refl _, c91, c92, c94, c95, c97, c98, c100, c101, c103, c104, c105, c106⟩
  have HShS108 := Lib.hid hS108
  clear c91 c92 c94 c95 c97 c98 c100 c101 c103 c104 c105 c106
  go_region_held3 (fun w' => Dn W89 w' ∧ w'.cell? ⟨w.heap.size, 0, none⟩ = some (.int .i8 0) ∧ w'.cell? ⟨w.heap.size, 1, none⟩ = some (.int .i64 d) ∧ w'.cell? ⟨w.heap.size + 1, 0, none⟩ = some (.int .i8 j) ∧ w'.cell? ⟨w.heap.size + 1, 1, none⟩ = some (.int .i64 f) ∧ w'.cell? ⟨w1.heap.size, 0, none⟩ = some (.int .i8 0) ∧ w'.cell? ⟨w1.heap.size, 1, none⟩ = some (.int .i64 (d + 1)) ∧ w'.cell? ⟨w2.heap.size, 0, none⟩ = some (.int .i8 i2) ∧ w'.cell? ⟨w2.heap.size, 1, none⟩ = some (.int .i64 d2) ∧ w'.cell? ⟨w3.heap.size, 0, none⟩ = some (.int .i8 0) ∧ w'.cell? ⟨w3.heap.size, 1, none⟩ = some (.int .i64 (d + 1)) ∧ w'.cell? ⟨w4.heap.size, 0, none⟩ = some (.int .i8 i2) ∧ w'.cell? ⟨w4.heap.size, 1, none⟩ = some (.int .i64 d2))
    (first | exact kdB_12 ((Dn.refl _).drew) hS108 | exact kdB_12 ‹Dn _ _› ‹_› | exact kdB_12 (Up.dn ‹Up _ _›) ‹_› | assumption)
    (first
      | (go_at_call 48; refine (eChk _ _ _).mono ?_; rintro e wa ⟨rfl, qa⟩; replace qa := Up.dn qa)
      | (go_at_call 49; refine (rChk8 _ _ _).mono ?_; rintro e wa ⟨rfl, qa⟩; replace qa := Up.dn qa)
      | (go_at_call 50; refine (g8_any _ _ _ _ _ _ _ (by first | assumption | exact G1.out | exact G2.out)).mono ?_; rintro e wa ⟨rfl, qa⟩; replace qa := Up.dn qa))
  all_goals
    clear hS108
    obtain ⟨uf121, c109, c110, c111, c112, c113, c114, c115, c116, c117, c118, c119, c120⟩ := (‹Dn W89 _ ∧ _› : _ ∧ _)
    obtain ⟨w122, rfl⟩ : ∃ w122 : World, w122 = wa := ⟨_, rfl⟩
    have l123 := Nat.lt_of_lt_of_le l90 uf121.size
    clear l90
    have l124 := Nat.lt_of_lt_of_le l93 uf121.size
    clear l93
    have l125 := Nat.lt_of_lt_of_le l96 uf121.size
    clear l96
    have l126 := Nat.lt_of_lt_of_le l99 uf121.size
    clear l99
    have l127 := Nat.lt_of_lt_of_le l102 uf121.size
    clear l102
    have l128 := Nat.lt_of_lt_of_le l107 uf121.size
    clear l107
    have vuf121 := vW89.trans uf121
    clear uf121 vW89 HShS108
    clear c115 c116 l126
    clear c117 c118 l127
    clear c119 c120 l128
    go_wp2_with fail
    refine (HB.out _).mono ?_
    rintro e w5 ⟨rfl, qw5⟩
    replace qw5 := qw5.dn
    have l129 := Nat.lt_of_lt_of_le l123 qw5.size
    have c130 := qw5.cell c109
    have c131 := qw5.cell c110
    have l132 := Nat.lt_of_lt_of_le l124 qw5.size
    have c133 := qw5.cell c111
    have c134 := qw5.cell c112
    have l135 := Nat.lt_of_lt_of_le l125 qw5.size
    have c136 := qw5.cell c113
    have c137 := qw5.cell c114
    clear l123 c109 c110 l124 c111 c112 l125 c113 c114
    have uw5 := vuf121.trans qw5
    clear qw5 vuf121
    go_wp2_with fail
    obtain ⟨W138, hW138⟩ : ∃ W138, W138 = w5.alloc (.cells #[.int .i8 0, .int .i64 d] 50) := ⟨_, rfl⟩
    have uW138 : Dn w5 W138 := by rw [hW138]; exact (Dn.refl _).alloc _
    have l139 := Nat.lt_of_lt_of_le l129 uW138.size
    have c140 := uW138.cell c130
    have c141 := uW138.cell c131
    have l142 := Nat.lt_of_lt_of_le l132 uW138.size
    have c143 := uW138.cell c133
    have c144 := uW138.cell c134
    have l145 := Nat.lt_of_lt_of_le l135 uW138.size
    have c146 := uW138.cell c136
    have c147 := uW138.cell c137
    clear l129 c130 c131 l132 c133 c134 l135 c136 c137
    have c148 : W138.cell? ⟨w5.heap.size, 0, none⟩ = some (.int .i8 0) := by rw [hW138]; simp [go_sem]
    have c149 : W138.cell? ⟨w5.heap.size, 1, none⟩ = some (.int .i64 d) := by rw [hW138]; simp [go_sem]
    have l150 : w5.heap.size < W138.heap.size := by rw [hW138]; simp <;> omega
    rw [← hW138]
    clear hW138
    have vW138 := uw5.trans uW138
    clear uW138 uw5
    have hS151 := kdB_8 (W := W138) (Dn.refl _) ⟨Dn.refl _, c140, c141, c143, c144, c146, c147, c148, c149⟩
    have HShS151 := Lib.hid hS151
    clear c140 c141 c143 c144 c146 c147 c148 c149
    refine wp_region_held_drew (S := fun w' => Dn W138 w' ∧ w'.cell? ⟨w.heap.size, 0, none⟩ = some (.int .i8 0) ∧ w'.cell? ⟨w.heap.size, 1, none⟩ = some (.int .i64 d) ∧ w'.cell? ⟨w.heap.size + 1, 0, none⟩ = some (.int .i8 j) ∧ w'.cell? ⟨w.heap.size + 1, 1, none⟩ = some (.int .i64 f) ∧ w'.cell? ⟨w1.heap.size, 0, none⟩ = some (.int .i8 0) ∧ w'.cell? ⟨w1.heap.size, 1, none⟩ = some (.int .i64 (d + 1)) ∧ w'.cell? ⟨w5.heap.size, 0, none⟩ = some (.int .i8 0) ∧ w'.cell? ⟨w5.heap.size, 1, none⟩ = some (.int .i64 d)) (by kernel_rfl) ?_ (fun hHeld => ?_)
    · (try dsimp only); (first | exact kdB_8 ((Dn.refl _).drew) hS151 | exact kdB_8 ‹Dn _ _› ‹_› | exact kdB_8 (Up.dn ‹Up _ _›) ‹_› | assumption)
    refine wpAnyH_take (i := 0) (v := ?_) rfl (by kernel_rfl) (by kernel_rfl) (by kernel_rfl) (fun _ _ _ h => h) (Or.inl ⟨by rfl, ?_⟩) (by assumption) ?_
    rotate_left
    · (intro w hSw; (try dsimp only at hSw); go_simp)
      all_goals with_reducible rfl
    try simp only [Act.put, List.getElem_toArray, List.getElem_cons_succ, List.getElem_cons_zero, List.setIfInBounds_toArray, List.set_cons_zero, List.set_cons_succ]
    refine wpAnyH_take (i := 1) (v := ?_) rfl (by kernel_rfl) (by kernel_rfl) (by kernel_rfl) (fun _ _ _ h => h) (Or.inl ⟨by rfl, ?_⟩) (by assumption) ?_
    rotate_left
    · (intro w hSw; (try dsimp only at hSw); go_simp)
      all_goals with_reducible rfl
    try simp only [Act.put, List.getElem_toArray, List.getElem_cons_succ, List.getElem_cons_zero, List.setIfInBounds_toArray, List.set_cons_zero, List.set_cons_succ]
    refine wpAnyH_take (i := 2) (v := ?_) rfl (by kernel_rfl) (by kernel_rfl) (by kernel_rfl) (fun _ _ _ h => h) (Or.inl ⟨by rfl, ?_⟩) (by assumption) ?_
    rotate_left
    · (intro w hSw; (try dsimp only at hSw); go_simp)
      all_goals with_reducible rfl
    try simp only [Act.put, List.getElem_toArray, List.getElem_cons_succ, List.getElem_cons_zero, List.setIfInBounds_toArray, List.set_cons_zero, List.set_cons_succ]
    refine wpAnyH_ready (rs := [3]) (by kernel_rfl) (by simp) ?_
    refine AllReadyH.cons rfl (fun K hK => ?_) AllReadyH.nil
    go_simp
    (first
        | (go_at_call 50; refine (g8_ok 0 d _).mono ?_; rintro e wa ⟨rfl, qa⟩; replace qa := Up.dn qa)
        | (go_at_call 51; refine (eOf d _).mono ?_; rintro e wa ⟨rfl, qa⟩; replace qa := Up.dn qa)
        | (go_at_call 43; refine (lives8 _ (hE.dn (vW138.trans (‹Dn W138 _ ∧ _› : _ ∧ _).1))).mono ?_; rintro e wa ⟨rfl, qa⟩)
        | (go_at_call 39; refine (HC.out _).mono ?_; rintro e wa ⟨rfl, qa⟩; replace qa := Up.dn qa))
    try go_wp2_with fail
    refine hK.out _ _ ?_ (fun hHeld => ?_)
    · (try dsimp only); (first | exact kdB_8 ((Dn.refl _).drew) hS151 | exact kdB_8 ‹Dn _ _› ‹_› | exact kdB_8 (Up.dn ‹Up _ _›) ‹_› | assumption)
    clear hK K
    try simp only [Act.put, List.getElem_toArray, List.getElem_cons_succ, List.getElem_cons_zero, List.setIfInBounds_toArray, List.set_cons_zero, List.set_cons_succ]
    refine wpAnyH_take (i := 4) (v := ?_) rfl (by kernel_rfl) (by kernel_rfl) (by kernel_rfl) (fun _ _ _ h => h) (Or.inl ⟨by rfl, ?_⟩) (by assumption) ?_
    rotate_left
    · (intro w hSw; (try dsimp only at hSw); go_simp)
      all_goals with_reducible rfl
    try simp only [Act.put, List.getElem_toArray, List.getElem_cons_succ, List.getElem_cons_zero, List.setIfInBounds_toArray, List.set_cons_zero, List.set_cons_succ]
    refine wpAnyH_take (i := 5) (v := ?_) rfl (by kernel_rfl) (by kernel_rfl) (by kernel_rfl) (fun _ _ _ h => h) (Or.inl ⟨by rfl, ?_⟩) (by assumption) ?_
    rotate_left
    · (intro w hSw; (try dsimp only at hSw); go_simp)
      all_goals with_reducible rfl
    try simp only [Act.put, List.getElem_toArray, List.getElem_cons_succ, List.getElem_cons_zero, List.setIfInBounds_toArray, List.set_cons_zero, List.set_cons_succ]
    refine wpAnyH_take (i := 6) (v := ?_) rfl (by kernel_rfl) (by kernel_rfl) (by kernel_rfl) (fun _ _ _ h => h) (Or.inl ⟨by rfl, ?_⟩) (by assumption) ?_
    rotate_left
    · (intro w hSw; (try dsimp only at hSw); go_simp)
      all_goals with_reducible rfl
    try simp only [Act.put, List.getElem_toArray, List.getElem_cons_succ, List.getElem_cons_zero, List.setIfInBounds_toArray, List.set_cons_zero, List.set_cons_succ]
    refine wpAnyH_ready (rs := [7]) (by kernel_rfl) (by simp) ?_
    refine AllReadyH.cons rfl (fun K hK => ?_) AllReadyH.nil
    go_simp
    (first
        | (go_at_call 50; refine (g8_ok 0 d _).mono ?_; rintro e wa ⟨rfl, qa⟩; replace qa := Up.dn qa)
        | (go_at_call 51; refine (eOf d _).mono ?_; rintro e wa ⟨rfl, qa⟩; replace qa := Up.dn qa)
        | (go_at_call 43; refine (lives8 _ (hE.dn (vW138.trans (‹Dn W138 _ ∧ _› : _ ∧ _).1))).mono ?_; rintro e wa ⟨rfl, qa⟩)
        | (go_at_call 39; refine (HC.out _).mono ?_; rintro e wa ⟨rfl, qa⟩; replace qa := Up.dn qa))
    try go_wp2_with fail
    refine hK.out _ _ ?_ (fun hHeld => ?_)
    · (try dsimp only); (first | exact kdB_8 ((Dn.refl _).drew) hS151 | exact kdB_8 ‹Dn _ _› ‹_› | exact kdB_8 (Up.dn ‹Up _ _›) ‹_› | assumption)
    clear hK K
    try simp only [Act.put, List.getElem_toArray, List.getElem_cons_succ, List.getElem_cons_zero, List.setIfInBounds_toArray, List.set_cons_zero, List.set_cons_succ]
    refine wpAnyH_take (i := 8) (v := ?_) rfl (by kernel_rfl) (by kernel_rfl) (by kernel_rfl) (fun _ _ _ h => h) (Or.inl ⟨by rfl, ?_⟩) (by assumption) ?_
    rotate_left
    · (intro w hSw; (try dsimp only at hSw); go_simp)
      all_goals with_reducible rfl
    try simp only [Act.put, List.getElem_toArray, List.getElem_cons_succ, List.getElem_cons_zero, List.setIfInBounds_toArray, List.set_cons_zero, List.set_cons_succ]
    refine wpAnyH_take (i := 9) (v := ?_) rfl (by kernel_rfl) (by kernel_rfl) (by kernel_rfl) (fun _ _ _ h => h) (Or.inl ⟨by rfl, ?_⟩) (by assumption) ?_
    rotate_left
    · (intro w hSw; (try dsimp only at hSw); go_simp)
      all_goals with_reducible rfl
    try simp only [Act.put, List.getElem_toArray, List.getElem_cons_succ, List.getElem_cons_zero, List.setIfInBounds_toArray, List.set_cons_zero, List.set_cons_succ]
    refine wpAnyH_take (i := 10) (v := undef) rfl (by kernel_rfl) (by kernel_rfl) (by kernel_rfl) (fun _ _ _ h => h) (Or.inr ⟨by rfl, rfl⟩) (by assumption) ?_
    try simp only [Act.put, List.getElem_toArray, List.getElem_cons_succ, List.getElem_cons_zero, List.setIfInBounds_toArray, List.set_cons_zero, List.set_cons_succ]
    refine wpAnyH_take (i := 11) (v := undef) rfl (by kernel_rfl) (by kernel_rfl) (by kernel_rfl) (fun _ _ _ h => h) (Or.inr ⟨by rfl, rfl⟩) (by assumption) ?_
    try simp only [Act.put, List.getElem_toArray, List.getElem_cons_succ, List.getElem_cons_zero, List.setIfInBounds_toArray, List.set_cons_zero, List.set_cons_succ]
    refine wpAnyH_ready (rs := [12]) (by kernel_rfl) (by simp) ?_
    refine AllReadyH.cons rfl (fun K hK => ?_) AllReadyH.nil
    go_simp
    refine hK.out _ _ ?_ (fun hHeld => ?_)
    · (try dsimp only); (first | exact kdB_8 ((Dn.refl _).drew) hS151 | exact kdB_8 ‹Dn _ _› ‹_› | exact kdB_8 (Up.dn ‹Up _ _›) ‹_› | assumption)
    clear hK K
    try simp only [Act.put, List.getElem_toArray, List.getElem_cons_succ, List.getElem_cons_zero, List.setIfInBounds_toArray, List.set_cons_zero, List.set_cons_succ]
    refine wpAnyH_take (i := 13) (v := undef) rfl (by kernel_rfl) (by kernel_rfl) (by kernel_rfl) (fun _ _ _ h => h) (Or.inr ⟨by rfl, rfl⟩) (by assumption) ?_
    try simp only [Act.put, List.getElem_toArray, List.getElem_cons_succ, List.getElem_cons_zero, List.setIfInBounds_toArray, List.set_cons_zero, List.set_cons_succ]
    refine wpAnyH_take (i := 14) (v := ?_) rfl (by kernel_rfl) (by kernel_rfl) (by kernel_rfl) (fun _ _ _ h => h) (Or.inl ⟨by rfl, ?_⟩) (by assumption) ?_
    rotate_left
    · (intro w hSw; (try dsimp only at hSw); go_simp)
      all_goals with_reducible rfl
    try simp only [Act.put, List.getElem_toArray, List.getElem_cons_succ, List.getElem_cons_zero, List.setIfInBounds_toArray, List.set_cons_zero, List.set_cons_succ]
    refine wpAnyH_take (i := 15) (v := ?_) rfl (by kernel_rfl) (by kernel_rfl) (by kernel_rfl) (fun _ _ _ h => h) (Or.inl ⟨by rfl, ?_⟩) (by assumption) ?_
    rotate_left
    · (intro w hSw; (try dsimp only at hSw); go_simp)
      all_goals with_reducible rfl
    try simp only [Act.put, List.getElem_toArray, List.getElem_cons_succ, List.getElem_cons_zero, List.setIfInBounds_toArray, List.set_cons_zero, List.set_cons_succ]
    refine wpAnyH_take (i := 16) (v := ?_) rfl (by kernel_rfl) (by kernel_rfl) (by kernel_rfl) (fun _ _ _ h => h) (Or.inl ⟨by rfl, ?_⟩) (by assumption) ?_
    rotate_left
    · (intro w hSw; (try dsimp only at hSw); go_simp)
      all_goals with_reducible rfl
    try simp only [Act.put, List.getElem_toArray, List.getElem_cons_succ, List.getElem_cons_zero, List.setIfInBounds_toArray, List.set_cons_zero, List.set_cons_succ]
    refine wpAnyH_take (i := 17) (v := ?_) rfl (by kernel_rfl) (by kernel_rfl) (by kernel_rfl) (fun _ _ _ h => h) (Or.inl ⟨by rfl, ?_⟩) (by assumption) ?_
    rotate_left
    · (intro w hSw; (try dsimp only at hSw); go_simp)
      all_goals with_reducible rfl
    try simp only [Act.put, List.getElem_toArray, List.getElem_cons_succ, List.getElem_cons_zero, List.setIfInBounds_toArray, List.set_cons_zero, List.set_cons_succ]
    refine wpAnyH_take (i := 18) (v := ?_) rfl (by kernel_rfl) (by kernel_rfl) (by kernel_rfl) (fun _ _ _ h => h) (Or.inl ⟨by rfl, ?_⟩) (by assumption) ?_
    rotate_left
    · (intro w hSw; (try dsimp only at hSw); go_simp)
      all_goals with_reducible rfl
    try simp only [Act.put, List.getElem_toArray, List.getElem_cons_succ, List.getElem_cons_zero, List.setIfInBounds_toArray, List.set_cons_zero, List.set_cons_succ]
    refine wpAnyH_take (i := 20) (v := ?_) rfl (by kernel_rfl) (by kernel_rfl) (by kernel_rfl) (fun _ _ _ h => h) (Or.inl ⟨by rfl, ?_⟩) (by assumption) ?_
    rotate_left
    · (intro w hSw; (try dsimp only at hSw); go_simp)
      all_goals with_reducible rfl
    try simp only [Act.put, List.getElem_toArray, List.getElem_cons_succ, List.getElem_cons_zero, List.setIfInBounds_toArray, List.set_cons_zero, List.set_cons_succ]
    refine wpAnyH_ready (rs := [19]) (by kernel_rfl) (by simp) ?_
    refine AllReadyH.cons rfl (fun K hK => ?_) AllReadyH.nil
    go_simp
    (first
        | (go_at_call 50; refine (g8_ok 0 d _).mono ?_; rintro e wa ⟨rfl, qa⟩; replace qa := Up.dn qa)
        | (go_at_call 51; refine (eOf d _).mono ?_; rintro e wa ⟨rfl, qa⟩; replace qa := Up.dn qa)
        | (go_at_call 43; refine (lives8 _ (hE.dn (vW138.trans (‹Dn W138 _ ∧ _› : _ ∧ _).1))).mono ?_; rintro e wa ⟨rfl, qa⟩)
        | (go_at_call 39; refine (HC.out _).mono ?_; rintro e wa ⟨rfl, qa⟩; replace qa := Up.dn qa))
    try go_wp2_with fail
    refine hK.out _ _ ?_ (fun hHeld => ?_)
    · (try dsimp only); (first | exact kdB_8 ((Dn.refl _).drew) hS151 | exact kdB_8 ‹Dn _ _› ‹_› | exact kdB_8 (Up.dn ‹Up _ _›) ‹_› | assumption)
    clear hK K
    try simp only [Act.put, List.getElem_toArray, List.getElem_cons_succ, List.getElem_cons_zero, List.setIfInBounds_toArray, List.set_cons_zero, List.set_cons_succ]
    refine wpAnyH_take (i := 21) (v := ?_) rfl (by kernel_rfl) (by kernel_rfl) (by kernel_rfl) (fun _ _ _ h => h) (Or.inl ⟨by rfl, ?_⟩) (by assumption) ?_
    rotate_left
    · (intro w hSw; (try dsimp only at hSw); go_simp)
      all_goals with_reducible rfl
    try simp only [Act.put, List.getElem_toArray, List.getElem_cons_succ, List.getElem_cons_zero, List.setIfInBounds_toArray, List.set_cons_zero, List.set_cons_succ]
    refine wpAnyH_take (i := 22) (v := ?_) rfl (by kernel_rfl) (by kernel_rfl) (by kernel_rfl) (fun _ _ _ h => h) (Or.inl ⟨by rfl, ?_⟩) (by assumption) ?_
    rotate_left
    · (intro w hSw; (try dsimp only at hSw); go_simp)
      all_goals with_reducible rfl
    try simp only [Act.put, List.getElem_toArray, List.getElem_cons_succ, List.getElem_cons_zero, List.setIfInBounds_toArray, List.set_cons_zero, List.set_cons_succ]
    refine wpAnyH_take (i := 23) (v := ?_) rfl (by kernel_rfl) (by kernel_rfl) (by kernel_rfl) (fun _ _ _ h => h) (Or.inl ⟨by rfl, ?_⟩) (by assumption) ?_
    rotate_left
    · (intro w hSw; (try dsimp only at hSw); go_simp)
      all_goals with_reducible rfl
    try simp only [Act.put, List.getElem_toArray, List.getElem_cons_succ, List.getElem_cons_zero, List.setIfInBounds_toArray, List.set_cons_zero, List.set_cons_succ]
    refine wpAnyH_ready (rs := [24]) (by kernel_rfl) (by simp) ?_
    refine AllReadyH.cons rfl (fun K hK => ?_) AllReadyH.nil
    go_simp
    (first
        | (go_at_call 50; refine (g8_ok 0 d _).mono ?_; rintro e wa ⟨rfl, qa⟩; replace qa := Up.dn qa)
        | (go_at_call 51; refine (eOf d _).mono ?_; rintro e wa ⟨rfl, qa⟩; replace qa := Up.dn qa)
        | (go_at_call 43; refine (lives8 _ (hE.dn (vW138.trans (‹Dn W138 _ ∧ _› : _ ∧ _).1))).mono ?_; rintro e wa ⟨rfl, qa⟩)
        | (go_at_call 39; refine (HC.out _).mono ?_; rintro e wa ⟨rfl, qa⟩; replace qa := Up.dn qa))
    try go_wp2_with fail
    refine hK.out _ _ ?_ (fun hHeld => ?_)
    · (try dsimp only); (first | exact kdB_8 ((Dn.refl _).drew) hS151 | exact kdB_8 ‹Dn _ _› ‹_› | exact kdB_8 (Up.dn ‹Up _ _›) ‹_› | assumption)
    clear hK K
    try simp only [Act.put, List.getElem_toArray, List.getElem_cons_succ, List.getElem_cons_zero, List.setIfInBounds_toArray, List.set_cons_zero, List.set_cons_succ]
    refine wpAnyH_take (i := 25) (v := ?_) rfl (by kernel_rfl) (by kernel_rfl) (by kernel_rfl) (fun _ _ _ h => h) (Or.inl ⟨by rfl, ?_⟩) (by assumption) ?_
    rotate_left
    · (intro w hSw; (try dsimp only at hSw); go_simp)
      all_goals with_reducible rfl
    try simp only [Act.put, List.getElem_toArray, List.getElem_cons_succ, List.getElem_cons_zero, List.setIfInBounds_toArray, List.set_cons_zero, List.set_cons_succ]
    refine wpAnyH_take (i := 26) (v := ?_) rfl (by kernel_rfl) (by kernel_rfl) (by kernel_rfl) (fun _ _ _ h => h) (Or.inl ⟨by rfl, ?_⟩) (by assumption) ?_
    rotate_left
    · (intro w hSw; (try dsimp only at hSw); go_simp)
      all_goals with_reducible rfl
    try simp only [Act.put, List.getElem_toArray, List.getElem_cons_succ, List.getElem_cons_zero, List.setIfInBounds_toArray, List.set_cons_zero, List.set_cons_succ]
    refine wpAnyH_done (by kernel_rfl) ?_ _
    all_goals skip
    all_goals
      clear hS151
      obtain ⟨uf160, c152, c153, c154, c155, c156, c157, c158, c159⟩ := (‹Dn W138 _ ∧ _› : _ ∧ _)
      obtain ⟨w161, rfl⟩ : ∃ w161 : World, w161 = wa := ⟨_, rfl⟩
      have l162 := Nat.lt_of_lt_of_le l139 uf160.size
      clear l139
      have l163 := Nat.lt_of_lt_of_le l142 uf160.size
      clear l142
      have l164 := Nat.lt_of_lt_of_le l145 uf160.size
      clear l145
      have l165 := Nat.lt_of_lt_of_le l150 uf160.size
      clear l150
      have vuf160 := vW138.trans uf160
      clear uf160 vW138 HShS151
      go_wp2_with fail
      go_ret
      exact ⟨rfl, vuf160⟩
set_option maxHeartbeats 8000000 in
set_option maxRecDepth 100000 in
theorem endsNext_fit2 (d j f i2 d2 r2 : Int) (hd : I64 d) (hn : I64 (d + 1)) (h2 : Mv 0 d (-1) i2 d2 r2) (hc : eC 0 d j f < 0) (w : World) (hE : EnvI w) :
    Calls Tryd.prog 10 #[.agg #[.int .i8 0, .int .i64 d], .agg #[.int .i8 j, .int .i64 f]] w fun e w' => e = .returned (.bool true) ∧ Dn w w' := by
  have h1 : Mv 0 d 1 0 (d + 1) 0 := Or.inr (Or.inr ⟨rfl, rfl, Or.inl ⟨hn, rfl, rfl⟩⟩)
  have H1 := Lib.hid (fun W => eNext 0 d 0 (d + 1) 0 W hd h1)
  have H2 := Lib.hid (fun W => ePrev 0 d i2 d2 r2 W hd h2)
  have H3 := Lib.hid (fun W => rNext8 0 d 0 (d + 1) 0 W hd h1)
  have H4 := Lib.hid (fun W => rPrev8 0 d i2 d2 r2 W hd h2)
  have G1 := Lib.hid (mv_g8 h1)
  have G2 := Lib.hid (mv_g8 h2)
  have HB := Lib.hid (fun W => ePrev 0 (d + 1) 0 d 0 W hn (Or.inr (Or.inr ⟨rfl, rfl, Or.inl ⟨by rw [show d + 1 + -1 = d by omega]; exact hd, by omega, rfl⟩⟩)))
  have HC := Lib.hid (fun W => eCmp 0 d j f W)
  have HD := Lib.hid (fun W => eCmp j f 0 (d + 1) W)
  have hc2 := eC_next d j f hc
  generalize eC 0 d j f = c at *
  generalize eC j f 0 (d + 1) = c' at *
  have t1 : decide (0 ≤ c) = false := by simp; omega
  have t2 : decide (0 ≤ c') = true := by simpa using hc2
  clear hc hc2
  have hd1 := hd.1
  have hd2 := hd.2
  have hn1 := hn.1
  have hn2 := hn.2
  clear h1 h2 hd hn
  go_enter Tryd.func10, Tryd.ntmps10
  go_wp2_with fail
  obtain ⟨W1, hW1⟩ : ∃ W1, W1 = (w.alloc (.cells #[.int .i8 0, .int .i64 d] 50)).alloc (.cells #[.int .i8 j, .int .i64 f] 50) := ⟨_, rfl⟩
  have uW1 : Dn w W1 := by rw [hW1]; exact ((Dn.refl _).alloc _).alloc _
  have c2 : W1.cell? ⟨w.heap.size, 0, none⟩ = some (.int .i8 0) := by rw [hW1]; simp [go_sem]
  have c3 : W1.cell? ⟨w.heap.size, 1, none⟩ = some (.int .i64 d) := by rw [hW1]; simp [go_sem]
  have l4 : w.heap.size < W1.heap.size := by rw [hW1]; simp <;> omega
  have c5 : W1.cell? ⟨w.heap.size + 1, 0, none⟩ = some (.int .i8 j) := by rw [hW1]; simp [go_sem]
  have c6 : W1.cell? ⟨w.heap.size + 1, 1, none⟩ = some (.int .i64 f) := by rw [hW1]; simp [go_sem]
  have l7 : w.heap.size + 1 < W1.heap.size := by rw [hW1]; simp <;> omega
  rw [← hW1]
  clear hW1
  refine (H1.out _).mono ?_
  rintro e w1 ⟨rfl, qw1⟩
  replace qw1 := qw1.dn
  have l8 := Nat.lt_of_lt_of_le l4 qw1.size
  have c9 := qw1.cell c2
  have c10 := qw1.cell c3
  have l11 := Nat.lt_of_lt_of_le l7 qw1.size
  have c12 := qw1.cell c5
  have c13 := qw1.cell c6
  clear l4 c2 c3 l7 c5 c6
  have uw1 := uW1.trans qw1
  clear qw1 uW1
  go_wp2_with fail
  obtain ⟨W14, hW14⟩ : ∃ W14, W14 = w1.alloc (.cells #[.int .i8 0, .int .i64 (d + 1)] 50) := ⟨_, rfl⟩
  have uW14 : Dn w1 W14 := by rw [hW14]; exact (Dn.refl _).alloc _
  have l15 := Nat.lt_of_lt_of_le l8 uW14.size
  have c16 := uW14.cell c9
  have c17 := uW14.cell c10
  have l18 := Nat.lt_of_lt_of_le l11 uW14.size
  have c19 := uW14.cell c12
  have c20 := uW14.cell c13
  clear l8 c9 c10 l11 c12 c13
  have c21 : W14.cell? ⟨w1.heap.size, 0, none⟩ = some (.int .i8 0) := by rw [hW14]; simp [go_sem]
  have c22 : W14.cell? ⟨w1.heap.size, 1, none⟩ = some (.int .i64 (d + 1)) := by rw [hW14]; simp [go_sem]
  have l23 : w1.heap.size < W14.heap.size := by rw [hW14]; simp <;> omega
  rw [← hW14]
  clear hW14
  have vW14 := uw1.trans uW14
  clear uW14 uw1
  refine (H2.out _).mono ?_
  rintro e w2 ⟨rfl, qw2⟩
  replace qw2 := qw2.dn
  have l24 := Nat.lt_of_lt_of_le l15 qw2.size
  have c25 := qw2.cell c16
  have c26 := qw2.cell c17
  have l27 := Nat.lt_of_lt_of_le l18 qw2.size
  have c28 := qw2.cell c19
  have c29 := qw2.cell c20
  have l30 := Nat.lt_of_lt_of_le l23 qw2.size
  have c31 := qw2.cell c21
  have c32 := qw2.cell c22
  clear l15 c16 c17 l18 c19 c20 l23 c21 c22
  have uw2 := vW14.trans qw2
  clear qw2 vW14
  go_wp2_with fail
  obtain ⟨W33, hW33⟩ : ∃ W33, W33 = w2.alloc (.cells #[.int .i8 i2, .int .i64 d2] 50) := ⟨_, rfl⟩
  have uW33 : Dn w2 W33 := by rw [hW33]; exact (Dn.refl _).alloc _
  have l34 := Nat.lt_of_lt_of_le l24 uW33.size
  have c35 := uW33.cell c25
  have c36 := uW33.cell c26
  have l37 := Nat.lt_of_lt_of_le l27 uW33.size
  have c38 := uW33.cell c28
  have c39 := uW33.cell c29
  have l40 := Nat.lt_of_lt_of_le l30 uW33.size
  have c41 := uW33.cell c31
  have c42 := uW33.cell c32
  clear l24 c25 c26 l27 c28 c29 l30 c31 c32
  have c43 : W33.cell? ⟨w2.heap.size, 0, none⟩ = some (.int .i8 i2) := by rw [hW33]; simp [go_sem]
  have c44 : W33.cell? ⟨w2.heap.size, 1, none⟩ = some (.int .i64 d2) := by rw [hW33]; simp [go_sem]
  have l45 : w2.heap.size < W33.heap.size := by rw [hW33]; simp <;> omega
  rw [← hW33]
  clear hW33
  have vW33 := uw2.trans uW33
  clear uW33 uw2
  refine (H3.out _).mono ?_
  rintro e w3 ⟨rfl, qw3⟩
  replace qw3 := qw3.dn
  have l46 := Nat.lt_of_lt_of_le l34 qw3.size
  have c47 := qw3.cell c35
  have c48 := qw3.cell c36
  have l49 := Nat.lt_of_lt_of_le l37 qw3.size
  have c50 := qw3.cell c38
  have c51 := qw3.cell c39
  have l52 := Nat.lt_of_lt_of_le l40 qw3.size
  have c53 := qw3.cell c41
  have c54 := qw3.cell c42
  have l55 := Nat.lt_of_lt_of_le l45 qw3.size
  have c56 := qw3.cell c43
  have c57 := qw3.cell c44
  clear l34 c35 c36 l37 c38 c39 l40 c41 c42 l45 c43 c44
  have uw3 := vW33.trans qw3
  clear qw3 vW33
  go_wp2_with fail
  obtain ⟨W58, hW58⟩ : ∃ W58, W58 = w3.alloc (.cells #[.int .i8 0, .int .i64 (d + 1)] 50) := ⟨_, rfl⟩
  have uW58 : Dn w3 W58 := by rw [hW58]; exact (Dn.refl _).alloc _
  have l59 := Nat.lt_of_lt_of_le l46 uW58.size
  have c60 := uW58.cell c47
  have c61 := uW58.cell c48
  have l62 := Nat.lt_of_lt_of_le l49 uW58.size
  have c63 := uW58.cell c50
  have c64 := uW58.cell c51
  have l65 := Nat.lt_of_lt_of_le l52 uW58.size
  have c66 := uW58.cell c53
  have c67 := uW58.cell c54
  have l68 := Nat.lt_of_lt_of_le l55 uW58.size
  have c69 := uW58.cell c56
  have c70 := uW58.cell c57
  clear l46 c47 c48 l49 c50 c51 l52 c53 c54 l55 c56 c57
  have c71 : W58.cell? ⟨w3.heap.size, 0, none⟩ = some (.int .i8 0) := by rw [hW58]; simp [go_sem]
  have c72 : W58.cell? ⟨w3.heap.size, 1, none⟩ = some (.int .i64 (d + 1)) := by rw [hW58]; simp [go_sem]
  have l73 : w3.heap.size < W58.heap.size := by rw [hW58]; simp <;> omega
  rw [← hW58]
  clear hW58
  have vW58 := uw3.trans uW58
  clear uW58 uw3
  refine (H4.out _).mono ?_
  rintro e w4 ⟨rfl, qw4⟩
  replace qw4 := qw4.dn
  have l74 := Nat.lt_of_lt_of_le l59 qw4.size
  have c75 := qw4.cell c60
  have c76 := qw4.cell c61
  have l77 := Nat.lt_of_lt_of_le l62 qw4.size
  have c78 := qw4.cell c63
  have c79 := qw4.cell c64
  have l80 := Nat.lt_of_lt_of_le l65 qw4.size
  have c81 := qw4.cell c66
  have c82 := qw4.cell c67
  have l83 := Nat.lt_of_lt_of_le l68 qw4.size
  have c84 := qw4.cell c69
  have c85 := qw4.cell c70
  have l86 := Nat.lt_of_lt_of_le l73 qw4.size
  have c87 := qw4.cell c71
  have c88 := qw4.cell c72
  clear l59 c60 c61 l62 c63 c64 l65 c66 c67 l68 c69 c70 l73 c71 c72
  have uw4 := vW58.trans qw4
  clear qw4 vW58
  go_wp2_with fail
  obtain ⟨W89, hW89⟩ : ∃ W89, W89 = w4.alloc (.cells #[.int .i8 i2, .int .i64 d2] 50) := ⟨_, rfl⟩
  have uW89 : Dn w4 W89 := by rw [hW89]; exact (Dn.refl _).alloc _
  have l90 := Nat.lt_of_lt_of_le l74 uW89.size
  have c91 := uW89.cell c75
  have c92 := uW89.cell c76
  have l93 := Nat.lt_of_lt_of_le l77 uW89.size
  have c94 := uW89.cell c78
  have c95 := uW89.cell c79
  have l96 := Nat.lt_of_lt_of_le l80 uW89.size
  have c97 := uW89.cell c81
  have c98 := uW89.cell c82
  have l99 := Nat.lt_of_lt_of_le l83 uW89.size
  have c100 := uW89.cell c84
  have c101 := uW89.cell c85
  have l102 := Nat.lt_of_lt_of_le l86 uW89.size
  have c103 := uW89.cell c87
  have c104 := uW89.cell c88
  clear l74 c75 c76 l77 c78 c79 l80 c81 c82 l83 c84 c85 l86 c87 c88
  have c105 : W89.cell? ⟨w4.heap.size, 0, none⟩ = some (.int .i8 i2) := by rw [hW89]; simp [go_sem]
  have c106 : W89.cell? ⟨w4.heap.size, 1, none⟩ = some (.int .i64 d2) := by rw [hW89]; simp [go_sem]
  have l107 : w4.heap.size < W89.heap.size := by rw [hW89]; simp <;> omega
  rw [← hW89]
  clear hW89
  have vW89 := uw4.trans uW89
  clear uW89 uw4
  have hS108 := kdB_12 (W := W89) (Dn.refl _) ⟨Dn.refl _, c91, c92, c94, c95, c97, c98, c100, c101, c103, c104, c105, c106⟩
  have HShS108 := Lib.hid hS108
  clear c91 c92 c94 c95 c97 c98 c100 c101 c103 c104 c105 c106
  go_region_held3 (fun w' => Dn W89 w' ∧ w'.cell? ⟨w.heap.size, 0, none⟩ = some (.int .i8 0) ∧ w'.cell? ⟨w.heap.size, 1, none⟩ = some (.int .i64 d) ∧ w'.cell? ⟨w.heap.size + 1, 0, none⟩ = some (.int .i8 j) ∧ w'.cell? ⟨w.heap.size + 1, 1, none⟩ = some (.int .i64 f) ∧ w'.cell? ⟨w1.heap.size, 0, none⟩ = some (.int .i8 0) ∧ w'.cell? ⟨w1.heap.size, 1, none⟩ = some (.int .i64 (d + 1)) ∧ w'.cell? ⟨w2.heap.size, 0, none⟩ = some (.int .i8 i2) ∧ w'.cell? ⟨w2.heap.size, 1, none⟩ = some (.int .i64 d2) ∧ w'.cell? ⟨w3.heap.size, 0, none⟩ = some (.int .i8 0) ∧ w'.cell? ⟨w3.heap.size, 1, none⟩ = some (.int .i64 (d + 1)) ∧ w'.cell? ⟨w4.heap.size, 0, none⟩ = some (.int .i8 i2) ∧ w'.cell? ⟨w4.heap.size, 1, none⟩ = some (.int .i64 d2))
    (first | exact kdB_12 ((Dn.refl _).drew) hS108 | exact kdB_12 ‹Dn _ _› ‹_› | exact kdB_12 (Up.dn ‹Up _ _›) ‹_› | assumption)
    (first
      | (go_at_call 48; refine (eChk _ _ _).mono ?_; rintro e wa ⟨rfl, qa⟩; replace qa := Up.dn qa)
      | (go_at_call 49; refine (rChk8 _ _ _).mono ?_; rintro e wa ⟨rfl, qa⟩; replace qa := Up.dn qa)
      | (go_at_call 50; refine (g8_any _ _ _ _ _ _ _ (by first | assumption | exact G1.out | exact G2.out)).mono ?_; rintro e wa ⟨rfl, qa⟩; replace qa := Up.dn qa))
  all_goals
    clear hS108
    obtain ⟨uf121, c109, c110, c111, c112, c113, c114, c115, c116, c117, c118, c119, c120⟩ := (‹Dn W89 _ ∧ _› : _ ∧ _)
    obtain ⟨w122, rfl⟩ : ∃ w122 : World, w122 = wa := ⟨_, rfl⟩
    have l123 := Nat.lt_of_lt_of_le l90 uf121.size
    clear l90
    have l124 := Nat.lt_of_lt_of_le l93 uf121.size
    clear l93
    have l125 := Nat.lt_of_lt_of_le l96 uf121.size
    clear l96
    have l126 := Nat.lt_of_lt_of_le l99 uf121.size
    clear l99
    have l127 := Nat.lt_of_lt_of_le l102 uf121.size
    clear l102
    have l128 := Nat.lt_of_lt_of_le l107 uf121.size
    clear l107
    have vuf121 := vW89.trans uf121
    clear uf121 vW89 HShS108
    clear c115 c116 l126
    clear c117 c118 l127
    clear c119 c120 l128
    go_wp2_with fail
    refine (HB.out _).mono ?_
    rintro e w5 ⟨rfl, qw5⟩
    replace qw5 := qw5.dn
    have l129 := Nat.lt_of_lt_of_le l123 qw5.size
    have c130 := qw5.cell c109
    have c131 := qw5.cell c110
    have l132 := Nat.lt_of_lt_of_le l124 qw5.size
    have c133 := qw5.cell c111
    have c134 := qw5.cell c112
    have l135 := Nat.lt_of_lt_of_le l125 qw5.size
    have c136 := qw5.cell c113
    have c137 := qw5.cell c114
    clear l123 c109 c110 l124 c111 c112 l125 c113 c114
    have uw5 := vuf121.trans qw5
    clear qw5 vuf121
    go_wp2_with fail
    obtain ⟨W138, hW138⟩ : ∃ W138, W138 = w5.alloc (.cells #[.int .i8 0, .int .i64 d] 50) := ⟨_, rfl⟩
    have uW138 : Dn w5 W138 := by rw [hW138]; exact (Dn.refl _).alloc _
    have l139 := Nat.lt_of_lt_of_le l129 uW138.size
    have c140 := uW138.cell c130
    have c141 := uW138.cell c131
    have l142 := Nat.lt_of_lt_of_le l132 uW138.size
    have c143 := uW138.cell c133
    have c144 := uW138.cell c134
    have l145 := Nat.lt_of_lt_of_le l135 uW138.size
    have c146 := uW138.cell c136
    have c147 := uW138.cell c137
    clear l129 c130 c131 l132 c133 c134 l135 c136 c137
    have c148 : W138.cell? ⟨w5.heap.size, 0, none⟩ = some (.int .i8 0) := by rw [hW138]; simp [go_sem]
    have c149 : W138.cell? ⟨w5.heap.size, 1, none⟩ = some (.int .i64 d) := by rw [hW138]; simp [go_sem]
    have l150 : w5.heap.size < W138.heap.size := by rw [hW138]; simp <;> omega
    rw [← hW138]
    clear hW138
    have vW138 := uw5.trans uW138
    clear uW138 uw5
    have hS151 := kdB_8 (W := W138) (Dn.refl _) ⟨Dn.refl _, c140, c141, c143, c144, c146, c147, c148, c149⟩
    have HShS151 := Lib.hid hS151
    clear c140 c141 c143 c144 c146 c147 c148 c149
    go_region_held3 (fun w' => Dn W138 w' ∧ w'.cell? ⟨w.heap.size, 0, none⟩ = some (.int .i8 0) ∧ w'.cell? ⟨w.heap.size, 1, none⟩ = some (.int .i64 d) ∧ w'.cell? ⟨w.heap.size + 1, 0, none⟩ = some (.int .i8 j) ∧ w'.cell? ⟨w.heap.size + 1, 1, none⟩ = some (.int .i64 f) ∧ w'.cell? ⟨w1.heap.size, 0, none⟩ = some (.int .i8 0) ∧ w'.cell? ⟨w1.heap.size, 1, none⟩ = some (.int .i64 (d + 1)) ∧ w'.cell? ⟨w5.heap.size, 0, none⟩ = some (.int .i8 0) ∧ w'.cell? ⟨w5.heap.size, 1, none⟩ = some (.int .i64 d))
      (first | exact kdB_8 ((Dn.refl _).drew) hS151 | exact kdB_8 ‹Dn _ _› ‹_› | exact kdB_8 (Up.dn ‹Up _ _›) ‹_› | assumption)
      (first
        | (go_at_call 50; refine (g8_ok 0 d _).mono ?_; rintro e wa ⟨rfl, qa⟩; replace qa := Up.dn qa)
        | (go_at_call 51; refine (eOf d _).mono ?_; rintro e wa ⟨rfl, qa⟩; replace qa := Up.dn qa)
        | (go_at_call 43; refine (lives8 _ (hE.dn (vW138.trans (‹Dn W138 _ ∧ _› : _ ∧ _).1))).mono ?_; rintro e wa ⟨rfl, qa⟩)
        | (go_at_call 39; (with_reducible refine (HC.out _).mono ?_); rintro e wa ⟨rfl, qa⟩; replace qa := Up.dn qa)
        | (go_at_call 39; (with_reducible refine (HD.out _).mono ?_); rintro e wa ⟨rfl, qa⟩; replace qa := Up.dn qa))
    all_goals
      clear hS151
      obtain ⟨uf160, c152, c153, c154, c155, c156, c157, c158, c159⟩ := (‹Dn W138 _ ∧ _› : _ ∧ _)
      obtain ⟨w161, rfl⟩ : ∃ w161 : World, w161 = wa := ⟨_, rfl⟩
      have l162 := Nat.lt_of_lt_of_le l139 uf160.size
      clear l139
      have l163 := Nat.lt_of_lt_of_le l142 uf160.size
      clear l142
      have l164 := Nat.lt_of_lt_of_le l145 uf160.size
      clear l145
      have l165 := Nat.lt_of_lt_of_le l150 uf160.size
      clear l150
      have vuf160 := vW138.trans uf160
      clear uf160 vW138 HShS151
      go_wp2_with fail
      go_ret
      exact ⟨rfl, vuf160⟩
theorem endsNext_true (i d j f : Int) (w : World) (hd : I64 d) (hf : I64 f) (hE : EnvI w) :
    Calls Tryd.prog 10 #[.agg #[.int .i8 i, .int .i64 d], .agg #[.int .i8 j, .int .i64 f]] w fun e w' => e = .returned (.bool true) ∧ Dn w w' := by
  obtain ⟨i1, d1, r1, h1, _⟩ := mv_ex i d 1 hd
  obtain ⟨i2, d2, r2, h2, _⟩ := mv_ex i d (-1) hd
  by_cases h0 : i = 0
  · subst h0
    by_cases hn : I64 (d + 1)
    · by_cases hc : 0 ≤ eC 0 d j f
      · exact endsNext_fit1 d j f i2 d2 r2 hd hn h2 hc w hE
      · exact endsNext_fit2 d j f i2 d2 r2 hd hn h2 (by omega) w hE
    · have h5 : Mv 0 d 1 0 0 15 := Or.inr (Or.inr ⟨rfl, rfl, Or.inr ⟨hn, rfl, rfl⟩⟩)
      exact endsNext_over 0 d j f 0 0 15 i2 d2 r2 hd h5 h2 (by decide) rfl w hE
  · exact endsNext_inf i d j f i1 d1 r1 i2 d2 r2 hd h1 h2 h0 w hE
end Go.Proofs.YtnibmofbalgobaaDoor
