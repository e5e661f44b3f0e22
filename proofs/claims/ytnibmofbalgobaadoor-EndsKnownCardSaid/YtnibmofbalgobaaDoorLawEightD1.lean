/-
  WALKS OF circalaw08: EndsOrder returns true. (Printed by wip/gen/law8d.py.)
-/
import Derived.Test.YtnibmofbalgobaaDoorLawEightD0
import Derived.Deep.DeepCutAuto
namespace Go.Proofs.YtnibmofbalgobaaDoor
open Go.RowKit
set_option linter.unusedVariables false
set_option linter.unusedSimpArgs false
set_option maxHeartbeats 8000000 in
set_option maxRecDepth 100000 in
theorem endsOrder_lia (i d j f k g : Int) (hn : eC i d j f = (-1)) (hd : i ≠ j) (hm : eC j f k g ≤ 0) (w : World) (hE : EnvI w) :
    Calls Tryd.prog 9 #[.agg #[.int .i8 i, .int .i64 d], .agg #[.int .i8 j, .int .i64 f], .agg #[.int .i8 k, .int .i64 g]] w fun e w' => e = .returned (.bool true) ∧ Dn w w' := by
  have hb := eC_anti i d j f
  rw [hn] at hb
  have t0 : (i == j) = false := by simpa using hd
  have HAB := Lib.hid (fun W => eCmp_at i d j f (-1) W hn)
  have HRR := Lib.hid (fun W => rCmp8_at i d j f (-1) W hn)
  have HBA := Lib.hid (fun W => eCmp_at j f i d 1 W (by first | exact hn | (rw [hb]; rfl) | rw [hb]))
  have HBC := Lib.hid (fun W => eCmp j f k g W)
  have HAC := Lib.hid (fun W => eCmp i d k g W)
  have hp := eC_trans i d j f k g (by rw [hn]; decide) hm
  generalize eC j f k g = cb at *
  generalize eC i d k g = ca at *
  have t1 : decide (cb ≤ 0) = true := by simpa using hm
  have t2 : decide (0 < ca) = false := by simp; omega
  clear hm hp
  have HMIN := Lib.hid (fun W => eMin_1 i d j f W (by first | (rw [hn]; decide) | (rw [hb]; decide)))
  have HMAX := Lib.hid (fun W => eMax_2 i d j f W (by first | (rw [hn]; decide) | (rw [hb]; decide)))
  clear hn hb hd
  go_enter Tryd.func9, Tryd.ntmps9
  go_wp2_with fail
  obtain ⟨W1, hW1⟩ : ∃ W1, W1 = ((w.alloc (.cells #[.int .i8 i, .int .i64 d] 50)).alloc (.cells #[.int .i8 j, .int .i64 f] 50)).alloc (.cells #[.int .i8 k, .int .i64 g] 50) := ⟨_, rfl⟩
  have uW1 : Dn w W1 := by rw [hW1]; exact (((Dn.refl _).alloc _).alloc _).alloc _
  have c2 : W1.cell? ⟨w.heap.size, 0, none⟩ = some (.int .i8 i) := by rw [hW1]; simp [go_sem]
  have c3 : W1.cell? ⟨w.heap.size, 1, none⟩ = some (.int .i64 d) := by rw [hW1]; simp [go_sem]
  have l4 : w.heap.size < W1.heap.size := by rw [hW1]; simp <;> omega
  have c5 : W1.cell? ⟨w.heap.size + 1, 0, none⟩ = some (.int .i8 j) := by rw [hW1]; simp [go_sem]
  have c6 : W1.cell? ⟨w.heap.size + 1, 1, none⟩ = some (.int .i64 f) := by rw [hW1]; simp [go_sem]
  have l7 : w.heap.size + 1 < W1.heap.size := by rw [hW1]; simp <;> omega
  have c8 : W1.cell? ⟨w.heap.size + 1 + 1, 0, none⟩ = some (.int .i8 k) := by rw [hW1]; simp [go_sem]
  have c9 : W1.cell? ⟨w.heap.size + 1 + 1, 1, none⟩ = some (.int .i64 g) := by rw [hW1]; simp [go_sem]
  have l10 : w.heap.size + 1 + 1 < W1.heap.size := by rw [hW1]; simp <;> omega
  rw [← hW1]
  clear hW1
  refine (HAB.out _).mono ?_
  rintro e w1 ⟨rfl, qw1⟩
  replace qw1 := qw1.dn
  have l11 := Nat.lt_of_lt_of_le l4 qw1.size
  have c12 := qw1.cell c2
  have c13 := qw1.cell c3
  have l14 := Nat.lt_of_lt_of_le l7 qw1.size
  have c15 := qw1.cell c5
  have c16 := qw1.cell c6
  have l17 := Nat.lt_of_lt_of_le l10 qw1.size
  have c18 := qw1.cell c8
  have c19 := qw1.cell c9
  clear l4 c2 c3 l7 c5 c6 l10 c8 c9
  have uw1 := uW1.trans qw1
  clear qw1 uW1
  go_wp2_with fail
  refine (HRR.out _).mono ?_
  rintro e w2 ⟨rfl, qw2⟩
  replace qw2 := qw2.dn
  have l20 := Nat.lt_of_lt_of_le l11 qw2.size
  have c21 := qw2.cell c12
  have c22 := qw2.cell c13
  have l23 := Nat.lt_of_lt_of_le l14 qw2.size
  have c24 := qw2.cell c15
  have c25 := qw2.cell c16
  have l26 := Nat.lt_of_lt_of_le l17 qw2.size
  have c27 := qw2.cell c18
  have c28 := qw2.cell c19
  clear l11 c12 c13 l14 c15 c16 l17 c18 c19
  have uw2 := uw1.trans qw2
  clear qw2 uw1
  go_wp2_with fail
  refine (HBA.out _).mono ?_
  rintro e w3 ⟨rfl, qw3⟩
  replace qw3 := qw3.dn
  have l29 := Nat.lt_of_lt_of_le l20 qw3.size
  have c30 := qw3.cell c21
  have c31 := qw3.cell c22
  have l32 := Nat.lt_of_lt_of_le l23 qw3.size
  have c33 := qw3.cell c24
  have c34 := qw3.cell c25
  have l35 := Nat.lt_of_lt_of_le l26 qw3.size
  have c36 := qw3.cell c27
  have c37 := qw3.cell c28
  clear l20 c21 c22 l23 c24 c25 l26 c27 c28
  have uw3 := uw2.trans qw3
  clear qw3 uw2
  go_wp2_with fail
  refine (HBC.out _).mono ?_
  rintro e w4 ⟨rfl, qw4⟩
  replace qw4 := qw4.dn
  have l38 := Nat.lt_of_lt_of_le l29 qw4.size
  have c39 := qw4.cell c30
  have c40 := qw4.cell c31
  have l41 := Nat.lt_of_lt_of_le l32 qw4.size
  have c42 := qw4.cell c33
  have c43 := qw4.cell c34
  have l44 := Nat.lt_of_lt_of_le l35 qw4.size
  have c45 := qw4.cell c36
  have c46 := qw4.cell c37
  clear l29 c30 c31 l32 c33 c34 l35 c36 c37
  have uw4 := uw3.trans qw4
  clear qw4 uw3
  go_wp2_with fail
  refine (HAC.out _).mono ?_
  rintro e w5 ⟨rfl, qw5⟩
  replace qw5 := qw5.dn
  have l47 := Nat.lt_of_lt_of_le l38 qw5.size
  have c48 := qw5.cell c39
  have c49 := qw5.cell c40
  have l50 := Nat.lt_of_lt_of_le l41 qw5.size
  have c51 := qw5.cell c42
  have c52 := qw5.cell c43
  have l53 := Nat.lt_of_lt_of_le l44 qw5.size
  have c54 := qw5.cell c45
  have c55 := qw5.cell c46
  clear l38 c39 c40 l41 c42 c43 l44 c45 c46
  have uw5 := uw4.trans qw5
  clear qw5 uw4
  go_upto_region 6 with fail
  go_cut [8, 9] (fun s8 s9 wx => Two w5 (.int .i8 i) (.int .i64 d) (.int .i8 j) (.int .i64 f) s8 s9 wx)
  case first =>
    go_region
    all_goals
      go_wp2_with fail
      go_meet
      case rel => first | exact two_1 _ _ _ _ _ _ | exact two_2 _ _ _ _ _ _
  case rest =>
    obtain ⟨A, B, rfl, rfl, hA, hB, hne, hA0, hB0, qc⟩ := hcut
    have l56 := Nat.lt_of_lt_of_le l47 qc.size
    have c57 := qc.cell c48
    have c58 := qc.cell c49
    have l59 := Nat.lt_of_lt_of_le l50 qc.size
    have c60 := qc.cell c51
    have c61 := qc.cell c52
    have l62 := Nat.lt_of_lt_of_le l53 qc.size
    have c63 := qc.cell c54
    have c64 := qc.cell c55
    clear l47 c48 c49 l50 c51 c52 l53 c54 c55
    have uc := uw5.trans qc
    clear qc uw5
    obtain ⟨ca, cb, _, _, la⟩ := hA
    obtain ⟨cc, cd, _, _, lb⟩ := hB
    clear hne hA0 hB0
    go_wp2_with fail
    have hS65 := kdO_10 (W := wc) (Dn.refl _) ⟨Dn.refl _, c57, c58, c60, c61, c63, c64, ca, cb, cc, cd⟩
    have HShS65 := Lib.hid hS65
    clear c57 c58 c60 c61 c63 c64 ca cb cc cd
    go_region_held3 (fun w' => Dn wc w' ∧ w'.cell? ⟨w.heap.size, 0, none⟩ = some (.int .i8 i) ∧ w'.cell? ⟨w.heap.size, 1, none⟩ = some (.int .i64 d) ∧ w'.cell? ⟨w.heap.size + 1, 0, none⟩ = some (.int .i8 j) ∧ w'.cell? ⟨w.heap.size + 1, 1, none⟩ = some (.int .i64 f) ∧ w'.cell? ⟨w.heap.size + 1 + 1, 0, none⟩ = some (.int .i8 k) ∧ w'.cell? ⟨w.heap.size + 1 + 1, 1, none⟩ = some (.int .i64 g) ∧ w'.cell? ⟨A, 0, none⟩ = some (.int .i8 i) ∧ w'.cell? ⟨A, 1, none⟩ = some (.int .i64 d) ∧ w'.cell? ⟨B, 0, none⟩ = some (.int .i8 j) ∧ w'.cell? ⟨B, 1, none⟩ = some (.int .i64 f))
      (first | exact kdO_10 ((Dn.refl _).drew) hS65 | exact kdO_10 ‹Dn _ _› ‹_› | exact kdO_10 (Up.dn ‹Up _ _›) ‹_› | assumption | exact kdO_10 ((Dn.refl _).alloc _) ‹_›)
      (first
        | (go_at_call 41; refine (HMIN.out _).mono ?_; rintro e wa ⟨rfl, qa⟩; replace qa := Up.dn qa)
        | (go_at_call 42; refine (HMAX.out _).mono ?_; rintro e wa ⟨rfl, qa⟩; replace qa := Up.dn qa)
        | (go_at_call 43; refine (lives8 _ (hE.dn (uc.trans (‹Dn wc _ ∧ _› : _ ∧ _).1))).mono ?_; rintro e wa ⟨rfl, qa⟩))
    all_goals
      clear hS65
      obtain ⟨uf76, c66, c67, c68, c69, c70, c71, c72, c73, c74, c75⟩ := (‹Dn wc _ ∧ _› : _ ∧ _)
      obtain ⟨w77, rfl⟩ : ∃ w77 : World, w77 = wa := ⟨_, rfl⟩
      have l78 := Nat.lt_of_lt_of_le l56 uf76.size
      clear l56
      have l79 := Nat.lt_of_lt_of_le l59 uf76.size
      clear l59
      have l80 := Nat.lt_of_lt_of_le l62 uf76.size
      clear l62
      have l81 := Nat.lt_of_lt_of_le la uf76.size
      clear la
      have l82 := Nat.lt_of_lt_of_le lb uf76.size
      clear lb
      have vuf76 := uc.trans uf76
      clear uf76 uc HShS65
      go_wp2_with fail
      go_ret
      exact ⟨rfl, vuf76⟩
set_option maxHeartbeats 8000000 in
set_option maxRecDepth 100000 in
theorem endsOrder_lib (i d j f k g : Int) (hn : eC i d j f = (-1)) (hd : i ≠ j) (hm : 0 < eC j f k g) (w : World) (hE : EnvI w) :
    Calls Tryd.prog 9 #[.agg #[.int .i8 i, .int .i64 d], .agg #[.int .i8 j, .int .i64 f], .agg #[.int .i8 k, .int .i64 g]] w fun e w' => e = .returned (.bool true) ∧ Dn w w' := by
  have hb := eC_anti i d j f
  rw [hn] at hb
  have t0 : (i == j) = false := by simpa using hd
  have HAB := Lib.hid (fun W => eCmp_at i d j f (-1) W hn)
  have HRR := Lib.hid (fun W => rCmp8_at i d j f (-1) W hn)
  have HBA := Lib.hid (fun W => eCmp_at j f i d 1 W (by first | exact hn | (rw [hb]; rfl) | rw [hb]))
  have HBC := Lib.hid (fun W => eCmp j f k g W)
  have HAC := Lib.hid (fun W => eCmp i d k g W)
  generalize eC j f k g = cb at *
  have t1 : decide (cb ≤ 0) = false := by simp; omega
  clear hm HAC
  have HMIN := Lib.hid (fun W => eMin_1 i d j f W (by first | (rw [hn]; decide) | (rw [hb]; decide)))
  have HMAX := Lib.hid (fun W => eMax_2 i d j f W (by first | (rw [hn]; decide) | (rw [hb]; decide)))
  clear hn hb hd
  go_enter Tryd.func9, Tryd.ntmps9
  go_wp2_with fail
  obtain ⟨W1, hW1⟩ : ∃ W1, W1 = ((w.alloc (.cells #[.int .i8 i, .int .i64 d] 50)).alloc (.cells #[.int .i8 j, .int .i64 f] 50)).alloc (.cells #[.int .i8 k, .int .i64 g] 50) := ⟨_, rfl⟩
  have uW1 : Dn w W1 := by rw [hW1]; exact (((Dn.refl _).alloc _).alloc _).alloc _
  have c2 : W1.cell? ⟨w.heap.size, 0, none⟩ = some (.int .i8 i) := by rw [hW1]; simp [go_sem]
  have c3 : W1.cell? ⟨w.heap.size, 1, none⟩ = some (.int .i64 d) := by rw [hW1]; simp [go_sem]
  have l4 : w.heap.size < W1.heap.size := by rw [hW1]; simp <;> omega
  have c5 : W1.cell? ⟨w.heap.size + 1, 0, none⟩ = some (.int .i8 j) := by rw [hW1]; simp [go_sem]
  have c6 : W1.cell? ⟨w.heap.size + 1, 1, none⟩ = some (.int .i64 f) := by rw [hW1]; simp [go_sem]
  have l7 : w.heap.size + 1 < W1.heap.size := by rw [hW1]; simp <;> omega
  have c8 : W1.cell? ⟨w.heap.size + 1 + 1, 0, none⟩ = some (.int .i8 k) := by rw [hW1]; simp [go_sem]
  have c9 : W1.cell? ⟨w.heap.size + 1 + 1, 1, none⟩ = some (.int .i64 g) := by rw [hW1]; simp [go_sem]
  have l10 : w.heap.size + 1 + 1 < W1.heap.size := by rw [hW1]; simp <;> omega
  rw [← hW1]
  clear hW1
  refine (HAB.out _).mono ?_
  rintro e w1 ⟨rfl, qw1⟩
  replace qw1 := qw1.dn
  have l11 := Nat.lt_of_lt_of_le l4 qw1.size
  have c12 := qw1.cell c2
  have c13 := qw1.cell c3
  have l14 := Nat.lt_of_lt_of_le l7 qw1.size
  have c15 := qw1.cell c5
  have c16 := qw1.cell c6
  have l17 := Nat.lt_of_lt_of_le l10 qw1.size
  have c18 := qw1.cell c8
  have c19 := qw1.cell c9
  clear l4 c2 c3 l7 c5 c6 l10 c8 c9
  have uw1 := uW1.trans qw1
  clear qw1 uW1
  go_wp2_with fail
  refine (HRR.out _).mono ?_
  rintro e w2 ⟨rfl, qw2⟩
  replace qw2 := qw2.dn
  have l20 := Nat.lt_of_lt_of_le l11 qw2.size
  have c21 := qw2.cell c12
  have c22 := qw2.cell c13
  have l23 := Nat.lt_of_lt_of_le l14 qw2.size
  have c24 := qw2.cell c15
  have c25 := qw2.cell c16
  have l26 := Nat.lt_of_lt_of_le l17 qw2.size
  have c27 := qw2.cell c18
  have c28 := qw2.cell c19
  clear l11 c12 c13 l14 c15 c16 l17 c18 c19
  have uw2 := uw1.trans qw2
  clear qw2 uw1
  go_wp2_with fail
  refine (HBA.out _).mono ?_
  rintro e w3 ⟨rfl, qw3⟩
  replace qw3 := qw3.dn
  have l29 := Nat.lt_of_lt_of_le l20 qw3.size
  have c30 := qw3.cell c21
  have c31 := qw3.cell c22
  have l32 := Nat.lt_of_lt_of_le l23 qw3.size
  have c33 := qw3.cell c24
  have c34 := qw3.cell c25
  have l35 := Nat.lt_of_lt_of_le l26 qw3.size
  have c36 := qw3.cell c27
  have c37 := qw3.cell c28
  clear l20 c21 c22 l23 c24 c25 l26 c27 c28
  have uw3 := uw2.trans qw3
  clear qw3 uw2
  go_wp2_with fail
  refine (HBC.out _).mono ?_
  rintro e w4 ⟨rfl, qw4⟩
  replace qw4 := qw4.dn
  have l38 := Nat.lt_of_lt_of_le l29 qw4.size
  have c39 := qw4.cell c30
  have c40 := qw4.cell c31
  have l41 := Nat.lt_of_lt_of_le l32 qw4.size
  have c42 := qw4.cell c33
  have c43 := qw4.cell c34
  have l44 := Nat.lt_of_lt_of_le l35 qw4.size
  have c45 := qw4.cell c36
  have c46 := qw4.cell c37
  clear l29 c30 c31 l32 c33 c34 l35 c36 c37
  have uw4 := uw3.trans qw4
  clear qw4 uw3
  go_upto_region 6 with fail
  go_cut [8, 9] (fun s8 s9 wx => Two w4 (.int .i8 i) (.int .i64 d) (.int .i8 j) (.int .i64 f) s8 s9 wx)
  case first =>
    go_region
    all_goals
      go_wp2_with fail
      go_meet
      case rel => first | exact two_1 _ _ _ _ _ _ | exact two_2 _ _ _ _ _ _
  case rest =>
    obtain ⟨A, B, rfl, rfl, hA, hB, hne, hA0, hB0, qc⟩ := hcut
    have l47 := Nat.lt_of_lt_of_le l38 qc.size
    have c48 := qc.cell c39
    have c49 := qc.cell c40
    have l50 := Nat.lt_of_lt_of_le l41 qc.size
    have c51 := qc.cell c42
    have c52 := qc.cell c43
    have l53 := Nat.lt_of_lt_of_le l44 qc.size
    have c54 := qc.cell c45
    have c55 := qc.cell c46
    clear l38 c39 c40 l41 c42 c43 l44 c45 c46
    have uc := uw4.trans qc
    clear qc uw4
    obtain ⟨ca, cb, _, _, la⟩ := hA
    obtain ⟨cc, cd, _, _, lb⟩ := hB
    clear hne hA0 hB0
    go_wp2_with fail
    have hS56 := kdO_10 (W := wc) (Dn.refl _) ⟨Dn.refl _, c48, c49, c51, c52, c54, c55, ca, cb, cc, cd⟩
    have HShS56 := Lib.hid hS56
    clear c48 c49 c51 c52 c54 c55 ca cb cc cd
    go_region_held3 (fun w' => Dn wc w' ∧ w'.cell? ⟨w.heap.size, 0, none⟩ = some (.int .i8 i) ∧ w'.cell? ⟨w.heap.size, 1, none⟩ = some (.int .i64 d) ∧ w'.cell? ⟨w.heap.size + 1, 0, none⟩ = some (.int .i8 j) ∧ w'.cell? ⟨w.heap.size + 1, 1, none⟩ = some (.int .i64 f) ∧ w'.cell? ⟨w.heap.size + 1 + 1, 0, none⟩ = some (.int .i8 k) ∧ w'.cell? ⟨w.heap.size + 1 + 1, 1, none⟩ = some (.int .i64 g) ∧ w'.cell? ⟨A, 0, none⟩ = some (.int .i8 i) ∧ w'.cell? ⟨A, 1, none⟩ = some (.int .i64 d) ∧ w'.cell? ⟨B, 0, none⟩ = some (.int .i8 j) ∧ w'.cell? ⟨B, 1, none⟩ = some (.int .i64 f))
      (first | exact kdO_10 ((Dn.refl _).drew) hS56 | exact kdO_10 ‹Dn _ _› ‹_› | exact kdO_10 (Up.dn ‹Up _ _›) ‹_› | assumption | exact kdO_10 ((Dn.refl _).alloc _) ‹_›)
      (first
        | (go_at_call 41; refine (HMIN.out _).mono ?_; rintro e wa ⟨rfl, qa⟩; replace qa := Up.dn qa)
        | (go_at_call 42; refine (HMAX.out _).mono ?_; rintro e wa ⟨rfl, qa⟩; replace qa := Up.dn qa)
        | (go_at_call 43; refine (lives8 _ (hE.dn (uc.trans (‹Dn wc _ ∧ _› : _ ∧ _).1))).mono ?_; rintro e wa ⟨rfl, qa⟩))
    all_goals
      clear hS56
      obtain ⟨uf67, c57, c58, c59, c60, c61, c62, c63, c64, c65, c66⟩ := (‹Dn wc _ ∧ _› : _ ∧ _)
      obtain ⟨w68, rfl⟩ : ∃ w68 : World, w68 = wa := ⟨_, rfl⟩
      have l69 := Nat.lt_of_lt_of_le l47 uf67.size
      clear l47
      have l70 := Nat.lt_of_lt_of_le l50 uf67.size
      clear l50
      have l71 := Nat.lt_of_lt_of_le l53 uf67.size
      clear l53
      have l72 := Nat.lt_of_lt_of_le la uf67.size
      clear la
      have l73 := Nat.lt_of_lt_of_le lb uf67.size
      clear lb
      have vuf67 := uc.trans uf67
      clear uf67 uc HShS56
      go_wp2_with fail
      go_ret
      exact ⟨rfl, vuf67⟩
set_option maxHeartbeats 8000000 in
set_option maxRecDepth 100000 in
theorem endsOrder_eea (i d k g : Int)  (hm : eC i d k g ≤ 0) (w : World) (hE : EnvI w) :
    Calls Tryd.prog 9 #[.agg #[.int .i8 i, .int .i64 d], .agg #[.int .i8 i, .int .i64 d], .agg #[.int .i8 k, .int .i64 g]] w fun e w' => e = .returned (.bool true) ∧ Dn w w' := by
  have hn : eC i d i d = 0 := by rw [eC_zero]; exact ⟨rfl, rfl⟩
  have hb := eC_anti i d i d
  rw [hn] at hb
  have HAB := Lib.hid (fun W => eCmp_at i d i d 0 W hn)
  have HRR := Lib.hid (fun W => rCmp8_at i d i d 0 W hn)
  have HBA := Lib.hid (fun W => eCmp_at i d i d 0 W (by first | exact hn | (rw [hb]; rfl) | rw [hb]))
  have HBC := Lib.hid (fun W => eCmp i d k g W)
  have HAC := Lib.hid (fun W => eCmp i d k g W)
  have hp := eC_trans i d i d k g (by rw [hn]; decide) hm
  generalize eC i d k g = cb at *
  have t1 : decide (cb ≤ 0) = true := by simpa using hm
  have t2 : decide (0 < cb) = false := by simp; omega
  clear hm hp
  have HMIN := Lib.hid (fun W => eMin_1 i d i d W (by first | (rw [hn]; decide) | (rw [hb]; decide)))
  have HMAX := Lib.hid (fun W => eMax_1 i d i d W (by first | (rw [hn]; decide) | (rw [hb]; decide)))
  clear hn hb
  go_enter Tryd.func9, Tryd.ntmps9
  go_wp2_with fail
  obtain ⟨W1, hW1⟩ : ∃ W1, W1 = ((w.alloc (.cells #[.int .i8 i, .int .i64 d] 50)).alloc (.cells #[.int .i8 i, .int .i64 d] 50)).alloc (.cells #[.int .i8 k, .int .i64 g] 50) := ⟨_, rfl⟩
  have uW1 : Dn w W1 := by rw [hW1]; exact (((Dn.refl _).alloc _).alloc _).alloc _
  have c2 : W1.cell? ⟨w.heap.size, 0, none⟩ = some (.int .i8 i) := by rw [hW1]; simp [go_sem]
  have c3 : W1.cell? ⟨w.heap.size, 1, none⟩ = some (.int .i64 d) := by rw [hW1]; simp [go_sem]
  have l4 : w.heap.size < W1.heap.size := by rw [hW1]; simp <;> omega
  have c5 : W1.cell? ⟨w.heap.size + 1, 0, none⟩ = some (.int .i8 i) := by rw [hW1]; simp [go_sem]
  have c6 : W1.cell? ⟨w.heap.size + 1, 1, none⟩ = some (.int .i64 d) := by rw [hW1]; simp [go_sem]
  have l7 : w.heap.size + 1 < W1.heap.size := by rw [hW1]; simp <;> omega
  have c8 : W1.cell? ⟨w.heap.size + 1 + 1, 0, none⟩ = some (.int .i8 k) := by rw [hW1]; simp [go_sem]
  have c9 : W1.cell? ⟨w.heap.size + 1 + 1, 1, none⟩ = some (.int .i64 g) := by rw [hW1]; simp [go_sem]
  have l10 : w.heap.size + 1 + 1 < W1.heap.size := by rw [hW1]; simp <;> omega
  rw [← hW1]
  clear hW1
  refine (HAB.out _).mono ?_
  rintro e w1 ⟨rfl, qw1⟩
  replace qw1 := qw1.dn
  have l11 := Nat.lt_of_lt_of_le l4 qw1.size
  have c12 := qw1.cell c2
  have c13 := qw1.cell c3
  have l14 := Nat.lt_of_lt_of_le l7 qw1.size
  have c15 := qw1.cell c5
  have c16 := qw1.cell c6
  have l17 := Nat.lt_of_lt_of_le l10 qw1.size
  have c18 := qw1.cell c8
  have c19 := qw1.cell c9
  clear l4 c2 c3 l7 c5 c6 l10 c8 c9
  have uw1 := uW1.trans qw1
  clear qw1 uW1
  go_wp2_with fail
  refine (HRR.out _).mono ?_
  rintro e w2 ⟨rfl, qw2⟩
  replace qw2 := qw2.dn
  have l20 := Nat.lt_of_lt_of_le l11 qw2.size
  have c21 := qw2.cell c12
  have c22 := qw2.cell c13
  have l23 := Nat.lt_of_lt_of_le l14 qw2.size
  have c24 := qw2.cell c15
  have c25 := qw2.cell c16
  have l26 := Nat.lt_of_lt_of_le l17 qw2.size
  have c27 := qw2.cell c18
  have c28 := qw2.cell c19
  clear l11 c12 c13 l14 c15 c16 l17 c18 c19
  have uw2 := uw1.trans qw2
  clear qw2 uw1
  go_wp2_with fail
  refine (HBA.out _).mono ?_
  rintro e w3 ⟨rfl, qw3⟩
  replace qw3 := qw3.dn
  have l29 := Nat.lt_of_lt_of_le l20 qw3.size
  have c30 := qw3.cell c21
  have c31 := qw3.cell c22
  have l32 := Nat.lt_of_lt_of_le l23 qw3.size
  have c33 := qw3.cell c24
  have c34 := qw3.cell c25
  have l35 := Nat.lt_of_lt_of_le l26 qw3.size
  have c36 := qw3.cell c27
  have c37 := qw3.cell c28
  clear l20 c21 c22 l23 c24 c25 l26 c27 c28
  have uw3 := uw2.trans qw3
  clear qw3 uw2
  go_wp2_with fail
  refine (HBC.out _).mono ?_
  rintro e w4 ⟨rfl, qw4⟩
  replace qw4 := qw4.dn
  have l38 := Nat.lt_of_lt_of_le l29 qw4.size
  have c39 := qw4.cell c30
  have c40 := qw4.cell c31
  have l41 := Nat.lt_of_lt_of_le l32 qw4.size
  have c42 := qw4.cell c33
  have c43 := qw4.cell c34
  have l44 := Nat.lt_of_lt_of_le l35 qw4.size
  have c45 := qw4.cell c36
  have c46 := qw4.cell c37
  clear l29 c30 c31 l32 c33 c34 l35 c36 c37
  have uw4 := uw3.trans qw4
  clear qw4 uw3
  go_wp2_with fail
  refine (HAC.out _).mono ?_
  rintro e w5 ⟨rfl, qw5⟩
  replace qw5 := qw5.dn
  have l47 := Nat.lt_of_lt_of_le l38 qw5.size
  have c48 := qw5.cell c39
  have c49 := qw5.cell c40
  have l50 := Nat.lt_of_lt_of_le l41 qw5.size
  have c51 := qw5.cell c42
  have c52 := qw5.cell c43
  have l53 := Nat.lt_of_lt_of_le l44 qw5.size
  have c54 := qw5.cell c45
  have c55 := qw5.cell c46
  clear l38 c39 c40 l41 c42 c43 l44 c45 c46
  have uw5 := uw4.trans qw5
  clear qw5 uw4
  go_upto_region 6 with fail
  go_cut [8, 9] (fun s8 s9 wx => Two w5 (.int .i8 i) (.int .i64 d) (.int .i8 i) (.int .i64 d) s8 s9 wx)
  case first =>
    go_region
    all_goals
      go_wp2_with fail
      go_meet
      case rel => first | exact two_1 _ _ _ _ _ _ | exact two_2 _ _ _ _ _ _
  case rest =>
    obtain ⟨A, B, rfl, rfl, hA, hB, hne, hA0, hB0, qc⟩ := hcut
    have l56 := Nat.lt_of_lt_of_le l47 qc.size
    have c57 := qc.cell c48
    have c58 := qc.cell c49
    have l59 := Nat.lt_of_lt_of_le l50 qc.size
    have c60 := qc.cell c51
    have c61 := qc.cell c52
    have l62 := Nat.lt_of_lt_of_le l53 qc.size
    have c63 := qc.cell c54
    have c64 := qc.cell c55
    clear l47 c48 c49 l50 c51 c52 l53 c54 c55
    have uc := uw5.trans qc
    clear qc uw5
    obtain ⟨ca, cb, _, _, la⟩ := hA
    obtain ⟨cc, cd, _, _, lb⟩ := hB
    clear hne hA0 hB0
    go_wp2_with fail
    have hS65 := kdO_10 (W := wc) (Dn.refl _) ⟨Dn.refl _, c57, c58, c60, c61, c63, c64, ca, cb, cc, cd⟩
    have HShS65 := Lib.hid hS65
    clear c57 c58 c60 c61 c63 c64 ca cb cc cd
    go_region_held3 (fun w' => Dn wc w' ∧ w'.cell? ⟨w.heap.size, 0, none⟩ = some (.int .i8 i) ∧ w'.cell? ⟨w.heap.size, 1, none⟩ = some (.int .i64 d) ∧ w'.cell? ⟨w.heap.size + 1, 0, none⟩ = some (.int .i8 i) ∧ w'.cell? ⟨w.heap.size + 1, 1, none⟩ = some (.int .i64 d) ∧ w'.cell? ⟨w.heap.size + 1 + 1, 0, none⟩ = some (.int .i8 k) ∧ w'.cell? ⟨w.heap.size + 1 + 1, 1, none⟩ = some (.int .i64 g) ∧ w'.cell? ⟨A, 0, none⟩ = some (.int .i8 i) ∧ w'.cell? ⟨A, 1, none⟩ = some (.int .i64 d) ∧ w'.cell? ⟨B, 0, none⟩ = some (.int .i8 i) ∧ w'.cell? ⟨B, 1, none⟩ = some (.int .i64 d))
      (first | exact kdO_10 ((Dn.refl _).drew) hS65 | exact kdO_10 ‹Dn _ _› ‹_› | exact kdO_10 (Up.dn ‹Up _ _›) ‹_› | assumption | exact kdO_10 ((Dn.refl _).alloc _) ‹_›)
      (first
        | (go_at_call 41; refine (HMIN.out _).mono ?_; rintro e wa ⟨rfl, qa⟩; replace qa := Up.dn qa)
        | (go_at_call 42; refine (HMAX.out _).mono ?_; rintro e wa ⟨rfl, qa⟩; replace qa := Up.dn qa)
        | (go_at_call 43; refine (lives8 _ (hE.dn (uc.trans (‹Dn wc _ ∧ _› : _ ∧ _).1))).mono ?_; rintro e wa ⟨rfl, qa⟩))
    all_goals
      clear hS65
      obtain ⟨uf76, c66, c67, c68, c69, c70, c71, c72, c73, c74, c75⟩ := (‹Dn wc _ ∧ _› : _ ∧ _)
      obtain ⟨w77, rfl⟩ : ∃ w77 : World, w77 = wa := ⟨_, rfl⟩
      have l78 := Nat.lt_of_lt_of_le l56 uf76.size
      clear l56
      have l79 := Nat.lt_of_lt_of_le l59 uf76.size
      clear l59
      have l80 := Nat.lt_of_lt_of_le l62 uf76.size
      clear l62
      have l81 := Nat.lt_of_lt_of_le la uf76.size
      clear la
      have l82 := Nat.lt_of_lt_of_le lb uf76.size
      clear lb
      have vuf76 := uc.trans uf76
      clear uf76 uc HShS65
      go_wp2_with fail
      go_ret
      exact ⟨rfl, vuf76⟩
end Go.Proofs.YtnibmofbalgobaaDoor
