/-
  WALKS OF circalaw08: EndsOrder returns true. (Printed by wip/gen/law8d.py.)
-/
import Derived.Test.YtnibmofbalgobaaDoorLawEightD0
import Derived.Deep.DeepCutAuto
namespace Go.Proofs.YtnibmofbalgobaaDoor
open Go.RowKit
set_option linter.unusedVariables false
set_option linter.unusedSimpArgs false
set_option maxHeartbeats 8000000 in
set_option maxRecDepth 100000 in
theorem endsOrder_gix (i d j f k g : Int) (hn : eC i d j f = 1) (hd : i ≠ j) (w : World) (hE : EnvI w) :
    Calls Tryd.prog 9 #[.agg #[.int .i8 i, .int .i64 d], .agg #[.int .i8 j, .int .i64 f], .agg #[.int .i8 k, .int .i64 g]] w fun e w' => e = .returned (.bool true) ∧ Dn w w' := by
  have hb := eC_anti i d j f
  rw [hn] at hb
  have t0 : (i == j) = false := by simpa using hd
  have HAB := Lib.hid (fun W => eCmp_at i d j f 1 W hn)
  have HRR := Lib.hid (fun W => rCmp8_at i d j f 1 W hn)
  have HBA := Lib.hid (fun W => eCmp_at j f i d (-1) W (by first | exact hn | (rw [hb]; rfl) | rw [hb]))
  have HMIN := Lib.hid (fun W => eMin_2 i d j f W (by first | (rw [hn]; decide) | (rw [hb]; decide)))
  have HMAX := Lib.hid (fun W => eMax_1 i d j f W (by first | (rw [hn]; decide) | (rw [hb]; decide)))
  clear hn hb hd
  go_enter Tryd.func9, Tryd.ntmps9
  go_wp2_with fail
  obtain ⟨W1, hW1⟩ : ∃ W1, W1 = ((w.alloc (.cells #[.int .i8 i, .int .i64 d] 50)).alloc (.cells #[.int .i8 j, .int .i64 f] 50)).alloc (.cells #[.int .i8 k, .int .i64 g] 50) := ⟨_, rfl⟩
  have uW1 : Dn w W1 := by rw [hW1]; exact (((Dn.refl _).alloc _).alloc _).alloc _
  have c2 : W1.cell? ⟨w.heap.size, 0, none⟩ = some (.int .i8 i) := by rw [hW1]; simp [go_sem]
  have c3 : W1.cell? ⟨w.heap.size, 1, none⟩ = some (.int .i64 d) := by rw [hW1]; simp [go_sem]
  have l4 : w.heap.size < W1.heap.size := by rw [hW1]; simp <;> omega
  have c5 : W1.cell? ⟨w.heap.size + 1, 0, none⟩ = some (.int .i8 j) := by rw [hW1]; simp [go_sem]
  have c6 : W1.cell? ⟨w.heap.size + 1, 1, none⟩ = some (.int .i64 f) := by rw [hW1]; simp [go_sem]
  have l7 : w.heap.size + 1 < W1.heap.size := by rw [hW1]; simp <;> omega
  have c8 : W1.cell? ⟨w.heap.size + 1 + 1, 0, none⟩ = some (.int .i8 k) := by rw [hW1]; simp [go_sem]
  have c9 : W1.cell? ⟨w.heap.size + 1 + 1, 1, none⟩ = some (.int .i64 g) := by rw [hW1]; simp [go_sem]
  have l10 : w.heap.size + 1 + 1 < W1.heap.size := by rw [hW1]; simp <;> omega
  rw [← hW1]
  clear hW1
  refine (HAB.out _).mono ?_
  rintro e w1 ⟨rfl, qw1⟩
  replace qw1 := qw1.dn
  have l11 := Nat.lt_of_lt_of_le l4 qw1.size
  have c12 := qw1.cell c2
  have c13 := qw1.cell c3
  have l14 := Nat.lt_of_lt_of_le l7 qw1.size
  have c15 := qw1.cell c5
  have c16 := qw1.cell c6
  have l17 := Nat.lt_of_lt_of_le l10 qw1.size
  have c18 := qw1.cell c8
  have c19 := qw1.cell c9
  clear l4 c2 c3 l7 c5 c6 l10 c8 c9
  have uw1 := uW1.trans qw1
  clear qw1 uW1
  go_wp2_with fail
  refine (HRR.out _).mono ?_
  rintro e w2 ⟨rfl, qw2⟩
  replace qw2 := qw2.dn
  have l20 := Nat.lt_of_lt_of_le l11 qw2.size
  have c21 := qw2.cell c12
  have c22 := qw2.cell c13
  have l23 := Nat.lt_of_lt_of_le l14 qw2.size
  have c24 := qw2.cell c15
  have c25 := qw2.cell c16
  have l26 := Nat.lt_of_lt_of_le l17 qw2.size
  have c27 := qw2.cell c18
  have c28 := qw2.cell c19
  clear l11 c12 c13 l14 c15 c16 l17 c18 c19
  have uw2 := uw1.trans qw2
  clear qw2 uw1
  go_wp2_with fail
  refine (HBA.out _).mono ?_
  rintro e w3 ⟨rfl, qw3⟩
  replace qw3 := qw3.dn
  have l29 := Nat.lt_of_lt_of_le l20 qw3.size
  have c30 := qw3.cell c21
  have c31 := qw3.cell c22
  have l32 := Nat.lt_of_lt_of_le l23 qw3.size
  have c33 := qw3.cell c24
  have c34 := qw3.cell c25
  have l35 := Nat.lt_of_lt_of_le l26 qw3.size
  have c36 := qw3.cell c27
  have c37 := qw3.cell c28
  clear l20 c21 c22 l23 c24 c25 l26 c27 c28
  have uw3 := uw2.trans qw3
  clear qw3 uw2
  go_upto_region 6 with fail
  go_cut [8, 9] (fun s8 s9 wx => Two w3 (.int .i8 i) (.int .i64 d) (.int .i8 j) (.int .i64 f) s8 s9 wx)
  case first =>
    go_region
    all_goals
      go_wp2_with fail
      go_meet
      case rel => first | exact two_1 _ _ _ _ _ _ | exact two_2 _ _ _ _ _ _
  case rest =>
    obtain ⟨A, B, rfl, rfl, hA, hB, hne, hA0, hB0, qc⟩ := hcut
    go_upto_region 8 with fail
    go_cut [8, 9] (fun s8 s9 wx => Two w3 (.int .i8 j) (.int .i64 f) (.int .i8 i) (.int .i64 d) s8 s9 wx)
    case first =>
      have mc30 := qc.cell c30
      have mc31 := qc.cell c31
      have ml29 := Nat.lt_of_lt_of_le l29 qc.size
      have mc33 := qc.cell c33
      have mc34 := qc.cell c34
      have ml32 := Nat.lt_of_lt_of_le l32 qc.size
      have HA := Lib.hid hA
      have HB := Lib.hid hB
      obtain ⟨ca, cb, fa, fb, la⟩ := hA
      obtain ⟨cc, cd, fc, fd, lb⟩ := hB
      have hne2 : B ≠ A := fun h => hne h.symm
      have nxA : w3.heap.size ≤ A := hA0
      have n1x : A ≠ w.heap.size := by have := l29; omega
      have n2x : B ≠ w.heap.size := by have := l29; omega
      have n1y : A ≠ w.heap.size + 1 := by have := l32; omega
      have n2y : B ≠ w.heap.size + 1 := by have := l32; omega
      clear c30 c31 c33 c34 c36 c37
      go_region
      all_goals
        go_wp2_with fail
        go_meet
        case rel => first | exact two_s1 HA.out HB.out hne hA0 hB0 qc | exact two_s2 HA.out HB.out hne hA0 hB0 qc
    case rest =>
      clear hA hB hne hA0 hB0 qc A B
      obtain ⟨A, B, rfl, rfl, hA, hB, hne, hA0, hB0, qc⟩ := hcut
      have l38 := Nat.lt_of_lt_of_le l29 qc.size
      have c39 := qc.cell c30
      have c40 := qc.cell c31
      have l41 := Nat.lt_of_lt_of_le l32 qc.size
      have c42 := qc.cell c33
      have c43 := qc.cell c34
      have l44 := Nat.lt_of_lt_of_le l35 qc.size
      have c45 := qc.cell c36
      have c46 := qc.cell c37
      clear l29 c30 c31 l32 c33 c34 l35 c36 c37
      have uc := uw3.trans qc
      clear qc uw3
      obtain ⟨ca, cb, _, _, la⟩ := hA
      obtain ⟨cc, cd, _, _, lb⟩ := hB
      clear hne hA0 hB0
      go_wp2_with fail
      have hS47 := kdO_10 (W := wc) (Dn.refl _) ⟨Dn.refl _, c39, c40, c42, c43, c45, c46, ca, cb, cc, cd⟩
      have HShS47 := Lib.hid hS47
      clear c39 c40 c42 c43 c45 c46 ca cb cc cd
      go_region_held3 (fun w' => Dn wc w' ∧ w'.cell? ⟨w.heap.size, 0, none⟩ = some (.int .i8 i) ∧ w'.cell? ⟨w.heap.size, 1, none⟩ = some (.int .i64 d) ∧ w'.cell? ⟨w.heap.size + 1, 0, none⟩ = some (.int .i8 j) ∧ w'.cell? ⟨w.heap.size + 1, 1, none⟩ = some (.int .i64 f) ∧ w'.cell? ⟨w.heap.size + 1 + 1, 0, none⟩ = some (.int .i8 k) ∧ w'.cell? ⟨w.heap.size + 1 + 1, 1, none⟩ = some (.int .i64 g) ∧ w'.cell? ⟨A, 0, none⟩ = some (.int .i8 j) ∧ w'.cell? ⟨A, 1, none⟩ = some (.int .i64 f) ∧ w'.cell? ⟨B, 0, none⟩ = some (.int .i8 i) ∧ w'.cell? ⟨B, 1, none⟩ = some (.int .i64 d))
        (first | exact kdO_10 ((Dn.refl _).drew) hS47 | exact kdO_10 ‹Dn _ _› ‹_› | exact kdO_10 (Up.dn ‹Up _ _›) ‹_› | assumption | exact kdO_10 ((Dn.refl _).alloc _) ‹_›)
        (first
          | (go_at_call 41; refine (HMIN.out _).mono ?_; rintro e wa ⟨rfl, qa⟩; replace qa := Up.dn qa)
          | (go_at_call 42; refine (HMAX.out _).mono ?_; rintro e wa ⟨rfl, qa⟩; replace qa := Up.dn qa)
          | (go_at_call 43; refine (lives8 _ (hE.dn (uc.trans (‹Dn wc _ ∧ _› : _ ∧ _).1))).mono ?_; rintro e wa ⟨rfl, qa⟩))
      all_goals
        clear hS47
        obtain ⟨uf58, c48, c49, c50, c51, c52, c53, c54, c55, c56, c57⟩ := (‹Dn wc _ ∧ _› : _ ∧ _)
        obtain ⟨w59, rfl⟩ : ∃ w59 : World, w59 = wa := ⟨_, rfl⟩
        have l60 := Nat.lt_of_lt_of_le l38 uf58.size
        clear l38
        have l61 := Nat.lt_of_lt_of_le l41 uf58.size
        clear l41
        have l62 := Nat.lt_of_lt_of_le l44 uf58.size
        clear l44
        have l63 := Nat.lt_of_lt_of_le la uf58.size
        clear la
        have l64 := Nat.lt_of_lt_of_le lb uf58.size
        clear lb
        have vuf58 := uc.trans uf58
        clear uf58 uc HShS47
        go_wp2_with fail
        go_ret
        exact ⟨rfl, vuf58⟩
set_option maxHeartbeats 8000000 in
set_option maxRecDepth 100000 in
theorem endsOrder_gdx (i d f k g : Int) (hn : eC i d i f = 1) (hd : d ≠ f) (w : World) (hE : EnvI w) :
    Calls Tryd.prog 9 #[.agg #[.int .i8 i, .int .i64 d], .agg #[.int .i8 i, .int .i64 f], .agg #[.int .i8 k, .int .i64 g]] w fun e w' => e = .returned (.bool true) ∧ Dn w w' := by
  have hb := eC_anti i d i f
  rw [hn] at hb
  have t0 : (d == f) = false := by simpa using hd
  have HAB := Lib.hid (fun W => eCmp_at i d i f 1 W hn)
  have HRR := Lib.hid (fun W => rCmp8_at i d i f 1 W hn)
  have HBA := Lib.hid (fun W => eCmp_at i f i d (-1) W (by first | exact hn | (rw [hb]; rfl) | rw [hb]))
  have HMIN := Lib.hid (fun W => eMin_2 i d i f W (by first | (rw [hn]; decide) | (rw [hb]; decide)))
  have HMAX := Lib.hid (fun W => eMax_1 i d i f W (by first | (rw [hn]; decide) | (rw [hb]; decide)))
  clear hn hb hd
  go_enter Tryd.func9, Tryd.ntmps9
  go_wp2_with fail
  obtain ⟨W1, hW1⟩ : ∃ W1, W1 = ((w.alloc (.cells #[.int .i8 i, .int .i64 d] 50)).alloc (.cells #[.int .i8 i, .int .i64 f] 50)).alloc (.cells #[.int .i8 k, .int .i64 g] 50) := ⟨_, rfl⟩
  have uW1 : Dn w W1 := by rw [hW1]; exact (((Dn.refl _).alloc _).alloc _).alloc _
  have c2 : W1.cell? ⟨w.heap.size, 0, none⟩ = some (.int .i8 i) := by rw [hW1]; simp [go_sem]
  have c3 : W1.cell? ⟨w.heap.size, 1, none⟩ = some (.int .i64 d) := by rw [hW1]; simp [go_sem]
  have l4 : w.heap.size < W1.heap.size := by rw [hW1]; simp <;> omega
  have c5 : W1.cell? ⟨w.heap.size + 1, 0, none⟩ = some (.int .i8 i) := by rw [hW1]; simp [go_sem]
  have c6 : W1.cell? ⟨w.heap.size + 1, 1, none⟩ = some (.int .i64 f) := by rw [hW1]; simp [go_sem]
  have l7 : w.heap.size + 1 < W1.heap.size := by rw [hW1]; simp <;> omega
  have c8 : W1.cell? ⟨w.heap.size + 1 + 1, 0, none⟩ = some (.int .i8 k) := by rw [hW1]; simp [go_sem]
  have c9 : W1.cell? ⟨w.heap.size + 1 + 1, 1, none⟩ = some (.int .i64 g) := by rw [hW1]; simp [go_sem]
  have l10 : w.heap.size + 1 + 1 < W1.heap.size := by rw [hW1]; simp <;> omega
  rw [← hW1]
  clear hW1
  refine (HAB.out _).mono ?_
  rintro e w1 ⟨rfl, qw1⟩
  replace qw1 := qw1.dn
  have l11 := Nat.lt_of_lt_of_le l4 qw1.size
  have c12 := qw1.cell c2
  have c13 := qw1.cell c3
  have l14 := Nat.lt_of_lt_of_le l7 qw1.size
  have c15 := qw1.cell c5
  have c16 := qw1.cell c6
  have l17 := Nat.lt_of_lt_of_le l10 qw1.size
  have c18 := qw1.cell c8
  have c19 := qw1.cell c9
  clear l4 c2 c3 l7 c5 c6 l10 c8 c9
  have uw1 := uW1.trans qw1
  clear qw1 uW1
  go_wp2_with fail
  refine (HRR.out _).mono ?_
  rintro e w2 ⟨rfl, qw2⟩
  replace qw2 := qw2.dn
  have l20 := Nat.lt_of_lt_of_le l11 qw2.size
  have c21 := qw2.cell c12
  have c22 := qw2.cell c13
  have l23 := Nat.lt_of_lt_of_le l14 qw2.size
  have c24 := qw2.cell c15
  have c25 := qw2.cell c16
  have l26 := Nat.lt_of_lt_of_le l17 qw2.size
  have c27 := qw2.cell c18
  have c28 := qw2.cell c19
  clear l11 c12 c13 l14 c15 c16 l17 c18 c19
  have uw2 := uw1.trans qw2
  clear qw2 uw1
  go_wp2_with fail
  refine (HBA.out _).mono ?_
  rintro e w3 ⟨rfl, qw3⟩
  replace qw3 := qw3.dn
  have l29 := Nat.lt_of_lt_of_le l20 qw3.size
  have c30 := qw3.cell c21
  have c31 := qw3.cell c22
  have l32 := Nat.lt_of_lt_of_le l23 qw3.size
  have c33 := qw3.cell c24
  have c34 := qw3.cell c25
  have l35 := Nat.lt_of_lt_of_le l26 qw3.size
  have c36 := qw3.cell c27
  have c37 := qw3.cell c28
  clear l20 c21 c22 l23 c24 c25 l26 c27 c28
  have uw3 := uw2.trans qw3
  clear qw3 uw2
  go_upto_region 6 with fail
  go_cut [8, 9] (fun s8 s9 wx => Two w3 (.int .i8 i) (.int .i64 d) (.int .i8 i) (.int .i64 f) s8 s9 wx)
  case first =>
    go_region
    all_goals
      go_wp2_with fail
      go_meet
      case rel => first | exact two_1 _ _ _ _ _ _ | exact two_2 _ _ _ _ _ _
  case rest =>
    obtain ⟨A, B, rfl, rfl, hA, hB, hne, hA0, hB0, qc⟩ := hcut
    go_upto_region 8 with fail
    go_cut [8, 9] (fun s8 s9 wx => Two w3 (.int .i8 i) (.int .i64 f) (.int .i8 i) (.int .i64 d) s8 s9 wx)
    case first =>
      have mc30 := qc.cell c30
      have mc31 := qc.cell c31
      have ml29 := Nat.lt_of_lt_of_le l29 qc.size
      have mc33 := qc.cell c33
      have mc34 := qc.cell c34
      have ml32 := Nat.lt_of_lt_of_le l32 qc.size
      have HA := Lib.hid hA
      have HB := Lib.hid hB
      obtain ⟨ca, cb, fa, fb, la⟩ := hA
      obtain ⟨cc, cd, fc, fd, lb⟩ := hB
      have hne2 : B ≠ A := fun h => hne h.symm
      have nxA : w3.heap.size ≤ A := hA0
      have n1x : A ≠ w.heap.size := by have := l29; omega
      have n2x : B ≠ w.heap.size := by have := l29; omega
      have n1y : A ≠ w.heap.size + 1 := by have := l32; omega
      have n2y : B ≠ w.heap.size + 1 := by have := l32; omega
      clear c30 c31 c33 c34 c36 c37
      go_region
      all_goals
        go_wp2_with fail
        go_meet
        case rel => first | exact two_s1 HA.out HB.out hne hA0 hB0 qc | exact two_s2 HA.out HB.out hne hA0 hB0 qc
    case rest =>
      clear hA hB hne hA0 hB0 qc A B
      obtain ⟨A, B, rfl, rfl, hA, hB, hne, hA0, hB0, qc⟩ := hcut
      have l38 := Nat.lt_of_lt_of_le l29 qc.size
      have c39 := qc.cell c30
      have c40 := qc.cell c31
      have l41 := Nat.lt_of_lt_of_le l32 qc.size
      have c42 := qc.cell c33
      have c43 := qc.cell c34
      have l44 := Nat.lt_of_lt_of_le l35 qc.size
      have c45 := qc.cell c36
      have c46 := qc.cell c37
      clear l29 c30 c31 l32 c33 c34 l35 c36 c37
      have uc := uw3.trans qc
      clear qc uw3
      obtain ⟨ca, cb, _, _, la⟩ := hA
      obtain ⟨cc, cd, _, _, lb⟩ := hB
      clear hne hA0 hB0
      go_wp2_with fail
      have hS47 := kdO_10 (W := wc) (Dn.refl _) ⟨Dn.refl _, c39, c40, c42, c43, c45, c46, ca, cb, cc, cd⟩
      have HShS47 := Lib.hid hS47
      clear c39 c40 c42 c43 c45 c46 ca cb cc cd
      go_region_held3 (fun w' => Dn wc w' ∧ w'.cell? ⟨w.heap.size, 0, none⟩ = some (.int .i8 i) ∧ w'.cell? ⟨w.heap.size, 1, none⟩ = some (.int .i64 d) ∧ w'.cell? ⟨w.heap.size + 1, 0, none⟩ = some (.int .i8 i) ∧ w'.cell? ⟨w.heap.size + 1, 1, none⟩ = some (.int .i64 f) ∧ w'.cell? ⟨w.heap.size + 1 + 1, 0, none⟩ = some (.int .i8 k) ∧ w'.cell? ⟨w.heap.size + 1 + 1, 1, none⟩ = some (.int .i64 g) ∧ w'.cell? ⟨A, 0, none⟩ = some (.int .i8 i) ∧ w'.cell? ⟨A, 1, none⟩ = some (.int .i64 f) ∧ w'.cell? ⟨B, 0, none⟩ = some (.int .i8 i) ∧ w'.cell? ⟨B, 1, none⟩ = some (.int .i64 d))
        (first | exact kdO_10 ((Dn.refl _).drew) hS47 | exact kdO_10 ‹Dn _ _› ‹_› | exact kdO_10 (Up.dn ‹Up _ _›) ‹_› | assumption | exact kdO_10 ((Dn.refl _).alloc _) ‹_›)
        (first
          | (go_at_call 41; refine (HMIN.out _).mono ?_; rintro e wa ⟨rfl, qa⟩; replace qa := Up.dn qa)
          | (go_at_call 42; refine (HMAX.out _).mono ?_; rintro e wa ⟨rfl, qa⟩; replace qa := Up.dn qa)
          | (go_at_call 43; refine (lives8 _ (hE.dn (uc.trans (‹Dn wc _ ∧ _› : _ ∧ _).1))).mono ?_; rintro e wa ⟨rfl, qa⟩))
      all_goals
        clear hS47
        obtain ⟨uf58, c48, c49, c50, c51, c52, c53, c54, c55, c56, c57⟩ := (‹Dn wc _ ∧ _› : _ ∧ _)
        obtain ⟨w59, rfl⟩ : ∃ w59 : World, w59 = wa := ⟨_, rfl⟩
        have l60 := Nat.lt_of_lt_of_le l38 uf58.size
        clear l38
        have l61 := Nat.lt_of_lt_of_le l41 uf58.size
        clear l41
        have l62 := Nat.lt_of_lt_of_le l44 uf58.size
        clear l44
        have l63 := Nat.lt_of_lt_of_le la uf58.size
        clear la
        have l64 := Nat.lt_of_lt_of_le lb uf58.size
        clear lb
        have vuf58 := uc.trans uf58
        clear uf58 uc HShS47
        go_wp2_with fail
        go_ret
        exact ⟨rfl, vuf58⟩
end Go.Proofs.YtnibmofbalgobaaDoor
