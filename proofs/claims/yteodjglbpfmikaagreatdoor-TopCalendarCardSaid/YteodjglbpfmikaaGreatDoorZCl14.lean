/- Walks and laws that the claim's theorem leans on: part 14. -/
import Derived.Test.YteodjglbpfmikaaGreatDoorZCl1
import Derived.Test.YteodjglbpfmikaaGreatDoorZCl3
import Derived.Test.YteodjglbpfmikaaGreatDoorZCl10
import Derived.Test.YteodjglbpfmikaaGreatDoorZCl11
import Derived.Deep.DeepCutAuto
import Derived.Laws.AppendOwnNone
import Derived.Laws.OwnMore
namespace Go.Proofs.YteodjglbpfmikaaGreatDoor
set_option maxHeartbeats 4000000
set_option maxRecDepth 100000
open Go.RowKit
set_option linter.unusedVariables false
set_option linter.unusedSimpArgs false
theorem rnCom_all (a b c d e f g h i1 d1 i2 d2 : Int) (HM : Hid (∀ W, Calls Tryz.prog 152 #[.agg #[.int .i8 a, .int .i64 b], .agg #[.int .i8 e, .int .i64 f]] W fun r w' => r = .returned (.agg #[.int .i8 i1, .int .i64 d1]) ∧ Up W w')) (HX : Hid (∀ W, Calls Tryz.prog 151 #[.agg #[.int .i8 c, .int .i64 d], .agg #[.int .i8 g, .int .i64 h]] W fun r w' => r = .returned (.agg #[.int .i8 i2, .int .i64 d2]) ∧ Up W w')) (t0 : Bool) (m : Int) (res : Value) (HR : Hid (∀ W, Calls Tryz.prog 80 #[.agg #[.int .i8 a, .int .i64 b, .int .i8 c, .int .i64 d], .agg #[.int .i8 e, .int .i64 f, .int .i8 g, .int .i64 h]] W fun r w' => r = .returned (.bool t0) ∧ Dn W w')) (HCASE : Hid ((t0 = false ∧ res = .tuple #[.agg #[.int .i8 0, .int .i64 0, .int .i8 0, .int .i64 0], .bool false]) ∨ (t0 = true ∧ m ≠ 0 ∧ Hid (ChkIs i1 d1 i2 d2 m) ∧ res = .tuple #[.agg #[.int .i8 0, .int .i64 0, .int .i8 0, .int .i64 0], .bool false]) ∨ (t0 = true ∧ Hid (ChkIs i1 d1 i2 d2 0) ∧ res = .tuple #[.agg #[.int .i8 i1, .int .i64 d1, .int .i8 i2, .int .i64 d2], .bool true]))) (w : World) :
  Calls Tryz.prog 134 #[.agg #[.int .i8 a, .int .i64 b, .int .i8 c, .int .i64 d], .agg #[.int .i8 e, .int .i64 f, .int .i8 g, .int .i64 h]] w fun ro w' => ro = .returned (res) ∧ Dn w w' := by
 obtain ⟨W, hW⟩ : ∃ W, W = ((w.alloc (.cells #[.int .i8 a, .int .i64 b, .int .i8 c, .int .i64 d] 30)).alloc (.cells #[.int .i8 e, .int .i64 f, .int .i8 g, .int .i64 h] 30)).alloc (.cells #[.int .i8 0, .int .i64 0, .int .i8 0, .int .i64 0] 30) := ⟨_, rfl⟩
 have kX : C4 W w.heap.size (.int .i8 a) (.int .i64 b) (.int .i8 c) (.int .i64 d) := by rw [hW]; exact ((C4.new _ _ _ _ _ _).alloc _).alloc _
 have kY : C4 W (w.heap.size + 1) (.int .i8 e) (.int .i64 f) (.int .i8 g) (.int .i64 h) := by rw [hW]; exact (C4.new1 _ _ _ _ _ _ _).alloc _
 have kR : C4 W (w.heap.size + 1 + 1) (.int .i8 0) (.int .i64 0) (.int .i8 0) (.int .i64 0) := by rw [hW]; exact C4.new2 _ _ _ _ _ _ _ _
 have uW : Dn w W := by rw [hW]; exact (((Dn.refl _).alloc _).alloc _).alloc _
 have hX := kX.drew
 have hY := kY.drew
 have hR := kR.drew
 have qW := uW.drew
 have hS := kdJ_8 (W := w) (Dn.refl W) ⟨uW, kX.c0, kX.c1, kX.c2, kX.c3, kY.c0, kY.c1, kY.c2, kY.c3⟩
 have HW := Lib.hid hW
 clear hW kX kY kR
 go_enter Tryz.func134, Tryz.ntmps134
 go_wp2_with fail
 rw [← HW.out]
 clear HW
 go_upto_region 1 with fail
 go_cut [6] (fun s6 wx => ∃ B : Nat, s6 = .pointer (some ⟨B, 0, none⟩) ∧ Dn w wx ∧ C4 wx w.heap.size (.int .i8 a) (.int .i64 b) (.int .i8 c) (.int .i64 d) ∧ C4 wx (w.heap.size + 1) (.int .i8 e) (.int .i64 f) (.int .i8 g) (.int .i64 h) ∧ C4 wx B (.int .i8 i1) (.int .i64 d1) (.int .i8 i2) (.int .i64 d2) ∧ C4 wx (w.heap.size + 1 + 1) (.int .i8 0) (.int .i64 0) (.int .i8 0) (.int .i64 0))
 case first =>
  refine wp_region_held_drew (S := fun w' => Dn w w' ∧ w'.cell? ⟨w.heap.size, 0, none⟩ = some (.int .i8 a) ∧ w'.cell? ⟨w.heap.size, 1, none⟩ = some (.int .i64 b) ∧ w'.cell? ⟨w.heap.size, 2, none⟩ = some (.int .i8 c) ∧ w'.cell? ⟨w.heap.size, 3, none⟩ = some (.int .i64 d) ∧ w'.cell? ⟨w.heap.size + 1, 0, none⟩ = some (.int .i8 e) ∧ w'.cell? ⟨w.heap.size + 1, 1, none⟩ = some (.int .i64 f) ∧ w'.cell? ⟨w.heap.size + 1, 2, none⟩ = some (.int .i8 g) ∧ w'.cell? ⟨w.heap.size + 1, 3, none⟩ = some (.int .i64 h)) (by kernel_rfl) ?_ (fun hHeld => ?_)
  · (try dsimp only); exact kdJ_8 ((Dn.refl _).drew) hS
  refine tk 0 ?_ rfl (by kernel_rfl) (fun _ _ _ => id) (by rfl) (by assumption) ?_ ?_
  rotate_left
  · (intro w hSw; (try dsimp only at hSw); go_simp)
    all_goals with_reducible rfl
  try simp only [Act.put, pL]
  refine tk 1 ?_ rfl (by kernel_rfl) (fun _ _ _ => id) (by rfl) (by assumption) ?_ ?_
  rotate_left
  · (intro w hSw; (try dsimp only at hSw); go_simp)
    all_goals with_reducible rfl
  try simp only [Act.put, pL]
  refine tk 2 ?_ rfl (by kernel_rfl) (fun _ _ _ => id) (by rfl) (by assumption) ?_ ?_
  rotate_left
  · (intro w hSw; (try dsimp only at hSw); go_simp)
    all_goals with_reducible rfl
  try simp only [Act.put, pL]
  refine tk 3 ?_ rfl (by kernel_rfl) (fun _ _ _ => id) (by rfl) (by assumption) ?_ ?_
  rotate_left
  · (intro w hSw; (try dsimp only at hSw); go_simp)
    all_goals with_reducible rfl
  try simp only [Act.put, pL]
  refine tk 5 ?_ rfl (by kernel_rfl) (fun _ _ _ => id) (by rfl) (by assumption) ?_ ?_
  rotate_left
  · (intro w hSw; (try dsimp only at hSw); go_simp)
    all_goals with_reducible rfl
  try simp only [Act.put, pL]
  refine tk 6 ?_ rfl (by kernel_rfl) (fun _ _ _ => id) (by rfl) (by assumption) ?_ ?_
  rotate_left
  · (intro w hSw; (try dsimp only at hSw); go_simp)
    all_goals with_reducible rfl
  try simp only [Act.put, pL]
  refine tk 7 ?_ rfl (by kernel_rfl) (fun _ _ _ => id) (by rfl) (by assumption) ?_ ?_
  rotate_left
  · (intro w hSw; (try dsimp only at hSw); go_simp)
    all_goals with_reducible rfl
  try simp only [Act.put, pL]
  refine tk 8 ?_ rfl (by kernel_rfl) (fun _ _ _ => id) (by rfl) (by assumption) ?_ ?_
  rotate_left
  · (intro w hSw; (try dsimp only at hSw); go_simp)
    all_goals with_reducible rfl
  try simp only [Act.put, pL]
  refine wpAnyH_ready (rs := [4, 11]) (by kernel_rfl) (by simp) ?_
  refine AllReadyH.cons rfl (fun K hK => ?_) (AllReadyH.cons rfl (fun K hK => ?_) AllReadyH.nil)
  ·
    go_simp
    go_at_call 152
    refine (HM.out _).mono ?_
    rintro e wa1 ⟨rfl, qa1⟩
    replace qa1 := Up.dn qa1
    have hXwa1 := hX.dn qa1
    have hYwa1 := hY.dn qa1
    have hRwa1 := hR.dn qa1
    have qWwa1 := qW.trans qa1
    try go_wp2_with fail
    refine hK.out _ _ ?_ (fun hHeld => ?_)
    · (try dsimp only); exact ⟨qWwa1, hXwa1.c0, hXwa1.c1, hXwa1.c2, hXwa1.c3, hYwa1.c0, hYwa1.c1, hYwa1.c2, hYwa1.c3⟩
    clear hK K
    try simp only [Act.put, pL]
    refine wpAnyH_ready (rs := [9, 11]) (by kernel_rfl) (by simp) ?_
    refine AllReadyH.cons rfl (fun K hK => ?_) (AllReadyH.cons rfl (fun K hK => ?_) AllReadyH.nil)
    ·
      go_simp
      go_at_call 151
      refine (HX.out _).mono ?_
      rintro e wa2 ⟨rfl, qa2⟩
      replace qa2 := Up.dn qa2
      have hXwa2 := hXwa1.dn qa2
      have hYwa2 := hYwa1.dn qa2
      have hRwa2 := hRwa1.dn qa2
      have qWwa2 := qWwa1.trans qa2
      try go_wp2_with fail
      refine hK.out _ _ ?_ (fun hHeld => ?_)
      · (try dsimp only); exact ⟨qWwa2, hXwa2.c0, hXwa2.c1, hXwa2.c2, hXwa2.c3, hYwa2.c0, hYwa2.c1, hYwa2.c2, hYwa2.c3⟩
      clear hK K
      try simp only [Act.put, pL]
      refine tk 10 ?_ rfl (by kernel_rfl) (fun _ _ _ => id) (by rfl) (by assumption) ?_ ?_
      rotate_left
      · (intro w hSw; (try dsimp only at hSw); go_simp)
        all_goals with_reducible rfl
      try simp only [Act.put, pL]
      refine wpAnyH_ready (rs := [11]) (by kernel_rfl) (by simp) ?_
      refine AllReadyH.cons rfl (fun K hK => ?_) AllReadyH.nil
      ·
        go_simp
        obtain ⟨wb3, hwb3⟩ : ∃ wb3, wb3 = wa2.alloc (.cells #[.int .i8 0, .int .i64 0, .int .i8 0, .int .i64 0] 30) := ⟨_, rfl⟩
        have qb3 : Dn wa2 wb3 := by rw [hwb3]; exact (Dn.refl wa2).alloc _
        have hN3 : NB wb3 wa2.heap.size (w.heap.size + 1 + 1) := by rw [hwb3]; exact NB.new (w := wa2) hRwa2.lt _
        rw [← hwb3]
        clear hwb3
        have hXwb3 := hXwa2.dn qb3
        have hYwb3 := hYwa2.dn qb3
        have hRwb3 := hRwa2.dn qb3
        have qWwb3 := qWwa2.trans qb3
        have z0 := hN3.z.c0
        have f0 := hN3.z.f0
        have z1 := hN3.z.c1
        have f1 := hN3.z.f1
        have z2 := hN3.z.c2
        have f2 := hN3.z.f2
        have z3 := hN3.z.c3
        have f3 := hN3.z.f3
        have zl := hN3.z.lt
        refine hK.out _ _ ?_ (fun hHeld => ?_)
        · (try dsimp only); exact ⟨qWwb3, hXwb3.c0, hXwb3.c1, hXwb3.c2, hXwb3.c3, hYwb3.c0, hYwb3.c1, hYwb3.c2, hYwb3.c3⟩
        clear hK K
        try simp only [Act.put, pL]
        refine wpAnyH_ready (rs := [12]) (by kernel_rfl) (by simp) ?_
        refine AllReadyH.cons rfl (fun K hK => ?_) AllReadyH.nil
        ·
          go_simp
          refine hK.out _ _ ?_ (fun hHeld => ?_)
          · (try dsimp only); exact ⟨(Dn.setCell (Dn.setCell (Dn.setCell (Dn.setCell qWwb3 (by have := hN3.lt; simp <;> omega) _) (by have := hN3.lt; simp <;> omega) _) (by have := hN3.lt; simp <;> omega) _) (by have := hN3.lt; simp <;> omega) _), (C4.far4 hXwb3 (by have := hN3.lt; omega) _ _ _ _).c0, (C4.far4 hXwb3 (by have := hN3.lt; omega) _ _ _ _).c1, (C4.far4 hXwb3 (by have := hN3.lt; omega) _ _ _ _).c2, (C4.far4 hXwb3 (by have := hN3.lt; omega) _ _ _ _).c3, (C4.far4 hYwb3 (by have := hN3.lt; omega) _ _ _ _).c0, (C4.far4 hYwb3 (by have := hN3.lt; omega) _ _ _ _).c1, (C4.far4 hYwb3 (by have := hN3.lt; omega) _ _ _ _).c2, (C4.far4 hYwb3 (by have := hN3.lt; omega) _ _ _ _).c3⟩
          clear hK K
          try simp only [Act.put, pL]
          refine wpAnyH_done (by kernel_rfl) ?_ _
          go_wp2_with fail
          go_meet
          case rel => exact ⟨_, rfl, (Dn.setCell (Dn.setCell (Dn.setCell (Dn.setCell qWwb3 (by have := hN3.lt; simp <;> omega) _) (by have := hN3.lt; simp <;> omega) _) (by have := hN3.lt; simp <;> omega) _) (by have := hN3.lt; simp <;> omega) _), (C4.far4 hXwb3 (by have := hN3.lt; omega) _ _ _ _), (C4.far4 hYwb3 (by have := hN3.lt; omega) _ _ _ _), hN3.z.fill _ _ _ _, (C4.far4 hRwb3 (by have := hN3.lt; omega) _ _ _ _)⟩
    ·
      go_simp
      obtain ⟨wb5, hwb5⟩ : ∃ wb5, wb5 = wa1.alloc (.cells #[.int .i8 0, .int .i64 0, .int .i8 0, .int .i64 0] 30) := ⟨_, rfl⟩
      have qb5 : Dn wa1 wb5 := by rw [hwb5]; exact (Dn.refl wa1).alloc _
      have hN5 : NB wb5 wa1.heap.size (w.heap.size + 1 + 1) := by rw [hwb5]; exact NB.new (w := wa1) hRwa1.lt _
      rw [← hwb5]
      clear hwb5
      have hXwb5 := hXwa1.dn qb5
      have hYwb5 := hYwa1.dn qb5
      have hRwb5 := hRwa1.dn qb5
      have qWwb5 := qWwa1.trans qb5
      have z0 := hN5.z.c0
      have f0 := hN5.z.f0
      have z1 := hN5.z.c1
      have f1 := hN5.z.f1
      have z2 := hN5.z.c2
      have f2 := hN5.z.f2
      have z3 := hN5.z.c3
      have f3 := hN5.z.f3
      have zl := hN5.z.lt
      refine hK.out _ _ ?_ (fun hHeld => ?_)
      · (try dsimp only); exact ⟨qWwb5, hXwb5.c0, hXwb5.c1, hXwb5.c2, hXwb5.c3, hYwb5.c0, hYwb5.c1, hYwb5.c2, hYwb5.c3⟩
      clear hK K
      try simp only [Act.put, pL]
      refine wpAnyH_ready (rs := [9]) (by kernel_rfl) (by simp) ?_
      refine AllReadyH.cons rfl (fun K hK => ?_) AllReadyH.nil
      ·
        go_simp
        go_at_call 151
        refine (HX.out _).mono ?_
        rintro e wa6 ⟨rfl, qa6⟩
        replace qa6 := Up.dn qa6
        have hXwa6 := hXwb5.dn qa6
        have hYwa6 := hYwb5.dn qa6
        have hRwa6 := hRwb5.dn qa6
        have qWwa6 := qWwb5.trans qa6
        have hBwa6 := hN5.dn qa6
        try go_wp2_with fail
        have z0 := hBwa6.z.c0
        have f0 := hBwa6.z.f0
        have z1 := hBwa6.z.c1
        have f1 := hBwa6.z.f1
        have z2 := hBwa6.z.c2
        have f2 := hBwa6.z.f2
        have z3 := hBwa6.z.c3
        have f3 := hBwa6.z.f3
        have zl := hBwa6.z.lt
        refine hK.out _ _ ?_ (fun hHeld => ?_)
        · (try dsimp only); exact ⟨qWwa6, hXwa6.c0, hXwa6.c1, hXwa6.c2, hXwa6.c3, hYwa6.c0, hYwa6.c1, hYwa6.c2, hYwa6.c3⟩
        clear hK K
        try simp only [Act.put, pL]
        refine tk 10 ?_ rfl (by kernel_rfl) (fun _ _ _ => id) (by rfl) (by assumption) ?_ ?_
        rotate_left
        · (intro w hSw; (try dsimp only at hSw); go_simp)
          all_goals with_reducible rfl
        try simp only [Act.put, pL]
        refine wpAnyH_ready (rs := [12]) (by kernel_rfl) (by simp) ?_
        refine AllReadyH.cons rfl (fun K hK => ?_) AllReadyH.nil
        ·
          go_simp
          refine hK.out _ _ ?_ (fun hHeld => ?_)
          · (try dsimp only); exact ⟨(Dn.setCell (Dn.setCell (Dn.setCell (Dn.setCell qWwa6 (by have := hBwa6.lt; simp <;> omega) _) (by have := hBwa6.lt; simp <;> omega) _) (by have := hBwa6.lt; simp <;> omega) _) (by have := hBwa6.lt; simp <;> omega) _), (C4.far4 hXwa6 (by have := hBwa6.lt; omega) _ _ _ _).c0, (C4.far4 hXwa6 (by have := hBwa6.lt; omega) _ _ _ _).c1, (C4.far4 hXwa6 (by have := hBwa6.lt; omega) _ _ _ _).c2, (C4.far4 hXwa6 (by have := hBwa6.lt; omega) _ _ _ _).c3, (C4.far4 hYwa6 (by have := hBwa6.lt; omega) _ _ _ _).c0, (C4.far4 hYwa6 (by have := hBwa6.lt; omega) _ _ _ _).c1, (C4.far4 hYwa6 (by have := hBwa6.lt; omega) _ _ _ _).c2, (C4.far4 hYwa6 (by have := hBwa6.lt; omega) _ _ _ _).c3⟩
          clear hK K
          try simp only [Act.put, pL]
          refine wpAnyH_done (by kernel_rfl) ?_ _
          go_wp2_with fail
          go_meet
          case rel => exact ⟨_, rfl, (Dn.setCell (Dn.setCell (Dn.setCell (Dn.setCell qWwa6 (by have := hBwa6.lt; simp <;> omega) _) (by have := hBwa6.lt; simp <;> omega) _) (by have := hBwa6.lt; simp <;> omega) _) (by have := hBwa6.lt; simp <;> omega) _), (C4.far4 hXwa6 (by have := hBwa6.lt; omega) _ _ _ _), (C4.far4 hYwa6 (by have := hBwa6.lt; omega) _ _ _ _), hBwa6.z.fill _ _ _ _, (C4.far4 hRwa6 (by have := hBwa6.lt; omega) _ _ _ _)⟩
  ·
    go_simp
    obtain ⟨wb8, hwb8⟩ : ∃ wb8, wb8 = (W.alloc (.cells #[.int .i8 0, .int .i64 0, .int .i8 0, .int .i64 0] 30)).drew := ⟨_, rfl⟩
    have qb8 : Dn W.drew wb8 := by rw [hwb8]; exact (Dn.refl W.drew).alloc _
    have hN8 : NB wb8 W.heap.size (w.heap.size + 1 + 1) := by rw [hwb8]; exact NB.new (w := W.drew) hR.lt _
    rw [← hwb8]
    clear hwb8
    have hXwb8 := hX.dn qb8
    have hYwb8 := hY.dn qb8
    have hRwb8 := hR.dn qb8
    have qWwb8 := qW.trans qb8
    have z0 := hN8.z.c0
    have f0 := hN8.z.f0
    have z1 := hN8.z.c1
    have f1 := hN8.z.f1
    have z2 := hN8.z.c2
    have f2 := hN8.z.f2
    have z3 := hN8.z.c3
    have f3 := hN8.z.f3
    have zl := hN8.z.lt
    refine hK.out _ _ ?_ (fun hHeld => ?_)
    · (try dsimp only); exact ⟨qWwb8, hXwb8.c0, hXwb8.c1, hXwb8.c2, hXwb8.c3, hYwb8.c0, hYwb8.c1, hYwb8.c2, hYwb8.c3⟩
    clear hK K
    try simp only [Act.put, pL]
    refine wpAnyH_ready (rs := [4]) (by kernel_rfl) (by simp) ?_
    refine AllReadyH.cons rfl (fun K hK => ?_) AllReadyH.nil
    ·
      go_simp
      go_at_call 152
      refine (HM.out _).mono ?_
      rintro e wa9 ⟨rfl, qa9⟩
      replace qa9 := Up.dn qa9
      have hXwa9 := hXwb8.dn qa9
      have hYwa9 := hYwb8.dn qa9
      have hRwa9 := hRwb8.dn qa9
      have qWwa9 := qWwb8.trans qa9
      have hBwa9 := hN8.dn qa9
      try go_wp2_with fail
      have z0 := hBwa9.z.c0
      have f0 := hBwa9.z.f0
      have z1 := hBwa9.z.c1
      have f1 := hBwa9.z.f1
      have z2 := hBwa9.z.c2
      have f2 := hBwa9.z.f2
      have z3 := hBwa9.z.c3
      have f3 := hBwa9.z.f3
      have zl := hBwa9.z.lt
      refine hK.out _ _ ?_ (fun hHeld => ?_)
      · (try dsimp only); exact ⟨qWwa9, hXwa9.c0, hXwa9.c1, hXwa9.c2, hXwa9.c3, hYwa9.c0, hYwa9.c1, hYwa9.c2, hYwa9.c3⟩
      clear hK K
      try simp only [Act.put, pL]
      refine wpAnyH_ready (rs := [9]) (by kernel_rfl) (by simp) ?_
      refine AllReadyH.cons rfl (fun K hK => ?_) AllReadyH.nil
      ·
        go_simp
        go_at_call 151
        refine (HX.out _).mono ?_
        rintro e wa10 ⟨rfl, qa10⟩
        replace qa10 := Up.dn qa10
        have hXwa10 := hXwa9.dn qa10
        have hYwa10 := hYwa9.dn qa10
        have hRwa10 := hRwa9.dn qa10
        have qWwa10 := qWwa9.trans qa10
        have hBwa10 := hBwa9.dn qa10
        try go_wp2_with fail
        have z0 := hBwa10.z.c0
        have f0 := hBwa10.z.f0
        have z1 := hBwa10.z.c1
        have f1 := hBwa10.z.f1
        have z2 := hBwa10.z.c2
        have f2 := hBwa10.z.f2
        have z3 := hBwa10.z.c3
        have f3 := hBwa10.z.f3
        have zl := hBwa10.z.lt
        refine hK.out _ _ ?_ (fun hHeld => ?_)
        · (try dsimp only); exact ⟨qWwa10, hXwa10.c0, hXwa10.c1, hXwa10.c2, hXwa10.c3, hYwa10.c0, hYwa10.c1, hYwa10.c2, hYwa10.c3⟩
        clear hK K
        try simp only [Act.put, pL]
        refine tk 10 ?_ rfl (by kernel_rfl) (fun _ _ _ => id) (by rfl) (by assumption) ?_ ?_
        rotate_left
        · (intro w hSw; (try dsimp only at hSw); go_simp)
          all_goals with_reducible rfl
        try simp only [Act.put, pL]
        refine wpAnyH_ready (rs := [12]) (by kernel_rfl) (by simp) ?_
        refine AllReadyH.cons rfl (fun K hK => ?_) AllReadyH.nil
        ·
          go_simp
          refine hK.out _ _ ?_ (fun hHeld => ?_)
          · (try dsimp only); exact ⟨(Dn.setCell (Dn.setCell (Dn.setCell (Dn.setCell qWwa10 (by have := hBwa10.lt; simp <;> omega) _) (by have := hBwa10.lt; simp <;> omega) _) (by have := hBwa10.lt; simp <;> omega) _) (by have := hBwa10.lt; simp <;> omega) _), (C4.far4 hXwa10 (by have := hBwa10.lt; omega) _ _ _ _).c0, (C4.far4 hXwa10 (by have := hBwa10.lt; omega) _ _ _ _).c1, (C4.far4 hXwa10 (by have := hBwa10.lt; omega) _ _ _ _).c2, (C4.far4 hXwa10 (by have := hBwa10.lt; omega) _ _ _ _).c3, (C4.far4 hYwa10 (by have := hBwa10.lt; omega) _ _ _ _).c0, (C4.far4 hYwa10 (by have := hBwa10.lt; omega) _ _ _ _).c1, (C4.far4 hYwa10 (by have := hBwa10.lt; omega) _ _ _ _).c2, (C4.far4 hYwa10 (by have := hBwa10.lt; omega) _ _ _ _).c3⟩
          clear hK K
          try simp only [Act.put, pL]
          refine wpAnyH_done (by kernel_rfl) ?_ _
          go_wp2_with fail
          go_meet
          case rel => exact ⟨_, rfl, (Dn.setCell (Dn.setCell (Dn.setCell (Dn.setCell qWwa10 (by have := hBwa10.lt; simp <;> omega) _) (by have := hBwa10.lt; simp <;> omega) _) (by have := hBwa10.lt; simp <;> omega) _) (by have := hBwa10.lt; simp <;> omega) _), (C4.far4 hXwa10 (by have := hBwa10.lt; omega) _ _ _ _), (C4.far4 hYwa10 (by have := hBwa10.lt; omega) _ _ _ _), hBwa10.z.fill _ _ _ _, (C4.far4 hRwa10 (by have := hBwa10.lt; omega) _ _ _ _)⟩
 case rest =>
  clear hX hY hR qW hS uW
  obtain ⟨B, rfl, uc, kX, kY, kB, kR⟩ := hcut
  obtain ⟨xc0, xc1, xc2, xc3, _, _, _, _, lx⟩ := kX
  obtain ⟨yc0, yc1, yc2, yc3, _, _, _, _, ly⟩ := kY
  obtain ⟨mc0, mc1, mc2, mc3, _, _, _, _, lm⟩ := kB
  obtain ⟨resc0, resc1, resc2, resc3, resf0, resf1, resf2, resf3, lres⟩ := kR
  rcases HCASE.out with ⟨rfl, rfl⟩ | ⟨rfl, h1, hC, rfl⟩ | ⟨rfl, hC, rfl⟩
  all_goals clear HCASE
  ·
    have HR1 := Lib.hid HR.out
    clear HR
    go_wp2_with fail
    refine (HR1.out _).mono ?_
    rintro e w1 ⟨rfl, qw1⟩
    have l1 := nlt lx qw1.size
    have l6 := nlt ly qw1.size
    have aA := nlt lm qw1.size
    obtain ⟨c2, c3, c4, c5, c7, c8, c9, a1, a2, a3, a4, a5⟩ := mv12 qw1.cell xc0 xc1 xc2 xc3 yc0 yc1 yc2 yc3 mc0 mc1 mc2 mc3
    have f16 := (qw1.frozen (a := ⟨w.heap.size + 1 + 1, 0, none⟩) lres).trans resf0
    have f17 := (qw1.frozen (a := ⟨w.heap.size + 1 + 1, 1, none⟩) lres).trans resf1
    have f18 := (qw1.frozen (a := ⟨w.heap.size + 1 + 1, 2, none⟩) lres).trans resf2
    have f19 := (qw1.frozen (a := ⟨w.heap.size + 1 + 1, 3, none⟩) lres).trans resf3
    have a0 := nlt lres qw1.size
    obtain ⟨a6, a7, a8, a9⟩ := mv4 qw1.cell resc0 resc1 resc2 resc3
    clear lx xc0 xc1 xc2 xc3 ly yc0 yc1 yc2 yc3 lm mc0 mc1 mc2 mc3 resf0 resf1 resf2 resf3 lres resc0 resc1 resc2 resc3
    have uw1 := uc.trans qw1
    clear qw1 uc
    go_wp2_with fail
    exact bodyPost_ret (v := .tuple #[.agg #[.int .i8 0, .int .i64 0, .int .i8 0, .int .i64 0], .bool false]) (by simp [results, Tryz.results134, go_sem, c2, c3, c4, c5, c7, c8, c9, a1, a2, a3, a4, a5, a6, a7, a8, a9, f16, f17, f18, f19] <;> omega) rfl ⟨rfl, ((((uw1.setCell (by simp <;> omega) _).setCell (by simp <;> omega) _).setCell (by simp <;> omega) _).setCell (by simp <;> omega) _)⟩
  ·
    have HR1 := Lib.hid HR.out
    clear HR
    have HC := Lib.hid hC.out
    clear hC
    have t1 : (m != 0) = true := by simpa using h1
    clear h1
    go_wp2_with fail
    refine (HR1.out _).mono ?_
    rintro e w1 ⟨rfl, qw1⟩
    have l1 := nlt lx qw1.size
    have l6 := nlt ly qw1.size
    have aA := nlt lm qw1.size
    obtain ⟨c2, c3, c4, c5, c7, c8, c9, a1, a2, a3, a4, a5⟩ := mv12 qw1.cell xc0 xc1 xc2 xc3 yc0 yc1 yc2 yc3 mc0 mc1 mc2 mc3
    have f16 := (qw1.frozen (a := ⟨w.heap.size + 1 + 1, 0, none⟩) lres).trans resf0
    have f17 := (qw1.frozen (a := ⟨w.heap.size + 1 + 1, 1, none⟩) lres).trans resf1
    have f18 := (qw1.frozen (a := ⟨w.heap.size + 1 + 1, 2, none⟩) lres).trans resf2
    have f19 := (qw1.frozen (a := ⟨w.heap.size + 1 + 1, 3, none⟩) lres).trans resf3
    have a0 := nlt lres qw1.size
    obtain ⟨a6, a7, a8, a9⟩ := mv4 qw1.cell resc0 resc1 resc2 resc3
    clear lx xc0 xc1 xc2 xc3 ly yc0 yc1 yc2 yc3 lm mc0 mc1 mc2 mc3 resf0 resf1 resf2 resf3 lres resc0 resc1 resc2 resc3
    have uw1 := uc.trans qw1
    clear qw1 uc
    go_wp2_with fail
    refine (HC.out _).mono ?_
    rintro e w2 ⟨rfl, qw2⟩
    have aR := nlt l1 qw2.size
    have aS := nlt l6 qw2.size
    have aT := nlt aA qw2.size
    obtain ⟨aB, aC, aD, aE, aF, aG, aH, aI, aJ, aK, aL, aM⟩ := mv12 qw2.cell c2 c3 c4 c5 c7 c8 c9 a1 a2 a3 a4 a5
    have f40 := (qw2.frozen (a := ⟨w.heap.size + 1 + 1, 0, none⟩) a0).trans f16
    have f41 := (qw2.frozen (a := ⟨w.heap.size + 1 + 1, 1, none⟩) a0).trans f17
    have f42 := (qw2.frozen (a := ⟨w.heap.size + 1 + 1, 2, none⟩) a0).trans f18
    have f43 := (qw2.frozen (a := ⟨w.heap.size + 1 + 1, 3, none⟩) a0).trans f19
    have aU := nlt a0 qw2.size
    obtain ⟨aN, aO, aP, aQ⟩ := mv4 qw2.cell a6 a7 a8 a9
    clear l1 c2 c3 c4 c5 l6 c7 c8 c9 a1 aA a2 a3 a4 a5 f16 f17 f18 f19 a0 a6 a7 a8 a9
    have uw2 := uw1.trans qw2
    clear qw2 uw1
    go_wp2_with fail
    exact bodyPost_ret (v := .tuple #[.agg #[.int .i8 0, .int .i64 0, .int .i8 0, .int .i64 0], .bool false]) (by simp [results, Tryz.results134, go_sem, aB, aC, aD, aE, aF, aG, aH, aI, aJ, aK, aL, aM, aN, aO, aP, aQ, f40, f41, f42, f43] <;> omega) rfl ⟨rfl, ((((uw2.setCell (by simp <;> omega) _).setCell (by simp <;> omega) _).setCell (by simp <;> omega) _).setCell (by simp <;> omega) _)⟩
  ·
    have HR1 := Lib.hid HR.out
    clear HR
    have HC := Lib.hid hC.out
    clear hC
    go_wp2_with fail
    refine (HR1.out _).mono ?_
    rintro e w1 ⟨rfl, qw1⟩
    have l1 := nlt lx qw1.size
    have l6 := nlt ly qw1.size
    have aA := nlt lm qw1.size
    obtain ⟨c2, c3, c4, c5, c7, c8, c9, a1, a2, a3, a4, a5⟩ := mv12 qw1.cell xc0 xc1 xc2 xc3 yc0 yc1 yc2 yc3 mc0 mc1 mc2 mc3
    have f16 := (qw1.frozen (a := ⟨w.heap.size + 1 + 1, 0, none⟩) lres).trans resf0
    have f17 := (qw1.frozen (a := ⟨w.heap.size + 1 + 1, 1, none⟩) lres).trans resf1
    have f18 := (qw1.frozen (a := ⟨w.heap.size + 1 + 1, 2, none⟩) lres).trans resf2
    have f19 := (qw1.frozen (a := ⟨w.heap.size + 1 + 1, 3, none⟩) lres).trans resf3
    have a0 := nlt lres qw1.size
    obtain ⟨a6, a7, a8, a9⟩ := mv4 qw1.cell resc0 resc1 resc2 resc3
    clear lx xc0 xc1 xc2 xc3 ly yc0 yc1 yc2 yc3 lm mc0 mc1 mc2 mc3 resf0 resf1 resf2 resf3 lres resc0 resc1 resc2 resc3
    have uw1 := uc.trans qw1
    clear qw1 uc
    go_wp2_with fail
    refine (HC.out _).mono ?_
    rintro e w2 ⟨rfl, qw2⟩
    have aR := nlt l1 qw2.size
    have aS := nlt l6 qw2.size
    have aT := nlt aA qw2.size
    obtain ⟨aB, aC, aD, aE, aF, aG, aH, aI, aJ, aK, aL, aM⟩ := mv12 qw2.cell c2 c3 c4 c5 c7 c8 c9 a1 a2 a3 a4 a5
    have f40 := (qw2.frozen (a := ⟨w.heap.size + 1 + 1, 0, none⟩) a0).trans f16
    have f41 := (qw2.frozen (a := ⟨w.heap.size + 1 + 1, 1, none⟩) a0).trans f17
    have f42 := (qw2.frozen (a := ⟨w.heap.size + 1 + 1, 2, none⟩) a0).trans f18
    have f43 := (qw2.frozen (a := ⟨w.heap.size + 1 + 1, 3, none⟩) a0).trans f19
    have aU := nlt a0 qw2.size
    obtain ⟨aN, aO, aP, aQ⟩ := mv4 qw2.cell a6 a7 a8 a9
    clear l1 c2 c3 c4 c5 l6 c7 c8 c9 a1 aA a2 a3 a4 a5 f16 f17 f18 f19 a0 a6 a7 a8 a9
    have uw2 := uw1.trans qw2
    clear qw2 uw1
    go_wp2_with fail
    exact bodyPost_ret (v := .tuple #[.agg #[.int .i8 i1, .int .i64 d1, .int .i8 i2, .int .i64 d2], .bool true]) (by simp [results, Tryz.results134, go_sem, aB, aC, aD, aE, aF, aG, aH, aI, aJ, aK, aL, aM, aN, aO, aP, aQ, f40, f41, f42, f43] <;> omega) rfl ⟨rfl, ((((uw2.setCell (by simp <;> omega) _).setCell (by simp <;> omega) _).setCell (by simp <;> omega) _).setCell (by simp <;> omega) _)⟩
theorem rnCom_1 (a b c d e f g h i1 d1 i2 d2 : Int) (HM : Hid (∀ W, Calls Tryz.prog 152 #[.agg #[.int .i8 a, .int .i64 b], .agg #[.int .i8 e, .int .i64 f]] W fun r w' => r = .returned (.agg #[.int .i8 i1, .int .i64 d1]) ∧ Up W w')) (HX : Hid (∀ W, Calls Tryz.prog 151 #[.agg #[.int .i8 c, .int .i64 d], .agg #[.int .i8 g, .int .i64 h]] W fun r w' => r = .returned (.agg #[.int .i8 i2, .int .i64 d2]) ∧ Up W w')) (HR : Hid (∀ W, Calls Tryz.prog 80 #[.agg #[.int .i8 a, .int .i64 b, .int .i8 c, .int .i64 d], .agg #[.int .i8 e, .int .i64 f, .int .i8 g, .int .i64 h]] W fun r w' => r = .returned (.bool false) ∧ Dn W w')) (w : World) :
 Calls Tryz.prog 134 #[.agg #[.int .i8 a, .int .i64 b, .int .i8 c, .int .i64 d], .agg #[.int .i8 e, .int .i64 f, .int .i8 g, .int .i64 h]] w fun ro w' => ro = .returned (.tuple #[.agg #[.int .i8 0, .int .i64 0, .int .i8 0, .int .i64 0], .bool false]) ∧ Dn w w' := rnCom_all a b c d e f g h i1 d1 i2 d2 HM HX false 0 _ HR (Lib.hid (.inl ⟨rfl, rfl⟩)) w
theorem rnCom_2 (a b c d e f g h i1 d1 i2 d2 : Int) (HM : Hid (∀ W, Calls Tryz.prog 152 #[.agg #[.int .i8 a, .int .i64 b], .agg #[.int .i8 e, .int .i64 f]] W fun r w' => r = .returned (.agg #[.int .i8 i1, .int .i64 d1]) ∧ Up W w')) (HX : Hid (∀ W, Calls Tryz.prog 151 #[.agg #[.int .i8 c, .int .i64 d], .agg #[.int .i8 g, .int .i64 h]] W fun r w' => r = .returned (.agg #[.int .i8 i2, .int .i64 d2]) ∧ Up W w')) (HR : Hid (∀ W, Calls Tryz.prog 80 #[.agg #[.int .i8 a, .int .i64 b, .int .i8 c, .int .i64 d], .agg #[.int .i8 e, .int .i64 f, .int .i8 g, .int .i64 h]] W fun r w' => r = .returned (.bool true) ∧ Dn W w')) (m : Int) (HC : Hid (ChkIs i1 d1 i2 d2 m)) (h1 : m ≠ 0) (w : World) :
 Calls Tryz.prog 134 #[.agg #[.int .i8 a, .int .i64 b, .int .i8 c, .int .i64 d], .agg #[.int .i8 e, .int .i64 f, .int .i8 g, .int .i64 h]] w fun ro w' => ro = .returned (.tuple #[.agg #[.int .i8 0, .int .i64 0, .int .i8 0, .int .i64 0], .bool false]) ∧ Dn w w' := rnCom_all a b c d e f g h i1 d1 i2 d2 HM HX true m _ HR (Lib.hid (.inr (.inl ⟨rfl, h1, HC, rfl⟩))) w
theorem rnCom_3 (a b c d e f g h i1 d1 i2 d2 : Int) (HM : Hid (∀ W, Calls Tryz.prog 152 #[.agg #[.int .i8 a, .int .i64 b], .agg #[.int .i8 e, .int .i64 f]] W fun r w' => r = .returned (.agg #[.int .i8 i1, .int .i64 d1]) ∧ Up W w')) (HX : Hid (∀ W, Calls Tryz.prog 151 #[.agg #[.int .i8 c, .int .i64 d], .agg #[.int .i8 g, .int .i64 h]] W fun r w' => r = .returned (.agg #[.int .i8 i2, .int .i64 d2]) ∧ Up W w')) (HR : Hid (∀ W, Calls Tryz.prog 80 #[.agg #[.int .i8 a, .int .i64 b, .int .i8 c, .int .i64 d], .agg #[.int .i8 e, .int .i64 f, .int .i8 g, .int .i64 h]] W fun r w' => r = .returned (.bool true) ∧ Dn W w')) (HC : Hid (ChkIs i1 d1 i2 d2 0)) (w : World) :
 Calls Tryz.prog 134 #[.agg #[.int .i8 a, .int .i64 b, .int .i8 c, .int .i64 d], .agg #[.int .i8 e, .int .i64 f, .int .i8 g, .int .i64 h]] w fun ro w' => ro = .returned (.tuple #[.agg #[.int .i8 i1, .int .i64 d1, .int .i8 i2, .int .i64 d2], .bool true]) ∧ Dn w w' := rnCom_all a b c d e f g h i1 d1 i2 d2 HM HX true 0 _ HR (Lib.hid (.inr (.inr ⟨rfl, HC, rfl⟩))) w
theorem lt_of_cell {w : World} {b j : Nat} {v : Value} (h : w.cell? ⟨b, j, none⟩ = some v) : b < w.heap.size := by
 rcases Nat.lt_or_ge b w.heap.size with hb | hb
 · exact hb
 · simp [World.cell?, Array.getElem?_eq_none hb] at h
def F9 (a b c d : Int) (is : Bool) (e f g h : Int) (there : Bool) : Prop := (there = true ∧ is = true ∧ a = e ∧ b = f ∧ c = g ∧ d = h) ∨ (there = false ∧ is = false ∧ a = 0 ∧ b = 0 ∧ c = 0 ∧ d = 0)
def G9 (a b c d r e f g h bad : Int) : Prop := (bad = 0 ∧ r = 0 ∧ a = e ∧ b = f ∧ c = g ∧ d = h) ∨ (bad ≠ 0 ∧ r = bad ∧ a = 0 ∧ b = 0 ∧ c = 0 ∧ d = 0)
instance decF9 (a b c d : Int) (is : Bool) (e f g h : Int) (there : Bool) : Decidable (F9 a b c d is e f g h there) := by unfold F9; infer_instance
instance decG9 (a b c d r e f g h bad : Int) : Decidable (G9 a b c d r e f g h bad) := by unfold G9; infer_instance
theorem eMin_is (i d j f : Int) (w : World) : Calls Tryz.prog 151 #[.agg #[.int .i8 i, .int .i64 d], .agg #[.int .i8 j, .int .i64 f]] w fun e w' => e = .returned (.agg #[.int .i8 (mnI i d j f), .int .i64 (mnD i d j f)]) ∧ Up w w' := by
 unfold mnI mnD
 by_cases h : eC j f i d < 0
 · rw [if_pos h, if_pos h]; exact eMin_2 i d j f w h
 · rw [if_neg h, if_neg h]; exact eMin_1 i d j f w h
theorem eMax_is (i d j f : Int) (w : World) : Calls Tryz.prog 152 #[.agg #[.int .i8 i, .int .i64 d], .agg #[.int .i8 j, .int .i64 f]] w fun e w' => e = .returned (.agg #[.int .i8 (mxI i d j f), .int .i64 (mxD i d j f)]) ∧ Up w w' := by
 unfold mxI mxD
 by_cases h : 0 < eC j f i d
 · rw [if_pos h, if_pos h]; exact eMax_2 i d j f w h
 · rw [if_neg h, if_neg h]; exact eMax_1 i d j f w h
def JnR (a b c d e f g h i1 d1 i2 d2 : Int) (is : Bool) : Prop :=
 (Tch a b c d e f g h ∧ is = true ∧ i1 = mnI a b e f ∧ d1 = mnD a b e f ∧ i2 = mxI c d g h ∧ d2 = mxD c d g h) ∨ (¬ Tch a b c d e f g h ∧ is = false ∧ i1 = 0 ∧ d1 = 0 ∧ i2 = 0 ∧ d2 = 0)
def CmR (a b c d e f g h i1 d1 i2 d2 : Int) (is : Bool) : Prop :=
 (Meet a b c d e f g h ∧ is = true ∧ i1 = mxI a b e f ∧ d1 = mxD a b e f ∧ i2 = mnI c d g h ∧ d2 = mnD c d g h) ∨ (¬ Meet a b c d e f g h ∧ is = false ∧ i1 = 0 ∧ d1 = 0 ∧ i2 = 0 ∧ d2 = 0)
instance decJnR (a b c d e f g h i1 d1 i2 d2 : Int) (is : Bool) : Decidable (JnR a b c d e f g h i1 d1 i2 d2 is) := by unfold JnR; infer_instance
instance decCmR (a b c d e f g h i1 d1 i2 d2 : Int) (is : Bool) : Decidable (CmR a b c d e f g h i1 d1 i2 d2 is) := by unfold CmR; infer_instance
theorem rnJoin (a b c d e f g h i1 d1 i2 d2 : Int) (is : Bool) (w : World) (hb : I64 b) (hd : I64 d) (hf : I64 f) (hh : I64 h) (k : JnR a b c d e f g h i1 d1 i2 d2 is) :
   Calls Tryz.prog 117 #[.agg #[.int .i8 a, .int .i64 b, .int .i8 c, .int .i64 d], .agg #[.int .i8 e, .int .i64 f, .int .i8 g, .int .i64 h]] w fun ro w' => ro = .returned (.tuple #[.agg #[.int .i8 i1, .int .i64 d1, .int .i8 i2, .int .i64 d2], .bool is]) ∧ Dn w w' := by
 have HT := Lib.hid (fun W => rnTouch a b c d e f g h W hb hd hf hh)
 rcases k with ⟨k, rfl, rfl, rfl, rfl, rfl⟩ | ⟨k, rfl, rfl, rfl, rfl, rfl⟩
 · rw [decide_eq_true k] at HT
   exact rnJoin_yes a b c d e f g h _ _ _ _ HT (Lib.hid fun W => eMin_is a b e f W) (Lib.hid fun W => eMax_is c d g h W) w
 · rw [decide_eq_false k] at HT
   exact rnJoin_no a b c d e f g h HT w
theorem rnCommon (a b c d e f g h i1 d1 i2 d2 : Int) (is : Bool) (w : World) (hb : I64 b) (hd : I64 d) (hf : I64 f) (hh : I64 h) (k : CmR a b c d e f g h i1 d1 i2 d2 is) :
   Calls Tryz.prog 134 #[.agg #[.int .i8 a, .int .i64 b, .int .i8 c, .int .i64 d], .agg #[.int .i8 e, .int .i64 f, .int .i8 g, .int .i64 h]] w fun ro w' => ro = .returned (.tuple #[.agg #[.int .i8 i1, .int .i64 d1, .int .i8 i2, .int .i64 d2], .bool is]) ∧ Dn w w' := by
 have HR := Lib.hid (fun W => rnRight a b c d e f g h W hb hd hf hh)
 have HM := Lib.hid (fun W => eMax_is a b e f W)
 have HX := Lib.hid (fun W => eMin_is c d g h W)
 by_cases h0 : RnOk a b c d ∧ RnOk e f g h
 · rw [decide_eq_true h0] at HR
   have hok := common_ok hb hd hf hh h0.1 h0.2
   have herr := rnErr_ok (a := mxI a b e f) (b := mxD a b e f) (c := mnI c d g h) (d := mnD c d g h) (mx_i64 hb hf) (mn_i64 hd hh)
   have HC : Hid (ChkIs (mxI a b e f) (mxD a b e f) (mnI c d g h) (mnD c d g h) (rnErr (mxI a b e f) (mxD a b e f) (mnI c d g h) (mnD c d g h))) := Lib.hid (rnChk _ _ _ _)
   rcases k with ⟨k, rfl, rfl, rfl, rfl, rfl⟩ | ⟨k, rfl, rfl, rfl, rfl, rfl⟩
   · rw [herr.2 (hok.2 k)] at HC
     exact rnCom_3 a b c d e f g h _ _ _ _ HM HX HR HC w
   · exact rnCom_2 a b c d e f g h _ _ _ _ HM HX HR _ HC (fun hc => k (hok.1 (herr.1 hc))) w
 · rw [decide_eq_false h0] at HR
   rcases k with ⟨k, rfl, rfl, rfl, rfl, rfl⟩ | ⟨k, rfl, rfl, rfl, rfl, rfl⟩
   · exact absurd ⟨k.1, k.2.1⟩ h0
   · exact rnCom_1 a b c d e f g h _ _ _ _ HM HX HR w
abbrev Rn := Int × Int × Int × Int
def rc (r : Rn) : List Value := [.int .i8 r.1, .int .i64 r.2.1, .int .i8 r.2.2.1, .int .i64 r.2.2.2]
theorem infoRun : (Tryz.prog.info? 30).map (fun i => (i.zero, i.size, i.bytes)) = some (some (.agg #[.int .i8 0, .int .i64 0, .int .i8 0, .int .i64 0]), 4, 32) := by kernel_rfl
structure OwnR (w : World) (base : Nat) (v : Value) (rs : List Rn) : Prop where
 own : w.ownsRow base 30 4 v rs.length (rs.flatMap rc)
 ok : ∀ r ∈ rs, I64 r.2.1 ∧ I64 r.2.2.2
theorem OwnR.nil (w : World) (base : Nat) : OwnR w base (.slice none 0 0) [] := ⟨World.ownsRow_nil _ _ _ _, fun _ h => by cases h⟩
theorem OwnR.kept {w w' : World} {base : Nat} {v : Value} {rs : List Rn} {row : Option Nat} (h : OwnR w base v rs) (hg : w.grownBy w' row) (hr : ∀ k, row = some k → k < base) : OwnR w' base v rs :=
 ⟨h.own.kept hg (by
  cases hv : v.ownBlock with
  | none => exact Or.inl rfl
  | some g =>
    right
    intro e
    have := (h.own.lt g hv).1
    have := hr g e.symm
    omega), h.ok⟩
theorem OwnR.dn {w w' : World} {base : Nat} {v : Value} {rs : List Rn} (h : OwnR w base v rs) (k : Dn w w') : OwnR w' base v rs := h.kept (grown_dn k none) (fun _ e => by cases e)
theorem OwnR.row {w : World} {base : Nat} {v : Value} {rs : List Rn} (h : OwnR w base v rs) : ∀ k, v.ownBlock = some k → base ≤ k := fun k hk => (h.own.lt k hk).1
theorem rc_get : ∀ (rs : List Rn) (i j : Nat) (r : Rn), rs[i]? = some r → j < 4 → (rs.flatMap rc)[i * 4 + j]? = (rc r)[j]?
 | [], i, j, r, h, _ => by simp at h
 | x :: rs, 0, j, r, h, hj => by
   simp at h
   subst h
   simp only [List.flatMap_cons]
   rw [List.getElem?_append_left (by simp [rc]; omega)]
   simp
 | x :: rs, i + 1, j, r, h, hj => by
   have := rc_get rs i j r (by simpa using h) hj
   simp only [List.flatMap_cons]
   rw [List.getElem?_append_right (by simp [rc]; omega)]
   have e : (i + 1) * 4 + j - (rc x).length = i * 4 + j := by simp [rc]; omega
   rw [e]; exact this
theorem OwnR.form {w : World} {base : Nat} {v : Value} {rs : List Rn} (h : OwnR w base v rs) (hn : rs ≠ []) : ∃ g cap, v = .slice (some ⟨g, 0, none⟩) rs.length cap ∧ base ≤ g ∧ rs.length ≤ cap ∧
   ∀ (i : Nat) (r : Rn), rs[i]? = some r → ∀ j u, (rc r)[j]? = some u → w.cell? ⟨g, i * 4 + j, none⟩ = some u := by
 rcases h.own.2 with ⟨rfl, h0⟩ | ⟨g, cap, cur, rfl, hb, hg, h1, h2, h3, h4⟩
 · exact absurd (List.length_eq_zero_iff.1 h0) hn
 · refine ⟨g, cap, rfl, hb, h1, fun i r hi j u hu => ?_⟩
   have hj : j < 4 := by
    rcases Nat.lt_or_ge j 4 with h | h
    · exact h
    · rw [List.getElem?_eq_none (by simp [rc]; omega)] at hu; cases hu
   have := h.own.cells (g := g) rfl (i * 4 + j) u (by rw [rc_get rs i j r hi hj]; exact hu)
   have hadd : (⟨g, 0, none⟩ : Addr).add (i * 4 + j) = ⟨g, i * 4 + j, none⟩ := by unfold Addr.add; split <;> simp_all
   rwa [hadd] at this
structure Rq where
 a : Int
 b : Int
 c : Int
 d : Int
deriving DecidableEq
def Rq.lo (x : Rq) : Int := key x.a x.b
def Rq.hi (x : Rq) : Int := key x.c x.d
def Rq.ok (x : Rq) : Prop := I64 x.b ∧ I64 x.d ∧ RnOk x.a x.b x.c x.d
def Sep : List Rq → Prop
 | [] => True
 | x :: t => x.ok ∧ (∀ y ∈ t, x.hi + 1 < y.lo) ∧ Sep t
def Mem (k : Int) (L : List Rq) : Prop := ∃ x ∈ L, x.lo ≤ k ∧ k ≤ x.hi
theorem mem_cons {k : Int} {x : Rq} {t : List Rq} : Mem k (x :: t) ↔ (x.lo ≤ k ∧ k ≤ x.hi) ∨ Mem k t := by
 constructor
 · rintro ⟨y, h, k1⟩
   rcases List.mem_cons.1 h with h | h
   · subst h; exact .inl k1
   · exact .inr ⟨y, h, k1⟩
 · rintro (h | ⟨y, h, k1⟩)
   · exact ⟨x, List.mem_cons_self, h⟩
   · exact ⟨y, List.mem_cons_of_mem _ h, k1⟩
theorem mem_append {k : Int} {s t : List Rq} : Mem k (s ++ t) ↔ Mem k s ∨ Mem k t := by
 constructor
 · rintro ⟨y, h, k1⟩
   rcases List.mem_append.1 h with h | h
   · exact .inl ⟨y, h, k1⟩
   · exact .inr ⟨y, h, k1⟩
 · rintro (⟨y, h, k1⟩ | ⟨y, h, k1⟩)
   · exact ⟨y, List.mem_append.2 (.inl h), k1⟩
   · exact ⟨y, List.mem_append.2 (.inr h), k1⟩
theorem Rq.ok_le {x : Rq} (h : x.ok) : x.lo ≤ x.hi := h.2.2.2.2.2.2
def chkFrom : Option Rq → List Rq → Int
 | _, [] => 0
 | p, x :: t => if rnErr x.a x.b x.c x.d ≠ 0 then rnErr x.a x.b x.c x.d else
   match p with
   | none => chkFrom (some x) t
   | some q => if q.hi + 1 < x.lo then chkFrom (some x) t else 12
def chkL (l : List Rq) : Int := if 4096 < l.length then 3 else chkFrom none l
def jnR (x y : Rq) : Rq := ⟨mnI x.a x.b y.a y.b, mnD x.a x.b y.a y.b, mxI x.c x.d y.c y.d, mxD x.c x.d y.c y.d⟩
def inR (x y : Rq) : Rq := ⟨mxI x.a x.b y.a y.b, mxD x.a x.b y.a y.b, mnI x.c x.d y.c y.d, mnD x.c x.d y.c y.d⟩
def TchR (x y : Rq) : Prop := x.ok ∧ y.ok ∧ y.lo ≤ x.hi + 1 ∧ x.lo ≤ y.hi + 1
def MeetR (x y : Rq) : Prop := x.ok ∧ y.ok ∧ y.lo ≤ x.hi ∧ x.lo ≤ y.hi
instance decRqOk (x : Rq) : Decidable x.ok := by unfold Rq.ok; infer_instance
instance decTchR (x y : Rq) : Decidable (TchR x y) := by unfold TchR; infer_instance
instance decMeetR (x y : Rq) : Decidable (MeetR x y) := by unfold MeetR; infer_instance
theorem inR_lo {x y : Rq} (hx : x.ok) (hy : y.ok) : (inR x y).lo = max x.lo y.lo := mx_key hx.1 hy.1
theorem inR_hi {x y : Rq} (hx : x.ok) (hy : y.ok) : (inR x y).hi = min x.hi y.hi := mn_key hx.2.1 hy.2.1
theorem mn_ge0 {i d j f : Int} (h : 0 ≤ i) (k : 0 ≤ j) : 0 ≤ mnI i d j f := by unfold mnI; split <;> assumption
theorem mx_le0 {i d j f : Int} (h : i ≤ 0) (k : j ≤ 0) : mxI i d j f ≤ 0 := by unfold mxI; split <;> assumption
theorem inR_ok {x y : Rq} (hm : MeetR x y) : (inR x y).ok := by
 obtain ⟨hx, hy, m1, m2⟩ := hm
 have l := inR_lo hx hy
 have h := inR_hi hx hy
 have k1 := Rq.ok_le hx
 have k2 := Rq.ok_le hy
 have k : (inR x y).lo ≤ (inR x y).hi := by omega
 obtain ⟨a1, a2, a3, a4, a5, a6, a7⟩ := hx
 obtain ⟨b1, b2, b3, b4, b5, b6, b7⟩ := hy
 exact ⟨mx_i64 a1 b1, mn_i64 a2 b2, mx_ok a3 b3, mn_ok a4 b4, mx_le0 a5 b5, mn_ge0 a6 b6, k⟩
def jn : Rq → List Rq → List Rq
 | p, [] => [p]
 | p, r :: t => if TchR p r then jn (jnR p r) t else p :: jn r t
def joinedL : List Rq → List Rq
 | [] => []
 | x :: t => jn x t
theorem Sep.all {l : List Rq} (h : Sep l) : ∀ x ∈ l, x.ok := by
 induction l with
 | nil => intro x hx; cases hx
 | cons y t ih =>
   intro x hx
   rcases List.mem_cons.1 hx with hx | hx
   · subst hx; exact h.1
   · exact ih h.2.2 x hx
def cmn : List Rq → List Rq → List Rq
 | [], _ => []
 | _ :: _, [] => []
 | x :: s, y :: t => (if MeetR x y then [inR x y] else []) ++ (if x.hi < y.hi then cmn s (y :: t) else cmn (x :: s) t)
termination_by s t => s.length + t.length
def ltR (x y : Rq) : Prop := x.lo < y.lo ∨ x.lo = y.lo ∧ x.hi < y.hi
instance decLtR (x y : Rq) : Decidable (ltR x y) := by unfold ltR; infer_instance
theorem Sep.append : ∀ {u v : List Rq}, Sep u → Sep v → (∀ x ∈ u, ∀ y ∈ v, x.hi + 1 < y.lo) → Sep (u ++ v)
 | [], _, _, hv, _ => hv
 | x :: t, v, hu, hv, h => ⟨hu.1, fun y hy => by
   rcases List.mem_append.1 hy with hy | hy
   · exact hu.2.1 y hy
   · exact h x List.mem_cons_self y hy, Sep.append hu.2.2 hv (fun z hz => h z (List.mem_cons_of_mem _ hz))⟩
def WtP (a b : List Rq) : Prop := ∀ x ∈ a, ∃ y ∈ b, y.lo ≤ x.lo ∧ x.hi ≤ y.hi
theorem rq_err {x : Rq} (h1 : I64 x.b) (h2 : I64 x.d) : rnErr x.a x.b x.c x.d = 0 ↔ x.ok := by
 rw [rnErr_ok h1 h2]; exact ⟨fun h => ⟨h1, h2, h⟩, fun h => h.2.2⟩
theorem chkFrom_sep : ∀ {l : List Rq} {q : Rq}, (∀ x ∈ l, I64 x.b ∧ I64 x.d) → chkFrom (some q) l = 0 → Sep l ∧ ∀ y ∈ l, q.hi + 1 < y.lo
 | [], _, _, _ => ⟨trivial, fun _ h => (nomatch h)⟩
 | x :: t, q, hv, h => by
   have hx := hv x List.mem_cons_self
   unfold chkFrom at h
   by_cases h1 : rnErr x.a x.b x.c x.d ≠ 0
   · rw [if_pos h1] at h; exact absurd h h1
   · rw [if_neg h1] at h
     have ox := (rq_err hx.1 hx.2).1 (by omega)
     have kx := Rq.ok_le ox
     by_cases h2 : q.hi + 1 < x.lo
     · simp only [h2, if_true] at h
       obtain ⟨a1, a2⟩ := chkFrom_sep (fun y hy => hv y (List.mem_cons_of_mem _ hy)) h
       refine ⟨⟨ox, a2, a1⟩, fun y hy => ?_⟩
       rcases List.mem_cons.1 hy with e | e
       · subst e; exact h2
       · have := a2 y e; omega
     · simp only [h2, if_false] at h; exact absurd h (by decide)
theorem chk_sep {l : List Rq} (hv : ∀ x ∈ l, I64 x.b ∧ I64 x.d) (h : chkFrom none l = 0) : Sep l := by
 cases l with
 | nil => trivial
 | cons x t =>
   have hx := hv x List.mem_cons_self
   unfold chkFrom at h
   by_cases h1 : rnErr x.a x.b x.c x.d ≠ 0
   · rw [if_pos h1] at h; exact absurd h h1
   · rw [if_neg h1] at h
     have a := chkFrom_sep (fun y hy => hv y (List.mem_cons_of_mem _ hy)) h
     exact ⟨(rq_err hx.1 hx.2).1 (by omega), a.2, a.1⟩
theorem order_prog {p x : Rq} (hp : p.ok) (hx : x.ok) : (ltR x p ∨ TchR p x) ↔ ¬ p.hi + 1 < x.lo := by
 have kp := Rq.ok_le hp
 have kx := Rq.ok_le hx
 unfold ltR TchR
 constructor
 · rintro (q | q)
   · omega
   · have := q.2.2; omega
 · intro q
   by_cases q2 : p.lo ≤ x.hi + 1
   · exact .inr ⟨hp, hx, by omega, q2⟩
   · left; omega
def cntP : Int → List Rq → Int × Int
 | acc, [] => (acc, 0)
 | acc, x :: t => if I64 (x.d - x.b + 1) then (if I64 (acc + (x.d - x.b + 1)) then cntP (acc + (x.d - x.b + 1)) t else (0, 15)) else (0, 15)
def HasL (l : List Rq) (k : Int) : Prop := ∃ x ∈ l, x.ok ∧ x.lo ≤ k ∧ k ≤ x.hi
def El (w : World) (g o k : Nat) (x : Rq) : Prop :=
 w.cell? ⟨g, o + k * 4, none⟩ = some (.int .i8 x.a) ∧ w.cell? ⟨g, o + k * 4 + 1, none⟩ = some (.int .i64 x.b) ∧ w.cell? ⟨g, o + k * 4 + 2, none⟩ = some (.int .i8 x.c) ∧ w.cell? ⟨g, o + k * 4 + 3, none⟩ = some (.int .i64 x.d)
theorem El.dn {w w' : World} {g o k : Nat} {x : Rq} (h : El w g o k x) (q : Dn w w') : El w' g o k x := ⟨q.cell h.1, q.cell h.2.1, q.cell h.2.2.1, q.cell h.2.2.2⟩
structure Row (w : World) (p : Option Addr) (L : List Rq) : Prop where
 h : L = [] ∨ ∃ g o, p = some ⟨g, o, none⟩ ∧ g < w.heap.size ∧ ∀ k x, L[k]? = some x → El w g o k x
theorem Row.dn {w w' : World} {p : Option Addr} {L : List Rq} (h : Row w p L) (q : Dn w w') : Row w' p L := by
 rcases h.h with h | ⟨g, o, e, hl, h⟩
 · exact ⟨.inl h⟩
 · exact ⟨.inr ⟨g, o, e, Nat.lt_of_lt_of_le hl q.size, fun k x hx => (h k x hx).dn q⟩⟩
theorem Row.nil (w : World) (p : Option Addr) : Row w p [] := ⟨.inl rfl⟩
theorem Row.at {w : World} {p : Option Addr} {L : List Rq} (h : Row w p L) (hn : 0 < L.length) : ∃ g o, p = some ⟨g, o, none⟩ ∧ g < w.heap.size ∧ ∀ k x, L[k]? = some x → El w g o k x := by
 rcases h.h with h | h
 · subst h; simp at hn
 · exact h
structure Cs (w : World) (g o : Nat) (L : List Rq) : Prop where
 lt : g < w.heap.size
 el : ∀ k x, L[k]? = some x → El w g o k x
theorem Cs.dn {w w' : World} {g o : Nat} {L : List Rq} (h : Cs w g o L) (q : Dn w w') : Cs w' g o L := ⟨Nat.lt_of_lt_of_le h.lt q.size, fun k x hx => (h.el k x hx).dn q⟩
theorem Cs.row {w : World} {g o : Nat} {L : List Rq} (h : Cs w g o L) : Row w (some ⟨g, o, none⟩) L := ⟨.inr ⟨g, o, rfl, h.lt, h.el⟩⟩
theorem Row.cs {w : World} {p : Option Addr} {L : List Rq} (h : Row w p L) (hn : 0 < L.length) : ∃ g o, p = some ⟨g, o, none⟩ ∧ Cs w g o L := by
 obtain ⟨g, o, e, h1, h2⟩ := h.at hn
 exact ⟨g, o, e, h1, h2⟩
def I6 (L : List Rq) : Prop := ∀ x ∈ L, I64 x.b ∧ I64 x.d
theorem I6.at {L : List Rq} (h : I6 L) {k : Nat} {x : Rq} (hx : L[k]? = some x) : I64 x.b ∧ I64 x.d := h x (List.mem_of_getElem? hx)
def prv (L : List Rq) (k : Nat) : Option Rq := if k = 0 then none else L[k - 1]?
theorem chk_at {L : List Rq} {k : Nat} {x : Rq} (h : L[k]? = some x) : chkFrom (prv L k) (L.drop k) = if rnErr x.a x.b x.c x.d ≠ 0 then rnErr x.a x.b x.c x.d else
  match prv L k with
  | none => chkFrom (prv L (k + 1)) (L.drop (k + 1))
  | some q => if q.hi + 1 < x.lo then chkFrom (prv L (k + 1)) (L.drop (k + 1)) else 12 := by
 obtain ⟨hl, rfl⟩ := List.getElem?_eq_some_iff.1 h
 have h2 : prv L (k + 1) = some L[k] := by simp [prv]
 rw [List.drop_eq_getElem_cons hl, h2]
 rfl
theorem chk_bad {L : List Rq} {k : Nat} {x : Rq} (h : L[k]? = some x) (he : rnErr x.a x.b x.c x.d ≠ 0) : chkFrom (prv L k) (L.drop k) = rnErr x.a x.b x.c x.d := by
 rw [chk_at h, if_pos he]
theorem chk_first {L : List Rq} {k : Nat} {x : Rq} (h : L[k]? = some x) (hk : k = 0) (he : rnErr x.a x.b x.c x.d = 0) : chkFrom (prv L k) (L.drop k) = chkFrom (prv L (k + 1)) (L.drop (k + 1)) := by
 subst hk
 rw [chk_at h, if_neg (by simpa using he)]
 simp [prv]
theorem chk_order {L : List Rq} {k : Nat} {q x : Rq} (h : L[k]? = some x) (hk : 0 < k) (hq : L[k - 1]? = some q) (he : rnErr x.a x.b x.c x.d = 0) (ho : ¬ q.hi + 1 < x.lo) : chkFrom (prv L k) (L.drop k) = 12 := by
 have : prv L k = some q := by simp [prv, hq]; omega
 rw [chk_at h, if_neg (by simpa using he), this]
 simp [ho]
theorem chk_next {L : List Rq} {k : Nat} {q x : Rq} (h : L[k]? = some x) (hk : 0 < k) (hq : L[k - 1]? = some q) (he : rnErr x.a x.b x.c x.d = 0) (ho : q.hi + 1 < x.lo) : chkFrom (prv L k) (L.drop k) = chkFrom (prv L (k + 1)) (L.drop (k + 1)) := by
 have : prv L k = some q := by simp [prv, hq]; omega
 rw [chk_at h, if_neg (by simpa using he), this]
 simp [ho]
theorem chk_end {L : List Rq} : chkFrom (prv L L.length) (L.drop L.length) = 0 := by
 simp [chkFrom]
def OkTo (L : List Rq) (k : Nat) : Prop := ∀ i x, L[i]? = some x → i < k → x.ok
theorem OkTo.zero (L : List Rq) : OkTo L 0 := fun _ _ _ h => absurd h (by omega)
theorem OkTo.step {L : List Rq} {k : Nat} {x : Rq} (h : OkTo L k) (hx : L[k]? = some x) (hk : x.ok) : OkTo L (k + 1) := fun i y hy hi => by
 rcases Nat.lt_or_ge i k with h1 | h1
 · exact h i y hy h1
 · obtain rfl : i = k := by omega
   rw [hx] at hy; cases hy; exact hk
theorem OkTo.all {L : List Rq} (h : OkTo L L.length) : ∀ x ∈ L, x.ok := fun x hx => by
 obtain ⟨i, hi, rfl⟩ := List.getElem_of_mem hx
 exact h i _ (by simp [hi]) hi
theorem tch_iff {p x : Rq} (hp : I64 p.b ∧ I64 p.d) (hx : I64 x.b ∧ I64 x.d) : Tch p.a p.b p.c p.d x.a x.b x.c x.d ↔ TchR p x :=
 ⟨fun h => ⟨⟨hp.1, hp.2, h.1⟩, ⟨hx.1, hx.2, h.2.1⟩, h.2.2⟩, fun h => ⟨h.1.2.2, h.2.1.2.2, h.2.2⟩⟩
theorem meet_iff {p x : Rq} (hp : I64 p.b ∧ I64 p.d) (hx : I64 x.b ∧ I64 x.d) : Meet p.a p.b p.c p.d x.a x.b x.c x.d ↔ MeetR p x :=
 ⟨fun h => ⟨⟨hp.1, hp.2, h.1⟩, ⟨hx.1, hx.2, h.2.1⟩, h.2.2⟩, fun h => ⟨h.1.2.2, h.2.1.2.2, h.2.2⟩⟩
theorem cmp_ltR {x p : Rq} (hx : I64 x.b ∧ I64 x.d) (hp : I64 p.b ∧ I64 p.d) : 0 < or2 (eC p.a p.b x.a x.b) (eC p.c p.d x.c x.d) ↔ ltR x p := by
 have h1 := eC_gt (i := p.a) (j := x.a) hp.1 hx.1
 have h2 := eC_gt (i := p.c) (j := x.c) hp.2 hx.2
 have h3 := eC_lt (i := p.a) (j := x.a) hp.1 hx.1
 unfold or2 ltR Rq.lo Rq.hi
 split <;> omega
def qc (x : Rq) : List Value := [.int .i8 x.a, .int .i64 x.b, .int .i8 x.c, .int .i64 x.d]
structure OwnQ (w : World) (base : Nat) (v : Value) (L : List Rq) : Prop where
 own : w.ownsRow base 30 4 v L.length (L.flatMap qc)
theorem OwnQ.nil (w : World) (base : Nat) : OwnQ w base (.slice none 0 0) [] := ⟨World.ownsRow_nil _ _ _ _⟩
theorem OwnQ.row {w : World} {base : Nat} {v : Value} {L : List Rq} (h : OwnQ w base v L) : ∀ k, v.ownBlock = some k → base ≤ k ∧ k < w.heap.size := fun k hk => h.own.lt k hk
theorem OwnQ.kept {w w' : World} {base : Nat} {v : Value} {L : List Rq} {row : Option Nat} (h : OwnQ w base v L) (hg : w.grownBy w' row) (hr : ∀ k, row = some k → k < base) : OwnQ w' base v L :=
 ⟨h.own.kept hg (by
  cases hv : v.ownBlock with
  | none => exact Or.inl rfl
  | some g =>
    right
    intro e
    have := (h.own.lt g hv).1
    have := hr g e.symm
    omega)⟩
theorem OwnQ.dn {w w' : World} {base : Nat} {v : Value} {L : List Rq} (h : OwnQ w base v L) (k : Dn w w') : OwnQ w' base v L := h.kept (grown_dn k none) (fun _ e => by cases e)
theorem OwnQ.base {w : World} {b c : Nat} {v : Value} {L : List Rq} (h : OwnQ w b v L) (k : c ≤ b) : OwnQ w c v L := by
 refine ⟨h.own.1, ?_⟩
 rcases h.own.2 with hn | ⟨g, cap, cur, hv, hbg, rest⟩
 · exact .inl hn
 · exact .inr ⟨g, cap, cur, hv, Nat.le_trans k hbg, rest⟩
theorem qc_get : ∀ (L : List Rq) (i j : Nat) (r : Rq), L[i]? = some r → j < 4 → (L.flatMap qc)[i * 4 + j]? = (qc r)[j]?
 | [], i, j, r, h, _ => by simp at h
 | x :: L, 0, j, r, h, hj => by
   simp at h
   subst h
   simp only [List.flatMap_cons]
   rw [List.getElem?_append_left (by simp [qc]; omega)]
   simp
 | x :: L, i + 1, j, r, h, hj => by
   have := qc_get L i j r (by simpa using h) hj
   simp only [List.flatMap_cons]
   rw [List.getElem?_append_right (by simp [qc]; omega)]
   have e : (i + 1) * 4 + j - (qc x).length = i * 4 + j := by simp [qc]; omega
   rw [e]; exact this
theorem OwnQ.form {w : World} {base : Nat} {v : Value} {L : List Rq} (h : OwnQ w base v L) : (v = .slice none 0 0 ∧ L = []) ∨ ∃ g cap, v = .slice (some ⟨g, 0, none⟩) L.length cap ∧ base ≤ g ∧ L.length ≤ cap ∧ cap ≤ maxLen ∧ Cs w g 0 L := by
 rcases h.own.2 with ⟨rfl, h0⟩ | ⟨g, cap, cur, rfl, hb, hg, h1, h2, h3, h4⟩
 · exact .inl ⟨rfl, List.length_eq_zero_iff.1 h0⟩
 · refine .inr ⟨g, cap, rfl, hb, h1, h2, (Array.getElem?_eq_some_iff.1 hg).1, fun i r hi => ?_⟩
   have c : ∀ j u, (qc r)[j]? = some u → w.cell? ⟨g, i * 4 + j, none⟩ = some u := fun j u hu => by
     have hj : j < 4 := by
      rcases Nat.lt_or_ge j 4 with h | h
      · exact h
      · rw [List.getElem?_eq_none (by simp [qc]; omega)] at hu; cases hu
     have hl : i * 4 + j < L.length * 4 := by
      obtain ⟨hi', _⟩ := List.getElem?_eq_some_iff.1 hi
      omega
     rw [h.own.cellAt _ hl, qc_get L i j r hi hj]; exact hu
   refine ⟨?_, ?_, ?_, ?_⟩
   · simpa using c 0 _ rfl
   · simpa using c 1 _ rfl
   · simpa using c 2 _ rfl
   · simpa using c 3 _ rfl
theorem OwnQ.rowOf {w : World} {base : Nat} {v : Value} {L : List Rq} (h : OwnQ w base v L) : ∃ p cap, v = .slice p L.length cap ∧ L.length ≤ cap ∧ Row w p L := by
 rcases h.form with ⟨rfl, rfl⟩ | ⟨g, cap, rfl, _, h1, _, hc⟩
 · exact ⟨_, _, rfl, Nat.le_refl _, Row.nil _ _⟩
 · exact ⟨_, _, rfl, h1, hc.row⟩
theorem list_run {ops : Array Oper} {rest : List Oper} {o : Oper} {a : Act} {Q : Exit → Act → World → Prop} (hgd : o.guard = none) (s x : Operand)
   (ho : o.op = .call { callee := .builtin .append, args := #[s, x], argTypes := #[48, 48] }) (w : World) (base : Nat) (v : Value) (L : List Rq) (a0 b0 c0 d0 : Int) (hs : a.eval s = v) (hown : OwnQ w base v L)
   (hx : a.eval x = .slice (some ⟨w.heap.size, 0, none⟩) 1 1) (hl : L.length ≤ 1000000) (hb : base ≤ w.heap.size)
   (h : ∀ v' w', OwnQ w' base v' (L ++ [⟨a0, b0, c0, d0⟩]) → (∀ b, b < w.heap.size → (∀ k, v.ownBlock = some k → b ≠ k) → w'.heap[b]? = w.heap[b]?) → (∀ w0, Dn w0 w → base = w0.heap.size → Dn w0 w') → wpList Tryz.prog ops Q rest (a.put o.dst v') w') :
   wpList Tryz.prog ops Q (o :: rest) a (w.alloc (.cells #[.int .i8 a0, .int .i64 b0, .int .i8 c0, .int .i64 d0] 30)) := by
 obtain ⟨i0, hi, hz0, hz1, hz2⟩ := info_parts infoRun
 refine wpList_append_own (w.alloc (.cells #[.int .i8 a0, .int .i64 b0, .int .i8 c0, .int .i64 d0] 30)) hgd s x 48 ho base 30 i0 _ 4 32 Tryz.underlying48 hi hz0 hz1 hz2 rfl (by decide) v _ _ hs (hown.own.alloc _) ⟨w.heap.size, 0, none⟩ 1 1 (qc ⟨a0, b0, c0, d0⟩) hx rfl ?_ ?_ ?_ ?_ ?_ ?_
 · intro j u hj
   match j, hj with
   | 0, hj => simp [qc] at hj; subst hj; simp [Addr.add]
   | 1, hj => simp [qc] at hj; subst hj; simp [Addr.add]
   | 2, hj => simp [qc] at hj; subst hj; simp [Addr.add]
   | 3, hj => simp [qc] at hj; subst hj; simp [Addr.add]
   | n + 4, hj => simp [qc] at hj
 · intro u hu; simp [qc] at hu; rcases hu with rfl | rfl | rfl | rfl <;> rfl
 · unfold maxLen; omega
 · omega
 · simp; omega
 · intro v' w' k1 k2 _
   have hall : w.grownBy w' v.ownBlock := by
     have := World.grownBy_alloc w (.cells #[.int .i8 a0, .int .i64 b0, .int .i8 c0, .int .i64 d0] 30) v.ownBlock
     exact grown_trans this k2
   refine h v' w' ⟨?_⟩ ?_ ?_
   · simpa using k1
   · intro b hb1 hb2
     exact hall.block b hb1 (fun e => hb2 b e.symm rfl)
   · intro w0 hd e
     exact ⟨hd.below.trans ⟨hall.os, hall.tape, hall.output, hall.size, fun i hi => hall.block i (Nat.lt_of_lt_of_le hi hd.size) (fun e2 => by have := (hown.own.lt i e2.symm).1; omega)⟩⟩
theorem OwnQ.put {w : World} {base g cap n : Nat} {L : List Rq} (h : OwnQ w base (.slice (some ⟨g, 0, none⟩) n cap) L) (hn : n = L.length) {k : Nat} (hk : k < L.length) (x : Rq) :
  OwnQ ((((w.setCell ⟨g, k * 4, none⟩ (.int .i8 x.a)).setCell ⟨g, k * 4 + 1, none⟩ (.int .i64 x.b)).setCell ⟨g, k * 4 + 2, none⟩ (.int .i8 x.c)).setCell ⟨g, k * 4 + 3, none⟩ (.int .i64 x.d)) base (.slice (some ⟨g, 0, none⟩) n cap) (L.set k x) := by
 subst hn
 have h1 := (h.own.stored (k * 4) (.int .i8 x.a)).1
 have h2 := (h1.stored (k * 4 + 1) (.int .i64 x.b)).1
 have h3 := (h2.stored (k * 4 + 2) (.int .i8 x.c)).1
 have h4 := (h3.stored (k * 4 + 3) (.int .i64 x.d)).1
 have e : ((((L.flatMap qc).set (k * 4) (.int .i8 x.a)).set (k * 4 + 1) (.int .i64 x.b)).set (k * 4 + 2) (.int .i8 x.c)).set (k * 4 + 3) (.int .i64 x.d) = (L.set k x).flatMap qc := by
  clear h1 h2 h3 h4 h
  induction L generalizing k with
  | nil => simp at hk
  | cons y t ih =>
    cases k with
    | zero => simp [qc]
    | succ k =>
      have := ih (by simpa using hk) 
      rw [List.set_cons_succ, List.flatMap_cons, List.flatMap_cons, ← this]
      have l4 : (qc y).length = 4 := rfl
      have e0 : (k + 1) * 4 = 4 + k * 4 := by omega
      simp only [e0, Nat.add_assoc]
      rw [List.set_append_right _ _ (by omega), List.set_append_right _ _ (by omega), List.set_append_right _ _ (by omega), List.set_append_right _ _ (by omega)]
      simp only [l4, Nat.add_sub_cancel_left]
 refine ⟨?_⟩
 rw [← e]
 simpa using h4
theorem OwnQ.frozen {w : World} {base g cap n : Nat} {L : List Rq} (h : OwnQ w base (.slice (some ⟨g, 0, none⟩) n cap) L) (hn : n = L.length) (j : Nat) : w.frozen? ⟨g, j, none⟩ = false := by
 subst hn; exact h.own.frozenAt j
end Go.Proofs.YteodjglbpfmikaaGreatDoor
