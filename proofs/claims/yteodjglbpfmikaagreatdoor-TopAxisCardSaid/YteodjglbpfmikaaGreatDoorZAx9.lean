/- Walks and laws that the claim's theorem leans on: part 9. -/
import Derived.Test.YteodjglbpfmikaaGreatDoorZAx1
import Derived.Test.YteodjglbpfmikaaGreatDoorZAx5
import Derived.Deep.DeepCutAuto
namespace Go.Proofs.YteodjglbpfmikaaGreatDoor
set_option maxHeartbeats 4000000
set_option maxRecDepth 100000
open Go.RowKit
set_option linter.unusedVariables false
set_option linter.unusedSimpArgs false
theorem rnCom_1 (a b c d e f g h i1 d1 i2 d2 : Int) (HM : Hid (∀ W, Calls Tryz.prog 152 #[.agg #[.int .i8 a, .int .i64 b], .agg #[.int .i8 e, .int .i64 f]] W fun r w' => r = .returned (.agg #[.int .i8 i1, .int .i64 d1]) ∧ Up W w')) (HX : Hid (∀ W, Calls Tryz.prog 151 #[.agg #[.int .i8 c, .int .i64 d], .agg #[.int .i8 g, .int .i64 h]] W fun r w' => r = .returned (.agg #[.int .i8 i2, .int .i64 d2]) ∧ Up W w')) (HR : Hid (∀ W, Calls Tryz.prog 80 #[.agg #[.int .i8 a, .int .i64 b, .int .i8 c, .int .i64 d], .agg #[.int .i8 e, .int .i64 f, .int .i8 g, .int .i64 h]] W fun r w' => r = .returned (.bool false) ∧ Dn W w')) (w : World) :
  Calls Tryz.prog 134 #[.agg #[.int .i8 a, .int .i64 b, .int .i8 c, .int .i64 d], .agg #[.int .i8 e, .int .i64 f, .int .i8 g, .int .i64 h]] w fun ro w' => ro = .returned (.tuple #[.agg #[.int .i8 0, .int .i64 0, .int .i8 0, .int .i64 0], .bool false]) ∧ Dn w w' := by
 obtain ⟨W, hW⟩ : ∃ W, W = ((w.alloc (.cells #[.int .i8 a, .int .i64 b, .int .i8 c, .int .i64 d] 30)).alloc (.cells #[.int .i8 e, .int .i64 f, .int .i8 g, .int .i64 h] 30)).alloc (.cells #[.int .i8 0, .int .i64 0, .int .i8 0, .int .i64 0] 30) := ⟨_, rfl⟩
 have kX : C4 W w.heap.size (.int .i8 a) (.int .i64 b) (.int .i8 c) (.int .i64 d) := by rw [hW]; exact ((C4.new _ _ _ _ _ _).alloc _).alloc _
 have kY : C4 W (w.heap.size + 1) (.int .i8 e) (.int .i64 f) (.int .i8 g) (.int .i64 h) := by rw [hW]; exact (C4.new1 _ _ _ _ _ _ _).alloc _
 have kR : C4 W (w.heap.size + 1 + 1) (.int .i8 0) (.int .i64 0) (.int .i8 0) (.int .i64 0) := by rw [hW]; exact C4.new2 _ _ _ _ _ _ _ _
 have uW : Dn w W := by rw [hW]; exact (((Dn.refl _).alloc _).alloc _).alloc _
 have hX := kX.drew
 have hY := kY.drew
 have hR := kR.drew
 have qW := uW.drew
 have hS := kdJ_8 (W := w) (Dn.refl W) ⟨uW, kX.c0, kX.c1, kX.c2, kX.c3, kY.c0, kY.c1, kY.c2, kY.c3⟩
 have HW := Lib.hid hW
 clear hW kX kY kR
 go_enter Tryz.func134, Tryz.ntmps134
 go_wp2_with fail
 rw [← HW.out]
 clear HW
 go_upto_region 1 with fail
 go_cut [6] (fun s6 wx => ∃ B : Nat, s6 = .pointer (some ⟨B, 0, none⟩) ∧ Dn w wx ∧ C4 wx w.heap.size (.int .i8 a) (.int .i64 b) (.int .i8 c) (.int .i64 d) ∧ C4 wx (w.heap.size + 1) (.int .i8 e) (.int .i64 f) (.int .i8 g) (.int .i64 h) ∧ C4 wx B (.int .i8 i1) (.int .i64 d1) (.int .i8 i2) (.int .i64 d2) ∧ C4 wx (w.heap.size + 1 + 1) (.int .i8 0) (.int .i64 0) (.int .i8 0) (.int .i64 0))
 case first =>
  refine wp_region_held_drew (S := fun w' => Dn w w' ∧ w'.cell? ⟨w.heap.size, 0, none⟩ = some (.int .i8 a) ∧ w'.cell? ⟨w.heap.size, 1, none⟩ = some (.int .i64 b) ∧ w'.cell? ⟨w.heap.size, 2, none⟩ = some (.int .i8 c) ∧ w'.cell? ⟨w.heap.size, 3, none⟩ = some (.int .i64 d) ∧ w'.cell? ⟨w.heap.size + 1, 0, none⟩ = some (.int .i8 e) ∧ w'.cell? ⟨w.heap.size + 1, 1, none⟩ = some (.int .i64 f) ∧ w'.cell? ⟨w.heap.size + 1, 2, none⟩ = some (.int .i8 g) ∧ w'.cell? ⟨w.heap.size + 1, 3, none⟩ = some (.int .i64 h)) (by kernel_rfl) ?_ (fun hHeld => ?_)
  · (try dsimp only); exact kdJ_8 ((Dn.refl _).drew) hS
  refine tk 0 ?_ rfl (by kernel_rfl) (fun _ _ _ => id) (by rfl) (by assumption) ?_ ?_
  rotate_left
  · (intro w hSw; (try dsimp only at hSw); go_simp)
    all_goals with_reducible rfl
  try simp only [Act.put, pL]
  refine tk 1 ?_ rfl (by kernel_rfl) (fun _ _ _ => id) (by rfl) (by assumption) ?_ ?_
  rotate_left
  · (intro w hSw; (try dsimp only at hSw); go_simp)
    all_goals with_reducible rfl
  try simp only [Act.put, pL]
  refine tk 2 ?_ rfl (by kernel_rfl) (fun _ _ _ => id) (by rfl) (by assumption) ?_ ?_
  rotate_left
  · (intro w hSw; (try dsimp only at hSw); go_simp)
    all_goals with_reducible rfl
  try simp only [Act.put, pL]
  refine tk 3 ?_ rfl (by kernel_rfl) (fun _ _ _ => id) (by rfl) (by assumption) ?_ ?_
  rotate_left
  · (intro w hSw; (try dsimp only at hSw); go_simp)
    all_goals with_reducible rfl
  try simp only [Act.put, pL]
  refine tk 5 ?_ rfl (by kernel_rfl) (fun _ _ _ => id) (by rfl) (by assumption) ?_ ?_
  rotate_left
  · (intro w hSw; (try dsimp only at hSw); go_simp)
    all_goals with_reducible rfl
  try simp only [Act.put, pL]
  refine tk 6 ?_ rfl (by kernel_rfl) (fun _ _ _ => id) (by rfl) (by assumption) ?_ ?_
  rotate_left
  · (intro w hSw; (try dsimp only at hSw); go_simp)
    all_goals with_reducible rfl
  try simp only [Act.put, pL]
  refine tk 7 ?_ rfl (by kernel_rfl) (fun _ _ _ => id) (by rfl) (by assumption) ?_ ?_
  rotate_left
  · (intro w hSw; (try dsimp only at hSw); go_simp)
    all_goals with_reducible rfl
  try simp only [Act.put, pL]
  refine tk 8 ?_ rfl (by kernel_rfl) (fun _ _ _ => id) (by rfl) (by assumption) ?_ ?_
  rotate_left
  · (intro w hSw; (try dsimp only at hSw); go_simp)
    all_goals with_reducible rfl
  try simp only [Act.put, pL]
  refine wpAnyH_ready (rs := [4, 11]) (by kernel_rfl) (by simp) ?_
  refine AllReadyH.cons rfl (fun K hK => ?_) (AllReadyH.cons rfl (fun K hK => ?_) AllReadyH.nil)
  ·
    go_simp
    go_at_call 152
    refine (HM.out _).mono ?_
    rintro e wa1 ⟨rfl, qa1⟩
    replace qa1 := Up.dn qa1
    have hXwa1 := hX.dn qa1
    have hYwa1 := hY.dn qa1
    have hRwa1 := hR.dn qa1
    have qWwa1 := qW.trans qa1
    try go_wp2_with fail
    refine hK.out _ _ ?_ (fun hHeld => ?_)
    · (try dsimp only); exact ⟨qWwa1, hXwa1.c0, hXwa1.c1, hXwa1.c2, hXwa1.c3, hYwa1.c0, hYwa1.c1, hYwa1.c2, hYwa1.c3⟩
    clear hK K
    try simp only [Act.put, pL]
    refine wpAnyH_ready (rs := [9, 11]) (by kernel_rfl) (by simp) ?_
    refine AllReadyH.cons rfl (fun K hK => ?_) (AllReadyH.cons rfl (fun K hK => ?_) AllReadyH.nil)
    ·
      go_simp
      go_at_call 151
      refine (HX.out _).mono ?_
      rintro e wa2 ⟨rfl, qa2⟩
      replace qa2 := Up.dn qa2
      have hXwa2 := hXwa1.dn qa2
      have hYwa2 := hYwa1.dn qa2
      have hRwa2 := hRwa1.dn qa2
      have qWwa2 := qWwa1.trans qa2
      try go_wp2_with fail
      refine hK.out _ _ ?_ (fun hHeld => ?_)
      · (try dsimp only); exact ⟨qWwa2, hXwa2.c0, hXwa2.c1, hXwa2.c2, hXwa2.c3, hYwa2.c0, hYwa2.c1, hYwa2.c2, hYwa2.c3⟩
      clear hK K
      try simp only [Act.put, pL]
      refine tk 10 ?_ rfl (by kernel_rfl) (fun _ _ _ => id) (by rfl) (by assumption) ?_ ?_
      rotate_left
      · (intro w hSw; (try dsimp only at hSw); go_simp)
        all_goals with_reducible rfl
      try simp only [Act.put, pL]
      refine wpAnyH_ready (rs := [11]) (by kernel_rfl) (by simp) ?_
      refine AllReadyH.cons rfl (fun K hK => ?_) AllReadyH.nil
      ·
        go_simp
        obtain ⟨wb3, hwb3⟩ : ∃ wb3, wb3 = wa2.alloc (.cells #[.int .i8 0, .int .i64 0, .int .i8 0, .int .i64 0] 30) := ⟨_, rfl⟩
        have qb3 : Dn wa2 wb3 := by rw [hwb3]; exact (Dn.refl wa2).alloc _
        have hN3 : NB wb3 wa2.heap.size (w.heap.size + 1 + 1) := by rw [hwb3]; exact NB.new (w := wa2) hRwa2.lt _
        rw [← hwb3]
        clear hwb3
        have hXwb3 := hXwa2.dn qb3
        have hYwb3 := hYwa2.dn qb3
        have hRwb3 := hRwa2.dn qb3
        have qWwb3 := qWwa2.trans qb3
        have z0 := hN3.z.c0
        have f0 := hN3.z.f0
        have z1 := hN3.z.c1
        have f1 := hN3.z.f1
        have z2 := hN3.z.c2
        have f2 := hN3.z.f2
        have z3 := hN3.z.c3
        have f3 := hN3.z.f3
        have zl := hN3.z.lt
        refine hK.out _ _ ?_ (fun hHeld => ?_)
        · (try dsimp only); exact ⟨qWwb3, hXwb3.c0, hXwb3.c1, hXwb3.c2, hXwb3.c3, hYwb3.c0, hYwb3.c1, hYwb3.c2, hYwb3.c3⟩
        clear hK K
        try simp only [Act.put, pL]
        refine wpAnyH_ready (rs := [12]) (by kernel_rfl) (by simp) ?_
        refine AllReadyH.cons rfl (fun K hK => ?_) AllReadyH.nil
        ·
          go_simp
          refine hK.out _ _ ?_ (fun hHeld => ?_)
          · (try dsimp only); exact ⟨(Dn.setCell (Dn.setCell (Dn.setCell (Dn.setCell qWwb3 (by have := hN3.lt; simp <;> omega) _) (by have := hN3.lt; simp <;> omega) _) (by have := hN3.lt; simp <;> omega) _) (by have := hN3.lt; simp <;> omega) _), (C4.far4 hXwb3 (by have := hN3.lt; omega) _ _ _ _).c0, (C4.far4 hXwb3 (by have := hN3.lt; omega) _ _ _ _).c1, (C4.far4 hXwb3 (by have := hN3.lt; omega) _ _ _ _).c2, (C4.far4 hXwb3 (by have := hN3.lt; omega) _ _ _ _).c3, (C4.far4 hYwb3 (by have := hN3.lt; omega) _ _ _ _).c0, (C4.far4 hYwb3 (by have := hN3.lt; omega) _ _ _ _).c1, (C4.far4 hYwb3 (by have := hN3.lt; omega) _ _ _ _).c2, (C4.far4 hYwb3 (by have := hN3.lt; omega) _ _ _ _).c3⟩
          clear hK K
          try simp only [Act.put, pL]
          refine wpAnyH_done (by kernel_rfl) ?_ _
          go_wp2_with fail
          go_meet
          case rel => exact ⟨_, rfl, (Dn.setCell (Dn.setCell (Dn.setCell (Dn.setCell qWwb3 (by have := hN3.lt; simp <;> omega) _) (by have := hN3.lt; simp <;> omega) _) (by have := hN3.lt; simp <;> omega) _) (by have := hN3.lt; simp <;> omega) _), (C4.far4 hXwb3 (by have := hN3.lt; omega) _ _ _ _), (C4.far4 hYwb3 (by have := hN3.lt; omega) _ _ _ _), hN3.z.fill _ _ _ _, (C4.far4 hRwb3 (by have := hN3.lt; omega) _ _ _ _)⟩
    ·
      go_simp
      obtain ⟨wb5, hwb5⟩ : ∃ wb5, wb5 = wa1.alloc (.cells #[.int .i8 0, .int .i64 0, .int .i8 0, .int .i64 0] 30) := ⟨_, rfl⟩
      have qb5 : Dn wa1 wb5 := by rw [hwb5]; exact (Dn.refl wa1).alloc _
      have hN5 : NB wb5 wa1.heap.size (w.heap.size + 1 + 1) := by rw [hwb5]; exact NB.new (w := wa1) hRwa1.lt _
      rw [← hwb5]
      clear hwb5
      have hXwb5 := hXwa1.dn qb5
      have hYwb5 := hYwa1.dn qb5
      have hRwb5 := hRwa1.dn qb5
      have qWwb5 := qWwa1.trans qb5
      have z0 := hN5.z.c0
      have f0 := hN5.z.f0
      have z1 := hN5.z.c1
      have f1 := hN5.z.f1
      have z2 := hN5.z.c2
      have f2 := hN5.z.f2
      have z3 := hN5.z.c3
      have f3 := hN5.z.f3
      have zl := hN5.z.lt
      refine hK.out _ _ ?_ (fun hHeld => ?_)
      · (try dsimp only); exact ⟨qWwb5, hXwb5.c0, hXwb5.c1, hXwb5.c2, hXwb5.c3, hYwb5.c0, hYwb5.c1, hYwb5.c2, hYwb5.c3⟩
      clear hK K
      try simp only [Act.put, pL]
      refine wpAnyH_ready (rs := [9]) (by kernel_rfl) (by simp) ?_
      refine AllReadyH.cons rfl (fun K hK => ?_) AllReadyH.nil
      ·
        go_simp
        go_at_call 151
        refine (HX.out _).mono ?_
        rintro e wa6 ⟨rfl, qa6⟩
        replace qa6 := Up.dn qa6
        have hXwa6 := hXwb5.dn qa6
        have hYwa6 := hYwb5.dn qa6
        have hRwa6 := hRwb5.dn qa6
        have qWwa6 := qWwb5.trans qa6
        have hBwa6 := hN5.dn qa6
        try go_wp2_with fail
        have z0 := hBwa6.z.c0
        have f0 := hBwa6.z.f0
        have z1 := hBwa6.z.c1
        have f1 := hBwa6.z.f1
        have z2 := hBwa6.z.c2
        have f2 := hBwa6.z.f2
        have z3 := hBwa6.z.c3
        have f3 := hBwa6.z.f3
        have zl := hBwa6.z.lt
        refine hK.out _ _ ?_ (fun hHeld => ?_)
        · (try dsimp only); exact ⟨qWwa6, hXwa6.c0, hXwa6.c1, hXwa6.c2, hXwa6.c3, hYwa6.c0, hYwa6.c1, hYwa6.c2, hYwa6.c3⟩
        clear hK K
        try simp only [Act.put, pL]
        refine tk 10 ?_ rfl (by kernel_rfl) (fun _ _ _ => id) (by rfl) (by assumption) ?_ ?_
        rotate_left
        · (intro w hSw; (try dsimp only at hSw); go_simp)
          all_goals with_reducible rfl
        try simp only [Act.put, pL]
        refine wpAnyH_ready (rs := [12]) (by kernel_rfl) (by simp) ?_
        refine AllReadyH.cons rfl (fun K hK => ?_) AllReadyH.nil
        ·
          go_simp
          refine hK.out _ _ ?_ (fun hHeld => ?_)
          · (try dsimp only); exact ⟨(Dn.setCell (Dn.setCell (Dn.setCell (Dn.setCell qWwa6 (by have := hBwa6.lt; simp <;> omega) _) (by have := hBwa6.lt; simp <;> omega) _) (by have := hBwa6.lt; simp <;> omega) _) (by have := hBwa6.lt; simp <;> omega) _), (C4.far4 hXwa6 (by have := hBwa6.lt; omega) _ _ _ _).c0, (C4.far4 hXwa6 (by have := hBwa6.lt; omega) _ _ _ _).c1, (C4.far4 hXwa6 (by have := hBwa6.lt; omega) _ _ _ _).c2, (C4.far4 hXwa6 (by have := hBwa6.lt; omega) _ _ _ _).c3, (C4.far4 hYwa6 (by have := hBwa6.lt; omega) _ _ _ _).c0, (C4.far4 hYwa6 (by have := hBwa6.lt; omega) _ _ _ _).c1, (C4.far4 hYwa6 (by have := hBwa6.lt; omega) _ _ _ _).c2, (C4.far4 hYwa6 (by have := hBwa6.lt; omega) _ _ _ _).c3⟩
          clear hK K
          try simp only [Act.put, pL]
          refine wpAnyH_done (by kernel_rfl) ?_ _
          go_wp2_with fail
          go_meet
          case rel => exact ⟨_, rfl, (Dn.setCell (Dn.setCell (Dn.setCell (Dn.setCell qWwa6 (by have := hBwa6.lt; simp <;> omega) _) (by have := hBwa6.lt; simp <;> omega) _) (by have := hBwa6.lt; simp <;> omega) _) (by have := hBwa6.lt; simp <;> omega) _), (C4.far4 hXwa6 (by have := hBwa6.lt; omega) _ _ _ _), (C4.far4 hYwa6 (by have := hBwa6.lt; omega) _ _ _ _), hBwa6.z.fill _ _ _ _, (C4.far4 hRwa6 (by have := hBwa6.lt; omega) _ _ _ _)⟩
  ·
    go_simp
    obtain ⟨wb8, hwb8⟩ : ∃ wb8, wb8 = (W.alloc (.cells #[.int .i8 0, .int .i64 0, .int .i8 0, .int .i64 0] 30)).drew := ⟨_, rfl⟩
    have qb8 : Dn W.drew wb8 := by rw [hwb8]; exact (Dn.refl W.drew).alloc _
    have hN8 : NB wb8 W.heap.size (w.heap.size + 1 + 1) := by rw [hwb8]; exact NB.new (w := W.drew) hR.lt _
    rw [← hwb8]
    clear hwb8
    have hXwb8 := hX.dn qb8
    have hYwb8 := hY.dn qb8
    have hRwb8 := hR.dn qb8
    have qWwb8 := qW.trans qb8
    have z0 := hN8.z.c0
    have f0 := hN8.z.f0
    have z1 := hN8.z.c1
    have f1 := hN8.z.f1
    have z2 := hN8.z.c2
    have f2 := hN8.z.f2
    have z3 := hN8.z.c3
    have f3 := hN8.z.f3
    have zl := hN8.z.lt
    refine hK.out _ _ ?_ (fun hHeld => ?_)
    · (try dsimp only); exact ⟨qWwb8, hXwb8.c0, hXwb8.c1, hXwb8.c2, hXwb8.c3, hYwb8.c0, hYwb8.c1, hYwb8.c2, hYwb8.c3⟩
    clear hK K
    try simp only [Act.put, pL]
    refine wpAnyH_ready (rs := [4]) (by kernel_rfl) (by simp) ?_
    refine AllReadyH.cons rfl (fun K hK => ?_) AllReadyH.nil
    ·
      go_simp
      go_at_call 152
      refine (HM.out _).mono ?_
      rintro e wa9 ⟨rfl, qa9⟩
      replace qa9 := Up.dn qa9
      have hXwa9 := hXwb8.dn qa9
      have hYwa9 := hYwb8.dn qa9
      have hRwa9 := hRwb8.dn qa9
      have qWwa9 := qWwb8.trans qa9
      have hBwa9 := hN8.dn qa9
      try go_wp2_with fail
      have z0 := hBwa9.z.c0
      have f0 := hBwa9.z.f0
      have z1 := hBwa9.z.c1
      have f1 := hBwa9.z.f1
      have z2 := hBwa9.z.c2
      have f2 := hBwa9.z.f2
      have z3 := hBwa9.z.c3
      have f3 := hBwa9.z.f3
      have zl := hBwa9.z.lt
      refine hK.out _ _ ?_ (fun hHeld => ?_)
      · (try dsimp only); exact ⟨qWwa9, hXwa9.c0, hXwa9.c1, hXwa9.c2, hXwa9.c3, hYwa9.c0, hYwa9.c1, hYwa9.c2, hYwa9.c3⟩
      clear hK K
      try simp only [Act.put, pL]
      refine wpAnyH_ready (rs := [9]) (by kernel_rfl) (by simp) ?_
      refine AllReadyH.cons rfl (fun K hK => ?_) AllReadyH.nil
      ·
        go_simp
        go_at_call 151
        refine (HX.out _).mono ?_
        rintro e wa10 ⟨rfl, qa10⟩
        replace qa10 := Up.dn qa10
        have hXwa10 := hXwa9.dn qa10
        have hYwa10 := hYwa9.dn qa10
        have hRwa10 := hRwa9.dn qa10
        have qWwa10 := qWwa9.trans qa10
        have hBwa10 := hBwa9.dn qa10
        try go_wp2_with fail
        have z0 := hBwa10.z.c0
        have f0 := hBwa10.z.f0
        have z1 := hBwa10.z.c1
        have f1 := hBwa10.z.f1
        have z2 := hBwa10.z.c2
        have f2 := hBwa10.z.f2
        have z3 := hBwa10.z.c3
        have f3 := hBwa10.z.f3
        have zl := hBwa10.z.lt
        refine hK.out _ _ ?_ (fun hHeld => ?_)
        · (try dsimp only); exact ⟨qWwa10, hXwa10.c0, hXwa10.c1, hXwa10.c2, hXwa10.c3, hYwa10.c0, hYwa10.c1, hYwa10.c2, hYwa10.c3⟩
        clear hK K
        try simp only [Act.put, pL]
        refine tk 10 ?_ rfl (by kernel_rfl) (fun _ _ _ => id) (by rfl) (by assumption) ?_ ?_
        rotate_left
        · (intro w hSw; (try dsimp only at hSw); go_simp)
          all_goals with_reducible rfl
        try simp only [Act.put, pL]
        refine wpAnyH_ready (rs := [12]) (by kernel_rfl) (by simp) ?_
        refine AllReadyH.cons rfl (fun K hK => ?_) AllReadyH.nil
        ·
          go_simp
          refine hK.out _ _ ?_ (fun hHeld => ?_)
          · (try dsimp only); exact ⟨(Dn.setCell (Dn.setCell (Dn.setCell (Dn.setCell qWwa10 (by have := hBwa10.lt; simp <;> omega) _) (by have := hBwa10.lt; simp <;> omega) _) (by have := hBwa10.lt; simp <;> omega) _) (by have := hBwa10.lt; simp <;> omega) _), (C4.far4 hXwa10 (by have := hBwa10.lt; omega) _ _ _ _).c0, (C4.far4 hXwa10 (by have := hBwa10.lt; omega) _ _ _ _).c1, (C4.far4 hXwa10 (by have := hBwa10.lt; omega) _ _ _ _).c2, (C4.far4 hXwa10 (by have := hBwa10.lt; omega) _ _ _ _).c3, (C4.far4 hYwa10 (by have := hBwa10.lt; omega) _ _ _ _).c0, (C4.far4 hYwa10 (by have := hBwa10.lt; omega) _ _ _ _).c1, (C4.far4 hYwa10 (by have := hBwa10.lt; omega) _ _ _ _).c2, (C4.far4 hYwa10 (by have := hBwa10.lt; omega) _ _ _ _).c3⟩
          clear hK K
          try simp only [Act.put, pL]
          refine wpAnyH_done (by kernel_rfl) ?_ _
          go_wp2_with fail
          go_meet
          case rel => exact ⟨_, rfl, (Dn.setCell (Dn.setCell (Dn.setCell (Dn.setCell qWwa10 (by have := hBwa10.lt; simp <;> omega) _) (by have := hBwa10.lt; simp <;> omega) _) (by have := hBwa10.lt; simp <;> omega) _) (by have := hBwa10.lt; simp <;> omega) _), (C4.far4 hXwa10 (by have := hBwa10.lt; omega) _ _ _ _), (C4.far4 hYwa10 (by have := hBwa10.lt; omega) _ _ _ _), hBwa10.z.fill _ _ _ _, (C4.far4 hRwa10 (by have := hBwa10.lt; omega) _ _ _ _)⟩
 case rest =>
  clear hX hY hR qW hS uW
  obtain ⟨B, rfl, uc, kX, kY, kB, kR⟩ := hcut
  obtain ⟨xc0, xc1, xc2, xc3, _, _, _, _, lx⟩ := kX
  obtain ⟨yc0, yc1, yc2, yc3, _, _, _, _, ly⟩ := kY
  obtain ⟨mc0, mc1, mc2, mc3, _, _, _, _, lm⟩ := kB
  obtain ⟨resc0, resc1, resc2, resc3, resf0, resf1, resf2, resf3, lres⟩ := kR
  go_wp2_with fail
  refine (HR.out _).mono ?_
  rintro e w1 ⟨rfl, qw1⟩
  have l1 := nlt lx qw1.size
  have l6 := nlt ly qw1.size
  have a9 := nlt lm qw1.size
  obtain ⟨c2, c3, c4, c5, c7, c8, c9, a0, a1, a2, a3, a4⟩ := mv12 qw1.cell xc0 xc1 xc2 xc3 yc0 yc1 yc2 yc3 mc0 mc1 mc2 mc3
  have f16 := (qw1.frozen (a := ⟨w.heap.size + 1 + 1, 0, none⟩) lres).trans resf0
  have f17 := (qw1.frozen (a := ⟨w.heap.size + 1 + 1, 1, none⟩) lres).trans resf1
  have f18 := (qw1.frozen (a := ⟨w.heap.size + 1 + 1, 2, none⟩) lres).trans resf2
  have f19 := (qw1.frozen (a := ⟨w.heap.size + 1 + 1, 3, none⟩) lres).trans resf3
  have aA := nlt lres qw1.size
  obtain ⟨a5, a6, a7, a8⟩ := mv4 qw1.cell resc0 resc1 resc2 resc3
  clear lx xc0 xc1 xc2 xc3 ly yc0 yc1 yc2 yc3 lm mc0 mc1 mc2 mc3 resf0 resf1 resf2 resf3 lres resc0 resc1 resc2 resc3
  have uw1 := uc.trans qw1
  clear qw1 uc
  go_wp2_with fail
  exact bodyPost_ret (v := .tuple #[.agg #[.int .i8 0, .int .i64 0, .int .i8 0, .int .i64 0], .bool false]) (by simp [results, Tryz.results134, go_sem, c2, c3, c4, c5, c7, c8, c9, a0, a1, a2, a3, a4, a5, a6, a7, a8, f16, f17, f18, f19] <;> omega) rfl ⟨rfl, ((((uw1.setCell (by simp <;> omega) _).setCell (by simp <;> omega) _).setCell (by simp <;> omega) _).setCell (by simp <;> omega) _)⟩
theorem rnCom_2 (a b c d e f g h i1 d1 i2 d2 : Int) (HM : Hid (∀ W, Calls Tryz.prog 152 #[.agg #[.int .i8 a, .int .i64 b], .agg #[.int .i8 e, .int .i64 f]] W fun r w' => r = .returned (.agg #[.int .i8 i1, .int .i64 d1]) ∧ Up W w')) (HX : Hid (∀ W, Calls Tryz.prog 151 #[.agg #[.int .i8 c, .int .i64 d], .agg #[.int .i8 g, .int .i64 h]] W fun r w' => r = .returned (.agg #[.int .i8 i2, .int .i64 d2]) ∧ Up W w')) (HR : Hid (∀ W, Calls Tryz.prog 80 #[.agg #[.int .i8 a, .int .i64 b, .int .i8 c, .int .i64 d], .agg #[.int .i8 e, .int .i64 f, .int .i8 g, .int .i64 h]] W fun r w' => r = .returned (.bool true) ∧ Dn W w')) (m : Int) (HC : Hid (ChkIs i1 d1 i2 d2 m)) (h1 : m ≠ 0) (w : World) :
  Calls Tryz.prog 134 #[.agg #[.int .i8 a, .int .i64 b, .int .i8 c, .int .i64 d], .agg #[.int .i8 e, .int .i64 f, .int .i8 g, .int .i64 h]] w fun ro w' => ro = .returned (.tuple #[.agg #[.int .i8 0, .int .i64 0, .int .i8 0, .int .i64 0], .bool false]) ∧ Dn w w' := by
 have t1 : (m != 0) = true := by simpa using h1
 clear h1
 obtain ⟨W, hW⟩ : ∃ W, W = ((w.alloc (.cells #[.int .i8 a, .int .i64 b, .int .i8 c, .int .i64 d] 30)).alloc (.cells #[.int .i8 e, .int .i64 f, .int .i8 g, .int .i64 h] 30)).alloc (.cells #[.int .i8 0, .int .i64 0, .int .i8 0, .int .i64 0] 30) := ⟨_, rfl⟩
 have kX : C4 W w.heap.size (.int .i8 a) (.int .i64 b) (.int .i8 c) (.int .i64 d) := by rw [hW]; exact ((C4.new _ _ _ _ _ _).alloc _).alloc _
 have kY : C4 W (w.heap.size + 1) (.int .i8 e) (.int .i64 f) (.int .i8 g) (.int .i64 h) := by rw [hW]; exact (C4.new1 _ _ _ _ _ _ _).alloc _
 have kR : C4 W (w.heap.size + 1 + 1) (.int .i8 0) (.int .i64 0) (.int .i8 0) (.int .i64 0) := by rw [hW]; exact C4.new2 _ _ _ _ _ _ _ _
 have uW : Dn w W := by rw [hW]; exact (((Dn.refl _).alloc _).alloc _).alloc _
 have hX := kX.drew
 have hY := kY.drew
 have hR := kR.drew
 have qW := uW.drew
 have hS := kdJ_8 (W := w) (Dn.refl W) ⟨uW, kX.c0, kX.c1, kX.c2, kX.c3, kY.c0, kY.c1, kY.c2, kY.c3⟩
 have HW := Lib.hid hW
 clear hW kX kY kR
 go_enter Tryz.func134, Tryz.ntmps134
 go_wp2_with fail
 rw [← HW.out]
 clear HW
 go_upto_region 1 with fail
 go_cut [6] (fun s6 wx => ∃ B : Nat, s6 = .pointer (some ⟨B, 0, none⟩) ∧ Dn w wx ∧ C4 wx w.heap.size (.int .i8 a) (.int .i64 b) (.int .i8 c) (.int .i64 d) ∧ C4 wx (w.heap.size + 1) (.int .i8 e) (.int .i64 f) (.int .i8 g) (.int .i64 h) ∧ C4 wx B (.int .i8 i1) (.int .i64 d1) (.int .i8 i2) (.int .i64 d2) ∧ C4 wx (w.heap.size + 1 + 1) (.int .i8 0) (.int .i64 0) (.int .i8 0) (.int .i64 0))
 case first =>
  refine wp_region_held_drew (S := fun w' => Dn w w' ∧ w'.cell? ⟨w.heap.size, 0, none⟩ = some (.int .i8 a) ∧ w'.cell? ⟨w.heap.size, 1, none⟩ = some (.int .i64 b) ∧ w'.cell? ⟨w.heap.size, 2, none⟩ = some (.int .i8 c) ∧ w'.cell? ⟨w.heap.size, 3, none⟩ = some (.int .i64 d) ∧ w'.cell? ⟨w.heap.size + 1, 0, none⟩ = some (.int .i8 e) ∧ w'.cell? ⟨w.heap.size + 1, 1, none⟩ = some (.int .i64 f) ∧ w'.cell? ⟨w.heap.size + 1, 2, none⟩ = some (.int .i8 g) ∧ w'.cell? ⟨w.heap.size + 1, 3, none⟩ = some (.int .i64 h)) (by kernel_rfl) ?_ (fun hHeld => ?_)
  · (try dsimp only); exact kdJ_8 ((Dn.refl _).drew) hS
  refine tk 0 ?_ rfl (by kernel_rfl) (fun _ _ _ => id) (by rfl) (by assumption) ?_ ?_
  rotate_left
  · (intro w hSw; (try dsimp only at hSw); go_simp)
    all_goals with_reducible rfl
  try simp only [Act.put, pL]
  refine tk 1 ?_ rfl (by kernel_rfl) (fun _ _ _ => id) (by rfl) (by assumption) ?_ ?_
  rotate_left
  · (intro w hSw; (try dsimp only at hSw); go_simp)
    all_goals with_reducible rfl
  try simp only [Act.put, pL]
  refine tk 2 ?_ rfl (by kernel_rfl) (fun _ _ _ => id) (by rfl) (by assumption) ?_ ?_
  rotate_left
  · (intro w hSw; (try dsimp only at hSw); go_simp)
    all_goals with_reducible rfl
  try simp only [Act.put, pL]
  refine tk 3 ?_ rfl (by kernel_rfl) (fun _ _ _ => id) (by rfl) (by assumption) ?_ ?_
  rotate_left
  · (intro w hSw; (try dsimp only at hSw); go_simp)
    all_goals with_reducible rfl
  try simp only [Act.put, pL]
  refine tk 5 ?_ rfl (by kernel_rfl) (fun _ _ _ => id) (by rfl) (by assumption) ?_ ?_
  rotate_left
  · (intro w hSw; (try dsimp only at hSw); go_simp)
    all_goals with_reducible rfl
  try simp only [Act.put, pL]
  refine tk 6 ?_ rfl (by kernel_rfl) (fun _ _ _ => id) (by rfl) (by assumption) ?_ ?_
  rotate_left
  · (intro w hSw; (try dsimp only at hSw); go_simp)
    all_goals with_reducible rfl
  try simp only [Act.put, pL]
  refine tk 7 ?_ rfl (by kernel_rfl) (fun _ _ _ => id) (by rfl) (by assumption) ?_ ?_
  rotate_left
  · (intro w hSw; (try dsimp only at hSw); go_simp)
    all_goals with_reducible rfl
  try simp only [Act.put, pL]
  refine tk 8 ?_ rfl (by kernel_rfl) (fun _ _ _ => id) (by rfl) (by assumption) ?_ ?_
  rotate_left
  · (intro w hSw; (try dsimp only at hSw); go_simp)
    all_goals with_reducible rfl
  try simp only [Act.put, pL]
  refine wpAnyH_ready (rs := [4, 11]) (by kernel_rfl) (by simp) ?_
  refine AllReadyH.cons rfl (fun K hK => ?_) (AllReadyH.cons rfl (fun K hK => ?_) AllReadyH.nil)
  ·
    go_simp
    go_at_call 152
    refine (HM.out _).mono ?_
    rintro e wa1 ⟨rfl, qa1⟩
    replace qa1 := Up.dn qa1
    have hXwa1 := hX.dn qa1
    have hYwa1 := hY.dn qa1
    have hRwa1 := hR.dn qa1
    have qWwa1 := qW.trans qa1
    try go_wp2_with fail
    refine hK.out _ _ ?_ (fun hHeld => ?_)
    · (try dsimp only); exact ⟨qWwa1, hXwa1.c0, hXwa1.c1, hXwa1.c2, hXwa1.c3, hYwa1.c0, hYwa1.c1, hYwa1.c2, hYwa1.c3⟩
    clear hK K
    try simp only [Act.put, pL]
    refine wpAnyH_ready (rs := [9, 11]) (by kernel_rfl) (by simp) ?_
    refine AllReadyH.cons rfl (fun K hK => ?_) (AllReadyH.cons rfl (fun K hK => ?_) AllReadyH.nil)
    ·
      go_simp
      go_at_call 151
      refine (HX.out _).mono ?_
      rintro e wa2 ⟨rfl, qa2⟩
      replace qa2 := Up.dn qa2
      have hXwa2 := hXwa1.dn qa2
      have hYwa2 := hYwa1.dn qa2
      have hRwa2 := hRwa1.dn qa2
      have qWwa2 := qWwa1.trans qa2
      try go_wp2_with fail
      refine hK.out _ _ ?_ (fun hHeld => ?_)
      · (try dsimp only); exact ⟨qWwa2, hXwa2.c0, hXwa2.c1, hXwa2.c2, hXwa2.c3, hYwa2.c0, hYwa2.c1, hYwa2.c2, hYwa2.c3⟩
      clear hK K
      try simp only [Act.put, pL]
      refine tk 10 ?_ rfl (by kernel_rfl) (fun _ _ _ => id) (by rfl) (by assumption) ?_ ?_
      rotate_left
      · (intro w hSw; (try dsimp only at hSw); go_simp)
        all_goals with_reducible rfl
      try simp only [Act.put, pL]
      refine wpAnyH_ready (rs := [11]) (by kernel_rfl) (by simp) ?_
      refine AllReadyH.cons rfl (fun K hK => ?_) AllReadyH.nil
      ·
        go_simp
        obtain ⟨wb3, hwb3⟩ : ∃ wb3, wb3 = wa2.alloc (.cells #[.int .i8 0, .int .i64 0, .int .i8 0, .int .i64 0] 30) := ⟨_, rfl⟩
        have qb3 : Dn wa2 wb3 := by rw [hwb3]; exact (Dn.refl wa2).alloc _
        have hN3 : NB wb3 wa2.heap.size (w.heap.size + 1 + 1) := by rw [hwb3]; exact NB.new (w := wa2) hRwa2.lt _
        rw [← hwb3]
        clear hwb3
        have hXwb3 := hXwa2.dn qb3
        have hYwb3 := hYwa2.dn qb3
        have hRwb3 := hRwa2.dn qb3
        have qWwb3 := qWwa2.trans qb3
        have z0 := hN3.z.c0
        have f0 := hN3.z.f0
        have z1 := hN3.z.c1
        have f1 := hN3.z.f1
        have z2 := hN3.z.c2
        have f2 := hN3.z.f2
        have z3 := hN3.z.c3
        have f3 := hN3.z.f3
        have zl := hN3.z.lt
        refine hK.out _ _ ?_ (fun hHeld => ?_)
        · (try dsimp only); exact ⟨qWwb3, hXwb3.c0, hXwb3.c1, hXwb3.c2, hXwb3.c3, hYwb3.c0, hYwb3.c1, hYwb3.c2, hYwb3.c3⟩
        clear hK K
        try simp only [Act.put, pL]
        refine wpAnyH_ready (rs := [12]) (by kernel_rfl) (by simp) ?_
        refine AllReadyH.cons rfl (fun K hK => ?_) AllReadyH.nil
        ·
          go_simp
          refine hK.out _ _ ?_ (fun hHeld => ?_)
          · (try dsimp only); exact ⟨(Dn.setCell (Dn.setCell (Dn.setCell (Dn.setCell qWwb3 (by have := hN3.lt; simp <;> omega) _) (by have := hN3.lt; simp <;> omega) _) (by have := hN3.lt; simp <;> omega) _) (by have := hN3.lt; simp <;> omega) _), (C4.far4 hXwb3 (by have := hN3.lt; omega) _ _ _ _).c0, (C4.far4 hXwb3 (by have := hN3.lt; omega) _ _ _ _).c1, (C4.far4 hXwb3 (by have := hN3.lt; omega) _ _ _ _).c2, (C4.far4 hXwb3 (by have := hN3.lt; omega) _ _ _ _).c3, (C4.far4 hYwb3 (by have := hN3.lt; omega) _ _ _ _).c0, (C4.far4 hYwb3 (by have := hN3.lt; omega) _ _ _ _).c1, (C4.far4 hYwb3 (by have := hN3.lt; omega) _ _ _ _).c2, (C4.far4 hYwb3 (by have := hN3.lt; omega) _ _ _ _).c3⟩
          clear hK K
          try simp only [Act.put, pL]
          refine wpAnyH_done (by kernel_rfl) ?_ _
          go_wp2_with fail
          go_meet
          case rel => exact ⟨_, rfl, (Dn.setCell (Dn.setCell (Dn.setCell (Dn.setCell qWwb3 (by have := hN3.lt; simp <;> omega) _) (by have := hN3.lt; simp <;> omega) _) (by have := hN3.lt; simp <;> omega) _) (by have := hN3.lt; simp <;> omega) _), (C4.far4 hXwb3 (by have := hN3.lt; omega) _ _ _ _), (C4.far4 hYwb3 (by have := hN3.lt; omega) _ _ _ _), hN3.z.fill _ _ _ _, (C4.far4 hRwb3 (by have := hN3.lt; omega) _ _ _ _)⟩
    ·
      go_simp
      obtain ⟨wb5, hwb5⟩ : ∃ wb5, wb5 = wa1.alloc (.cells #[.int .i8 0, .int .i64 0, .int .i8 0, .int .i64 0] 30) := ⟨_, rfl⟩
      have qb5 : Dn wa1 wb5 := by rw [hwb5]; exact (Dn.refl wa1).alloc _
      have hN5 : NB wb5 wa1.heap.size (w.heap.size + 1 + 1) := by rw [hwb5]; exact NB.new (w := wa1) hRwa1.lt _
      rw [← hwb5]
      clear hwb5
      have hXwb5 := hXwa1.dn qb5
      have hYwb5 := hYwa1.dn qb5
      have hRwb5 := hRwa1.dn qb5
      have qWwb5 := qWwa1.trans qb5
      have z0 := hN5.z.c0
      have f0 := hN5.z.f0
      have z1 := hN5.z.c1
      have f1 := hN5.z.f1
      have z2 := hN5.z.c2
      have f2 := hN5.z.f2
      have z3 := hN5.z.c3
      have f3 := hN5.z.f3
      have zl := hN5.z.lt
      refine hK.out _ _ ?_ (fun hHeld => ?_)
      · (try dsimp only); exact ⟨qWwb5, hXwb5.c0, hXwb5.c1, hXwb5.c2, hXwb5.c3, hYwb5.c0, hYwb5.c1, hYwb5.c2, hYwb5.c3⟩
      clear hK K
      try simp only [Act.put, pL]
      refine wpAnyH_ready (rs := [9]) (by kernel_rfl) (by simp) ?_
      refine AllReadyH.cons rfl (fun K hK => ?_) AllReadyH.nil
      ·
        go_simp
        go_at_call 151
        refine (HX.out _).mono ?_
        rintro e wa6 ⟨rfl, qa6⟩
        replace qa6 := Up.dn qa6
        have hXwa6 := hXwb5.dn qa6
        have hYwa6 := hYwb5.dn qa6
        have hRwa6 := hRwb5.dn qa6
        have qWwa6 := qWwb5.trans qa6
        have hBwa6 := hN5.dn qa6
        try go_wp2_with fail
        have z0 := hBwa6.z.c0
        have f0 := hBwa6.z.f0
        have z1 := hBwa6.z.c1
        have f1 := hBwa6.z.f1
        have z2 := hBwa6.z.c2
        have f2 := hBwa6.z.f2
        have z3 := hBwa6.z.c3
        have f3 := hBwa6.z.f3
        have zl := hBwa6.z.lt
        refine hK.out _ _ ?_ (fun hHeld => ?_)
        · (try dsimp only); exact ⟨qWwa6, hXwa6.c0, hXwa6.c1, hXwa6.c2, hXwa6.c3, hYwa6.c0, hYwa6.c1, hYwa6.c2, hYwa6.c3⟩
        clear hK K
        try simp only [Act.put, pL]
        refine tk 10 ?_ rfl (by kernel_rfl) (fun _ _ _ => id) (by rfl) (by assumption) ?_ ?_
        rotate_left
        · (intro w hSw; (try dsimp only at hSw); go_simp)
          all_goals with_reducible rfl
        try simp only [Act.put, pL]
        refine wpAnyH_ready (rs := [12]) (by kernel_rfl) (by simp) ?_
        refine AllReadyH.cons rfl (fun K hK => ?_) AllReadyH.nil
        ·
          go_simp
          refine hK.out _ _ ?_ (fun hHeld => ?_)
          · (try dsimp only); exact ⟨(Dn.setCell (Dn.setCell (Dn.setCell (Dn.setCell qWwa6 (by have := hBwa6.lt; simp <;> omega) _) (by have := hBwa6.lt; simp <;> omega) _) (by have := hBwa6.lt; simp <;> omega) _) (by have := hBwa6.lt; simp <;> omega) _), (C4.far4 hXwa6 (by have := hBwa6.lt; omega) _ _ _ _).c0, (C4.far4 hXwa6 (by have := hBwa6.lt; omega) _ _ _ _).c1, (C4.far4 hXwa6 (by have := hBwa6.lt; omega) _ _ _ _).c2, (C4.far4 hXwa6 (by have := hBwa6.lt; omega) _ _ _ _).c3, (C4.far4 hYwa6 (by have := hBwa6.lt; omega) _ _ _ _).c0, (C4.far4 hYwa6 (by have := hBwa6.lt; omega) _ _ _ _).c1, (C4.far4 hYwa6 (by have := hBwa6.lt; omega) _ _ _ _).c2, (C4.far4 hYwa6 (by have := hBwa6.lt; omega) _ _ _ _).c3⟩
          clear hK K
          try simp only [Act.put, pL]
          refine wpAnyH_done (by kernel_rfl) ?_ _
          go_wp2_with fail
          go_meet
          case rel => exact ⟨_, rfl, (Dn.setCell (Dn.setCell (Dn.setCell (Dn.setCell qWwa6 (by have := hBwa6.lt; simp <;> omega) _) (by have := hBwa6.lt; simp <;> omega) _) (by have := hBwa6.lt; simp <;> omega) _) (by have := hBwa6.lt; simp <;> omega) _), (C4.far4 hXwa6 (by have := hBwa6.lt; omega) _ _ _ _), (C4.far4 hYwa6 (by have := hBwa6.lt; omega) _ _ _ _), hBwa6.z.fill _ _ _ _, (C4.far4 hRwa6 (by have := hBwa6.lt; omega) _ _ _ _)⟩
  ·
    go_simp
    obtain ⟨wb8, hwb8⟩ : ∃ wb8, wb8 = (W.alloc (.cells #[.int .i8 0, .int .i64 0, .int .i8 0, .int .i64 0] 30)).drew := ⟨_, rfl⟩
    have qb8 : Dn W.drew wb8 := by rw [hwb8]; exact (Dn.refl W.drew).alloc _
    have hN8 : NB wb8 W.heap.size (w.heap.size + 1 + 1) := by rw [hwb8]; exact NB.new (w := W.drew) hR.lt _
    rw [← hwb8]
    clear hwb8
    have hXwb8 := hX.dn qb8
    have hYwb8 := hY.dn qb8
    have hRwb8 := hR.dn qb8
    have qWwb8 := qW.trans qb8
    have z0 := hN8.z.c0
    have f0 := hN8.z.f0
    have z1 := hN8.z.c1
    have f1 := hN8.z.f1
    have z2 := hN8.z.c2
    have f2 := hN8.z.f2
    have z3 := hN8.z.c3
    have f3 := hN8.z.f3
    have zl := hN8.z.lt
    refine hK.out _ _ ?_ (fun hHeld => ?_)
    · (try dsimp only); exact ⟨qWwb8, hXwb8.c0, hXwb8.c1, hXwb8.c2, hXwb8.c3, hYwb8.c0, hYwb8.c1, hYwb8.c2, hYwb8.c3⟩
    clear hK K
    try simp only [Act.put, pL]
    refine wpAnyH_ready (rs := [4]) (by kernel_rfl) (by simp) ?_
    refine AllReadyH.cons rfl (fun K hK => ?_) AllReadyH.nil
    ·
      go_simp
      go_at_call 152
      refine (HM.out _).mono ?_
      rintro e wa9 ⟨rfl, qa9⟩
      replace qa9 := Up.dn qa9
      have hXwa9 := hXwb8.dn qa9
      have hYwa9 := hYwb8.dn qa9
      have hRwa9 := hRwb8.dn qa9
      have qWwa9 := qWwb8.trans qa9
      have hBwa9 := hN8.dn qa9
      try go_wp2_with fail
      have z0 := hBwa9.z.c0
      have f0 := hBwa9.z.f0
      have z1 := hBwa9.z.c1
      have f1 := hBwa9.z.f1
      have z2 := hBwa9.z.c2
      have f2 := hBwa9.z.f2
      have z3 := hBwa9.z.c3
      have f3 := hBwa9.z.f3
      have zl := hBwa9.z.lt
      refine hK.out _ _ ?_ (fun hHeld => ?_)
      · (try dsimp only); exact ⟨qWwa9, hXwa9.c0, hXwa9.c1, hXwa9.c2, hXwa9.c3, hYwa9.c0, hYwa9.c1, hYwa9.c2, hYwa9.c3⟩
      clear hK K
      try simp only [Act.put, pL]
      refine wpAnyH_ready (rs := [9]) (by kernel_rfl) (by simp) ?_
      refine AllReadyH.cons rfl (fun K hK => ?_) AllReadyH.nil
      ·
        go_simp
        go_at_call 151
        refine (HX.out _).mono ?_
        rintro e wa10 ⟨rfl, qa10⟩
        replace qa10 := Up.dn qa10
        have hXwa10 := hXwa9.dn qa10
        have hYwa10 := hYwa9.dn qa10
        have hRwa10 := hRwa9.dn qa10
        have qWwa10 := qWwa9.trans qa10
        have hBwa10 := hBwa9.dn qa10
        try go_wp2_with fail
        have z0 := hBwa10.z.c0
        have f0 := hBwa10.z.f0
        have z1 := hBwa10.z.c1
        have f1 := hBwa10.z.f1
        have z2 := hBwa10.z.c2
        have f2 := hBwa10.z.f2
        have z3 := hBwa10.z.c3
        have f3 := hBwa10.z.f3
        have zl := hBwa10.z.lt
        refine hK.out _ _ ?_ (fun hHeld => ?_)
        · (try dsimp only); exact ⟨qWwa10, hXwa10.c0, hXwa10.c1, hXwa10.c2, hXwa10.c3, hYwa10.c0, hYwa10.c1, hYwa10.c2, hYwa10.c3⟩
        clear hK K
        try simp only [Act.put, pL]
        refine tk 10 ?_ rfl (by kernel_rfl) (fun _ _ _ => id) (by rfl) (by assumption) ?_ ?_
        rotate_left
        · (intro w hSw; (try dsimp only at hSw); go_simp)
          all_goals with_reducible rfl
        try simp only [Act.put, pL]
        refine wpAnyH_ready (rs := [12]) (by kernel_rfl) (by simp) ?_
        refine AllReadyH.cons rfl (fun K hK => ?_) AllReadyH.nil
        ·
          go_simp
          refine hK.out _ _ ?_ (fun hHeld => ?_)
          · (try dsimp only); exact ⟨(Dn.setCell (Dn.setCell (Dn.setCell (Dn.setCell qWwa10 (by have := hBwa10.lt; simp <;> omega) _) (by have := hBwa10.lt; simp <;> omega) _) (by have := hBwa10.lt; simp <;> omega) _) (by have := hBwa10.lt; simp <;> omega) _), (C4.far4 hXwa10 (by have := hBwa10.lt; omega) _ _ _ _).c0, (C4.far4 hXwa10 (by have := hBwa10.lt; omega) _ _ _ _).c1, (C4.far4 hXwa10 (by have := hBwa10.lt; omega) _ _ _ _).c2, (C4.far4 hXwa10 (by have := hBwa10.lt; omega) _ _ _ _).c3, (C4.far4 hYwa10 (by have := hBwa10.lt; omega) _ _ _ _).c0, (C4.far4 hYwa10 (by have := hBwa10.lt; omega) _ _ _ _).c1, (C4.far4 hYwa10 (by have := hBwa10.lt; omega) _ _ _ _).c2, (C4.far4 hYwa10 (by have := hBwa10.lt; omega) _ _ _ _).c3⟩
          clear hK K
          try simp only [Act.put, pL]
          refine wpAnyH_done (by kernel_rfl) ?_ _
          go_wp2_with fail
          go_meet
          case rel => exact ⟨_, rfl, (Dn.setCell (Dn.setCell (Dn.setCell (Dn.setCell qWwa10 (by have := hBwa10.lt; simp <;> omega) _) (by have := hBwa10.lt; simp <;> omega) _) (by have := hBwa10.lt; simp <;> omega) _) (by have := hBwa10.lt; simp <;> omega) _), (C4.far4 hXwa10 (by have := hBwa10.lt; omega) _ _ _ _), (C4.far4 hYwa10 (by have := hBwa10.lt; omega) _ _ _ _), hBwa10.z.fill _ _ _ _, (C4.far4 hRwa10 (by have := hBwa10.lt; omega) _ _ _ _)⟩
 case rest =>
  clear hX hY hR qW hS uW
  obtain ⟨B, rfl, uc, kX, kY, kB, kR⟩ := hcut
  obtain ⟨xc0, xc1, xc2, xc3, _, _, _, _, lx⟩ := kX
  obtain ⟨yc0, yc1, yc2, yc3, _, _, _, _, ly⟩ := kY
  obtain ⟨mc0, mc1, mc2, mc3, _, _, _, _, lm⟩ := kB
  obtain ⟨resc0, resc1, resc2, resc3, resf0, resf1, resf2, resf3, lres⟩ := kR
  go_wp2_with fail
  refine (HR.out _).mono ?_
  rintro e w1 ⟨rfl, qw1⟩
  have l1 := nlt lx qw1.size
  have l6 := nlt ly qw1.size
  have a2 := nlt lm qw1.size
  obtain ⟨c2, c3, c4, c5, c7, c8, c9, a1, a3, a4, a5, a6⟩ := mv12 qw1.cell xc0 xc1 xc2 xc3 yc0 yc1 yc2 yc3 mc0 mc1 mc2 mc3
  have f16 := (qw1.frozen (a := ⟨w.heap.size + 1 + 1, 0, none⟩) lres).trans resf0
  have f17 := (qw1.frozen (a := ⟨w.heap.size + 1 + 1, 1, none⟩) lres).trans resf1
  have f18 := (qw1.frozen (a := ⟨w.heap.size + 1 + 1, 2, none⟩) lres).trans resf2
  have f19 := (qw1.frozen (a := ⟨w.heap.size + 1 + 1, 3, none⟩) lres).trans resf3
  have a0 := nlt lres qw1.size
  obtain ⟨a7, a8, a9, aA⟩ := mv4 qw1.cell resc0 resc1 resc2 resc3
  clear lx xc0 xc1 xc2 xc3 ly yc0 yc1 yc2 yc3 lm mc0 mc1 mc2 mc3 resf0 resf1 resf2 resf3 lres resc0 resc1 resc2 resc3
  have uw1 := uc.trans qw1
  clear qw1 uc
  go_wp2_with fail
  refine (HC.out _).mono ?_
  rintro e w2 ⟨rfl, qw2⟩
  have aR := nlt l1 qw2.size
  have aS := nlt l6 qw2.size
  have aT := nlt a2 qw2.size
  obtain ⟨aB, aC, aD, aE, aF, aG, aH, aI, aJ, aK, aL, aM⟩ := mv12 qw2.cell c2 c3 c4 c5 c7 c8 c9 a1 a3 a4 a5 a6
  have f40 := (qw2.frozen (a := ⟨w.heap.size + 1 + 1, 0, none⟩) a0).trans f16
  have f41 := (qw2.frozen (a := ⟨w.heap.size + 1 + 1, 1, none⟩) a0).trans f17
  have f42 := (qw2.frozen (a := ⟨w.heap.size + 1 + 1, 2, none⟩) a0).trans f18
  have f43 := (qw2.frozen (a := ⟨w.heap.size + 1 + 1, 3, none⟩) a0).trans f19
  have aU := nlt a0 qw2.size
  obtain ⟨aN, aO, aP, aQ⟩ := mv4 qw2.cell a7 a8 a9 aA
  clear l1 c2 c3 c4 c5 l6 c7 c8 c9 a1 a2 a3 a4 a5 a6 f16 f17 f18 f19 a0 a7 a8 a9 aA
  have uw2 := uw1.trans qw2
  clear qw2 uw1
  go_wp2_with fail
  exact bodyPost_ret (v := .tuple #[.agg #[.int .i8 0, .int .i64 0, .int .i8 0, .int .i64 0], .bool false]) (by simp [results, Tryz.results134, go_sem, aB, aC, aD, aE, aF, aG, aH, aI, aJ, aK, aL, aM, aN, aO, aP, aQ, f40, f41, f42, f43] <;> omega) rfl ⟨rfl, ((((uw2.setCell (by simp <;> omega) _).setCell (by simp <;> omega) _).setCell (by simp <;> omega) _).setCell (by simp <;> omega) _)⟩
theorem rnCom_3 (a b c d e f g h i1 d1 i2 d2 : Int) (HM : Hid (∀ W, Calls Tryz.prog 152 #[.agg #[.int .i8 a, .int .i64 b], .agg #[.int .i8 e, .int .i64 f]] W fun r w' => r = .returned (.agg #[.int .i8 i1, .int .i64 d1]) ∧ Up W w')) (HX : Hid (∀ W, Calls Tryz.prog 151 #[.agg #[.int .i8 c, .int .i64 d], .agg #[.int .i8 g, .int .i64 h]] W fun r w' => r = .returned (.agg #[.int .i8 i2, .int .i64 d2]) ∧ Up W w')) (HR : Hid (∀ W, Calls Tryz.prog 80 #[.agg #[.int .i8 a, .int .i64 b, .int .i8 c, .int .i64 d], .agg #[.int .i8 e, .int .i64 f, .int .i8 g, .int .i64 h]] W fun r w' => r = .returned (.bool true) ∧ Dn W w')) (HC : Hid (ChkIs i1 d1 i2 d2 0)) (w : World) :
  Calls Tryz.prog 134 #[.agg #[.int .i8 a, .int .i64 b, .int .i8 c, .int .i64 d], .agg #[.int .i8 e, .int .i64 f, .int .i8 g, .int .i64 h]] w fun ro w' => ro = .returned (.tuple #[.agg #[.int .i8 i1, .int .i64 d1, .int .i8 i2, .int .i64 d2], .bool true]) ∧ Dn w w' := by
 obtain ⟨W, hW⟩ : ∃ W, W = ((w.alloc (.cells #[.int .i8 a, .int .i64 b, .int .i8 c, .int .i64 d] 30)).alloc (.cells #[.int .i8 e, .int .i64 f, .int .i8 g, .int .i64 h] 30)).alloc (.cells #[.int .i8 0, .int .i64 0, .int .i8 0, .int .i64 0] 30) := ⟨_, rfl⟩
 have kX : C4 W w.heap.size (.int .i8 a) (.int .i64 b) (.int .i8 c) (.int .i64 d) := by rw [hW]; exact ((C4.new _ _ _ _ _ _).alloc _).alloc _
 have kY : C4 W (w.heap.size + 1) (.int .i8 e) (.int .i64 f) (.int .i8 g) (.int .i64 h) := by rw [hW]; exact (C4.new1 _ _ _ _ _ _ _).alloc _
 have kR : C4 W (w.heap.size + 1 + 1) (.int .i8 0) (.int .i64 0) (.int .i8 0) (.int .i64 0) := by rw [hW]; exact C4.new2 _ _ _ _ _ _ _ _
 have uW : Dn w W := by rw [hW]; exact (((Dn.refl _).alloc _).alloc _).alloc _
 have hX := kX.drew
 have hY := kY.drew
 have hR := kR.drew
 have qW := uW.drew
 have hS := kdJ_8 (W := w) (Dn.refl W) ⟨uW, kX.c0, kX.c1, kX.c2, kX.c3, kY.c0, kY.c1, kY.c2, kY.c3⟩
 have HW := Lib.hid hW
 clear hW kX kY kR
 go_enter Tryz.func134, Tryz.ntmps134
 go_wp2_with fail
 rw [← HW.out]
 clear HW
 go_upto_region 1 with fail
 go_cut [6] (fun s6 wx => ∃ B : Nat, s6 = .pointer (some ⟨B, 0, none⟩) ∧ Dn w wx ∧ C4 wx w.heap.size (.int .i8 a) (.int .i64 b) (.int .i8 c) (.int .i64 d) ∧ C4 wx (w.heap.size + 1) (.int .i8 e) (.int .i64 f) (.int .i8 g) (.int .i64 h) ∧ C4 wx B (.int .i8 i1) (.int .i64 d1) (.int .i8 i2) (.int .i64 d2) ∧ C4 wx (w.heap.size + 1 + 1) (.int .i8 0) (.int .i64 0) (.int .i8 0) (.int .i64 0))
 case first =>
  refine wp_region_held_drew (S := fun w' => Dn w w' ∧ w'.cell? ⟨w.heap.size, 0, none⟩ = some (.int .i8 a) ∧ w'.cell? ⟨w.heap.size, 1, none⟩ = some (.int .i64 b) ∧ w'.cell? ⟨w.heap.size, 2, none⟩ = some (.int .i8 c) ∧ w'.cell? ⟨w.heap.size, 3, none⟩ = some (.int .i64 d) ∧ w'.cell? ⟨w.heap.size + 1, 0, none⟩ = some (.int .i8 e) ∧ w'.cell? ⟨w.heap.size + 1, 1, none⟩ = some (.int .i64 f) ∧ w'.cell? ⟨w.heap.size + 1, 2, none⟩ = some (.int .i8 g) ∧ w'.cell? ⟨w.heap.size + 1, 3, none⟩ = some (.int .i64 h)) (by kernel_rfl) ?_ (fun hHeld => ?_)
  · (try dsimp only); exact kdJ_8 ((Dn.refl _).drew) hS
  refine tk 0 ?_ rfl (by kernel_rfl) (fun _ _ _ => id) (by rfl) (by assumption) ?_ ?_
  rotate_left
  · (intro w hSw; (try dsimp only at hSw); go_simp)
    all_goals with_reducible rfl
  try simp only [Act.put, pL]
  refine tk 1 ?_ rfl (by kernel_rfl) (fun _ _ _ => id) (by rfl) (by assumption) ?_ ?_
  rotate_left
  · (intro w hSw; (try dsimp only at hSw); go_simp)
    all_goals with_reducible rfl
  try simp only [Act.put, pL]
  refine tk 2 ?_ rfl (by kernel_rfl) (fun _ _ _ => id) (by rfl) (by assumption) ?_ ?_
  rotate_left
  · (intro w hSw; (try dsimp only at hSw); go_simp)
    all_goals with_reducible rfl
  try simp only [Act.put, pL]
  refine tk 3 ?_ rfl (by kernel_rfl) (fun _ _ _ => id) (by rfl) (by assumption) ?_ ?_
  rotate_left
  · (intro w hSw; (try dsimp only at hSw); go_simp)
    all_goals with_reducible rfl
  try simp only [Act.put, pL]
  refine tk 5 ?_ rfl (by kernel_rfl) (fun _ _ _ => id) (by rfl) (by assumption) ?_ ?_
  rotate_left
  · (intro w hSw; (try dsimp only at hSw); go_simp)
    all_goals with_reducible rfl
  try simp only [Act.put, pL]
  refine tk 6 ?_ rfl (by kernel_rfl) (fun _ _ _ => id) (by rfl) (by assumption) ?_ ?_
  rotate_left
  · (intro w hSw; (try dsimp only at hSw); go_simp)
    all_goals with_reducible rfl
  try simp only [Act.put, pL]
  refine tk 7 ?_ rfl (by kernel_rfl) (fun _ _ _ => id) (by rfl) (by assumption) ?_ ?_
  rotate_left
  · (intro w hSw; (try dsimp only at hSw); go_simp)
    all_goals with_reducible rfl
  try simp only [Act.put, pL]
  refine tk 8 ?_ rfl (by kernel_rfl) (fun _ _ _ => id) (by rfl) (by assumption) ?_ ?_
  rotate_left
  · (intro w hSw; (try dsimp only at hSw); go_simp)
    all_goals with_reducible rfl
  try simp only [Act.put, pL]
  refine wpAnyH_ready (rs := [4, 11]) (by kernel_rfl) (by simp) ?_
  refine AllReadyH.cons rfl (fun K hK => ?_) (AllReadyH.cons rfl (fun K hK => ?_) AllReadyH.nil)
  ·
    go_simp
    go_at_call 152
    refine (HM.out _).mono ?_
    rintro e wa1 ⟨rfl, qa1⟩
    replace qa1 := Up.dn qa1
    have hXwa1 := hX.dn qa1
    have hYwa1 := hY.dn qa1
    have hRwa1 := hR.dn qa1
    have qWwa1 := qW.trans qa1
    try go_wp2_with fail
    refine hK.out _ _ ?_ (fun hHeld => ?_)
    · (try dsimp only); exact ⟨qWwa1, hXwa1.c0, hXwa1.c1, hXwa1.c2, hXwa1.c3, hYwa1.c0, hYwa1.c1, hYwa1.c2, hYwa1.c3⟩
    clear hK K
    try simp only [Act.put, pL]
    refine wpAnyH_ready (rs := [9, 11]) (by kernel_rfl) (by simp) ?_
    refine AllReadyH.cons rfl (fun K hK => ?_) (AllReadyH.cons rfl (fun K hK => ?_) AllReadyH.nil)
    ·
      go_simp
      go_at_call 151
      refine (HX.out _).mono ?_
      rintro e wa2 ⟨rfl, qa2⟩
      replace qa2 := Up.dn qa2
      have hXwa2 := hXwa1.dn qa2
      have hYwa2 := hYwa1.dn qa2
      have hRwa2 := hRwa1.dn qa2
      have qWwa2 := qWwa1.trans qa2
      try go_wp2_with fail
      refine hK.out _ _ ?_ (fun hHeld => ?_)
      · (try dsimp only); exact ⟨qWwa2, hXwa2.c0, hXwa2.c1, hXwa2.c2, hXwa2.c3, hYwa2.c0, hYwa2.c1, hYwa2.c2, hYwa2.c3⟩
      clear hK K
      try simp only [Act.put, pL]
      refine tk 10 ?_ rfl (by kernel_rfl) (fun _ _ _ => id) (by rfl) (by assumption) ?_ ?_
      rotate_left
      · (intro w hSw; (try dsimp only at hSw); go_simp)
        all_goals with_reducible rfl
      try simp only [Act.put, pL]
      refine wpAnyH_ready (rs := [11]) (by kernel_rfl) (by simp) ?_
      refine AllReadyH.cons rfl (fun K hK => ?_) AllReadyH.nil
      ·
        go_simp
        obtain ⟨wb3, hwb3⟩ : ∃ wb3, wb3 = wa2.alloc (.cells #[.int .i8 0, .int .i64 0, .int .i8 0, .int .i64 0] 30) := ⟨_, rfl⟩
        have qb3 : Dn wa2 wb3 := by rw [hwb3]; exact (Dn.refl wa2).alloc _
        have hN3 : NB wb3 wa2.heap.size (w.heap.size + 1 + 1) := by rw [hwb3]; exact NB.new (w := wa2) hRwa2.lt _
        rw [← hwb3]
        clear hwb3
        have hXwb3 := hXwa2.dn qb3
        have hYwb3 := hYwa2.dn qb3
        have hRwb3 := hRwa2.dn qb3
        have qWwb3 := qWwa2.trans qb3
        have z0 := hN3.z.c0
        have f0 := hN3.z.f0
        have z1 := hN3.z.c1
        have f1 := hN3.z.f1
        have z2 := hN3.z.c2
        have f2 := hN3.z.f2
        have z3 := hN3.z.c3
        have f3 := hN3.z.f3
        have zl := hN3.z.lt
        refine hK.out _ _ ?_ (fun hHeld => ?_)
        · (try dsimp only); exact ⟨qWwb3, hXwb3.c0, hXwb3.c1, hXwb3.c2, hXwb3.c3, hYwb3.c0, hYwb3.c1, hYwb3.c2, hYwb3.c3⟩
        clear hK K
        try simp only [Act.put, pL]
        refine wpAnyH_ready (rs := [12]) (by kernel_rfl) (by simp) ?_
        refine AllReadyH.cons rfl (fun K hK => ?_) AllReadyH.nil
        ·
          go_simp
          refine hK.out _ _ ?_ (fun hHeld => ?_)
          · (try dsimp only); exact ⟨(Dn.setCell (Dn.setCell (Dn.setCell (Dn.setCell qWwb3 (by have := hN3.lt; simp <;> omega) _) (by have := hN3.lt; simp <;> omega) _) (by have := hN3.lt; simp <;> omega) _) (by have := hN3.lt; simp <;> omega) _), (C4.far4 hXwb3 (by have := hN3.lt; omega) _ _ _ _).c0, (C4.far4 hXwb3 (by have := hN3.lt; omega) _ _ _ _).c1, (C4.far4 hXwb3 (by have := hN3.lt; omega) _ _ _ _).c2, (C4.far4 hXwb3 (by have := hN3.lt; omega) _ _ _ _).c3, (C4.far4 hYwb3 (by have := hN3.lt; omega) _ _ _ _).c0, (C4.far4 hYwb3 (by have := hN3.lt; omega) _ _ _ _).c1, (C4.far4 hYwb3 (by have := hN3.lt; omega) _ _ _ _).c2, (C4.far4 hYwb3 (by have := hN3.lt; omega) _ _ _ _).c3⟩
          clear hK K
          try simp only [Act.put, pL]
          refine wpAnyH_done (by kernel_rfl) ?_ _
          go_wp2_with fail
          go_meet
          case rel => exact ⟨_, rfl, (Dn.setCell (Dn.setCell (Dn.setCell (Dn.setCell qWwb3 (by have := hN3.lt; simp <;> omega) _) (by have := hN3.lt; simp <;> omega) _) (by have := hN3.lt; simp <;> omega) _) (by have := hN3.lt; simp <;> omega) _), (C4.far4 hXwb3 (by have := hN3.lt; omega) _ _ _ _), (C4.far4 hYwb3 (by have := hN3.lt; omega) _ _ _ _), hN3.z.fill _ _ _ _, (C4.far4 hRwb3 (by have := hN3.lt; omega) _ _ _ _)⟩
    ·
      go_simp
      obtain ⟨wb5, hwb5⟩ : ∃ wb5, wb5 = wa1.alloc (.cells #[.int .i8 0, .int .i64 0, .int .i8 0, .int .i64 0] 30) := ⟨_, rfl⟩
      have qb5 : Dn wa1 wb5 := by rw [hwb5]; exact (Dn.refl wa1).alloc _
      have hN5 : NB wb5 wa1.heap.size (w.heap.size + 1 + 1) := by rw [hwb5]; exact NB.new (w := wa1) hRwa1.lt _
      rw [← hwb5]
      clear hwb5
      have hXwb5 := hXwa1.dn qb5
      have hYwb5 := hYwa1.dn qb5
      have hRwb5 := hRwa1.dn qb5
      have qWwb5 := qWwa1.trans qb5
      have z0 := hN5.z.c0
      have f0 := hN5.z.f0
      have z1 := hN5.z.c1
      have f1 := hN5.z.f1
      have z2 := hN5.z.c2
      have f2 := hN5.z.f2
      have z3 := hN5.z.c3
      have f3 := hN5.z.f3
      have zl := hN5.z.lt
      refine hK.out _ _ ?_ (fun hHeld => ?_)
      · (try dsimp only); exact ⟨qWwb5, hXwb5.c0, hXwb5.c1, hXwb5.c2, hXwb5.c3, hYwb5.c0, hYwb5.c1, hYwb5.c2, hYwb5.c3⟩
      clear hK K
      try simp only [Act.put, pL]
      refine wpAnyH_ready (rs := [9]) (by kernel_rfl) (by simp) ?_
      refine AllReadyH.cons rfl (fun K hK => ?_) AllReadyH.nil
      ·
        go_simp
        go_at_call 151
        refine (HX.out _).mono ?_
        rintro e wa6 ⟨rfl, qa6⟩
        replace qa6 := Up.dn qa6
        have hXwa6 := hXwb5.dn qa6
        have hYwa6 := hYwb5.dn qa6
        have hRwa6 := hRwb5.dn qa6
        have qWwa6 := qWwb5.trans qa6
        have hBwa6 := hN5.dn qa6
        try go_wp2_with fail
        have z0 := hBwa6.z.c0
        have f0 := hBwa6.z.f0
        have z1 := hBwa6.z.c1
        have f1 := hBwa6.z.f1
        have z2 := hBwa6.z.c2
        have f2 := hBwa6.z.f2
        have z3 := hBwa6.z.c3
        have f3 := hBwa6.z.f3
        have zl := hBwa6.z.lt
        refine hK.out _ _ ?_ (fun hHeld => ?_)
        · (try dsimp only); exact ⟨qWwa6, hXwa6.c0, hXwa6.c1, hXwa6.c2, hXwa6.c3, hYwa6.c0, hYwa6.c1, hYwa6.c2, hYwa6.c3⟩
        clear hK K
        try simp only [Act.put, pL]
        refine tk 10 ?_ rfl (by kernel_rfl) (fun _ _ _ => id) (by rfl) (by assumption) ?_ ?_
        rotate_left
        · (intro w hSw; (try dsimp only at hSw); go_simp)
          all_goals with_reducible rfl
        try simp only [Act.put, pL]
        refine wpAnyH_ready (rs := [12]) (by kernel_rfl) (by simp) ?_
        refine AllReadyH.cons rfl (fun K hK => ?_) AllReadyH.nil
        ·
          go_simp
          refine hK.out _ _ ?_ (fun hHeld => ?_)
          · (try dsimp only); exact ⟨(Dn.setCell (Dn.setCell (Dn.setCell (Dn.setCell qWwa6 (by have := hBwa6.lt; simp <;> omega) _) (by have := hBwa6.lt; simp <;> omega) _) (by have := hBwa6.lt; simp <;> omega) _) (by have := hBwa6.lt; simp <;> omega) _), (C4.far4 hXwa6 (by have := hBwa6.lt; omega) _ _ _ _).c0, (C4.far4 hXwa6 (by have := hBwa6.lt; omega) _ _ _ _).c1, (C4.far4 hXwa6 (by have := hBwa6.lt; omega) _ _ _ _).c2, (C4.far4 hXwa6 (by have := hBwa6.lt; omega) _ _ _ _).c3, (C4.far4 hYwa6 (by have := hBwa6.lt; omega) _ _ _ _).c0, (C4.far4 hYwa6 (by have := hBwa6.lt; omega) _ _ _ _).c1, (C4.far4 hYwa6 (by have := hBwa6.lt; omega) _ _ _ _).c2, (C4.far4 hYwa6 (by have := hBwa6.lt; omega) _ _ _ _).c3⟩
          clear hK K
          try simp only [Act.put, pL]
          refine wpAnyH_done (by kernel_rfl) ?_ _
          go_wp2_with fail
          go_meet
          case rel => exact ⟨_, rfl, (Dn.setCell (Dn.setCell (Dn.setCell (Dn.setCell qWwa6 (by have := hBwa6.lt; simp <;> omega) _) (by have := hBwa6.lt; simp <;> omega) _) (by have := hBwa6.lt; simp <;> omega) _) (by have := hBwa6.lt; simp <;> omega) _), (C4.far4 hXwa6 (by have := hBwa6.lt; omega) _ _ _ _), (C4.far4 hYwa6 (by have := hBwa6.lt; omega) _ _ _ _), hBwa6.z.fill _ _ _ _, (C4.far4 hRwa6 (by have := hBwa6.lt; omega) _ _ _ _)⟩
  ·
    go_simp
    obtain ⟨wb8, hwb8⟩ : ∃ wb8, wb8 = (W.alloc (.cells #[.int .i8 0, .int .i64 0, .int .i8 0, .int .i64 0] 30)).drew := ⟨_, rfl⟩
    have qb8 : Dn W.drew wb8 := by rw [hwb8]; exact (Dn.refl W.drew).alloc _
    have hN8 : NB wb8 W.heap.size (w.heap.size + 1 + 1) := by rw [hwb8]; exact NB.new (w := W.drew) hR.lt _
    rw [← hwb8]
    clear hwb8
    have hXwb8 := hX.dn qb8
    have hYwb8 := hY.dn qb8
    have hRwb8 := hR.dn qb8
    have qWwb8 := qW.trans qb8
    have z0 := hN8.z.c0
    have f0 := hN8.z.f0
    have z1 := hN8.z.c1
    have f1 := hN8.z.f1
    have z2 := hN8.z.c2
    have f2 := hN8.z.f2
    have z3 := hN8.z.c3
    have f3 := hN8.z.f3
    have zl := hN8.z.lt
    refine hK.out _ _ ?_ (fun hHeld => ?_)
    · (try dsimp only); exact ⟨qWwb8, hXwb8.c0, hXwb8.c1, hXwb8.c2, hXwb8.c3, hYwb8.c0, hYwb8.c1, hYwb8.c2, hYwb8.c3⟩
    clear hK K
    try simp only [Act.put, pL]
    refine wpAnyH_ready (rs := [4]) (by kernel_rfl) (by simp) ?_
    refine AllReadyH.cons rfl (fun K hK => ?_) AllReadyH.nil
    ·
      go_simp
      go_at_call 152
      refine (HM.out _).mono ?_
      rintro e wa9 ⟨rfl, qa9⟩
      replace qa9 := Up.dn qa9
      have hXwa9 := hXwb8.dn qa9
      have hYwa9 := hYwb8.dn qa9
      have hRwa9 := hRwb8.dn qa9
      have qWwa9 := qWwb8.trans qa9
      have hBwa9 := hN8.dn qa9
      try go_wp2_with fail
      have z0 := hBwa9.z.c0
      have f0 := hBwa9.z.f0
      have z1 := hBwa9.z.c1
      have f1 := hBwa9.z.f1
      have z2 := hBwa9.z.c2
      have f2 := hBwa9.z.f2
      have z3 := hBwa9.z.c3
      have f3 := hBwa9.z.f3
      have zl := hBwa9.z.lt
      refine hK.out _ _ ?_ (fun hHeld => ?_)
      · (try dsimp only); exact ⟨qWwa9, hXwa9.c0, hXwa9.c1, hXwa9.c2, hXwa9.c3, hYwa9.c0, hYwa9.c1, hYwa9.c2, hYwa9.c3⟩
      clear hK K
      try simp only [Act.put, pL]
      refine wpAnyH_ready (rs := [9]) (by kernel_rfl) (by simp) ?_
      refine AllReadyH.cons rfl (fun K hK => ?_) AllReadyH.nil
      ·
        go_simp
        go_at_call 151
        refine (HX.out _).mono ?_
        rintro e wa10 ⟨rfl, qa10⟩
        replace qa10 := Up.dn qa10
        have hXwa10 := hXwa9.dn qa10
        have hYwa10 := hYwa9.dn qa10
        have hRwa10 := hRwa9.dn qa10
        have qWwa10 := qWwa9.trans qa10
        have hBwa10 := hBwa9.dn qa10
        try go_wp2_with fail
        have z0 := hBwa10.z.c0
        have f0 := hBwa10.z.f0
        have z1 := hBwa10.z.c1
        have f1 := hBwa10.z.f1
        have z2 := hBwa10.z.c2
        have f2 := hBwa10.z.f2
        have z3 := hBwa10.z.c3
        have f3 := hBwa10.z.f3
        have zl := hBwa10.z.lt
        refine hK.out _ _ ?_ (fun hHeld => ?_)
        · (try dsimp only); exact ⟨qWwa10, hXwa10.c0, hXwa10.c1, hXwa10.c2, hXwa10.c3, hYwa10.c0, hYwa10.c1, hYwa10.c2, hYwa10.c3⟩
        clear hK K
        try simp only [Act.put, pL]
        refine tk 10 ?_ rfl (by kernel_rfl) (fun _ _ _ => id) (by rfl) (by assumption) ?_ ?_
        rotate_left
        · (intro w hSw; (try dsimp only at hSw); go_simp)
          all_goals with_reducible rfl
        try simp only [Act.put, pL]
        refine wpAnyH_ready (rs := [12]) (by kernel_rfl) (by simp) ?_
        refine AllReadyH.cons rfl (fun K hK => ?_) AllReadyH.nil
        ·
          go_simp
          refine hK.out _ _ ?_ (fun hHeld => ?_)
          · (try dsimp only); exact ⟨(Dn.setCell (Dn.setCell (Dn.setCell (Dn.setCell qWwa10 (by have := hBwa10.lt; simp <;> omega) _) (by have := hBwa10.lt; simp <;> omega) _) (by have := hBwa10.lt; simp <;> omega) _) (by have := hBwa10.lt; simp <;> omega) _), (C4.far4 hXwa10 (by have := hBwa10.lt; omega) _ _ _ _).c0, (C4.far4 hXwa10 (by have := hBwa10.lt; omega) _ _ _ _).c1, (C4.far4 hXwa10 (by have := hBwa10.lt; omega) _ _ _ _).c2, (C4.far4 hXwa10 (by have := hBwa10.lt; omega) _ _ _ _).c3, (C4.far4 hYwa10 (by have := hBwa10.lt; omega) _ _ _ _).c0, (C4.far4 hYwa10 (by have := hBwa10.lt; omega) _ _ _ _).c1, (C4.far4 hYwa10 (by have := hBwa10.lt; omega) _ _ _ _).c2, (C4.far4 hYwa10 (by have := hBwa10.lt; omega) _ _ _ _).c3⟩
          clear hK K
          try simp only [Act.put, pL]
          refine wpAnyH_done (by kernel_rfl) ?_ _
          go_wp2_with fail
          go_meet
          case rel => exact ⟨_, rfl, (Dn.setCell (Dn.setCell (Dn.setCell (Dn.setCell qWwa10 (by have := hBwa10.lt; simp <;> omega) _) (by have := hBwa10.lt; simp <;> omega) _) (by have := hBwa10.lt; simp <;> omega) _) (by have := hBwa10.lt; simp <;> omega) _), (C4.far4 hXwa10 (by have := hBwa10.lt; omega) _ _ _ _), (C4.far4 hYwa10 (by have := hBwa10.lt; omega) _ _ _ _), hBwa10.z.fill _ _ _ _, (C4.far4 hRwa10 (by have := hBwa10.lt; omega) _ _ _ _)⟩
 case rest =>
  clear hX hY hR qW hS uW
  obtain ⟨B, rfl, uc, kX, kY, kB, kR⟩ := hcut
  obtain ⟨xc0, xc1, xc2, xc3, _, _, _, _, lx⟩ := kX
  obtain ⟨yc0, yc1, yc2, yc3, _, _, _, _, ly⟩ := kY
  obtain ⟨mc0, mc1, mc2, mc3, _, _, _, _, lm⟩ := kB
  obtain ⟨resc0, resc1, resc2, resc3, resf0, resf1, resf2, resf3, lres⟩ := kR
  go_wp2_with fail
  refine (HR.out _).mono ?_
  rintro e w1 ⟨rfl, qw1⟩
  have l1 := nlt lx qw1.size
  have l6 := nlt ly qw1.size
  have a2 := nlt lm qw1.size
  obtain ⟨c2, c3, c4, c5, c7, c8, c9, a1, a3, a4, a5, a6⟩ := mv12 qw1.cell xc0 xc1 xc2 xc3 yc0 yc1 yc2 yc3 mc0 mc1 mc2 mc3
  have f16 := (qw1.frozen (a := ⟨w.heap.size + 1 + 1, 0, none⟩) lres).trans resf0
  have f17 := (qw1.frozen (a := ⟨w.heap.size + 1 + 1, 1, none⟩) lres).trans resf1
  have f18 := (qw1.frozen (a := ⟨w.heap.size + 1 + 1, 2, none⟩) lres).trans resf2
  have f19 := (qw1.frozen (a := ⟨w.heap.size + 1 + 1, 3, none⟩) lres).trans resf3
  have a0 := nlt lres qw1.size
  obtain ⟨a7, a8, a9, aA⟩ := mv4 qw1.cell resc0 resc1 resc2 resc3
  clear lx xc0 xc1 xc2 xc3 ly yc0 yc1 yc2 yc3 lm mc0 mc1 mc2 mc3 resf0 resf1 resf2 resf3 lres resc0 resc1 resc2 resc3
  have uw1 := uc.trans qw1
  clear qw1 uc
  go_wp2_with fail
  refine (HC.out _).mono ?_
  rintro e w2 ⟨rfl, qw2⟩
  have aR := nlt l1 qw2.size
  have aS := nlt l6 qw2.size
  have aT := nlt a2 qw2.size
  obtain ⟨aB, aC, aD, aE, aF, aG, aH, aI, aJ, aK, aL, aM⟩ := mv12 qw2.cell c2 c3 c4 c5 c7 c8 c9 a1 a3 a4 a5 a6
  have f40 := (qw2.frozen (a := ⟨w.heap.size + 1 + 1, 0, none⟩) a0).trans f16
  have f41 := (qw2.frozen (a := ⟨w.heap.size + 1 + 1, 1, none⟩) a0).trans f17
  have f42 := (qw2.frozen (a := ⟨w.heap.size + 1 + 1, 2, none⟩) a0).trans f18
  have f43 := (qw2.frozen (a := ⟨w.heap.size + 1 + 1, 3, none⟩) a0).trans f19
  have aU := nlt a0 qw2.size
  obtain ⟨aN, aO, aP, aQ⟩ := mv4 qw2.cell a7 a8 a9 aA
  clear l1 c2 c3 c4 c5 l6 c7 c8 c9 a1 a2 a3 a4 a5 a6 f16 f17 f18 f19 a0 a7 a8 a9 aA
  have uw2 := uw1.trans qw2
  clear qw2 uw1
  go_wp2_with fail
  exact bodyPost_ret (v := .tuple #[.agg #[.int .i8 i1, .int .i64 d1, .int .i8 i2, .int .i64 d2], .bool true]) (by simp [results, Tryz.results134, go_sem, aB, aC, aD, aE, aF, aG, aH, aI, aJ, aK, aL, aM, aN, aO, aP, aQ, f40, f41, f42, f43] <;> omega) rfl ⟨rfl, ((((uw2.setCell (by simp <;> omega) _).setCell (by simp <;> omega) _).setCell (by simp <;> omega) _).setCell (by simp <;> omega) _)⟩
end Go.Proofs.YteodjglbpfmikaaGreatDoor
