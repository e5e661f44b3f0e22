/- Walks and laws that the claim's theorem leans on: part 5. -/
import Derived.Test.YteodjglbpfmikaaGreatDoorZUn1
import Derived.Test.YteodjglbpfmikaaGreatDoorZUn2
import Derived.Test.YteodjglbpfmikaaGreatDoorZUn3
import Derived.Test.YteodjglbpfmikaaGreatDoorZUn4
import Derived.Deep.DeepCutAuto
import Derived.Maps.RangeWalk
import Derived.RegionTactic
import Derived.Deep.RegionLaw
import Derived.Deep.AppendLies
import Derived.LoopN
namespace Go.Proofs.YteodjglbpfmikaaGreatDoor
set_option maxHeartbeats 4000000
set_option maxRecDepth 100000
open Go.RowKit
set_option linter.unusedVariables false
set_option linter.unusedSimpArgs false
theorem rnCom_all (a b c d e f g h i1 d1 i2 d2 : Int) (HM : Hid (∀ W, Calls Tryz.prog 152 #[.agg #[.int .i8 a, .int .i64 b], .agg #[.int .i8 e, .int .i64 f]] W fun r w' => r = .returned (.agg #[.int .i8 i1, .int .i64 d1]) ∧ Up W w')) (HX : Hid (∀ W, Calls Tryz.prog 151 #[.agg #[.int .i8 c, .int .i64 d], .agg #[.int .i8 g, .int .i64 h]] W fun r w' => r = .returned (.agg #[.int .i8 i2, .int .i64 d2]) ∧ Up W w')) (t0 : Bool) (m : Int) (res : Value) (HR : Hid (∀ W, Calls Tryz.prog 80 #[.agg #[.int .i8 a, .int .i64 b, .int .i8 c, .int .i64 d], .agg #[.int .i8 e, .int .i64 f, .int .i8 g, .int .i64 h]] W fun r w' => r = .returned (.bool t0) ∧ Dn W w')) (HCASE : Hid ((t0 = false ∧ res = .tuple #[.agg #[.int .i8 0, .int .i64 0, .int .i8 0, .int .i64 0], .bool false]) ∨ (t0 = true ∧ m ≠ 0 ∧ Hid (ChkIs i1 d1 i2 d2 m) ∧ res = .tuple #[.agg #[.int .i8 0, .int .i64 0, .int .i8 0, .int .i64 0], .bool false]) ∨ (t0 = true ∧ Hid (ChkIs i1 d1 i2 d2 0) ∧ res = .tuple #[.agg #[.int .i8 i1, .int .i64 d1, .int .i8 i2, .int .i64 d2], .bool true]))) (w : World) :
  Calls Tryz.prog 134 #[.agg #[.int .i8 a, .int .i64 b, .int .i8 c, .int .i64 d], .agg #[.int .i8 e, .int .i64 f, .int .i8 g, .int .i64 h]] w fun ro w' => ro = .returned (res) ∧ Dn w w' := by
 obtain ⟨W, hW⟩ : ∃ W, W = ((w.alloc (.cells #[.int .i8 a, .int .i64 b, .int .i8 c, .int .i64 d] 30)).alloc (.cells #[.int .i8 e, .int .i64 f, .int .i8 g, .int .i64 h] 30)).alloc (.cells #[.int .i8 0, .int .i64 0, .int .i8 0, .int .i64 0] 30) := ⟨_, rfl⟩
 have kX : C4 W w.heap.size (.int .i8 a) (.int .i64 b) (.int .i8 c) (.int .i64 d) := by rw [hW]; exact ((C4.new _ _ _ _ _ _).alloc _).alloc _
 have kY : C4 W (w.heap.size + 1) (.int .i8 e) (.int .i64 f) (.int .i8 g) (.int .i64 h) := by rw [hW]; exact (C4.new1 _ _ _ _ _ _ _).alloc _
 have kR : C4 W (w.heap.size + 1 + 1) (.int .i8 0) (.int .i64 0) (.int .i8 0) (.int .i64 0) := by rw [hW]; exact C4.new2 _ _ _ _ _ _ _ _
 have uW : Dn w W := by rw [hW]; exact (((Dn.refl _).alloc _).alloc _).alloc _
 have hX := kX.drew
 have hY := kY.drew
 have hR := kR.drew
 have qW := uW.drew
 have hS := kdJ_8 (W := w) (Dn.refl W) ⟨uW, kX.c0, kX.c1, kX.c2, kX.c3, kY.c0, kY.c1, kY.c2, kY.c3⟩
 have HW := Lib.hid hW
 clear hW kX kY kR
 go_enter Tryz.func134, Tryz.ntmps134
 go_wp2_with fail
 rw [← HW.out]
 clear HW
 go_upto_region 1 with fail
 go_cut [6] (fun s6 wx => ∃ B : Nat, s6 = .pointer (some ⟨B, 0, none⟩) ∧ Dn w wx ∧ C4 wx w.heap.size (.int .i8 a) (.int .i64 b) (.int .i8 c) (.int .i64 d) ∧ C4 wx (w.heap.size + 1) (.int .i8 e) (.int .i64 f) (.int .i8 g) (.int .i64 h) ∧ C4 wx B (.int .i8 i1) (.int .i64 d1) (.int .i8 i2) (.int .i64 d2) ∧ C4 wx (w.heap.size + 1 + 1) (.int .i8 0) (.int .i64 0) (.int .i8 0) (.int .i64 0))
 case first =>
  refine wp_region_held_drew (S := fun w' => Dn w w' ∧ w'.cell? ⟨w.heap.size, 0, none⟩ = some (.int .i8 a) ∧ w'.cell? ⟨w.heap.size, 1, none⟩ = some (.int .i64 b) ∧ w'.cell? ⟨w.heap.size, 2, none⟩ = some (.int .i8 c) ∧ w'.cell? ⟨w.heap.size, 3, none⟩ = some (.int .i64 d) ∧ w'.cell? ⟨w.heap.size + 1, 0, none⟩ = some (.int .i8 e) ∧ w'.cell? ⟨w.heap.size + 1, 1, none⟩ = some (.int .i64 f) ∧ w'.cell? ⟨w.heap.size + 1, 2, none⟩ = some (.int .i8 g) ∧ w'.cell? ⟨w.heap.size + 1, 3, none⟩ = some (.int .i64 h)) (by kernel_rfl) ?_ (fun hHeld => ?_)
  · (try dsimp only); exact kdJ_8 ((Dn.refl _).drew) hS
  refine tk 0 ?_ rfl (by kernel_rfl) (fun _ _ _ => id) (by rfl) (by assumption) ?_ ?_
  rotate_left
  · (intro w hSw; (try dsimp only at hSw); go_simp)
    all_goals with_reducible rfl
  try simp only [Act.put, pL]
  refine tk 1 ?_ rfl (by kernel_rfl) (fun _ _ _ => id) (by rfl) (by assumption) ?_ ?_
  rotate_left
  · (intro w hSw; (try dsimp only at hSw); go_simp)
    all_goals with_reducible rfl
  try simp only [Act.put, pL]
  refine tk 2 ?_ rfl (by kernel_rfl) (fun _ _ _ => id) (by rfl) (by assumption) ?_ ?_
  rotate_left
  · (intro w hSw; (try dsimp only at hSw); go_simp)
    all_goals with_reducible rfl
  try simp only [Act.put, pL]
  refine tk 3 ?_ rfl (by kernel_rfl) (fun _ _ _ => id) (by rfl) (by assumption) ?_ ?_
  rotate_left
  · (intro w hSw; (try dsimp only at hSw); go_simp)
    all_goals with_reducible rfl
  try simp only [Act.put, pL]
  refine tk 5 ?_ rfl (by kernel_rfl) (fun _ _ _ => id) (by rfl) (by assumption) ?_ ?_
  rotate_left
  · (intro w hSw; (try dsimp only at hSw); go_simp)
    all_goals with_reducible rfl
  try simp only [Act.put, pL]
  refine tk 6 ?_ rfl (by kernel_rfl) (fun _ _ _ => id) (by rfl) (by assumption) ?_ ?_
  rotate_left
  · (intro w hSw; (try dsimp only at hSw); go_simp)
    all_goals with_reducible rfl
  try simp only [Act.put, pL]
  refine tk 7 ?_ rfl (by kernel_rfl) (fun _ _ _ => id) (by rfl) (by assumption) ?_ ?_
  rotate_left
  · (intro w hSw; (try dsimp only at hSw); go_simp)
    all_goals with_reducible rfl
  try simp only [Act.put, pL]
  refine tk 8 ?_ rfl (by kernel_rfl) (fun _ _ _ => id) (by rfl) (by assumption) ?_ ?_
  rotate_left
  · (intro w hSw; (try dsimp only at hSw); go_simp)
    all_goals with_reducible rfl
  try simp only [Act.put, pL]
  refine wpAnyH_ready (rs := [4, 11]) (by kernel_rfl) (by simp) ?_
  refine AllReadyH.cons rfl (fun K hK => ?_) (AllReadyH.cons rfl (fun K hK => ?_) AllReadyH.nil)
  ·
    go_simp
    go_at_call 152
    refine (HM.out _).mono ?_
    rintro e wa1 ⟨rfl, qa1⟩
    replace qa1 := Up.dn qa1
    have hXwa1 := hX.dn qa1
    have hYwa1 := hY.dn qa1
    have hRwa1 := hR.dn qa1
    have qWwa1 := qW.trans qa1
    try go_wp2_with fail
    refine hK.out _ _ ?_ (fun hHeld => ?_)
    · (try dsimp only); exact ⟨qWwa1, hXwa1.c0, hXwa1.c1, hXwa1.c2, hXwa1.c3, hYwa1.c0, hYwa1.c1, hYwa1.c2, hYwa1.c3⟩
    clear hK K
    try simp only [Act.put, pL]
    refine wpAnyH_ready (rs := [9, 11]) (by kernel_rfl) (by simp) ?_
    refine AllReadyH.cons rfl (fun K hK => ?_) (AllReadyH.cons rfl (fun K hK => ?_) AllReadyH.nil)
    ·
      go_simp
      go_at_call 151
      refine (HX.out _).mono ?_
      rintro e wa2 ⟨rfl, qa2⟩
      replace qa2 := Up.dn qa2
      have hXwa2 := hXwa1.dn qa2
      have hYwa2 := hYwa1.dn qa2
      have hRwa2 := hRwa1.dn qa2
      have qWwa2 := qWwa1.trans qa2
      try go_wp2_with fail
      refine hK.out _ _ ?_ (fun hHeld => ?_)
      · (try dsimp only); exact ⟨qWwa2, hXwa2.c0, hXwa2.c1, hXwa2.c2, hXwa2.c3, hYwa2.c0, hYwa2.c1, hYwa2.c2, hYwa2.c3⟩
      clear hK K
      try simp only [Act.put, pL]
      refine tk 10 ?_ rfl (by kernel_rfl) (fun _ _ _ => id) (by rfl) (by assumption) ?_ ?_
      rotate_left
      · (intro w hSw; (try dsimp only at hSw); go_simp)
        all_goals with_reducible rfl
      try simp only [Act.put, pL]
      refine wpAnyH_ready (rs := [11]) (by kernel_rfl) (by simp) ?_
      refine AllReadyH.cons rfl (fun K hK => ?_) AllReadyH.nil
      ·
        go_simp
        obtain ⟨wb3, hwb3⟩ : ∃ wb3, wb3 = wa2.alloc (.cells #[.int .i8 0, .int .i64 0, .int .i8 0, .int .i64 0] 30) := ⟨_, rfl⟩
        have qb3 : Dn wa2 wb3 := by rw [hwb3]; exact (Dn.refl wa2).alloc _
        have hN3 : NB wb3 wa2.heap.size (w.heap.size + 1 + 1) := by rw [hwb3]; exact NB.new (w := wa2) hRwa2.lt _
        rw [← hwb3]
        clear hwb3
        have hXwb3 := hXwa2.dn qb3
        have hYwb3 := hYwa2.dn qb3
        have hRwb3 := hRwa2.dn qb3
        have qWwb3 := qWwa2.trans qb3
        have z0 := hN3.z.c0
        have f0 := hN3.z.f0
        have z1 := hN3.z.c1
        have f1 := hN3.z.f1
        have z2 := hN3.z.c2
        have f2 := hN3.z.f2
        have z3 := hN3.z.c3
        have f3 := hN3.z.f3
        have zl := hN3.z.lt
        refine hK.out _ _ ?_ (fun hHeld => ?_)
        · (try dsimp only); exact ⟨qWwb3, hXwb3.c0, hXwb3.c1, hXwb3.c2, hXwb3.c3, hYwb3.c0, hYwb3.c1, hYwb3.c2, hYwb3.c3⟩
        clear hK K
        try simp only [Act.put, pL]
        refine wpAnyH_ready (rs := [12]) (by kernel_rfl) (by simp) ?_
        refine AllReadyH.cons rfl (fun K hK => ?_) AllReadyH.nil
        ·
          go_simp
          refine hK.out _ _ ?_ (fun hHeld => ?_)
          · (try dsimp only); exact ⟨(Dn.setCell (Dn.setCell (Dn.setCell (Dn.setCell qWwb3 (by have := hN3.lt; simp <;> omega) _) (by have := hN3.lt; simp <;> omega) _) (by have := hN3.lt; simp <;> omega) _) (by have := hN3.lt; simp <;> omega) _), (C4.far4 hXwb3 (by have := hN3.lt; omega) _ _ _ _).c0, (C4.far4 hXwb3 (by have := hN3.lt; omega) _ _ _ _).c1, (C4.far4 hXwb3 (by have := hN3.lt; omega) _ _ _ _).c2, (C4.far4 hXwb3 (by have := hN3.lt; omega) _ _ _ _).c3, (C4.far4 hYwb3 (by have := hN3.lt; omega) _ _ _ _).c0, (C4.far4 hYwb3 (by have := hN3.lt; omega) _ _ _ _).c1, (C4.far4 hYwb3 (by have := hN3.lt; omega) _ _ _ _).c2, (C4.far4 hYwb3 (by have := hN3.lt; omega) _ _ _ _).c3⟩
          clear hK K
          try simp only [Act.put, pL]
          refine wpAnyH_done (by kernel_rfl) ?_ _
          go_wp2_with fail
          go_meet
          case rel => exact ⟨_, rfl, (Dn.setCell (Dn.setCell (Dn.setCell (Dn.setCell qWwb3 (by have := hN3.lt; simp <;> omega) _) (by have := hN3.lt; simp <;> omega) _) (by have := hN3.lt; simp <;> omega) _) (by have := hN3.lt; simp <;> omega) _), (C4.far4 hXwb3 (by have := hN3.lt; omega) _ _ _ _), (C4.far4 hYwb3 (by have := hN3.lt; omega) _ _ _ _), hN3.z.fill _ _ _ _, (C4.far4 hRwb3 (by have := hN3.lt; omega) _ _ _ _)⟩
    ·
      go_simp
      obtain ⟨wb5, hwb5⟩ : ∃ wb5, wb5 = wa1.alloc (.cells #[.int .i8 0, .int .i64 0, .int .i8 0, .int .i64 0] 30) := ⟨_, rfl⟩
      have qb5 : Dn wa1 wb5 := by rw [hwb5]; exact (Dn.refl wa1).alloc _
      have hN5 : NB wb5 wa1.heap.size (w.heap.size + 1 + 1) := by rw [hwb5]; exact NB.new (w := wa1) hRwa1.lt _
      rw [← hwb5]
      clear hwb5
      have hXwb5 := hXwa1.dn qb5
      have hYwb5 := hYwa1.dn qb5
      have hRwb5 := hRwa1.dn qb5
      have qWwb5 := qWwa1.trans qb5
      have z0 := hN5.z.c0
      have f0 := hN5.z.f0
      have z1 := hN5.z.c1
      have f1 := hN5.z.f1
      have z2 := hN5.z.c2
      have f2 := hN5.z.f2
      have z3 := hN5.z.c3
      have f3 := hN5.z.f3
      have zl := hN5.z.lt
      refine hK.out _ _ ?_ (fun hHeld => ?_)
      · (try dsimp only); exact ⟨qWwb5, hXwb5.c0, hXwb5.c1, hXwb5.c2, hXwb5.c3, hYwb5.c0, hYwb5.c1, hYwb5.c2, hYwb5.c3⟩
      clear hK K
      try simp only [Act.put, pL]
      refine wpAnyH_ready (rs := [9]) (by kernel_rfl) (by simp) ?_
      refine AllReadyH.cons rfl (fun K hK => ?_) AllReadyH.nil
      ·
        go_simp
        go_at_call 151
        refine (HX.out _).mono ?_
        rintro e wa6 ⟨rfl, qa6⟩
        replace qa6 := Up.dn qa6
        have hXwa6 := hXwb5.dn qa6
        have hYwa6 := hYwb5.dn qa6
        have hRwa6 := hRwb5.dn qa6
        have qWwa6 := qWwb5.trans qa6
        have hBwa6 := hN5.dn qa6
        try go_wp2_with fail
        have z0 := hBwa6.z.c0
        have f0 := hBwa6.z.f0
        have z1 := hBwa6.z.c1
        have f1 := hBwa6.z.f1
        have z2 := hBwa6.z.c2
        have f2 := hBwa6.z.f2
        have z3 := hBwa6.z.c3
        have f3 := hBwa6.z.f3
        have zl := hBwa6.z.lt
        refine hK.out _ _ ?_ (fun hHeld => ?_)
        · (try dsimp only); exact ⟨qWwa6, hXwa6.c0, hXwa6.c1, hXwa6.c2, hXwa6.c3, hYwa6.c0, hYwa6.c1, hYwa6.c2, hYwa6.c3⟩
        clear hK K
        try simp only [Act.put, pL]
        refine tk 10 ?_ rfl (by kernel_rfl) (fun _ _ _ => id) (by rfl) (by assumption) ?_ ?_
        rotate_left
        · (intro w hSw; (try dsimp only at hSw); go_simp)
          all_goals with_reducible rfl
        try simp only [Act.put, pL]
        refine wpAnyH_ready (rs := [12]) (by kernel_rfl) (by simp) ?_
        refine AllReadyH.cons rfl (fun K hK => ?_) AllReadyH.nil
        ·
          go_simp
          refine hK.out _ _ ?_ (fun hHeld => ?_)
          · (try dsimp only); exact ⟨(Dn.setCell (Dn.setCell (Dn.setCell (Dn.setCell qWwa6 (by have := hBwa6.lt; simp <;> omega) _) (by have := hBwa6.lt; simp <;> omega) _) (by have := hBwa6.lt; simp <;> omega) _) (by have := hBwa6.lt; simp <;> omega) _), (C4.far4 hXwa6 (by have := hBwa6.lt; omega) _ _ _ _).c0, (C4.far4 hXwa6 (by have := hBwa6.lt; omega) _ _ _ _).c1, (C4.far4 hXwa6 (by have := hBwa6.lt; omega) _ _ _ _).c2, (C4.far4 hXwa6 (by have := hBwa6.lt; omega) _ _ _ _).c3, (C4.far4 hYwa6 (by have := hBwa6.lt; omega) _ _ _ _).c0, (C4.far4 hYwa6 (by have := hBwa6.lt; omega) _ _ _ _).c1, (C4.far4 hYwa6 (by have := hBwa6.lt; omega) _ _ _ _).c2, (C4.far4 hYwa6 (by have := hBwa6.lt; omega) _ _ _ _).c3⟩
          clear hK K
          try simp only [Act.put, pL]
          refine wpAnyH_done (by kernel_rfl) ?_ _
          go_wp2_with fail
          go_meet
          case rel => exact ⟨_, rfl, (Dn.setCell (Dn.setCell (Dn.setCell (Dn.setCell qWwa6 (by have := hBwa6.lt; simp <;> omega) _) (by have := hBwa6.lt; simp <;> omega) _) (by have := hBwa6.lt; simp <;> omega) _) (by have := hBwa6.lt; simp <;> omega) _), (C4.far4 hXwa6 (by have := hBwa6.lt; omega) _ _ _ _), (C4.far4 hYwa6 (by have := hBwa6.lt; omega) _ _ _ _), hBwa6.z.fill _ _ _ _, (C4.far4 hRwa6 (by have := hBwa6.lt; omega) _ _ _ _)⟩
  ·
    go_simp
    obtain ⟨wb8, hwb8⟩ : ∃ wb8, wb8 = (W.alloc (.cells #[.int .i8 0, .int .i64 0, .int .i8 0, .int .i64 0] 30)).drew := ⟨_, rfl⟩
    have qb8 : Dn W.drew wb8 := by rw [hwb8]; exact (Dn.refl W.drew).alloc _
    have hN8 : NB wb8 W.heap.size (w.heap.size + 1 + 1) := by rw [hwb8]; exact NB.new (w := W.drew) hR.lt _
    rw [← hwb8]
    clear hwb8
    have hXwb8 := hX.dn qb8
    have hYwb8 := hY.dn qb8
    have hRwb8 := hR.dn qb8
    have qWwb8 := qW.trans qb8
    have z0 := hN8.z.c0
    have f0 := hN8.z.f0
    have z1 := hN8.z.c1
    have f1 := hN8.z.f1
    have z2 := hN8.z.c2
    have f2 := hN8.z.f2
    have z3 := hN8.z.c3
    have f3 := hN8.z.f3
    have zl := hN8.z.lt
    refine hK.out _ _ ?_ (fun hHeld => ?_)
    · (try dsimp only); exact ⟨qWwb8, hXwb8.c0, hXwb8.c1, hXwb8.c2, hXwb8.c3, hYwb8.c0, hYwb8.c1, hYwb8.c2, hYwb8.c3⟩
    clear hK K
    try simp only [Act.put, pL]
    refine wpAnyH_ready (rs := [4]) (by kernel_rfl) (by simp) ?_
    refine AllReadyH.cons rfl (fun K hK => ?_) AllReadyH.nil
    ·
      go_simp
      go_at_call 152
      refine (HM.out _).mono ?_
      rintro e wa9 ⟨rfl, qa9⟩
      replace qa9 := Up.dn qa9
      have hXwa9 := hXwb8.dn qa9
      have hYwa9 := hYwb8.dn qa9
      have hRwa9 := hRwb8.dn qa9
      have qWwa9 := qWwb8.trans qa9
      have hBwa9 := hN8.dn qa9
      try go_wp2_with fail
      have z0 := hBwa9.z.c0
      have f0 := hBwa9.z.f0
      have z1 := hBwa9.z.c1
      have f1 := hBwa9.z.f1
      have z2 := hBwa9.z.c2
      have f2 := hBwa9.z.f2
      have z3 := hBwa9.z.c3
      have f3 := hBwa9.z.f3
      have zl := hBwa9.z.lt
      refine hK.out _ _ ?_ (fun hHeld => ?_)
      · (try dsimp only); exact ⟨qWwa9, hXwa9.c0, hXwa9.c1, hXwa9.c2, hXwa9.c3, hYwa9.c0, hYwa9.c1, hYwa9.c2, hYwa9.c3⟩
      clear hK K
      try simp only [Act.put, pL]
      refine wpAnyH_ready (rs := [9]) (by kernel_rfl) (by simp) ?_
      refine AllReadyH.cons rfl (fun K hK => ?_) AllReadyH.nil
      ·
        go_simp
        go_at_call 151
        refine (HX.out _).mono ?_
        rintro e wa10 ⟨rfl, qa10⟩
        replace qa10 := Up.dn qa10
        have hXwa10 := hXwa9.dn qa10
        have hYwa10 := hYwa9.dn qa10
        have hRwa10 := hRwa9.dn qa10
        have qWwa10 := qWwa9.trans qa10
        have hBwa10 := hBwa9.dn qa10
        try go_wp2_with fail
        have z0 := hBwa10.z.c0
        have f0 := hBwa10.z.f0
        have z1 := hBwa10.z.c1
        have f1 := hBwa10.z.f1
        have z2 := hBwa10.z.c2
        have f2 := hBwa10.z.f2
        have z3 := hBwa10.z.c3
        have f3 := hBwa10.z.f3
        have zl := hBwa10.z.lt
        refine hK.out _ _ ?_ (fun hHeld => ?_)
        · (try dsimp only); exact ⟨qWwa10, hXwa10.c0, hXwa10.c1, hXwa10.c2, hXwa10.c3, hYwa10.c0, hYwa10.c1, hYwa10.c2, hYwa10.c3⟩
        clear hK K
        try simp only [Act.put, pL]
        refine tk 10 ?_ rfl (by kernel_rfl) (fun _ _ _ => id) (by rfl) (by assumption) ?_ ?_
        rotate_left
        · (intro w hSw; (try dsimp only at hSw); go_simp)
          all_goals with_reducible rfl
        try simp only [Act.put, pL]
        refine wpAnyH_ready (rs := [12]) (by kernel_rfl) (by simp) ?_
        refine AllReadyH.cons rfl (fun K hK => ?_) AllReadyH.nil
        ·
          go_simp
          refine hK.out _ _ ?_ (fun hHeld => ?_)
          · (try dsimp only); exact ⟨(Dn.setCell (Dn.setCell (Dn.setCell (Dn.setCell qWwa10 (by have := hBwa10.lt; simp <;> omega) _) (by have := hBwa10.lt; simp <;> omega) _) (by have := hBwa10.lt; simp <;> omega) _) (by have := hBwa10.lt; simp <;> omega) _), (C4.far4 hXwa10 (by have := hBwa10.lt; omega) _ _ _ _).c0, (C4.far4 hXwa10 (by have := hBwa10.lt; omega) _ _ _ _).c1, (C4.far4 hXwa10 (by have := hBwa10.lt; omega) _ _ _ _).c2, (C4.far4 hXwa10 (by have := hBwa10.lt; omega) _ _ _ _).c3, (C4.far4 hYwa10 (by have := hBwa10.lt; omega) _ _ _ _).c0, (C4.far4 hYwa10 (by have := hBwa10.lt; omega) _ _ _ _).c1, (C4.far4 hYwa10 (by have := hBwa10.lt; omega) _ _ _ _).c2, (C4.far4 hYwa10 (by have := hBwa10.lt; omega) _ _ _ _).c3⟩
          clear hK K
          try simp only [Act.put, pL]
          refine wpAnyH_done (by kernel_rfl) ?_ _
          go_wp2_with fail
          go_meet
          case rel => exact ⟨_, rfl, (Dn.setCell (Dn.setCell (Dn.setCell (Dn.setCell qWwa10 (by have := hBwa10.lt; simp <;> omega) _) (by have := hBwa10.lt; simp <;> omega) _) (by have := hBwa10.lt; simp <;> omega) _) (by have := hBwa10.lt; simp <;> omega) _), (C4.far4 hXwa10 (by have := hBwa10.lt; omega) _ _ _ _), (C4.far4 hYwa10 (by have := hBwa10.lt; omega) _ _ _ _), hBwa10.z.fill _ _ _ _, (C4.far4 hRwa10 (by have := hBwa10.lt; omega) _ _ _ _)⟩
 case rest =>
  clear hX hY hR qW hS uW
  obtain ⟨B, rfl, uc, kX, kY, kB, kR⟩ := hcut
  obtain ⟨xc0, xc1, xc2, xc3, _, _, _, _, lx⟩ := kX
  obtain ⟨yc0, yc1, yc2, yc3, _, _, _, _, ly⟩ := kY
  obtain ⟨mc0, mc1, mc2, mc3, _, _, _, _, lm⟩ := kB
  obtain ⟨resc0, resc1, resc2, resc3, resf0, resf1, resf2, resf3, lres⟩ := kR
  rcases HCASE.out with ⟨rfl, rfl⟩ | ⟨rfl, h1, hC, rfl⟩ | ⟨rfl, hC, rfl⟩
  all_goals clear HCASE
  ·
    have HR1 := Lib.hid HR.out
    clear HR
    go_wp2_with fail
    refine (HR1.out _).mono ?_
    rintro e w1 ⟨rfl, qw1⟩
    have l1 := nlt lx qw1.size
    have l6 := nlt ly qw1.size
    have aA := nlt lm qw1.size
    obtain ⟨c2, c3, c4, c5, c7, c8, c9, a1, a2, a3, a4, a5⟩ := mv12 qw1.cell xc0 xc1 xc2 xc3 yc0 yc1 yc2 yc3 mc0 mc1 mc2 mc3
    have f16 := (qw1.frozen (a := ⟨w.heap.size + 1 + 1, 0, none⟩) lres).trans resf0
    have f17 := (qw1.frozen (a := ⟨w.heap.size + 1 + 1, 1, none⟩) lres).trans resf1
    have f18 := (qw1.frozen (a := ⟨w.heap.size + 1 + 1, 2, none⟩) lres).trans resf2
    have f19 := (qw1.frozen (a := ⟨w.heap.size + 1 + 1, 3, none⟩) lres).trans resf3
    have a0 := nlt lres qw1.size
    obtain ⟨a6, a7, a8, a9⟩ := mv4 qw1.cell resc0 resc1 resc2 resc3
    clear lx xc0 xc1 xc2 xc3 ly yc0 yc1 yc2 yc3 lm mc0 mc1 mc2 mc3 resf0 resf1 resf2 resf3 lres resc0 resc1 resc2 resc3
    have uw1 := uc.trans qw1
    clear qw1 uc
    go_wp2_with fail
    exact bodyPost_ret (v := .tuple #[.agg #[.int .i8 0, .int .i64 0, .int .i8 0, .int .i64 0], .bool false]) (by simp [results, Tryz.results134, go_sem, c2, c3, c4, c5, c7, c8, c9, a1, a2, a3, a4, a5, a6, a7, a8, a9, f16, f17, f18, f19] <;> omega) rfl ⟨rfl, ((((uw1.setCell (by simp <;> omega) _).setCell (by simp <;> omega) _).setCell (by simp <;> omega) _).setCell (by simp <;> omega) _)⟩
  ·
    have HR1 := Lib.hid HR.out
    clear HR
    have HC := Lib.hid hC.out
    clear hC
    have t1 : (m != 0) = true := by simpa using h1
    clear h1
    go_wp2_with fail
    refine (HR1.out _).mono ?_
    rintro e w1 ⟨rfl, qw1⟩
    have l1 := nlt lx qw1.size
    have l6 := nlt ly qw1.size
    have aA := nlt lm qw1.size
    obtain ⟨c2, c3, c4, c5, c7, c8, c9, a1, a2, a3, a4, a5⟩ := mv12 qw1.cell xc0 xc1 xc2 xc3 yc0 yc1 yc2 yc3 mc0 mc1 mc2 mc3
    have f16 := (qw1.frozen (a := ⟨w.heap.size + 1 + 1, 0, none⟩) lres).trans resf0
    have f17 := (qw1.frozen (a := ⟨w.heap.size + 1 + 1, 1, none⟩) lres).trans resf1
    have f18 := (qw1.frozen (a := ⟨w.heap.size + 1 + 1, 2, none⟩) lres).trans resf2
    have f19 := (qw1.frozen (a := ⟨w.heap.size + 1 + 1, 3, none⟩) lres).trans resf3
    have a0 := nlt lres qw1.size
    obtain ⟨a6, a7, a8, a9⟩ := mv4 qw1.cell resc0 resc1 resc2 resc3
    clear lx xc0 xc1 xc2 xc3 ly yc0 yc1 yc2 yc3 lm mc0 mc1 mc2 mc3 resf0 resf1 resf2 resf3 lres resc0 resc1 resc2 resc3
    have uw1 := uc.trans qw1
    clear qw1 uc
    go_wp2_with fail
    refine (HC.out _).mono ?_
    rintro e w2 ⟨rfl, qw2⟩
    have aR := nlt l1 qw2.size
    have aS := nlt l6 qw2.size
    have aT := nlt aA qw2.size
    obtain ⟨aB, aC, aD, aE, aF, aG, aH, aI, aJ, aK, aL, aM⟩ := mv12 qw2.cell c2 c3 c4 c5 c7 c8 c9 a1 a2 a3 a4 a5
    have f40 := (qw2.frozen (a := ⟨w.heap.size + 1 + 1, 0, none⟩) a0).trans f16
    have f41 := (qw2.frozen (a := ⟨w.heap.size + 1 + 1, 1, none⟩) a0).trans f17
    have f42 := (qw2.frozen (a := ⟨w.heap.size + 1 + 1, 2, none⟩) a0).trans f18
    have f43 := (qw2.frozen (a := ⟨w.heap.size + 1 + 1, 3, none⟩) a0).trans f19
    have aU := nlt a0 qw2.size
    obtain ⟨aN, aO, aP, aQ⟩ := mv4 qw2.cell a6 a7 a8 a9
    clear l1 c2 c3 c4 c5 l6 c7 c8 c9 a1 aA a2 a3 a4 a5 f16 f17 f18 f19 a0 a6 a7 a8 a9
    have uw2 := uw1.trans qw2
    clear qw2 uw1
    go_wp2_with fail
    exact bodyPost_ret (v := .tuple #[.agg #[.int .i8 0, .int .i64 0, .int .i8 0, .int .i64 0], .bool false]) (by simp [results, Tryz.results134, go_sem, aB, aC, aD, aE, aF, aG, aH, aI, aJ, aK, aL, aM, aN, aO, aP, aQ, f40, f41, f42, f43] <;> omega) rfl ⟨rfl, ((((uw2.setCell (by simp <;> omega) _).setCell (by simp <;> omega) _).setCell (by simp <;> omega) _).setCell (by simp <;> omega) _)⟩
  ·
    have HR1 := Lib.hid HR.out
    clear HR
    have HC := Lib.hid hC.out
    clear hC
    go_wp2_with fail
    refine (HR1.out _).mono ?_
    rintro e w1 ⟨rfl, qw1⟩
    have l1 := nlt lx qw1.size
    have l6 := nlt ly qw1.size
    have aA := nlt lm qw1.size
    obtain ⟨c2, c3, c4, c5, c7, c8, c9, a1, a2, a3, a4, a5⟩ := mv12 qw1.cell xc0 xc1 xc2 xc3 yc0 yc1 yc2 yc3 mc0 mc1 mc2 mc3
    have f16 := (qw1.frozen (a := ⟨w.heap.size + 1 + 1, 0, none⟩) lres).trans resf0
    have f17 := (qw1.frozen (a := ⟨w.heap.size + 1 + 1, 1, none⟩) lres).trans resf1
    have f18 := (qw1.frozen (a := ⟨w.heap.size + 1 + 1, 2, none⟩) lres).trans resf2
    have f19 := (qw1.frozen (a := ⟨w.heap.size + 1 + 1, 3, none⟩) lres).trans resf3
    have a0 := nlt lres qw1.size
    obtain ⟨a6, a7, a8, a9⟩ := mv4 qw1.cell resc0 resc1 resc2 resc3
    clear lx xc0 xc1 xc2 xc3 ly yc0 yc1 yc2 yc3 lm mc0 mc1 mc2 mc3 resf0 resf1 resf2 resf3 lres resc0 resc1 resc2 resc3
    have uw1 := uc.trans qw1
    clear qw1 uc
    go_wp2_with fail
    refine (HC.out _).mono ?_
    rintro e w2 ⟨rfl, qw2⟩
    have aR := nlt l1 qw2.size
    have aS := nlt l6 qw2.size
    have aT := nlt aA qw2.size
    obtain ⟨aB, aC, aD, aE, aF, aG, aH, aI, aJ, aK, aL, aM⟩ := mv12 qw2.cell c2 c3 c4 c5 c7 c8 c9 a1 a2 a3 a4 a5
    have f40 := (qw2.frozen (a := ⟨w.heap.size + 1 + 1, 0, none⟩) a0).trans f16
    have f41 := (qw2.frozen (a := ⟨w.heap.size + 1 + 1, 1, none⟩) a0).trans f17
    have f42 := (qw2.frozen (a := ⟨w.heap.size + 1 + 1, 2, none⟩) a0).trans f18
    have f43 := (qw2.frozen (a := ⟨w.heap.size + 1 + 1, 3, none⟩) a0).trans f19
    have aU := nlt a0 qw2.size
    obtain ⟨aN, aO, aP, aQ⟩ := mv4 qw2.cell a6 a7 a8 a9
    clear l1 c2 c3 c4 c5 l6 c7 c8 c9 a1 aA a2 a3 a4 a5 f16 f17 f18 f19 a0 a6 a7 a8 a9
    have uw2 := uw1.trans qw2
    clear qw2 uw1
    go_wp2_with fail
    exact bodyPost_ret (v := .tuple #[.agg #[.int .i8 i1, .int .i64 d1, .int .i8 i2, .int .i64 d2], .bool true]) (by simp [results, Tryz.results134, go_sem, aB, aC, aD, aE, aF, aG, aH, aI, aJ, aK, aL, aM, aN, aO, aP, aQ, f40, f41, f42, f43] <;> omega) rfl ⟨rfl, ((((uw2.setCell (by simp <;> omega) _).setCell (by simp <;> omega) _).setCell (by simp <;> omega) _).setCell (by simp <;> omega) _)⟩
theorem rnCom_1 (a b c d e f g h i1 d1 i2 d2 : Int) (HM : Hid (∀ W, Calls Tryz.prog 152 #[.agg #[.int .i8 a, .int .i64 b], .agg #[.int .i8 e, .int .i64 f]] W fun r w' => r = .returned (.agg #[.int .i8 i1, .int .i64 d1]) ∧ Up W w')) (HX : Hid (∀ W, Calls Tryz.prog 151 #[.agg #[.int .i8 c, .int .i64 d], .agg #[.int .i8 g, .int .i64 h]] W fun r w' => r = .returned (.agg #[.int .i8 i2, .int .i64 d2]) ∧ Up W w')) (HR : Hid (∀ W, Calls Tryz.prog 80 #[.agg #[.int .i8 a, .int .i64 b, .int .i8 c, .int .i64 d], .agg #[.int .i8 e, .int .i64 f, .int .i8 g, .int .i64 h]] W fun r w' => r = .returned (.bool false) ∧ Dn W w')) (w : World) :
 Calls Tryz.prog 134 #[.agg #[.int .i8 a, .int .i64 b, .int .i8 c, .int .i64 d], .agg #[.int .i8 e, .int .i64 f, .int .i8 g, .int .i64 h]] w fun ro w' => ro = .returned (.tuple #[.agg #[.int .i8 0, .int .i64 0, .int .i8 0, .int .i64 0], .bool false]) ∧ Dn w w' := rnCom_all a b c d e f g h i1 d1 i2 d2 HM HX false 0 _ HR (Lib.hid (.inl ⟨rfl, rfl⟩)) w
theorem rnCom_2 (a b c d e f g h i1 d1 i2 d2 : Int) (HM : Hid (∀ W, Calls Tryz.prog 152 #[.agg #[.int .i8 a, .int .i64 b], .agg #[.int .i8 e, .int .i64 f]] W fun r w' => r = .returned (.agg #[.int .i8 i1, .int .i64 d1]) ∧ Up W w')) (HX : Hid (∀ W, Calls Tryz.prog 151 #[.agg #[.int .i8 c, .int .i64 d], .agg #[.int .i8 g, .int .i64 h]] W fun r w' => r = .returned (.agg #[.int .i8 i2, .int .i64 d2]) ∧ Up W w')) (HR : Hid (∀ W, Calls Tryz.prog 80 #[.agg #[.int .i8 a, .int .i64 b, .int .i8 c, .int .i64 d], .agg #[.int .i8 e, .int .i64 f, .int .i8 g, .int .i64 h]] W fun r w' => r = .returned (.bool true) ∧ Dn W w')) (m : Int) (HC : Hid (ChkIs i1 d1 i2 d2 m)) (h1 : m ≠ 0) (w : World) :
 Calls Tryz.prog 134 #[.agg #[.int .i8 a, .int .i64 b, .int .i8 c, .int .i64 d], .agg #[.int .i8 e, .int .i64 f, .int .i8 g, .int .i64 h]] w fun ro w' => ro = .returned (.tuple #[.agg #[.int .i8 0, .int .i64 0, .int .i8 0, .int .i64 0], .bool false]) ∧ Dn w w' := rnCom_all a b c d e f g h i1 d1 i2 d2 HM HX true m _ HR (Lib.hid (.inr (.inl ⟨rfl, h1, HC, rfl⟩))) w
theorem rnCom_3 (a b c d e f g h i1 d1 i2 d2 : Int) (HM : Hid (∀ W, Calls Tryz.prog 152 #[.agg #[.int .i8 a, .int .i64 b], .agg #[.int .i8 e, .int .i64 f]] W fun r w' => r = .returned (.agg #[.int .i8 i1, .int .i64 d1]) ∧ Up W w')) (HX : Hid (∀ W, Calls Tryz.prog 151 #[.agg #[.int .i8 c, .int .i64 d], .agg #[.int .i8 g, .int .i64 h]] W fun r w' => r = .returned (.agg #[.int .i8 i2, .int .i64 d2]) ∧ Up W w')) (HR : Hid (∀ W, Calls Tryz.prog 80 #[.agg #[.int .i8 a, .int .i64 b, .int .i8 c, .int .i64 d], .agg #[.int .i8 e, .int .i64 f, .int .i8 g, .int .i64 h]] W fun r w' => r = .returned (.bool true) ∧ Dn W w')) (HC : Hid (ChkIs i1 d1 i2 d2 0)) (w : World) :
 Calls Tryz.prog 134 #[.agg #[.int .i8 a, .int .i64 b, .int .i8 c, .int .i64 d], .agg #[.int .i8 e, .int .i64 f, .int .i8 g, .int .i64 h]] w fun ro w' => ro = .returned (.tuple #[.agg #[.int .i8 i1, .int .i64 d1, .int .i8 i2, .int .i64 d2], .bool true]) ∧ Dn w w' := rnCom_all a b c d e f g h i1 d1 i2 d2 HM HX true 0 _ HR (Lib.hid (.inr (.inr ⟨rfl, HC, rfl⟩))) w
theorem lt_of_cell {w : World} {b j : Nat} {v : Value} (h : w.cell? ⟨b, j, none⟩ = some v) : b < w.heap.size := by
 rcases Nat.lt_or_ge b w.heap.size with hb | hb
 · exact hb
 · simp [World.cell?, Array.getElem?_eq_none hb] at h
set_option maxHeartbeats 2000000
set_option maxRecDepth 100000
open Go.RowKit Go.ChangeMaps Go.MapKept
def kM : Value := .agg #[.int .i8 (-1), .int .i64 0]
def kP : Value := .agg #[.int .i8 1, .int .i64 0]
def sM : ByteArray := ⟨#[45, 105, 110, 102]⟩
def sP : ByteArray := ⟨#[105, 110, 102]⟩
theorem ckE (em : Bool) (i d : Int) (w : World) : (Instr.checkKey em 10000 28 (.agg #[.int .i8 i, .int .i64 d])).run Tryz.prog w = .ok () w := by kernel_rfl
theorem fk0 (x : Value) (w : World) : (Instr.findKey 28 x []).run Tryz.prog w = .ok none w := by kernel_rfl
theorem fkPM (n : Nat) (w : World) : (Instr.findKey 28 kP [⟨kM, .string sM, n⟩]).run Tryz.prog w = .ok none w := by kernel_rfl
theorem fkMP (n : Nat) (w : World) : (Instr.findKey 28 kM [⟨kP, .string sP, n⟩]).run Tryz.prog w = .ok none w := by kernel_rfl
theorem insE (w : World) (b : Nat) (es : Array MapEntry) (c : Nat) (i d : Int) (val : Value) (hb : w.heap[b]? = some (.map es c)) (hf : (Instr.findKey 28 (.agg #[.int .i8 i, .int .i64 d]) es.toList).run Tryz.prog w = .ok none w) :
  (Instr.mapUpdate 211 (.map (some b)) (.agg #[.int .i8 i, .int .i64 d]) val).run Tryz.prog w = .ok () (setBlock w b (.map (es.push ⟨.agg #[.int .i8 i, .int .i64 d], val, c⟩) (c + 1))) := by
 simp [Instr.mapUpdate, run_underlying Tryz.underlying211, MapKept.run_getObj_map hb, ckE, hf, MapKept.run_setObj_map _ hb, Result.andThen, setBlock]
theorem setBlock_new (w : World) (o o' : Obj) : setBlock (w.alloc o) w.heap.size o' = w.alloc o' := by
 have e : (w.heap.push o).setIfInBounds w.heap.size o' = w.heap.push o' := by
  apply Array.ext'
  simp
 show World.mk ((w.heap.push o).setIfInBounds w.heap.size o') w.tape w.drawn w.os w.output = World.mk (w.heap.push o') w.tape w.drawn w.os w.output
 rw [e]
theorem runM0 (w : World) : (Instr.mapUpdate 211 (.map (some w.heap.size)) (.agg #[.int .i8 (-1), .int .i64 0]) (.string ⟨#[45, 105, 110, 102]⟩)).run Tryz.prog (w.alloc (.map #[] 0)) = .ok () (w.alloc (.map #[⟨kM, .string sM, 0⟩] 1)) := by
 rw [insE (w.alloc (.map #[] 0)) w.heap.size #[] 0 _ _ _ (MapKept.heap_alloc w _).1 (fk0 _ _), setBlock_new]; rfl
theorem runP0 (w : World) : (Instr.mapUpdate 211 (.map (some w.heap.size)) (.agg #[.int .i8 1, .int .i64 0]) (.string ⟨#[105, 110, 102]⟩)).run Tryz.prog (w.alloc (.map #[] 0)) = .ok () (w.alloc (.map #[⟨kP, .string sP, 0⟩] 1)) := by
 rw [insE (w.alloc (.map #[] 0)) w.heap.size #[] 0 _ _ _ (MapKept.heap_alloc w _).1 (fk0 _ _), setBlock_new]; rfl
theorem runPM (w : World) : (Instr.mapUpdate 211 (.map (some w.heap.size)) (.agg #[.int .i8 1, .int .i64 0]) (.string ⟨#[105, 110, 102]⟩)).run Tryz.prog (w.alloc (.map #[⟨kM, .string sM, 0⟩] 1)) = .ok () (w.alloc (.map #[⟨kM, .string sM, 0⟩, ⟨kP, .string sP, 1⟩] 2)) := by
 rw [insE (w.alloc (.map #[⟨kM, .string sM, 0⟩] 1)) w.heap.size #[⟨kM, .string sM, 0⟩] 1 _ _ _ (MapKept.heap_alloc w _).1 (fkPM _ _), setBlock_new]; rfl
theorem runMP (w : World) : (Instr.mapUpdate 211 (.map (some w.heap.size)) (.agg #[.int .i8 (-1), .int .i64 0]) (.string ⟨#[45, 105, 110, 102]⟩)).run Tryz.prog (w.alloc (.map #[⟨kP, .string sP, 0⟩] 1)) = .ok () (w.alloc (.map #[⟨kP, .string sP, 0⟩, ⟨kM, .string sM, 1⟩] 2)) := by
 rw [insE (w.alloc (.map #[⟨kP, .string sP, 0⟩] 1)) w.heap.size #[⟨kP, .string sP, 0⟩] 1 _ _ _ (MapKept.heap_alloc w _).1 (fkMP _ _), setBlock_new]; rfl
def eA : Array MapEntry := #[⟨kM, .string sM, 0⟩, ⟨kP, .string sP, 1⟩]
def eB : Array MapEntry := #[⟨kP, .string sP, 0⟩, ⟨kM, .string sM, 1⟩]
def InfM (w : World) (b : Nat) : Prop := ∃ es, (es = eA ∨ es = eB) ∧ w.heap[b]? = some (.map es 2)
theorem InfM.dn {w w' : World} {b : Nat} (h : InfM w b) (k : Dn w w') : InfM w' b := by
 obtain ⟨es, he, hb⟩ := h
 refine ⟨es, he, ?_⟩
 rw [k.below.block b (Array.getElem?_eq_some_iff.1 hb).1]; exact hb
theorem eInf (w : World) : Calls Tryz.prog 169 #[] w fun e w' => e = .returned (.map (some w.heap.size)) ∧ Up w w' ∧ InfM w' w.heap.size := by
 have r1 : (Instr.mapUpdate 211 (.map (some w.heap.size)) (.agg #[.int .i8 (-1), .int .i64 0]) (.string ⟨#[45, 105, 110, 102]⟩)).run Tryz.prog (w.alloc (.map #[] 0)).drew = .ok () (w.alloc (.map #[⟨kM, .string sM, 0⟩] 1)).drew := runM0 w.drew
 have r2 : (Instr.mapUpdate 211 (.map (some w.heap.size)) (.agg #[.int .i8 1, .int .i64 0]) (.string ⟨#[105, 110, 102]⟩)).run Tryz.prog (w.alloc (.map #[] 0)).drew = .ok () (w.alloc (.map #[⟨kP, .string sP, 0⟩] 1)).drew := runP0 w.drew
 have r3 : (Instr.mapUpdate 211 (.map (some w.heap.size)) (.agg #[.int .i8 1, .int .i64 0]) (.string ⟨#[105, 110, 102]⟩)).run Tryz.prog (w.alloc (.map #[⟨kM, .string sM, 0⟩] 1)).drew = .ok () (w.alloc (.map #[⟨kM, .string sM, 0⟩, ⟨kP, .string sP, 1⟩] 2)).drew := runPM w.drew
 have r4 : (Instr.mapUpdate 211 (.map (some w.heap.size)) (.agg #[.int .i8 (-1), .int .i64 0]) (.string ⟨#[45, 105, 110, 102]⟩)).run Tryz.prog (w.alloc (.map #[⟨kP, .string sP, 0⟩] 1)).drew = .ok () (w.alloc (.map #[⟨kP, .string sP, 0⟩, ⟨kM, .string sM, 1⟩] 2)).drew := runMP w.drew
 have hmm := @run_makeMap Tryz.prog
 go_enter Tryz.func169, Tryz.ntmps169
 go_wp2_with fail
 go_region
 · clear r1 r2 r3 r4
   go_wp2_with fail
   go_ret
   exact ⟨rfl, ((Up.refl _).alloc _).drew, eA, Or.inl rfl, (MapKept.heap_alloc w _).1⟩
 · clear r1 r2 r3 r4
   go_wp2_with fail
   go_ret
   exact ⟨rfl, ((Up.refl _).alloc _).drew, eB, Or.inr rfl, (MapKept.heap_alloc w _).1⟩
def eStr (i d : Int) : ByteArray := if i = 0 then ⟨(Lib.itoa d).toArray⟩ else if i < 0 then sM else sP
theorem fAM (w : World) : (Instr.findKey 28 kM eA.toList).run Tryz.prog w = .ok (some (0, .string sM)) w := by kernel_rfl
theorem fAP (w : World) : (Instr.findKey 28 kP eA.toList).run Tryz.prog w = .ok (some (1, .string sP)) w := by kernel_rfl
theorem fBM (w : World) : (Instr.findKey 28 kM eB.toList).run Tryz.prog w = .ok (some (1, .string sM)) w := by kernel_rfl
theorem fBP (w : World) : (Instr.findKey 28 kP eB.toList).run Tryz.prog w = .ok (some (0, .string sP)) w := by kernel_rfl
theorem fAd (d : Int) (w : World) : (Instr.findKey 28 (.agg #[.int .i8 0, .int .i64 d]) eA.toList).run Tryz.prog w = .ok none w := by kernel_rfl
theorem fBd (d : Int) (w : World) : (Instr.findKey 28 (.agg #[.int .i8 0, .int .i64 d]) eB.toList).run Tryz.prog w = .ok none w := by kernel_rfl
theorem lkS (w : World) (b : Nat) (es : Array MapEntry) (c : Nat) (i d : Int) (j : Nat) (s : ByteArray) (hb : w.heap[b]? = some (.map es c)) (hf : (Instr.findKey 28 (.agg #[.int .i8 i, .int .i64 d]) es.toList).run Tryz.prog w = .ok (some (j, .string s)) w) :
  (Instr.lookup 211 (.map (some b)) (.agg #[.int .i8 i, .int .i64 d]) true).run Tryz.prog w = .ok (.tuple #[.string s, .bool true]) w := by
 simp [Instr.lookup, run_underlying Tryz.underlying211, MapKept.run_getObj_map hb, ckE, hf, Result.andThen]
theorem lkN (w : World) (b : Nat) (es : Array MapEntry) (c : Nat) (i d : Int) (hb : w.heap[b]? = some (.map es c)) (hf : (Instr.findKey 28 (.agg #[.int .i8 i, .int .i64 d]) es.toList).run Tryz.prog w = .ok none w) :
  (Instr.lookup 211 (.map (some b)) (.agg #[.int .i8 i, .int .i64 d]) true).run Tryz.prog w = .ok (.tuple #[.string ⟨#[]⟩, .bool false]) w := by
 simp [Instr.lookup, run_underlying Tryz.underlying211, MapKept.run_getObj_map hb, ckE, hf, Result.andThen]
theorem lk_day (w : World) (b : Nat) (d : Int) (h : InfM w b) : (Instr.lookup 211 (.map (some b)) (.agg #[.int .i8 0, .int .i64 d]) true).run Tryz.prog w = .ok (.tuple #[.string ⟨#[]⟩, .bool false]) w := by
 obtain ⟨es, rfl | rfl, hb⟩ := h
 · exact lkN w b _ _ _ _ hb (fAd d w)
 · exact lkN w b _ _ _ _ hb (fBd d w)
theorem lk_inf (w : World) (b : Nat) (i : Int) (hi : i = 1 ∨ i = -1) (h : InfM w b) : (Instr.lookup 211 (.map (some b)) (.agg #[.int .i8 i, .int .i64 0]) true).run Tryz.prog w = .ok (.tuple #[.string (eStr i 0), .bool true]) w := by
 obtain ⟨es, rfl | rfl, hb⟩ := h <;> rcases hi with rfl | rfl
 · exact lkS w b _ _ _ _ _ _ hb (fAP w)
 · exact lkS w b _ _ _ _ _ _ hb (fAM w)
 · exact lkS w b _ _ _ _ _ _ hb (fBP w)
 · exact lkS w b _ _ _ _ _ _ hb (fBM w)
theorem kE1 {W w1 w2 : World} {a0 a1 : Addr} {v0 v1 : Value} (k : Up w1 w2) (h : Up W w1 ∧ w1.cell? a0 = some v0 ∧ w1.cell? a1 = some v1) : Up W w2 ∧ w2.cell? a0 = some v0 ∧ w2.cell? a1 = some v1 := by
 obtain ⟨h1, c0, c1⟩ := h
 exact ⟨h1.trans k, k.cell c0, k.cell c1⟩
theorem eText_day (d : Int) (w : World) (hd : I64 d) (hE : EnvI w) :
    Calls Tryz.prog 142 #[.agg #[.int .i8 0, .int .i64 d]] w fun e w' => e = .returned (.tuple #[.string ⟨(Lib.itoa d).toArray⟩, .int .i64 0]) ∧ Up w w' := by
  have b0 := CB.new w (.int .i8 0) (.int .i64 d) 28
  have u0 : Up w _ := (Up.refl w).alloc (.cells #[.int .i8 0, .int .i64 d] 28)
  have B0 := Lib.hid b0
  have U0 := Lib.hid u0
  clear b0 u0
  have HE := Lib.hid (fun W => eChk_ok 0 d W (Or.inl rfl))
  have HT := Lib.hid (fun W h => itext d W hd h)
  clear hd
  go_enter Tryz.func142, Tryz.ntmps142
  go_wp2_with fail
  refine (HE.out _).mono ?_
  rintro e w1 ⟨rfl, q1⟩
  obtain ⟨c0, c1, f0, f1, l0⟩ := B0.out.up q1
  have u1 := U0.out.trans q1
  clear q1 f0 f1
  have hS := kE1 (W := w1) (Up.refl w1) ⟨Up.refl _, c0, c1⟩
  clear c0 c1
  go_wp2_with fail
  go_region_held3 (fun w' => Up w1 w' ∧ w'.cell? ⟨w.heap.size, 0, none⟩ = some (.int .i8 0) ∧ w'.cell? ⟨w.heap.size, 1, none⟩ = some (.int .i64 d))
    (first | exact kE1 ((Up.refl _).drew) hS | exact kE1 ‹Up _ _› ‹_› | assumption)
    (first
      | (go_at_call 169; refine (eInf _).mono ?_; rintro e wa ⟨rfl, qa, hm⟩; have hl : (Instr.lookup 211 (.map (some w1.heap.size)) (.agg #[.int .i8 0, .int .i64 d]) true).run Tryz.prog wa = .ok (.tuple #[.string ⟨#[]⟩, .bool false]) wa := lk_day _ _ d hm))
  all_goals
    obtain ⟨k1, c0, c1⟩ := (‹Up w1 _ ∧ _› : _ ∧ _)
    clear hS
    go_wp2_with fail
    refine (HT.out _ ((hE.up u1).up k1)).mono ?_
    rintro e w3 ⟨rfl, q3⟩
    have u3 := (u1.trans k1).trans q3
    go_wp2_with fail
    go_ret2
    exact ⟨rfl, u3⟩
theorem eText_inf (i : Int) (w : World) (hi : i = 1 ∨ i = -1) :
    Calls Tryz.prog 142 #[.agg #[.int .i8 i, .int .i64 0]] w fun e w' => e = .returned (.tuple #[.string (eStr i 0), .int .i64 0]) ∧ Up w w' := by
  have b0 := CB.new w (.int .i8 i) (.int .i64 0) 28
  have u0 : Up w _ := (Up.refl w).alloc (.cells #[.int .i8 i, .int .i64 0] 28)
  have B0 := Lib.hid b0
  have U0 := Lib.hid u0
  clear b0 u0
  have HE := Lib.hid (fun W => eChk_ok i 0 W (Or.inr ⟨hi, rfl⟩))
  go_enter Tryz.func142, Tryz.ntmps142
  go_wp2_with fail
  refine (HE.out _).mono ?_
  rintro e w1 ⟨rfl, q1⟩
  obtain ⟨c0, c1, f0, f1, l0⟩ := B0.out.up q1
  have u1 := U0.out.trans q1
  clear q1 f0 f1
  have hS := kE1 (W := w1) (Up.refl w1) ⟨Up.refl _, c0, c1⟩
  clear c0 c1
  go_wp2_with fail
  go_region_held3 (fun w' => Up w1 w' ∧ w'.cell? ⟨w.heap.size, 0, none⟩ = some (.int .i8 i) ∧ w'.cell? ⟨w.heap.size, 1, none⟩ = some (.int .i64 0))
    (first | exact kE1 ((Up.refl _).drew) hS | exact kE1 ‹Up _ _› ‹_› | assumption)
    (first
      | (go_at_call 169; refine (eInf _).mono ?_; rintro e wa ⟨rfl, qa, hm⟩; have hl : (Instr.lookup 211 (.map (some w1.heap.size)) (.agg #[.int .i8 i, .int .i64 0]) true).run Tryz.prog wa = .ok (.tuple #[.string (eStr i 0), .bool true]) wa := lk_inf _ _ i hi hm))
  all_goals
    obtain ⟨k1, c0, c1⟩ := (‹Up w1 _ ∧ _› : _ ∧ _)
    clear hS
    go_wp2_with fail
    go_ret2
    exact ⟨rfl, u1.trans k1⟩
theorem eStr_day (d : Int) : eStr 0 d = ⟨(Lib.itoa d).toArray⟩ := by unfold eStr; rw [if_pos rfl]
theorem eText_ok (i d : Int) (w : World) (h : eOk i d) (hd : I64 d) (hE : EnvI w) :
   Calls Tryz.prog 142 #[.agg #[.int .i8 i, .int .i64 d]] w fun e w' => e = .returned (.tuple #[.string (eStr i d), .int .i64 0]) ∧ Up w w' := by
 rcases h with rfl | ⟨hi, rfl⟩
 · rw [eStr_day]; exact eText_day d w hd hE
 · exact eText_inf i w hi
theorem Len.i64 {x : Int} (h : I64 x) : Len x := Len.of (by have := h.1; have := h.2; omega)
open Go.RowKit Go.ChangeMaps Go.MapKept
theorem CB.kept {w w' : World} {B : Nat} {u v : Value} {row : Option Nat} (h : CB w B u v) (hg : w.grownBy w' row) (hne : row ≠ some B) : CB w' B u v :=
 ⟨by rw [hg.cell_far _ h.lt (Ne.symm hne)]; exact h.c0, by rw [hg.cell_far _ h.lt (Ne.symm hne)]; exact h.c1, by rw [hg.frozen_far _ h.lt (Ne.symm hne)]; exact h.f0, by rw [hg.frozen_far _ h.lt (Ne.symm hne)]; exact h.f1, Nat.lt_of_lt_of_le h.lt hg.size⟩
theorem CB.set {w : World} {B : Nat} {u v : Value} (h : CB w B u v) (u' v' : Value) : CB ((w.setCell ⟨B, 0, none⟩ u').setCell ⟨B, 1, none⟩ v') B u' v' := by
 refine ⟨?_, ?_, by simp [h.f0], by simp [h.f1], by simpa using h.lt⟩
 · rw [World.cell?_setCell_other _ _ _ _ (by simp)]
   exact World.cell?_setCell_same _ _ _ h.c0
 · refine World.cell?_setCell_same _ _ _ (u := v) ?_
   rw [World.cell?_setCell_other _ _ _ _ (by simp)]; exact h.c1
structure EnvR (w : World) : Prop where
 i : EnvI w
 m : ∃ m, w.cell? ⟨5, 0, none⟩ = some (.int .i64 m)
theorem EnvR.dn {w w' : World} (h : EnvR w) (k : Dn w w') : EnvR w' := ⟨h.i.dn k, h.m.elim fun m hm => ⟨m, k.cell hm⟩⟩
def F9 (a b c d : Int) (is : Bool) (e f g h : Int) (there : Bool) : Prop := (there = true ∧ is = true ∧ a = e ∧ b = f ∧ c = g ∧ d = h) ∨ (there = false ∧ is = false ∧ a = 0 ∧ b = 0 ∧ c = 0 ∧ d = 0)
def G9 (a b c d r e f g h bad : Int) : Prop := (bad = 0 ∧ r = 0 ∧ a = e ∧ b = f ∧ c = g ∧ d = h) ∨ (bad ≠ 0 ∧ r = bad ∧ a = 0 ∧ b = 0 ∧ c = 0 ∧ d = 0)
instance decF9 (a b c d : Int) (is : Bool) (e f g h : Int) (there : Bool) : Decidable (F9 a b c d is e f g h there) := by unfold F9; infer_instance
instance decG9 (a b c d r e f g h bad : Int) : Decidable (G9 a b c d r e f g h bad) := by unfold G9; infer_instance
theorem eMin_is (i d j f : Int) (w : World) : Calls Tryz.prog 151 #[.agg #[.int .i8 i, .int .i64 d], .agg #[.int .i8 j, .int .i64 f]] w fun e w' => e = .returned (.agg #[.int .i8 (mnI i d j f), .int .i64 (mnD i d j f)]) ∧ Up w w' := by
 unfold mnI mnD
 by_cases h : eC j f i d < 0
 · rw [if_pos h, if_pos h]; exact eMin_2 i d j f w h
 · rw [if_neg h, if_neg h]; exact eMin_1 i d j f w h
theorem eMax_is (i d j f : Int) (w : World) : Calls Tryz.prog 152 #[.agg #[.int .i8 i, .int .i64 d], .agg #[.int .i8 j, .int .i64 f]] w fun e w' => e = .returned (.agg #[.int .i8 (mxI i d j f), .int .i64 (mxD i d j f)]) ∧ Up w w' := by
 unfold mxI mxD
 by_cases h : 0 < eC j f i d
 · rw [if_pos h, if_pos h]; exact eMax_2 i d j f w h
 · rw [if_neg h, if_neg h]; exact eMax_1 i d j f w h
def JnR (a b c d e f g h i1 d1 i2 d2 : Int) (is : Bool) : Prop :=
 (Tch a b c d e f g h ∧ is = true ∧ i1 = mnI a b e f ∧ d1 = mnD a b e f ∧ i2 = mxI c d g h ∧ d2 = mxD c d g h) ∨ (¬ Tch a b c d e f g h ∧ is = false ∧ i1 = 0 ∧ d1 = 0 ∧ i2 = 0 ∧ d2 = 0)
def CmR (a b c d e f g h i1 d1 i2 d2 : Int) (is : Bool) : Prop :=
 (Meet a b c d e f g h ∧ is = true ∧ i1 = mxI a b e f ∧ d1 = mxD a b e f ∧ i2 = mnI c d g h ∧ d2 = mnD c d g h) ∨ (¬ Meet a b c d e f g h ∧ is = false ∧ i1 = 0 ∧ d1 = 0 ∧ i2 = 0 ∧ d2 = 0)
theorem jnR_ex (a b c d e f g h : Int) : ∃ i1 d1 i2 d2 is, JnR a b c d e f g h i1 d1 i2 d2 is := by
 by_cases k : Tch a b c d e f g h
 · exact ⟨_, _, _, _, _, Or.inl ⟨k, rfl, rfl, rfl, rfl, rfl⟩⟩
 · exact ⟨_, _, _, _, _, Or.inr ⟨k, rfl, rfl, rfl, rfl, rfl⟩⟩
instance decJnR (a b c d e f g h i1 d1 i2 d2 : Int) (is : Bool) : Decidable (JnR a b c d e f g h i1 d1 i2 d2 is) := by unfold JnR; infer_instance
instance decCmR (a b c d e f g h i1 d1 i2 d2 : Int) (is : Bool) : Decidable (CmR a b c d e f g h i1 d1 i2 d2 is) := by unfold CmR; infer_instance
theorem rnJoin (a b c d e f g h i1 d1 i2 d2 : Int) (is : Bool) (w : World) (hb : I64 b) (hd : I64 d) (hf : I64 f) (hh : I64 h) (k : JnR a b c d e f g h i1 d1 i2 d2 is) :
   Calls Tryz.prog 117 #[.agg #[.int .i8 a, .int .i64 b, .int .i8 c, .int .i64 d], .agg #[.int .i8 e, .int .i64 f, .int .i8 g, .int .i64 h]] w fun ro w' => ro = .returned (.tuple #[.agg #[.int .i8 i1, .int .i64 d1, .int .i8 i2, .int .i64 d2], .bool is]) ∧ Dn w w' := by
 have HT := Lib.hid (fun W => rnTouch a b c d e f g h W hb hd hf hh)
 rcases k with ⟨k, rfl, rfl, rfl, rfl, rfl⟩ | ⟨k, rfl, rfl, rfl, rfl, rfl⟩
 · rw [decide_eq_true k] at HT
   exact rnJoin_yes a b c d e f g h _ _ _ _ HT (Lib.hid fun W => eMin_is a b e f W) (Lib.hid fun W => eMax_is c d g h W) w
 · rw [decide_eq_false k] at HT
   exact rnJoin_no a b c d e f g h HT w
theorem rnCommon (a b c d e f g h i1 d1 i2 d2 : Int) (is : Bool) (w : World) (hb : I64 b) (hd : I64 d) (hf : I64 f) (hh : I64 h) (k : CmR a b c d e f g h i1 d1 i2 d2 is) :
   Calls Tryz.prog 134 #[.agg #[.int .i8 a, .int .i64 b, .int .i8 c, .int .i64 d], .agg #[.int .i8 e, .int .i64 f, .int .i8 g, .int .i64 h]] w fun ro w' => ro = .returned (.tuple #[.agg #[.int .i8 i1, .int .i64 d1, .int .i8 i2, .int .i64 d2], .bool is]) ∧ Dn w w' := by
 have HR := Lib.hid (fun W => rnRight a b c d e f g h W hb hd hf hh)
 have HM := Lib.hid (fun W => eMax_is a b e f W)
 have HX := Lib.hid (fun W => eMin_is c d g h W)
 by_cases h0 : RnOk a b c d ∧ RnOk e f g h
 · rw [decide_eq_true h0] at HR
   have hok := common_ok hb hd hf hh h0.1 h0.2
   have herr := rnErr_ok (a := mxI a b e f) (b := mxD a b e f) (c := mnI c d g h) (d := mnD c d g h) (mx_i64 hb hf) (mn_i64 hd hh)
   have HC : Hid (ChkIs (mxI a b e f) (mxD a b e f) (mnI c d g h) (mnD c d g h) (rnErr (mxI a b e f) (mxD a b e f) (mnI c d g h) (mnD c d g h))) := Lib.hid (rnChk _ _ _ _)
   rcases k with ⟨k, rfl, rfl, rfl, rfl, rfl⟩ | ⟨k, rfl, rfl, rfl, rfl, rfl⟩
   · rw [herr.2 (hok.2 k)] at HC
     exact rnCom_3 a b c d e f g h _ _ _ _ HM HX HR HC w
   · exact rnCom_2 a b c d e f g h _ _ _ _ HM HX HR _ HC (fun hc => k (hok.1 (herr.1 hc))) w
 · rw [decide_eq_false h0] at HR
   rcases k with ⟨k, rfl, rfl, rfl, rfl, rfl⟩ | ⟨k, rfl, rfl, rfl, rfl, rfl⟩
   · exact absurd ⟨k.1, k.2.1⟩ h0
   · exact rnCom_1 a b c d e f g h _ _ _ _ HM HX HR w
abbrev Rn := Int × Int × Int × Int
def rc (r : Rn) : List Value := [.int .i8 r.1, .int .i64 r.2.1, .int .i8 r.2.2.1, .int .i64 r.2.2.2]
theorem infoRun : (Tryz.prog.info? 30).map (fun i => (i.zero, i.size, i.bytes)) = some (some (.agg #[.int .i8 0, .int .i64 0, .int .i8 0, .int .i64 0]), 4, 32) := by kernel_rfl
structure OwnR (w : World) (base : Nat) (v : Value) (rs : List Rn) : Prop where
 own : w.ownsRow base 30 4 v rs.length (rs.flatMap rc)
 ok : ∀ r ∈ rs, I64 r.2.1 ∧ I64 r.2.2.2
theorem OwnR.nil (w : World) (base : Nat) : OwnR w base (.slice none 0 0) [] := ⟨World.ownsRow_nil _ _ _ _, fun _ h => by cases h⟩
theorem OwnR.kept {w w' : World} {base : Nat} {v : Value} {rs : List Rn} {row : Option Nat} (h : OwnR w base v rs) (hg : w.grownBy w' row) (hr : ∀ k, row = some k → k < base) : OwnR w' base v rs :=
 ⟨h.own.kept hg (by
  cases hv : v.ownBlock with
  | none => exact Or.inl rfl
  | some g =>
    right
    intro e
    have := (h.own.lt g hv).1
    have := hr g e.symm
    omega), h.ok⟩
theorem OwnR.dn {w w' : World} {base : Nat} {v : Value} {rs : List Rn} (h : OwnR w base v rs) (k : Dn w w') : OwnR w' base v rs := h.kept (grown_dn k none) (fun _ e => by cases e)
theorem OwnR.row {w : World} {base : Nat} {v : Value} {rs : List Rn} (h : OwnR w base v rs) : ∀ k, v.ownBlock = some k → base ≤ k := fun k hk => (h.own.lt k hk).1
theorem rc_get : ∀ (rs : List Rn) (i j : Nat) (r : Rn), rs[i]? = some r → j < 4 → (rs.flatMap rc)[i * 4 + j]? = (rc r)[j]?
 | [], i, j, r, h, _ => by simp at h
 | x :: rs, 0, j, r, h, hj => by
   simp at h
   subst h
   simp only [List.flatMap_cons]
   rw [List.getElem?_append_left (by simp [rc]; omega)]
   simp
 | x :: rs, i + 1, j, r, h, hj => by
   have := rc_get rs i j r (by simpa using h) hj
   simp only [List.flatMap_cons]
   rw [List.getElem?_append_right (by simp [rc]; omega)]
   have e : (i + 1) * 4 + j - (rc x).length = i * 4 + j := by simp [rc]; omega
   rw [e]; exact this
theorem OwnR.form {w : World} {base : Nat} {v : Value} {rs : List Rn} (h : OwnR w base v rs) (hn : rs ≠ []) : ∃ g cap, v = .slice (some ⟨g, 0, none⟩) rs.length cap ∧ base ≤ g ∧ rs.length ≤ cap ∧
   ∀ (i : Nat) (r : Rn), rs[i]? = some r → ∀ j u, (rc r)[j]? = some u → w.cell? ⟨g, i * 4 + j, none⟩ = some u := by
 rcases h.own.2 with ⟨rfl, h0⟩ | ⟨g, cap, cur, rfl, hb, hg, h1, h2, h3, h4⟩
 · exact absurd (List.length_eq_zero_iff.1 h0) hn
 · refine ⟨g, cap, rfl, hb, h1, fun i r hi j u hu => ?_⟩
   have hj : j < 4 := by
    rcases Nat.lt_or_ge j 4 with h | h
    · exact h
    · rw [List.getElem?_eq_none (by simp [rc]; omega)] at hu; cases hu
   have := h.own.cells (g := g) rfl (i * 4 + j) u (by rw [rc_get rs i j r hi hj]; exact hu)
   have hadd : (⟨g, 0, none⟩ : Addr).add (i * 4 + j) = ⟨g, i * 4 + j, none⟩ := by unfold Addr.add; split <;> simp_all
   rwa [hadd] at this
end Go.Proofs.YteodjglbpfmikaaGreatDoor
