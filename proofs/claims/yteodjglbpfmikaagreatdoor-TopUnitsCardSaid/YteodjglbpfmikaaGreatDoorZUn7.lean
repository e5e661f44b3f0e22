/- Walks and laws that the claim's theorem leans on: part 7. -/
import Derived.Test.YteodjglbpfmikaaGreatDoorZUn1
import Derived.Test.YteodjglbpfmikaaGreatDoorZUn6
import Derived.Laws.AppendOwnNone
import Derived.Laws.OwnMore
namespace Go.Proofs.YteodjglbpfmikaaGreatDoor
set_option maxHeartbeats 4000000
set_option maxRecDepth 100000
open Go.RowKit
set_option linter.unusedVariables false
set_option linter.unusedSimpArgs false
theorem kdSB_4 {W w1 w2 : World} {a0 a1 a2 a3 : Addr} {v0 v1 v2 v3 : Value} (k : Dn w1 w2) (h : Dn W w1 ∧ w1.cell? a0 = some v0 ∧ w1.cell? a1 = some v1 ∧ w1.cell? a2 = some v2 ∧ w1.cell? a3 = some v3) :
  Dn W w2 ∧ w2.cell? a0 = some v0 ∧ w2.cell? a1 = some v1 ∧ w2.cell? a2 = some v2 ∧ w2.cell? a3 = some v3 := by
 obtain ⟨h1, c0, c1, c2, c3⟩ := h
 exact ⟨h1.trans k, k.cell c0, k.cell c1, k.cell c2, k.cell c3⟩
theorem kdSB_8 {W w1 w2 : World} {a0 a1 a2 a3 a4 a5 a6 a7 : Addr} {v0 v1 v2 v3 v4 v5 v6 v7 : Value} (k : Dn w1 w2) (h : Dn W w1 ∧ w1.cell? a0 = some v0 ∧ w1.cell? a1 = some v1 ∧ w1.cell? a2 = some v2 ∧ w1.cell? a3 = some v3 ∧ w1.cell? a4 = some v4 ∧ w1.cell? a5 = some v5 ∧ w1.cell? a6 = some v6 ∧ w1.cell? a7 = some v7) :
  Dn W w2 ∧ w2.cell? a0 = some v0 ∧ w2.cell? a1 = some v1 ∧ w2.cell? a2 = some v2 ∧ w2.cell? a3 = some v3 ∧ w2.cell? a4 = some v4 ∧ w2.cell? a5 = some v5 ∧ w2.cell? a6 = some v6 ∧ w2.cell? a7 = some v7 := by
 obtain ⟨h1, c0, c1, c2, c3, c4, c5, c6, c7⟩ := h
 exact ⟨h1.trans k, k.cell c0, k.cell c1, k.cell c2, k.cell c3, k.cell c4, k.cell c5, k.cell c6, k.cell c7⟩
theorem rsCheck (p : Option Addr) (cap : Nat) (L : List Rq) (w : World) (hl : L.length ≤ 1000000) (hI : I6 L) (hR : Row w p L) :
    Calls Tryz.prog 96 #[.slice p L.length cap] w fun ro w' => ro = .returned (.int .i64 (chkL L)) ∧ Dn w w' := by
  have HI := Lib.hid hI
  clear hI
  by_cases h4 : 4096 < L.length
  · have d0 : decide ((L.length : Int) > 4096) = true := by simp; omega
    have e0 : chkL L = 3 := by unfold chkL; rw [if_pos h4]
    rw [e0]
    go_enter Tryz.func96, Tryz.ntmps96
    go_wp2_with fail
    go_ret
    exact ⟨rfl, Dn.refl _⟩
  have d0 : decide ((L.length : Int) > 4096) = false := by simp; omega
  have e0 : chkL L = chkFrom (prv L 0) (L.drop 0) := by unfold chkL; rw [if_neg h4]; rfl
  rw [e0]
  have HE := Lib.hid e0
  clear e0
  go_enter Tryz.func96, Tryz.ntmps96
  go_wp2_with fail
  go_loopw [2, 11] (fun rv i wr => rv = .int .i64 0 ∧ ∃ k : Nat, k ≤ L.length ∧ i = .int .i64 k ∧ chkFrom (prv L 0) (L.drop 0) = chkFrom (prv L k) (L.drop k) ∧ OkTo L k ∧ Row wr p L ∧ Dn w wr) (fun _ i _ => L.length - (intOf i).toNat)
  case atStart => exact ⟨rfl, 0, by omega, rfl, rfl, OkTo.zero _, hR, Dn.refl _⟩
  case round =>
    obtain ⟨rfl, k, hk, rfl, he, hok, hr, hu⟩ := hrel
    have HOK := Lib.hid hok
    clear hok
    have HF := Lib.hid he
    clear he
    by_cases hlt : k < L.length
    · have d1 : decide ((k : Int) < L.length) = true := by simp; omega
      obtain ⟨x, hx⟩ : ∃ x, L[k]? = some x := ⟨L[k], by simp [hlt]⟩
      obtain ⟨g, o, rfl, hc⟩ := hr.cs (by omega)
      clear hr
      have HX := Lib.hid hx
      have hA : Hid (ChkIs x.a x.b x.c x.d (rnErr x.a x.b x.c x.d)) := Lib.hid (rnChk x.a x.b x.c x.d)
      obtain ⟨a0, a1, a2, a3⟩ := hc.el _ _ hx
      clear hx
      by_cases hb : rnErr x.a x.b x.c x.d = 0
      rotate_left
      · have cb : (rnErr x.a x.b x.c x.d != 0) = true := by simpa using hb
        have HB := Lib.hid hb
        clear hb
        go_wp2_with fail
        clear a0 a1 a2 a3
        obtain ⟨W1, hW1⟩ : ∃ W1, W1 = wr.alloc (.cells #[.int .i8 x.a, .int .i64 x.b, .int .i8 x.c, .int .i64 x.d] 30) := ⟨_, rfl⟩
        have uW1 : Dn wr W1 := by rw [hW1]; exact (Dn.refl _).alloc _
        replace hc := hc.dn uW1
        have c2 : W1.cell? ⟨wr.heap.size, 0, none⟩ = some (.int .i8 x.a) := by rw [hW1]; simp [go_sem]
        have c3 : W1.cell? ⟨wr.heap.size, 1, none⟩ = some (.int .i64 x.b) := by rw [hW1]; simp [go_sem]
        have c4 : W1.cell? ⟨wr.heap.size, 2, none⟩ = some (.int .i8 x.c) := by rw [hW1]; simp [go_sem]
        have c5 : W1.cell? ⟨wr.heap.size, 3, none⟩ = some (.int .i64 x.d) := by rw [hW1]; simp [go_sem]
        have l6 : wr.heap.size < W1.heap.size := by rw [hW1]; simp <;> omega
        rw [← hW1]
        clear hW1
        have vW1 := hu.trans uW1
        clear uW1 hu
        refine (hA.out _).mono ?_
        rintro e w1 ⟨rfl, qw1⟩
        replace hc := hc.dn qw1
        have l7 := nlt l6 qw1.size
        obtain ⟨c8, c9, a4, a5⟩ := mv4 qw1.cell c2 c3 c4 c5
        clear l6 c2 c3 c4 c5
        have uw1 := vW1.trans qw1
        clear qw1 vW1
        have HE2 := Lib.hid (HF.out.trans (chk_bad HX.out HB.out))
        go_wp2_with fail
        go_ret
        exact ⟨ret1_i HE2.out.symm, uw1⟩
      · have HB := Lib.hid hb
        rw [hb] at hA
        clear hb
        rcases Nat.eq_zero_or_pos k with hk0' | hk0
        · have d2 : decide (0 < k) = false := by rw [decide_eq_false_iff_not]; omega
          have hk0 := Lib.hid hk0'
          clear hk0'
          go_wp2_with fail
          clear a0 a1 a2 a3
          obtain ⟨W1, hW1⟩ : ∃ W1, W1 = wr.alloc (.cells #[.int .i8 x.a, .int .i64 x.b, .int .i8 x.c, .int .i64 x.d] 30) := ⟨_, rfl⟩
          have uW1 : Dn wr W1 := by rw [hW1]; exact (Dn.refl _).alloc _
          replace hc := hc.dn uW1
          have c2 : W1.cell? ⟨wr.heap.size, 0, none⟩ = some (.int .i8 x.a) := by rw [hW1]; simp [go_sem]
          have c3 : W1.cell? ⟨wr.heap.size, 1, none⟩ = some (.int .i64 x.b) := by rw [hW1]; simp [go_sem]
          have c4 : W1.cell? ⟨wr.heap.size, 2, none⟩ = some (.int .i8 x.c) := by rw [hW1]; simp [go_sem]
          have c5 : W1.cell? ⟨wr.heap.size, 3, none⟩ = some (.int .i64 x.d) := by rw [hW1]; simp [go_sem]
          have l6 : wr.heap.size < W1.heap.size := by rw [hW1]; simp <;> omega
          rw [← hW1]
          clear hW1
          have vW1 := hu.trans uW1
          clear uW1 hu
          refine (hA.out _).mono ?_
          rintro e w1 ⟨rfl, qw1⟩
          replace hc := hc.dn qw1
          have l7 := nlt l6 qw1.size
          obtain ⟨c8, c9, a4, a5⟩ := mv4 qw1.cell c2 c3 c4 c5
          clear l6 c2 c3 c4 c5
          have uw1 := vW1.trans qw1
          clear qw1 vW1
          go_wp2_with fail
          have hS12 := kdSB_4 (W := w1) (Dn.refl _) ⟨Dn.refl _, c8, c9, a4, a5⟩
          have HShS12 := Lib.hid hS12
          clear c8 c9 a4 a5
          refine wp_region_held_drew (S := fun w' => Dn w1 w' ∧ w'.cell? ⟨wr.heap.size, 0, none⟩ = some (.int .i8 x.a) ∧ w'.cell? ⟨wr.heap.size, 1, none⟩ = some (.int .i64 x.b) ∧ w'.cell? ⟨wr.heap.size, 2, none⟩ = some (.int .i8 x.c) ∧ w'.cell? ⟨wr.heap.size, 3, none⟩ = some (.int .i64 x.d)) (by kernel_rfl) ?_ (fun hHeld => ?_)
          · (try dsimp only); (first | exact kdSB_4 ((Dn.refl _).drew) hS12 | exact kdSB_4 ‹Dn _ _› ‹_› | exact kdSB_4 (Up.dn ‹Up _ _›) ‹_› | assumption | exact kdSB_4 ((Dn.refl _).alloc _) ‹_›)
          refine tk 0 ?_ rfl (by kernel_rfl) (fun _ _ _ => id) (by rfl) (by assumption) ?_ ?_
          rotate_left
          · (intro w hSw; (try dsimp only at hSw); go_simp)
            all_goals with_reducible rfl
          try simp only [Act.put, pL]
          refine tk 1 ?_ rfl (by kernel_rfl) (fun _ _ _ => id) (by rfl) (by assumption) ?_ ?_
          rotate_left
          · (intro w hSw; (try dsimp only at hSw); go_simp)
            all_goals with_reducible rfl
          try simp only [Act.put, pL]
          refine tk 2 ?_ rfl (by kernel_rfl) (fun _ _ _ => id) (by rfl) (by assumption) ?_ ?_
          rotate_left
          · (intro w hSw; (try dsimp only at hSw); go_simp)
            all_goals with_reducible rfl
          try simp only [Act.put, pL]
          refine tu 3 rfl (by kernel_rfl) (fun _ _ _ => id) (by rfl) (by assumption) ?_
          try simp only [Act.put, pL]
          refine tu 4 rfl (by kernel_rfl) (fun _ _ _ => id) (by rfl) (by assumption) ?_
          try simp only [Act.put, pL]
          refine tu 5 rfl (by kernel_rfl) (fun _ _ _ => id) (by rfl) (by assumption) ?_
          try simp only [Act.put, pL]
          refine tu 6 rfl (by kernel_rfl) (fun _ _ _ => id) (by rfl) (by assumption) ?_
          try simp only [Act.put, pL]
          refine tu 7 rfl (by kernel_rfl) (fun _ _ _ => id) (by rfl) (by assumption) ?_
          try simp only [Act.put, pL]
          refine tu 8 rfl (by kernel_rfl) (fun _ _ _ => id) (by rfl) (by assumption) ?_
          try simp only [Act.put, pL]
          refine tu 9 rfl (by kernel_rfl) (fun _ _ _ => id) (by rfl) (by assumption) ?_
          try simp only [Act.put, pL]
          refine tu 10 rfl (by kernel_rfl) (fun _ _ _ => id) (by rfl) (by assumption) ?_
          try simp only [Act.put, pL]
          refine tu 11 rfl (by kernel_rfl) (fun _ _ _ => id) (by rfl) (by assumption) ?_
          try simp only [Act.put, pL]
          refine tu 12 rfl (by kernel_rfl) (fun _ _ _ => id) (by rfl) (by assumption) ?_
          try simp only [Act.put, pL]
          refine tu 13 rfl (by kernel_rfl) (fun _ _ _ => id) (by rfl) (by assumption) ?_
          try simp only [Act.put, pL]
          refine tu 14 rfl (by kernel_rfl) (fun _ _ _ => id) (by rfl) (by assumption) ?_
          try simp only [Act.put, pL]
          refine tu 15 rfl (by kernel_rfl) (fun _ _ _ => id) (by rfl) (by assumption) ?_
          try simp only [Act.put, pL]
          refine tu 16 rfl (by kernel_rfl) (fun _ _ _ => id) (by rfl) (by assumption) ?_
          try simp only [Act.put, pL]
          refine tu 17 rfl (by kernel_rfl) (fun _ _ _ => id) (by rfl) (by assumption) ?_
          try simp only [Act.put, pL]
          refine tu 18 rfl (by kernel_rfl) (fun _ _ _ => id) (by rfl) (by assumption) ?_
          try simp only [Act.put, pL]
          refine tu 19 rfl (by kernel_rfl) (fun _ _ _ => id) (by rfl) (by assumption) ?_
          try simp only [Act.put, pL]
          refine tk 20 ?_ rfl (by kernel_rfl) (fun _ _ _ => id) (by rfl) (by assumption) ?_ ?_
          rotate_left
          · (intro w hSw; (try dsimp only at hSw); go_simp)
            all_goals with_reducible rfl
          try simp only [Act.put, pL]
          refine wpAnyH_done (by kernel_rfl) ?_ _
          all_goals skip
          all_goals
            clear hS12
            obtain ⟨uf17, a6, a7, a8, a9⟩ := (‹Dn w1 _ ∧ _› : _ ∧ _)
            have aG := nlt l7 uf17.size
            clear l7
            replace hc := hc.dn uf17
            have vuf17 := uw1.trans uf17
            clear uf17 uw1 HShS12
            go_wp2_with fail
            go_roundw
            case rel => exact ⟨rfl, k + 1, by omega, by simp, by rw [HF.out]; exact chk_first HX.out hk0.out HB.out, HOK.out.step HX.out ((rq_err (HI.out.at HX.out).1 (HI.out.at HX.out).2).1 HB.out), hc.row, vuf17⟩
            case measure => simp [intOf]; omega
        · obtain ⟨m, rfl⟩ : ∃ m, k = m + 1 := ⟨k - 1, by omega⟩
          have d2 : decide (0 < (m : Int) + 1) = true := by rw [decide_eq_true_iff]; omega
          have hwm : IntKind.i64.wrap (m : Int) = m := IntWalk.i64_in _ (by omega)
          have hmL : (m : Int) < L.length := by omega
          obtain ⟨q, hq⟩ : ∃ q, L[m]? = some q := ⟨L[m], by simp [show m < L.length by omega]⟩
          have HQ := Lib.hid hq
          clear hq
          have i1 := HI.out.at HX.out
          have i2 := HI.out.at HQ.out
          have hC := Lib.hid (fun W => rnCmp q.a q.b q.c q.d x.a x.b x.c x.d W)
          have hT := Lib.hid (fun W => rnTouch q.a q.b q.c q.d x.a x.b x.c x.d W i2.1 i2.2 i1.1 i1.2)
          have hL := Lib.hid (cmp_ltR i1 i2)
          have hti := Lib.hid (tch_iff i2 i1)
          have HXK : Hid x.ok := Lib.hid ((rq_err i1.1 i1.2).1 HB.out)
          have HQK : Hid q.ok := Lib.hid (HOK.out _ _ HQ.out (by omega))
          have HI1 := Lib.hid i1
          have HI2 := Lib.hid i2
          clear i1 i2 hk0
          by_cases hcmp : 0 < or2 (eC q.a q.b x.a x.b) (eC q.c q.d x.c x.d)
          rotate_left
          by_cases htch : Tch q.a q.b q.c q.d x.a x.b x.c x.d
          · have d3 : decide (0 < or2 (eC q.a q.b x.a x.b) (eC q.c q.d x.c x.d)) = false := by simpa using hcmp
            have HO := Lib.hid (fun h => hcmp (hL.out.2 h))
            have HTT := Lib.hid (hti.out.1 htch)
            rw [decide_eq_true htch] at hT
            clear hcmp htch hL hti
            generalize or2 (eC q.a q.b x.a x.b) (eC q.c q.d x.c x.d) = n at *
            go_wp2_with fail
            clear a0 a1 a2 a3
            obtain ⟨W1, hW1⟩ : ∃ W1, W1 = wr.alloc (.cells #[.int .i8 x.a, .int .i64 x.b, .int .i8 x.c, .int .i64 x.d] 30) := ⟨_, rfl⟩
            have uW1 : Dn wr W1 := by rw [hW1]; exact (Dn.refl _).alloc _
            replace hc := hc.dn uW1
            have c2 : W1.cell? ⟨wr.heap.size, 0, none⟩ = some (.int .i8 x.a) := by rw [hW1]; simp [go_sem]
            have c3 : W1.cell? ⟨wr.heap.size, 1, none⟩ = some (.int .i64 x.b) := by rw [hW1]; simp [go_sem]
            have c4 : W1.cell? ⟨wr.heap.size, 2, none⟩ = some (.int .i8 x.c) := by rw [hW1]; simp [go_sem]
            have c5 : W1.cell? ⟨wr.heap.size, 3, none⟩ = some (.int .i64 x.d) := by rw [hW1]; simp [go_sem]
            have l6 : wr.heap.size < W1.heap.size := by rw [hW1]; simp <;> omega
            rw [← hW1]
            clear hW1
            have vW1 := hu.trans uW1
            clear uW1 hu
            refine (hA.out _).mono ?_
            rintro e w1 ⟨rfl, qw1⟩
            replace hc := hc.dn qw1
            have l7 := nlt l6 qw1.size
            obtain ⟨c8, c9, a4, a5⟩ := mv4 qw1.cell c2 c3 c4 c5
            clear l6 c2 c3 c4 c5
            have uw1 := vW1.trans qw1
            clear qw1 vW1
            go_wp2_with fail
            obtain ⟨b0, b1, b2, b3⟩ := hc.el _ _ HQ.out
            have bl := hc.lt
            have hS12 := kdSB_8 (W := w1) (Dn.refl _) ⟨Dn.refl _, c8, c9, a4, a5, b0, b1, b2, b3⟩
            have HShS12 := Lib.hid hS12
            clear c8 c9 a4 a5 b0 b1 b2 b3
            refine wp_region_held_drew (S := fun w' => Dn w1 w' ∧ w'.cell? ⟨wr.heap.size, 0, none⟩ = some (.int .i8 x.a) ∧ w'.cell? ⟨wr.heap.size, 1, none⟩ = some (.int .i64 x.b) ∧ w'.cell? ⟨wr.heap.size, 2, none⟩ = some (.int .i8 x.c) ∧ w'.cell? ⟨wr.heap.size, 3, none⟩ = some (.int .i64 x.d) ∧ w'.cell? ⟨g, o + m * 4, none⟩ = some (.int .i8 q.a) ∧ w'.cell? ⟨g, o + m * 4 + 1, none⟩ = some (.int .i64 q.b) ∧ w'.cell? ⟨g, o + m * 4 + 2, none⟩ = some (.int .i8 q.c) ∧ w'.cell? ⟨g, o + m * 4 + 3, none⟩ = some (.int .i64 q.d)) (by kernel_rfl) ?_ (fun hHeld => ?_)
            · (try dsimp only); (first | exact kdSB_8 ((Dn.refl _).drew) hS12 | exact kdSB_8 ‹Dn _ _› ‹_› | exact kdSB_8 (Up.dn ‹Up _ _›) ‹_› | assumption | exact kdSB_8 ((Dn.refl _).alloc _) ‹_›)
            refine tk 0 ?_ rfl (by kernel_rfl) (fun _ _ _ => id) (by rfl) (by assumption) ?_ ?_
            rotate_left
            · (intro w hSw; (try dsimp only at hSw); go_simp)
              all_goals with_reducible rfl
            try simp only [Act.put, pL]
            refine tk 1 ?_ rfl (by kernel_rfl) (fun _ _ _ => id) (by rfl) (by assumption) ?_ ?_
            rotate_left
            · (intro w hSw; (try dsimp only at hSw); go_simp)
              all_goals with_reducible rfl
            try simp only [Act.put, pL]
            refine tk 2 ?_ rfl (by kernel_rfl) (fun _ _ _ => id) (by rfl) (by assumption) ?_ ?_
            rotate_left
            · (intro w hSw; (try dsimp only at hSw); go_simp)
              all_goals with_reducible rfl
            try simp only [Act.put, pL]
            refine tk 3 ?_ rfl (by kernel_rfl) (fun _ _ _ => id) (by rfl) (by assumption) ?_ ?_
            rotate_left
            · (intro w hSw; (try dsimp only at hSw); go_simp)
              all_goals with_reducible rfl
            try simp only [Act.put, pL]
            refine tk 4 ?_ rfl (by kernel_rfl) (fun _ _ _ => id) (by rfl) (by assumption) ?_ ?_
            rotate_left
            · (intro w hSw; (try dsimp only at hSw); go_simp)
              all_goals with_reducible rfl
            try simp only [Act.put, pL]
            refine tk 5 ?_ rfl (by kernel_rfl) (fun _ _ _ => id) (by rfl) (by assumption) ?_ ?_
            rotate_left
            · (intro w hSw; (try dsimp only at hSw); go_simp)
              all_goals with_reducible rfl
            try simp only [Act.put, pL]
            refine tk 6 ?_ rfl (by kernel_rfl) (fun _ _ _ => id) (by rfl) (by assumption) ?_ ?_
            rotate_left
            · (intro w hSw; (try dsimp only at hSw); go_simp)
              all_goals with_reducible rfl
            try simp only [Act.put, pL]
            refine tk 7 ?_ rfl (by kernel_rfl) (fun _ _ _ => id) (by rfl) (by assumption) ?_ ?_
            rotate_left
            · (intro w hSw; (try dsimp only at hSw); go_simp)
              all_goals with_reducible rfl
            try simp only [Act.put, pL]
            refine tk 8 ?_ rfl (by kernel_rfl) (fun _ _ _ => id) (by rfl) (by assumption) ?_ ?_
            rotate_left
            · (intro w hSw; (try dsimp only at hSw); go_simp)
              all_goals with_reducible rfl
            try simp only [Act.put, pL]
            refine wpAnyH_ready (rs := [9]) (by kernel_rfl) (by simp) ?_
            refine AllReadyH.cons rfl (fun K hK => ?_) AllReadyH.nil
            go_simp
            (first
                | (go_at_call 67; refine (hC.out _).mono ?_; rintro e wa ⟨rfl, qa⟩)
                | (go_at_call 135; refine (hT.out _).mono ?_; rintro e wa ⟨rfl, qa⟩))
            try go_wp2_with fail
            refine hK.out _ _ ?_ (fun hHeld => ?_)
            · (try dsimp only); (first | exact kdSB_8 ((Dn.refl _).drew) hS12 | exact kdSB_8 ‹Dn _ _› ‹_› | exact kdSB_8 (Up.dn ‹Up _ _›) ‹_› | assumption | exact kdSB_8 ((Dn.refl _).alloc _) ‹_›)
            clear hK K
            try simp only [Act.put, pL]
            refine tk 10 ?_ rfl (by kernel_rfl) (fun _ _ _ => id) (by rfl) (by assumption) ?_ ?_
            rotate_left
            · (intro w hSw; (try dsimp only at hSw); go_simp)
              all_goals with_reducible rfl
            try simp only [Act.put, pL]
            refine tk 11 ?_ rfl (by kernel_rfl) (fun _ _ _ => id) (by rfl) (by assumption) ?_ ?_
            rotate_left
            · (intro w hSw; (try dsimp only at hSw); go_simp)
              all_goals with_reducible rfl
            try simp only [Act.put, pL]
            refine tk 12 ?_ rfl (by kernel_rfl) (fun _ _ _ => id) (by rfl) (by assumption) ?_ ?_
            rotate_left
            · (intro w hSw; (try dsimp only at hSw); go_simp)
              all_goals with_reducible rfl
            try simp only [Act.put, pL]
            refine tk 13 ?_ rfl (by kernel_rfl) (fun _ _ _ => id) (by rfl) (by assumption) ?_ ?_
            rotate_left
            · (intro w hSw; (try dsimp only at hSw); go_simp)
              all_goals with_reducible rfl
            try simp only [Act.put, pL]
            refine tk 14 ?_ rfl (by kernel_rfl) (fun _ _ _ => id) (by rfl) (by assumption) ?_ ?_
            rotate_left
            · (intro w hSw; (try dsimp only at hSw); go_simp)
              all_goals with_reducible rfl
            try simp only [Act.put, pL]
            refine tk 15 ?_ rfl (by kernel_rfl) (fun _ _ _ => id) (by rfl) (by assumption) ?_ ?_
            rotate_left
            · (intro w hSw; (try dsimp only at hSw); go_simp)
              all_goals with_reducible rfl
            try simp only [Act.put, pL]
            refine tk 16 ?_ rfl (by kernel_rfl) (fun _ _ _ => id) (by rfl) (by assumption) ?_ ?_
            rotate_left
            · (intro w hSw; (try dsimp only at hSw); go_simp)
              all_goals with_reducible rfl
            try simp only [Act.put, pL]
            refine tk 17 ?_ rfl (by kernel_rfl) (fun _ _ _ => id) (by rfl) (by assumption) ?_ ?_
            rotate_left
            · (intro w hSw; (try dsimp only at hSw); go_simp)
              all_goals with_reducible rfl
            try simp only [Act.put, pL]
            refine wpAnyH_ready (rs := [18]) (by kernel_rfl) (by simp) ?_
            refine AllReadyH.cons rfl (fun K hK => ?_) AllReadyH.nil
            go_simp
            (first
                | (go_at_call 67; refine (hC.out _).mono ?_; rintro e wa ⟨rfl, qa⟩)
                | (go_at_call 135; refine (hT.out _).mono ?_; rintro e wa ⟨rfl, qa⟩))
            try go_wp2_with fail
            refine hK.out _ _ ?_ (fun hHeld => ?_)
            · (try dsimp only); (first | exact kdSB_8 ((Dn.refl _).drew) hS12 | exact kdSB_8 ‹Dn _ _› ‹_› | exact kdSB_8 (Up.dn ‹Up _ _›) ‹_› | assumption | exact kdSB_8 ((Dn.refl _).alloc _) ‹_›)
            clear hK K
            try simp only [Act.put, pL]
            refine tk 19 ?_ rfl (by kernel_rfl) (fun _ _ _ => id) (by rfl) (by assumption) ?_ ?_
            rotate_left
            · (intro w hSw; (try dsimp only at hSw); go_simp)
              all_goals with_reducible rfl
            try simp only [Act.put, pL]
            refine tk 20 ?_ rfl (by kernel_rfl) (fun _ _ _ => id) (by rfl) (by assumption) ?_ ?_
            rotate_left
            · (intro w hSw; (try dsimp only at hSw); go_simp)
              all_goals with_reducible rfl
            try simp only [Act.put, pL]
            refine wpAnyH_done (by kernel_rfl) ?_ _
            all_goals skip
            all_goals
              clear hS12
              obtain ⟨uf21, a6, a7, a8, a9, aA, aB, aC, aD⟩ := (‹Dn w1 _ ∧ _› : _ ∧ _)
              obtain ⟨w22, rfl⟩ : ∃ w22 : World, w22 = wa := ⟨_, rfl⟩
              have aE := nlt l7 uf21.size
              clear l7
              have aF := nlt bl uf21.size
              clear bl
              replace hc := hc.dn uf21
              have vuf21 := uw1.trans uf21
              clear uf21 uw1 HShS12
              have HE2 := Lib.hid (HF.out.trans (chk_order HX.out (by omega) HQ.out HB.out ((order_prog HQK.out HXK.out).1 (.inr HTT.out))))
              go_wp2_with fail
              go_ret
              exact ⟨ret1_i HE2.out.symm, vuf21⟩
          · have d3 : decide (0 < or2 (eC q.a q.b x.a x.b) (eC q.c q.d x.c x.d)) = false := by simpa using hcmp
            have HO := Lib.hid (fun h => hcmp (hL.out.2 h))
            have HTT := Lib.hid (fun h => htch (hti.out.2 h))
            rw [decide_eq_false htch] at hT
            clear hcmp htch hL hti
            generalize or2 (eC q.a q.b x.a x.b) (eC q.c q.d x.c x.d) = n at *
            go_wp2_with fail
            clear a0 a1 a2 a3
            obtain ⟨W1, hW1⟩ : ∃ W1, W1 = wr.alloc (.cells #[.int .i8 x.a, .int .i64 x.b, .int .i8 x.c, .int .i64 x.d] 30) := ⟨_, rfl⟩
            have uW1 : Dn wr W1 := by rw [hW1]; exact (Dn.refl _).alloc _
            replace hc := hc.dn uW1
            have c2 : W1.cell? ⟨wr.heap.size, 0, none⟩ = some (.int .i8 x.a) := by rw [hW1]; simp [go_sem]
            have c3 : W1.cell? ⟨wr.heap.size, 1, none⟩ = some (.int .i64 x.b) := by rw [hW1]; simp [go_sem]
            have c4 : W1.cell? ⟨wr.heap.size, 2, none⟩ = some (.int .i8 x.c) := by rw [hW1]; simp [go_sem]
            have c5 : W1.cell? ⟨wr.heap.size, 3, none⟩ = some (.int .i64 x.d) := by rw [hW1]; simp [go_sem]
            have l6 : wr.heap.size < W1.heap.size := by rw [hW1]; simp <;> omega
            rw [← hW1]
            clear hW1
            have vW1 := hu.trans uW1
            clear uW1 hu
            refine (hA.out _).mono ?_
            rintro e w1 ⟨rfl, qw1⟩
            replace hc := hc.dn qw1
            have l7 := nlt l6 qw1.size
            obtain ⟨c8, c9, a4, a5⟩ := mv4 qw1.cell c2 c3 c4 c5
            clear l6 c2 c3 c4 c5
            have uw1 := vW1.trans qw1
            clear qw1 vW1
            go_wp2_with fail
            obtain ⟨b0, b1, b2, b3⟩ := hc.el _ _ HQ.out
            have bl := hc.lt
            have hS12 := kdSB_8 (W := w1) (Dn.refl _) ⟨Dn.refl _, c8, c9, a4, a5, b0, b1, b2, b3⟩
            have HShS12 := Lib.hid hS12
            clear c8 c9 a4 a5 b0 b1 b2 b3
            refine wp_region_held_drew (S := fun w' => Dn w1 w' ∧ w'.cell? ⟨wr.heap.size, 0, none⟩ = some (.int .i8 x.a) ∧ w'.cell? ⟨wr.heap.size, 1, none⟩ = some (.int .i64 x.b) ∧ w'.cell? ⟨wr.heap.size, 2, none⟩ = some (.int .i8 x.c) ∧ w'.cell? ⟨wr.heap.size, 3, none⟩ = some (.int .i64 x.d) ∧ w'.cell? ⟨g, o + m * 4, none⟩ = some (.int .i8 q.a) ∧ w'.cell? ⟨g, o + m * 4 + 1, none⟩ = some (.int .i64 q.b) ∧ w'.cell? ⟨g, o + m * 4 + 2, none⟩ = some (.int .i8 q.c) ∧ w'.cell? ⟨g, o + m * 4 + 3, none⟩ = some (.int .i64 q.d)) (by kernel_rfl) ?_ (fun hHeld => ?_)
            · (try dsimp only); (first | exact kdSB_8 ((Dn.refl _).drew) hS12 | exact kdSB_8 ‹Dn _ _› ‹_› | exact kdSB_8 (Up.dn ‹Up _ _›) ‹_› | assumption | exact kdSB_8 ((Dn.refl _).alloc _) ‹_›)
            refine tk 0 ?_ rfl (by kernel_rfl) (fun _ _ _ => id) (by rfl) (by assumption) ?_ ?_
            rotate_left
            · (intro w hSw; (try dsimp only at hSw); go_simp)
              all_goals with_reducible rfl
            try simp only [Act.put, pL]
            refine tk 1 ?_ rfl (by kernel_rfl) (fun _ _ _ => id) (by rfl) (by assumption) ?_ ?_
            rotate_left
            · (intro w hSw; (try dsimp only at hSw); go_simp)
              all_goals with_reducible rfl
            try simp only [Act.put, pL]
            refine tk 2 ?_ rfl (by kernel_rfl) (fun _ _ _ => id) (by rfl) (by assumption) ?_ ?_
            rotate_left
            · (intro w hSw; (try dsimp only at hSw); go_simp)
              all_goals with_reducible rfl
            try simp only [Act.put, pL]
            refine tk 3 ?_ rfl (by kernel_rfl) (fun _ _ _ => id) (by rfl) (by assumption) ?_ ?_
            rotate_left
            · (intro w hSw; (try dsimp only at hSw); go_simp)
              all_goals with_reducible rfl
            try simp only [Act.put, pL]
            refine tk 4 ?_ rfl (by kernel_rfl) (fun _ _ _ => id) (by rfl) (by assumption) ?_ ?_
            rotate_left
            · (intro w hSw; (try dsimp only at hSw); go_simp)
              all_goals with_reducible rfl
            try simp only [Act.put, pL]
            refine tk 5 ?_ rfl (by kernel_rfl) (fun _ _ _ => id) (by rfl) (by assumption) ?_ ?_
            rotate_left
            · (intro w hSw; (try dsimp only at hSw); go_simp)
              all_goals with_reducible rfl
            try simp only [Act.put, pL]
            refine tk 6 ?_ rfl (by kernel_rfl) (fun _ _ _ => id) (by rfl) (by assumption) ?_ ?_
            rotate_left
            · (intro w hSw; (try dsimp only at hSw); go_simp)
              all_goals with_reducible rfl
            try simp only [Act.put, pL]
            refine tk 7 ?_ rfl (by kernel_rfl) (fun _ _ _ => id) (by rfl) (by assumption) ?_ ?_
            rotate_left
            · (intro w hSw; (try dsimp only at hSw); go_simp)
              all_goals with_reducible rfl
            try simp only [Act.put, pL]
            refine tk 8 ?_ rfl (by kernel_rfl) (fun _ _ _ => id) (by rfl) (by assumption) ?_ ?_
            rotate_left
            · (intro w hSw; (try dsimp only at hSw); go_simp)
              all_goals with_reducible rfl
            try simp only [Act.put, pL]
            refine wpAnyH_ready (rs := [9]) (by kernel_rfl) (by simp) ?_
            refine AllReadyH.cons rfl (fun K hK => ?_) AllReadyH.nil
            go_simp
            (first
                | (go_at_call 67; refine (hC.out _).mono ?_; rintro e wa ⟨rfl, qa⟩)
                | (go_at_call 135; refine (hT.out _).mono ?_; rintro e wa ⟨rfl, qa⟩))
            try go_wp2_with fail
            refine hK.out _ _ ?_ (fun hHeld => ?_)
            · (try dsimp only); (first | exact kdSB_8 ((Dn.refl _).drew) hS12 | exact kdSB_8 ‹Dn _ _› ‹_› | exact kdSB_8 (Up.dn ‹Up _ _›) ‹_› | assumption | exact kdSB_8 ((Dn.refl _).alloc _) ‹_›)
            clear hK K
            try simp only [Act.put, pL]
            refine tk 10 ?_ rfl (by kernel_rfl) (fun _ _ _ => id) (by rfl) (by assumption) ?_ ?_
            rotate_left
            · (intro w hSw; (try dsimp only at hSw); go_simp)
              all_goals with_reducible rfl
            try simp only [Act.put, pL]
            refine tk 11 ?_ rfl (by kernel_rfl) (fun _ _ _ => id) (by rfl) (by assumption) ?_ ?_
            rotate_left
            · (intro w hSw; (try dsimp only at hSw); go_simp)
              all_goals with_reducible rfl
            try simp only [Act.put, pL]
            refine tk 12 ?_ rfl (by kernel_rfl) (fun _ _ _ => id) (by rfl) (by assumption) ?_ ?_
            rotate_left
            · (intro w hSw; (try dsimp only at hSw); go_simp)
              all_goals with_reducible rfl
            try simp only [Act.put, pL]
            refine tk 13 ?_ rfl (by kernel_rfl) (fun _ _ _ => id) (by rfl) (by assumption) ?_ ?_
            rotate_left
            · (intro w hSw; (try dsimp only at hSw); go_simp)
              all_goals with_reducible rfl
            try simp only [Act.put, pL]
            refine tk 14 ?_ rfl (by kernel_rfl) (fun _ _ _ => id) (by rfl) (by assumption) ?_ ?_
            rotate_left
            · (intro w hSw; (try dsimp only at hSw); go_simp)
              all_goals with_reducible rfl
            try simp only [Act.put, pL]
            refine tk 15 ?_ rfl (by kernel_rfl) (fun _ _ _ => id) (by rfl) (by assumption) ?_ ?_
            rotate_left
            · (intro w hSw; (try dsimp only at hSw); go_simp)
              all_goals with_reducible rfl
            try simp only [Act.put, pL]
            refine tk 16 ?_ rfl (by kernel_rfl) (fun _ _ _ => id) (by rfl) (by assumption) ?_ ?_
            rotate_left
            · (intro w hSw; (try dsimp only at hSw); go_simp)
              all_goals with_reducible rfl
            try simp only [Act.put, pL]
            refine tk 17 ?_ rfl (by kernel_rfl) (fun _ _ _ => id) (by rfl) (by assumption) ?_ ?_
            rotate_left
            · (intro w hSw; (try dsimp only at hSw); go_simp)
              all_goals with_reducible rfl
            try simp only [Act.put, pL]
            refine wpAnyH_ready (rs := [18]) (by kernel_rfl) (by simp) ?_
            refine AllReadyH.cons rfl (fun K hK => ?_) AllReadyH.nil
            go_simp
            (first
                | (go_at_call 67; refine (hC.out _).mono ?_; rintro e wa ⟨rfl, qa⟩)
                | (go_at_call 135; refine (hT.out _).mono ?_; rintro e wa ⟨rfl, qa⟩))
            try go_wp2_with fail
            refine hK.out _ _ ?_ (fun hHeld => ?_)
            · (try dsimp only); (first | exact kdSB_8 ((Dn.refl _).drew) hS12 | exact kdSB_8 ‹Dn _ _› ‹_› | exact kdSB_8 (Up.dn ‹Up _ _›) ‹_› | assumption | exact kdSB_8 ((Dn.refl _).alloc _) ‹_›)
            clear hK K
            try simp only [Act.put, pL]
            refine tk 19 ?_ rfl (by kernel_rfl) (fun _ _ _ => id) (by rfl) (by assumption) ?_ ?_
            rotate_left
            · (intro w hSw; (try dsimp only at hSw); go_simp)
              all_goals with_reducible rfl
            try simp only [Act.put, pL]
            refine tk 20 ?_ rfl (by kernel_rfl) (fun _ _ _ => id) (by rfl) (by assumption) ?_ ?_
            rotate_left
            · (intro w hSw; (try dsimp only at hSw); go_simp)
              all_goals with_reducible rfl
            try simp only [Act.put, pL]
            refine wpAnyH_done (by kernel_rfl) ?_ _
            all_goals skip
            all_goals
              clear hS12
              obtain ⟨uf21, a6, a7, a8, a9, aA, aB, aC, aD⟩ := (‹Dn w1 _ ∧ _› : _ ∧ _)
              obtain ⟨w22, rfl⟩ : ∃ w22 : World, w22 = wa := ⟨_, rfl⟩
              have aE := nlt l7 uf21.size
              clear l7
              have aF := nlt bl uf21.size
              clear bl
              replace hc := hc.dn uf21
              have vuf21 := uw1.trans uf21
              clear uf21 uw1 HShS12
              go_wp2_with fail
              go_roundw
              case rel => exact ⟨rfl, m + 1 + 1, by omega, by simp, by rw [HF.out]; exact chk_next HX.out (by omega) HQ.out HB.out (Classical.not_not.1 fun h => (((order_prog HQK.out HXK.out).2 h).elim HO.out HTT.out)), HOK.out.step HX.out ((rq_err (HI.out.at HX.out).1 (HI.out.at HX.out).2).1 HB.out), hc.row, vuf21⟩
              case measure => simp [intOf]; omega
          · have d3 : decide (0 < or2 (eC q.a q.b x.a x.b) (eC q.c q.d x.c x.d)) = true := by simpa using hcmp
            have HO := Lib.hid (hL.out.1 hcmp)
            clear hcmp hL hti
            generalize or2 (eC q.a q.b x.a x.b) (eC q.c q.d x.c x.d) = n at *
            go_wp2_with fail
            clear a0 a1 a2 a3
            obtain ⟨W1, hW1⟩ : ∃ W1, W1 = wr.alloc (.cells #[.int .i8 x.a, .int .i64 x.b, .int .i8 x.c, .int .i64 x.d] 30) := ⟨_, rfl⟩
            have uW1 : Dn wr W1 := by rw [hW1]; exact (Dn.refl _).alloc _
            replace hc := hc.dn uW1
            have c2 : W1.cell? ⟨wr.heap.size, 0, none⟩ = some (.int .i8 x.a) := by rw [hW1]; simp [go_sem]
            have c3 : W1.cell? ⟨wr.heap.size, 1, none⟩ = some (.int .i64 x.b) := by rw [hW1]; simp [go_sem]
            have c4 : W1.cell? ⟨wr.heap.size, 2, none⟩ = some (.int .i8 x.c) := by rw [hW1]; simp [go_sem]
            have c5 : W1.cell? ⟨wr.heap.size, 3, none⟩ = some (.int .i64 x.d) := by rw [hW1]; simp [go_sem]
            have l6 : wr.heap.size < W1.heap.size := by rw [hW1]; simp <;> omega
            rw [← hW1]
            clear hW1
            have vW1 := hu.trans uW1
            clear uW1 hu
            refine (hA.out _).mono ?_
            rintro e w1 ⟨rfl, qw1⟩
            replace hc := hc.dn qw1
            have l7 := nlt l6 qw1.size
            obtain ⟨c8, c9, a4, a5⟩ := mv4 qw1.cell c2 c3 c4 c5
            clear l6 c2 c3 c4 c5
            have uw1 := vW1.trans qw1
            clear qw1 vW1
            go_wp2_with fail
            obtain ⟨b0, b1, b2, b3⟩ := hc.el _ _ HQ.out
            have bl := hc.lt
            have hS12 := kdSB_8 (W := w1) (Dn.refl _) ⟨Dn.refl _, c8, c9, a4, a5, b0, b1, b2, b3⟩
            have HShS12 := Lib.hid hS12
            clear c8 c9 a4 a5 b0 b1 b2 b3
            refine wp_region_held_drew (S := fun w' => Dn w1 w' ∧ w'.cell? ⟨wr.heap.size, 0, none⟩ = some (.int .i8 x.a) ∧ w'.cell? ⟨wr.heap.size, 1, none⟩ = some (.int .i64 x.b) ∧ w'.cell? ⟨wr.heap.size, 2, none⟩ = some (.int .i8 x.c) ∧ w'.cell? ⟨wr.heap.size, 3, none⟩ = some (.int .i64 x.d) ∧ w'.cell? ⟨g, o + m * 4, none⟩ = some (.int .i8 q.a) ∧ w'.cell? ⟨g, o + m * 4 + 1, none⟩ = some (.int .i64 q.b) ∧ w'.cell? ⟨g, o + m * 4 + 2, none⟩ = some (.int .i8 q.c) ∧ w'.cell? ⟨g, o + m * 4 + 3, none⟩ = some (.int .i64 q.d)) (by kernel_rfl) ?_ (fun hHeld => ?_)
            · (try dsimp only); (first | exact kdSB_8 ((Dn.refl _).drew) hS12 | exact kdSB_8 ‹Dn _ _› ‹_› | exact kdSB_8 (Up.dn ‹Up _ _›) ‹_› | assumption | exact kdSB_8 ((Dn.refl _).alloc _) ‹_›)
            refine tk 0 ?_ rfl (by kernel_rfl) (fun _ _ _ => id) (by rfl) (by assumption) ?_ ?_
            rotate_left
            · (intro w hSw; (try dsimp only at hSw); go_simp)
              all_goals with_reducible rfl
            try simp only [Act.put, pL]
            refine tk 1 ?_ rfl (by kernel_rfl) (fun _ _ _ => id) (by rfl) (by assumption) ?_ ?_
            rotate_left
            · (intro w hSw; (try dsimp only at hSw); go_simp)
              all_goals with_reducible rfl
            try simp only [Act.put, pL]
            refine tk 2 ?_ rfl (by kernel_rfl) (fun _ _ _ => id) (by rfl) (by assumption) ?_ ?_
            rotate_left
            · (intro w hSw; (try dsimp only at hSw); go_simp)
              all_goals with_reducible rfl
            try simp only [Act.put, pL]
            refine tk 3 ?_ rfl (by kernel_rfl) (fun _ _ _ => id) (by rfl) (by assumption) ?_ ?_
            rotate_left
            · (intro w hSw; (try dsimp only at hSw); go_simp)
              all_goals with_reducible rfl
            try simp only [Act.put, pL]
            refine tk 4 ?_ rfl (by kernel_rfl) (fun _ _ _ => id) (by rfl) (by assumption) ?_ ?_
            rotate_left
            · (intro w hSw; (try dsimp only at hSw); go_simp)
              all_goals with_reducible rfl
            try simp only [Act.put, pL]
            refine tk 5 ?_ rfl (by kernel_rfl) (fun _ _ _ => id) (by rfl) (by assumption) ?_ ?_
            rotate_left
            · (intro w hSw; (try dsimp only at hSw); go_simp)
              all_goals with_reducible rfl
            try simp only [Act.put, pL]
            refine tk 6 ?_ rfl (by kernel_rfl) (fun _ _ _ => id) (by rfl) (by assumption) ?_ ?_
            rotate_left
            · (intro w hSw; (try dsimp only at hSw); go_simp)
              all_goals with_reducible rfl
            try simp only [Act.put, pL]
            refine tk 7 ?_ rfl (by kernel_rfl) (fun _ _ _ => id) (by rfl) (by assumption) ?_ ?_
            rotate_left
            · (intro w hSw; (try dsimp only at hSw); go_simp)
              all_goals with_reducible rfl
            try simp only [Act.put, pL]
            refine tk 8 ?_ rfl (by kernel_rfl) (fun _ _ _ => id) (by rfl) (by assumption) ?_ ?_
            rotate_left
            · (intro w hSw; (try dsimp only at hSw); go_simp)
              all_goals with_reducible rfl
            try simp only [Act.put, pL]
            refine wpAnyH_ready (rs := [9]) (by kernel_rfl) (by simp) ?_
            refine AllReadyH.cons rfl (fun K hK => ?_) AllReadyH.nil
            go_simp
            (first
                | (go_at_call 67; refine (hC.out _).mono ?_; rintro e wa ⟨rfl, qa⟩)
                | (go_at_call 135; refine (hT.out _).mono ?_; rintro e wa ⟨rfl, qa⟩))
            try go_wp2_with fail
            refine hK.out _ _ ?_ (fun hHeld => ?_)
            · (try dsimp only); (first | exact kdSB_8 ((Dn.refl _).drew) hS12 | exact kdSB_8 ‹Dn _ _› ‹_› | exact kdSB_8 (Up.dn ‹Up _ _›) ‹_› | assumption | exact kdSB_8 ((Dn.refl _).alloc _) ‹_›)
            clear hK K
            try simp only [Act.put, pL]
            refine tk 10 ?_ rfl (by kernel_rfl) (fun _ _ _ => id) (by rfl) (by assumption) ?_ ?_
            rotate_left
            · (intro w hSw; (try dsimp only at hSw); go_simp)
              all_goals with_reducible rfl
            try simp only [Act.put, pL]
            refine tk 11 ?_ rfl (by kernel_rfl) (fun _ _ _ => id) (by rfl) (by assumption) ?_ ?_
            rotate_left
            · (intro w hSw; (try dsimp only at hSw); go_simp)
              all_goals with_reducible rfl
            try simp only [Act.put, pL]
            refine tu 12 rfl (by kernel_rfl) (fun _ _ _ => id) (by rfl) (by assumption) ?_
            try simp only [Act.put, pL]
            refine tu 13 rfl (by kernel_rfl) (fun _ _ _ => id) (by rfl) (by assumption) ?_
            try simp only [Act.put, pL]
            refine tu 14 rfl (by kernel_rfl) (fun _ _ _ => id) (by rfl) (by assumption) ?_
            try simp only [Act.put, pL]
            refine tu 15 rfl (by kernel_rfl) (fun _ _ _ => id) (by rfl) (by assumption) ?_
            try simp only [Act.put, pL]
            refine tu 16 rfl (by kernel_rfl) (fun _ _ _ => id) (by rfl) (by assumption) ?_
            try simp only [Act.put, pL]
            refine tu 17 rfl (by kernel_rfl) (fun _ _ _ => id) (by rfl) (by assumption) ?_
            try simp only [Act.put, pL]
            refine tu 18 rfl (by kernel_rfl) (fun _ _ _ => id) (by rfl) (by assumption) ?_
            try simp only [Act.put, pL]
            refine tk 19 ?_ rfl (by kernel_rfl) (fun _ _ _ => id) (by rfl) (by assumption) ?_ ?_
            rotate_left
            · (intro w hSw; (try dsimp only at hSw); go_simp)
              all_goals with_reducible rfl
            try simp only [Act.put, pL]
            refine tk 20 ?_ rfl (by kernel_rfl) (fun _ _ _ => id) (by rfl) (by assumption) ?_ ?_
            rotate_left
            · (intro w hSw; (try dsimp only at hSw); go_simp)
              all_goals with_reducible rfl
            try simp only [Act.put, pL]
            refine wpAnyH_done (by kernel_rfl) ?_ _
            all_goals skip
            all_goals
              clear hS12
              obtain ⟨uf21, a6, a7, a8, a9, aA, aB, aC, aD⟩ := (‹Dn w1 _ ∧ _› : _ ∧ _)
              obtain ⟨w22, rfl⟩ : ∃ w22 : World, w22 = wa := ⟨_, rfl⟩
              have aE := nlt l7 uf21.size
              clear l7
              have aF := nlt bl uf21.size
              clear bl
              replace hc := hc.dn uf21
              have vuf21 := uw1.trans uf21
              clear uf21 uw1 HShS12
              have HE2 := Lib.hid (HF.out.trans (chk_order HX.out (by omega) HQ.out HB.out ((order_prog HQK.out HXK.out).1 (.inl HO.out))))
              go_wp2_with fail
              go_ret
              exact ⟨ret1_i HE2.out.symm, vuf21⟩
    · obtain rfl : k = L.length := by omega
      have d1 : decide ((L.length : Int) < L.length) = false := by simp
      have hend := Lib.hid (HF.out.trans chk_end)
      go_wp2_with fail
      go_ret
      exact ⟨ret1_i hend.out.symm, hu⟩
def qc (x : Rq) : List Value := [.int .i8 x.a, .int .i64 x.b, .int .i8 x.c, .int .i64 x.d]
structure OwnQ (w : World) (base : Nat) (v : Value) (L : List Rq) : Prop where
 own : w.ownsRow base 30 4 v L.length (L.flatMap qc)
theorem OwnQ.nil (w : World) (base : Nat) : OwnQ w base (.slice none 0 0) [] := ⟨World.ownsRow_nil _ _ _ _⟩
theorem OwnQ.row {w : World} {base : Nat} {v : Value} {L : List Rq} (h : OwnQ w base v L) : ∀ k, v.ownBlock = some k → base ≤ k ∧ k < w.heap.size := fun k hk => h.own.lt k hk
theorem OwnQ.kept {w w' : World} {base : Nat} {v : Value} {L : List Rq} {row : Option Nat} (h : OwnQ w base v L) (hg : w.grownBy w' row) (hr : ∀ k, row = some k → k < base) : OwnQ w' base v L :=
 ⟨h.own.kept hg (by
  cases hv : v.ownBlock with
  | none => exact Or.inl rfl
  | some g =>
    right
    intro e
    have := (h.own.lt g hv).1
    have := hr g e.symm
    omega)⟩
theorem OwnQ.dn {w w' : World} {base : Nat} {v : Value} {L : List Rq} (h : OwnQ w base v L) (k : Dn w w') : OwnQ w' base v L := h.kept (grown_dn k none) (fun _ e => by cases e)
theorem OwnQ.base {w : World} {b c : Nat} {v : Value} {L : List Rq} (h : OwnQ w b v L) (k : c ≤ b) : OwnQ w c v L := by
 refine ⟨h.own.1, ?_⟩
 rcases h.own.2 with hn | ⟨g, cap, cur, hv, hbg, rest⟩
 · exact .inl hn
 · exact .inr ⟨g, cap, cur, hv, Nat.le_trans k hbg, rest⟩
theorem qc_get : ∀ (L : List Rq) (i j : Nat) (r : Rq), L[i]? = some r → j < 4 → (L.flatMap qc)[i * 4 + j]? = (qc r)[j]?
 | [], i, j, r, h, _ => by simp at h
 | x :: L, 0, j, r, h, hj => by
   simp at h
   subst h
   simp only [List.flatMap_cons]
   rw [List.getElem?_append_left (by simp [qc]; omega)]
   simp
 | x :: L, i + 1, j, r, h, hj => by
   have := qc_get L i j r (by simpa using h) hj
   simp only [List.flatMap_cons]
   rw [List.getElem?_append_right (by simp [qc]; omega)]
   have e : (i + 1) * 4 + j - (qc x).length = i * 4 + j := by simp [qc]; omega
   rw [e]; exact this
theorem qc_len (L : List Rq) : (L.flatMap qc).length = L.length * 4 := by
 induction L with
 | nil => rfl
 | cons x t ih => simp only [List.flatMap_cons, List.length_append, ih, List.length_cons]; simp [qc]; omega
theorem OwnQ.form {w : World} {base : Nat} {v : Value} {L : List Rq} (h : OwnQ w base v L) : (v = .slice none 0 0 ∧ L = []) ∨ ∃ g cap, v = .slice (some ⟨g, 0, none⟩) L.length cap ∧ base ≤ g ∧ L.length ≤ cap ∧ cap ≤ maxLen ∧ Cs w g 0 L := by
 rcases h.own.2 with ⟨rfl, h0⟩ | ⟨g, cap, cur, rfl, hb, hg, h1, h2, h3, h4⟩
 · exact .inl ⟨rfl, List.length_eq_zero_iff.1 h0⟩
 · refine .inr ⟨g, cap, rfl, hb, h1, h2, (Array.getElem?_eq_some_iff.1 hg).1, fun i r hi => ?_⟩
   have c : ∀ j u, (qc r)[j]? = some u → w.cell? ⟨g, i * 4 + j, none⟩ = some u := fun j u hu => by
     have hj : j < 4 := by
      rcases Nat.lt_or_ge j 4 with h | h
      · exact h
      · rw [List.getElem?_eq_none (by simp [qc]; omega)] at hu; cases hu
     have hl : i * 4 + j < L.length * 4 := by
      obtain ⟨hi', _⟩ := List.getElem?_eq_some_iff.1 hi
      omega
     rw [h.own.cellAt _ hl, qc_get L i j r hi hj]; exact hu
   refine ⟨?_, ?_, ?_, ?_⟩
   · simpa using c 0 _ rfl
   · simpa using c 1 _ rfl
   · simpa using c 2 _ rfl
   · simpa using c 3 _ rfl
theorem OwnQ.rowOf {w : World} {base : Nat} {v : Value} {L : List Rq} (h : OwnQ w base v L) : ∃ p cap, v = .slice p L.length cap ∧ L.length ≤ cap ∧ Row w p L := by
 rcases h.form with ⟨rfl, rfl⟩ | ⟨g, cap, rfl, _, h1, _, hc⟩
 · exact ⟨_, _, rfl, Nat.le_refl _, Row.nil _ _⟩
 · exact ⟨_, _, rfl, h1, hc.row⟩
abbrev qb (x : Rq) : Obj := .cells #[.int .i8 x.a, .int .i64 x.b, .int .i8 x.c, .int .i64 x.d] 30
theorem list_run {ops : Array Oper} {rest : List Oper} {o : Oper} {a : Act} {Q : Exit → Act → World → Prop} (hgd : o.guard = none) (s x : Operand)
   (ho : o.op = .call { callee := .builtin .append, args := #[s, x], argTypes := #[48, 48] }) (w : World) (base : Nat) (v : Value) (L : List Rq) (a0 b0 c0 d0 : Int) (hs : a.eval s = v) (hown : OwnQ w base v L)
   (hx : a.eval x = .slice (some ⟨w.heap.size, 0, none⟩) 1 1) (hl : L.length ≤ 1000000) (hb : base ≤ w.heap.size)
   (h : ∀ v' w', OwnQ w' base v' (L ++ [⟨a0, b0, c0, d0⟩]) → (∀ b, b < w.heap.size → (∀ k, v.ownBlock = some k → b ≠ k) → w'.heap[b]? = w.heap[b]?) → (∀ w0, Dn w0 w → base = w0.heap.size → Dn w0 w') → wpList Tryz.prog ops Q rest (a.put o.dst v') w') :
   wpList Tryz.prog ops Q (o :: rest) a (w.alloc (.cells #[.int .i8 a0, .int .i64 b0, .int .i8 c0, .int .i64 d0] 30)) := by
 obtain ⟨i0, hi, hz0, hz1, hz2⟩ := info_parts infoRun
 refine wpList_append_own (w.alloc (.cells #[.int .i8 a0, .int .i64 b0, .int .i8 c0, .int .i64 d0] 30)) hgd s x 48 ho base 30 i0 _ 4 32 Tryz.underlying48 hi hz0 hz1 hz2 rfl (by decide) v _ _ hs (hown.own.alloc _) ⟨w.heap.size, 0, none⟩ 1 1 (qc ⟨a0, b0, c0, d0⟩) hx rfl ?_ ?_ ?_ ?_ ?_ ?_
 · intro j u hj
   match j, hj with
   | 0, hj => simp [qc] at hj; subst hj; simp [Addr.add]
   | 1, hj => simp [qc] at hj; subst hj; simp [Addr.add]
   | 2, hj => simp [qc] at hj; subst hj; simp [Addr.add]
   | 3, hj => simp [qc] at hj; subst hj; simp [Addr.add]
   | n + 4, hj => simp [qc] at hj
 · intro u hu; simp [qc] at hu; rcases hu with rfl | rfl | rfl | rfl <;> rfl
 · unfold maxLen; omega
 · omega
 · simp; omega
 · intro v' w' k1 k2 _
   have hall : w.grownBy w' v.ownBlock := by
     have := World.grownBy_alloc w (.cells #[.int .i8 a0, .int .i64 b0, .int .i8 c0, .int .i64 d0] 30) v.ownBlock
     exact grown_trans this k2
   refine h v' w' ⟨?_⟩ ?_ ?_
   · simpa using k1
   · intro b hb1 hb2
     exact hall.block b hb1 (fun e => hb2 b e.symm rfl)
   · intro w0 hd e
     exact ⟨hd.below.trans ⟨hall.os, hall.tape, hall.output, hall.size, fun i hi => hall.block i (Nat.lt_of_lt_of_le hi hd.size) (fun e2 => by have := (hown.own.lt i e2.symm).1; omega)⟩⟩
theorem list_many {ops : Array Oper} {rest : List Oper} {o : Oper} {a : Act} {Q : Exit → Act → World → Prop} (hgd : o.guard = none) (s x : Operand)
   (ho : o.op = .call { callee := .builtin .append, args := #[s, x], argTypes := #[48, 48] }) (w : World) (base : Nat) (v : Value) (L M : List Rq) (g q cap : Nat) (hs : a.eval s = v) (hown : OwnQ w base v L)
   (hx : a.eval x = .slice (some ⟨g, q, none⟩) M.length cap) (hc : Cs w g q M) (hl : L.length + M.length ≤ 1000000) (hb : base ≤ w.heap.size)
   (h : ∀ v' w', OwnQ w' base v' (L ++ M) → (∀ b, b < w.heap.size → (∀ k, v.ownBlock = some k → b ≠ k) → w'.heap[b]? = w.heap[b]?) → (∀ w0, Dn w0 w → base = w0.heap.size → Dn w0 w') → wpList Tryz.prog ops Q rest (a.put o.dst v') w') :
   wpList Tryz.prog ops Q (o :: rest) a w := by
 obtain ⟨i0, hi, hz0, hz1, hz2⟩ := info_parts infoRun
 refine wpList_append_own w hgd s x 48 ho base 30 i0 _ 4 32 Tryz.underlying48 hi hz0 hz1 hz2 rfl (by decide) v _ _ hs hown.own ⟨g, q, none⟩ M.length cap (M.flatMap qc) hx (qc_len M) ?_ ?_ ?_ ?_ hb ?_
 · intro j u hj
   have hj2 : j < M.length * 4 := by
     obtain ⟨h1, _⟩ := List.getElem?_eq_some_iff.1 hj
     rw [qc_len] at h1; exact h1
   obtain ⟨i, t, ht, rfl⟩ : ∃ i t, t < 4 ∧ j = i * 4 + t := ⟨j / 4, j % 4, by omega, by omega⟩
   obtain ⟨r, hr⟩ : ∃ r, M[i]? = some r := ⟨M[i]'(by omega), by simp [show i < M.length by omega]⟩
   rw [qc_get M i t r hr ht] at hj
   obtain ⟨e0, e1, e2, e3⟩ := hc.el i r hr
   have hadd : (⟨g, q, none⟩ : Addr).add (i * 4 + t) = ⟨g, q + i * 4 + t, none⟩ := by unfold Addr.add; split <;> simp_all <;> omega
   rw [hadd]
   match t, hj with
   | 0, hj => simp [qc] at hj; subst hj; exact e0
   | 1, hj => simp [qc] at hj; subst hj; exact e1
   | 2, hj => simp [qc] at hj; subst hj; exact e2
   | 3, hj => simp [qc] at hj; subst hj; exact e3
   | n + 4, hj => simp [qc] at hj
 · intro u hu
   simp only [List.mem_flatMap] at hu
   obtain ⟨r, _, hu⟩ := hu
   simp [qc] at hu; rcases hu with rfl | rfl | rfl | rfl <;> rfl
 · unfold maxLen; omega
 · omega
 · intro v' w' k1 k2 _
   refine h v' w' ⟨?_⟩ ?_ ?_
   · simpa using k1
   · intro b hb1 hb2
     exact k2.block b hb1 (fun e => hb2 b e.symm rfl)
   · intro w0 hd e
     exact ⟨hd.below.trans ⟨k2.os, k2.tape, k2.output, k2.size, fun i hi => k2.block i (Nat.lt_of_lt_of_le hi hd.size) (fun e2 => by have := (hown.own.lt i e2.symm).1; omega)⟩⟩
theorem OwnQ.put {w : World} {base g cap n : Nat} {L : List Rq} (h : OwnQ w base (.slice (some ⟨g, 0, none⟩) n cap) L) (hn : n = L.length) {k : Nat} (hk : k < L.length) (x : Rq) :
  OwnQ ((((w.setCell ⟨g, k * 4, none⟩ (.int .i8 x.a)).setCell ⟨g, k * 4 + 1, none⟩ (.int .i64 x.b)).setCell ⟨g, k * 4 + 2, none⟩ (.int .i8 x.c)).setCell ⟨g, k * 4 + 3, none⟩ (.int .i64 x.d)) base (.slice (some ⟨g, 0, none⟩) n cap) (L.set k x) := by
 subst hn
 have h1 := (h.own.stored (k * 4) (.int .i8 x.a)).1
 have h2 := (h1.stored (k * 4 + 1) (.int .i64 x.b)).1
 have h3 := (h2.stored (k * 4 + 2) (.int .i8 x.c)).1
 have h4 := (h3.stored (k * 4 + 3) (.int .i64 x.d)).1
 have e : ((((L.flatMap qc).set (k * 4) (.int .i8 x.a)).set (k * 4 + 1) (.int .i64 x.b)).set (k * 4 + 2) (.int .i8 x.c)).set (k * 4 + 3) (.int .i64 x.d) = (L.set k x).flatMap qc := by
  clear h1 h2 h3 h4 h
  induction L generalizing k with
  | nil => simp at hk
  | cons y t ih =>
    cases k with
    | zero => simp [qc]
    | succ k =>
      have := ih (by simpa using hk) 
      rw [List.set_cons_succ, List.flatMap_cons, List.flatMap_cons, ← this]
      have l4 : (qc y).length = 4 := rfl
      have e0 : (k + 1) * 4 = 4 + k * 4 := by omega
      simp only [e0, Nat.add_assoc]
      rw [List.set_append_right _ _ (by omega), List.set_append_right _ _ (by omega), List.set_append_right _ _ (by omega), List.set_append_right _ _ (by omega)]
      simp only [l4, Nat.add_sub_cancel_left]
 refine ⟨?_⟩
 rw [← e]
 simpa using h4
theorem OwnQ.frozen {w : World} {base g cap n : Nat} {L : List Rq} (h : OwnQ w base (.slice (some ⟨g, 0, none⟩) n cap) L) (hn : n = L.length) (j : Nat) : w.frozen? ⟨g, j, none⟩ = false := by
 subst hn; exact h.own.frozenAt j
theorem take_at {l : List Rq} {k : Nat} {x : Rq} (h : l[k]? = some x) : l.take (k + 1) = l.take k ++ [x] := by
 rw [List.take_add_one, h]; rfl
theorem Cs.far4 {w : World} {g o B : Nat} {L : List Rq} (h : Cs w g o L) (hn : g ≠ B) (v0 v1 v2 v3 : Value) :
  Cs ((((w.setCell ⟨B, 0, none⟩ v0).setCell ⟨B, 1, none⟩ v1).setCell ⟨B, 2, none⟩ v2).setCell ⟨B, 3, none⟩ v3) g o L :=
 ⟨by simpa using h.lt, fun k x hx => by
  obtain ⟨h0, h1, h2, h3⟩ := h.el k x hx
  exact ⟨cell_far4 hn h0, cell_far4 hn h1, cell_far4 hn h2, cell_far4 hn h3⟩⟩
def lenOf : Value → Nat
 | .slice _ n _ => n
 | _ => 0
set_option maxHeartbeats 4000000
set_option maxRecDepth 100000
def bothL (a b : List Rq) : Int := if chkL a = 0 then chkL b else chkL a
def fin3 (c : Int) (M : List Rq) : Int := if c ≠ 0 then c else if 4096 < M.length then 3 else 0
def res3 (c : Int) (M : List Rq) : List Rq := if fin3 c M = 0 then M else []
def errL : List Rq → Int
 | [] => 0
 | x :: t => if rnErr x.a x.b x.c x.d ≠ 0 then rnErr x.a x.b x.c x.d else errL t
def ofE (L : List Rq) : Int := if 4096 < L.length then 3 else errL L
theorem err_at {L : List Rq} {k : Nat} {x : Rq} (h : L[k]? = some x) : errL (L.drop k) = if rnErr x.a x.b x.c x.d ≠ 0 then rnErr x.a x.b x.c x.d else errL (L.drop (k + 1)) := by
 obtain ⟨hl, rfl⟩ := List.getElem?_eq_some_iff.1 h
 rw [List.drop_eq_getElem_cons hl]; rfl
theorem err_bad {L : List Rq} {k : Nat} {x : Rq} (h : L[k]? = some x) (he : rnErr x.a x.b x.c x.d ≠ 0) : errL (L.drop k) = rnErr x.a x.b x.c x.d := by rw [err_at h, if_pos he]
theorem err_ok {L : List Rq} {k : Nat} {x : Rq} (h : L[k]? = some x) (he : rnErr x.a x.b x.c x.d = 0) : errL (L.drop k) = errL (L.drop (k + 1)) := by rw [err_at h, if_neg (by simpa using he)]
theorem err_end {L : List Rq} : errL (L.drop L.length) = 0 := by simp [errL]
theorem sep_i6 {L : List Rq} (h : ∀ x ∈ L, x.ok) : I6 L := fun x hx => ⟨(h x hx).1, (h x hx).2.1⟩
theorem chk_ok {L : List Rq} (hI : I6 L) (h : chkL L = 0) : Sep L := by
 unfold chkL at h
 split at h
 · cases h
 · exact chk_sep hI h
theorem fin3_big {M : List Rq} (h : 4096 < M.length) : fin3 0 M = 3 := by unfold fin3; rw [if_neg (by decide), if_pos h]
theorem fin3_small {M : List Rq} (h : ¬ 4096 < M.length) : fin3 0 M = 0 := by unfold fin3; rw [if_neg (by decide), if_neg h]
theorem res3_big {M : List Rq} (h : 4096 < M.length) : res3 0 M = [] := by unfold res3; rw [fin3_big h, if_neg (by decide)]
theorem res3_small {M : List Rq} (h : ¬ 4096 < M.length) : res3 0 M = M := by unfold res3; rw [fin3_small h, if_pos rfl]
theorem fin3_bad {c : Int} {M : List Rq} (h : c ≠ 0) : fin3 c M = c := by unfold fin3; rw [if_pos h]
theorem res3_bad {c : Int} {M : List Rq} (h : c ≠ 0) : res3 c M = [] := by unfold res3; rw [fin3_bad h, if_neg h]
theorem rownil (w : World) : Row w none [] := Row.nil _ _
theorem rsChecked (p : Option Addr) (cap : Nat) (a : List Rq) (q : Option Addr) (cap' : Nat) (b : List Rq) (w : World) (hl1 : a.length ≤ 1000000) (hI1 : I6 a) (hR1 : Row w p a) (hl2 : b.length ≤ 1000000) (hI2 : I6 b) (hR2 : Row w q b) :
   Calls Tryz.prog 93 #[.slice p a.length cap, .slice q b.length cap'] w fun ro w' => ro = .returned (.int .i64 (bothL a b)) ∧ Dn w w' := by
 have HA := Lib.hid (fun W (h : Dn w W) => rsCheck p cap a W hl1 hI1 (hR1.dn h))
 have HB := Lib.hid (fun W (h : Dn w W) => rsCheck q cap' b W hl2 hI2 (hR2.dn h))
 clear hI1 hI2 hR1 hR2
 unfold bothL
 by_cases h0 : chkL a = 0
 · rw [if_pos h0]
   rw [h0] at HA
   go_enter Tryz.func93, Tryz.ntmps93
   go_wp2_with fail
   refine (HA.out _ (Dn.refl _)).mono ?_
   rintro e w1 ⟨rfl, qw1⟩
   have uw1 := qw1
   clear qw1
   go_wp2_with fail
   refine (HB.out _ uw1).mono ?_
   rintro e w2 ⟨rfl, qw2⟩
   have uw2 := uw1.trans qw2
   clear qw2 uw1
   go_wp2_with fail
   go_ret
   exact ⟨rfl, uw2⟩
 · rw [if_neg h0]
   have d0 : (chkL a == 0) = false := by simpa using h0
   have d1 : (chkL a != 0) = true := by simpa using h0
   clear h0
   generalize chkL a = c at *
   go_enter Tryz.func93, Tryz.ntmps93
   go_wp2_with fail
   refine (HA.out _ (Dn.refl _)).mono ?_
   rintro e w1 ⟨rfl, qw1⟩
   have uw1 := qw1
   clear qw1
   go_wp2_with fail
   go_ret
   exact ⟨rfl, uw1⟩
theorem rsLimited (p : Option Addr) (cap : Nat) (M : List Rq) (w : World) (hcap : M.length ≤ cap) (hmx : cap ≤ 9223372036854775807) (hR : Row w p M) :
   Calls Tryz.prog 94 #[.slice p M.length cap] w fun ro w' => ∃ p' cap', ro = .returned (.tuple #[.slice p' (res3 0 M).length cap', .int .i64 (fin3 0 M)]) ∧ cap' = (res3 0 M).length ∧ Row w' p' (res3 0 M) ∧ Dn w w' := by
 by_cases h4 : 4096 < M.length
 · have d0 : decide ((M.length : Int) > 4096) = true := by simp; omega
   rw [fin3_big h4, res3_big h4]
   go_enter Tryz.func94, Tryz.ntmps94
   go_wp2_with fail
   go_ret2
   exact ⟨none, 0, rfl, rfl, rownil _, Dn.refl _⟩
 · have d0 : decide ((M.length : Int) > 4096) = false := by simp; omega
   have hcI : (M.length : Int) ≤ cap := by omega
   rw [fin3_small h4, res3_small h4]
   go_enter Tryz.func94, Tryz.ntmps94
   go_wp2_with fail
   go_ret2
   exact ⟨p, M.length, rfl, rfl, hR, Dn.refl _⟩
end Go.Proofs.YteodjglbpfmikaaGreatDoor
