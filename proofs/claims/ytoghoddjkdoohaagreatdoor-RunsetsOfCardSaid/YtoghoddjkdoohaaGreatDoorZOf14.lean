/- Walks and laws that the claim's theorem leans on: part 14. -/
import Derived.Test.YtoghoddjkdoohaaGreatDoorZOf1
import Derived.Test.YtoghoddjkdoohaaGreatDoorZOf9
import Derived.Test.YtoghoddjkdoohaaGreatDoorZOf12
namespace Go.Proofs.YtoghoddjkdoohaaGreatDoor
set_option maxHeartbeats 4000000
set_option maxRecDepth 100000
open Go.RowKit
set_option linter.unusedVariables false
set_option linter.unusedSimpArgs false
theorem kdSE_4 {W w1 w2 : World} {a0 a1 a2 a3 : Addr} {v0 v1 v2 v3 : Value} (k : Dn w1 w2) (h : Dn W w1 ∧ w1.cell? a0 = some v0 ∧ w1.cell? a1 = some v1 ∧ w1.cell? a2 = some v2 ∧ w1.cell? a3 = some v3) :
  Dn W w2 ∧ w2.cell? a0 = some v0 ∧ w2.cell? a1 = some v1 ∧ w2.cell? a2 = some v2 ∧ w2.cell? a3 = some v3 := by
 obtain ⟨h1, c0, c1, c2, c3⟩ := h
 exact ⟨h1.trans k, k.cell c0, k.cell c1, k.cell c2, k.cell c3⟩
theorem kdSE_8 {W w1 w2 : World} {a0 a1 a2 a3 a4 a5 a6 a7 : Addr} {v0 v1 v2 v3 v4 v5 v6 v7 : Value} (k : Dn w1 w2) (h : Dn W w1 ∧ w1.cell? a0 = some v0 ∧ w1.cell? a1 = some v1 ∧ w1.cell? a2 = some v2 ∧ w1.cell? a3 = some v3 ∧ w1.cell? a4 = some v4 ∧ w1.cell? a5 = some v5 ∧ w1.cell? a6 = some v6 ∧ w1.cell? a7 = some v7) :
  Dn W w2 ∧ w2.cell? a0 = some v0 ∧ w2.cell? a1 = some v1 ∧ w2.cell? a2 = some v2 ∧ w2.cell? a3 = some v3 ∧ w2.cell? a4 = some v4 ∧ w2.cell? a5 = some v5 ∧ w2.cell? a6 = some v6 ∧ w2.cell? a7 = some v7 := by
 obtain ⟨h1, c0, c1, c2, c3, c4, c5, c6, c7⟩ := h
 exact ⟨h1.trans k, k.cell c0, k.cell c1, k.cell c2, k.cell c3, k.cell c4, k.cell c5, k.cell c6, k.cell c7⟩
theorem rfCheck (p : Option Addr) (cap : Nat) (L : List Rq) (w : World) (hl : L.length ≤ 1000000) (hI : I6 L) (hR : Row w p L) :
    Calls Tryz.prog 15 #[.slice p L.length cap] w fun ro w' => ro = .returned (.int .i64 (chkL L)) ∧ Dn w w' := by
  have HI := Lib.hid hI
  clear hI
  by_cases h4 : 4096 < L.length
  · have d0 : decide ((L.length : Int) > 4096) = true := by simp; omega
    have e0 : chkL L = 3 := by unfold chkL; rw [if_pos h4]
    rw [e0]
    go_enter Tryz.func15, Tryz.ntmps15
    go_wp2_with fail
    go_ret
    exact ⟨rfl, Dn.refl _⟩
  have d0 : decide ((L.length : Int) > 4096) = false := by simp; omega
  have e0 : chkL L = chkFrom (prv L 0) (L.drop 0) := by unfold chkL; rw [if_neg h4]; rfl
  rw [e0]
  have HE := Lib.hid e0
  clear e0
  go_enter Tryz.func15, Tryz.ntmps15
  go_wp2_with fail
  go_loopw [2, 3] (fun rv i wr => rv = .int .i64 0 ∧ ∃ k : Nat, k ≤ L.length ∧ i = .int .i64 k ∧ chkFrom (prv L 0) (L.drop 0) = chkFrom (prv L k) (L.drop k) ∧ OkTo L k ∧ Row wr p L ∧ Dn w wr) (fun _ i _ => L.length - (intOf i).toNat)
  case atStart => exact ⟨rfl, 0, by omega, rfl, rfl, OkTo.zero _, hR, Dn.refl _⟩
  case round =>
    obtain ⟨rfl, k, hk, rfl, he, hok, hr, hu⟩ := hrel
    have HOK := Lib.hid hok
    have HF := Lib.hid he
    clear he hok
    by_cases hlt : k < L.length
    · have d1 : decide ((k : Int) < L.length) = true := by simp; omega
      obtain ⟨x, hx⟩ : ∃ x, L[k]? = some x := ⟨L[k], by simp [hlt]⟩
      obtain ⟨g, o, rfl, hc⟩ := hr.cs (by omega)
      clear hr
      have HX := Lib.hid hx
      have hA : Hid (∀ W, Calls Tryz.prog 44 #[.agg #[.int .i8 x.a, .int .i64 x.b, .int .i8 x.c, .int .i64 x.d]] W fun e w' => e = .returned (.int .i64 (rnErr x.a x.b x.c x.d)) ∧ Dn W w') := Lib.hid (rfChk x.a x.b x.c x.d)
      obtain ⟨a0, a1, a2, a3⟩ := hc.el _ _ hx
      clear hx
      by_cases hb : rnErr x.a x.b x.c x.d = 0
      rotate_left
      · have cb : (rnErr x.a x.b x.c x.d != 0) = true := by simpa using hb
        have HB := Lib.hid hb
        clear hb
        go_wp2_with fail
        refine (hA.out _).mono ?_
        rintro e w1 ⟨rfl, qw1⟩
        replace hc := hc.dn qw1
        have uw1 := hu.trans qw1
        clear qw1 hu
        clear a0 a1 a2 a3
        have HE2 := Lib.hid (HF.out.trans (chk_bad HX.out HB.out))
        go_wp2_with fail
        go_ret
        exact ⟨ret1_i HE2.out.symm, uw1⟩
      · have HB := Lib.hid hb
        rw [hb] at hA
        clear hb
        rcases Nat.eq_zero_or_pos k with hk0' | hk0
        · have d2 : decide (0 < k) = false := by rw [decide_eq_false_iff_not]; omega
          have hk0 := Lib.hid hk0'
          clear hk0'
          go_wp2_with fail
          refine (hA.out _).mono ?_
          rintro e w1 ⟨rfl, qw1⟩
          replace hc := hc.dn qw1
          have uw1 := hu.trans qw1
          clear qw1 hu
          clear a0 a1 a2 a3
          go_wp2_with fail
          obtain ⟨x0, x1, x2, x3⟩ := hc.el _ _ HX.out
          have xl := hc.lt
          have hS1 := kdSE_4 (W := w1) (Dn.refl _) ⟨Dn.refl _, x0, x1, x2, x3⟩
          have HShS1 := Lib.hid hS1
          clear x0 x1 x2 x3
          refine wp_region_held_drew (S := fun w' => Dn w1 w' ∧ w'.cell? ⟨g, o + k * 4, none⟩ = some (.int .i8 x.a) ∧ w'.cell? ⟨g, o + k * 4 + 1, none⟩ = some (.int .i64 x.b) ∧ w'.cell? ⟨g, o + k * 4 + 2, none⟩ = some (.int .i8 x.c) ∧ w'.cell? ⟨g, o + k * 4 + 3, none⟩ = some (.int .i64 x.d)) (by kernel_rfl) ?_ (fun hHeld => ?_)
          · (try dsimp only); (first | exact kdSE_4 ((Dn.refl _).drew) hS1 | exact kdSE_4 ‹Dn _ _› ‹_› | exact kdSE_4 (Up.dn ‹Up _ _›) ‹_› | assumption | exact kdSE_4 ((Dn.refl _).alloc _) ‹_›)
          refine tk 0 ?_ rfl (by kernel_rfl) (fun _ _ _ => id) (by rfl) (by assumption) ?_ ?_
          rotate_left
          · (intro w hSw; (try dsimp only at hSw); go_simp)
            all_goals with_reducible rfl
          try simp only [Act.put, pL]
          refine tk 1 ?_ rfl (by kernel_rfl) (fun _ _ _ => id) (by rfl) (by assumption) ?_ ?_
          rotate_left
          · (intro w hSw; (try dsimp only at hSw); go_simp)
            all_goals with_reducible rfl
          try simp only [Act.put, pL]
          refine tk 2 ?_ rfl (by kernel_rfl) (fun _ _ _ => id) (by rfl) (by assumption) ?_ ?_
          rotate_left
          · (intro w hSw; (try dsimp only at hSw); go_simp)
            all_goals with_reducible rfl
          try simp only [Act.put, pL]
          refine tu 3 rfl (by kernel_rfl) (fun _ _ _ => id) (by rfl) (by assumption) ?_
          try simp only [Act.put, pL]
          refine tu 4 rfl (by kernel_rfl) (fun _ _ _ => id) (by rfl) (by assumption) ?_
          try simp only [Act.put, pL]
          refine tu 5 rfl (by kernel_rfl) (fun _ _ _ => id) (by rfl) (by assumption) ?_
          try simp only [Act.put, pL]
          refine tu 6 rfl (by kernel_rfl) (fun _ _ _ => id) (by rfl) (by assumption) ?_
          try simp only [Act.put, pL]
          refine tu 7 rfl (by kernel_rfl) (fun _ _ _ => id) (by rfl) (by assumption) ?_
          try simp only [Act.put, pL]
          refine tu 8 rfl (by kernel_rfl) (fun _ _ _ => id) (by rfl) (by assumption) ?_
          try simp only [Act.put, pL]
          refine tu 9 rfl (by kernel_rfl) (fun _ _ _ => id) (by rfl) (by assumption) ?_
          try simp only [Act.put, pL]
          refine tu 10 rfl (by kernel_rfl) (fun _ _ _ => id) (by rfl) (by assumption) ?_
          try simp only [Act.put, pL]
          refine tu 11 rfl (by kernel_rfl) (fun _ _ _ => id) (by rfl) (by assumption) ?_
          try simp only [Act.put, pL]
          refine tu 12 rfl (by kernel_rfl) (fun _ _ _ => id) (by rfl) (by assumption) ?_
          try simp only [Act.put, pL]
          refine tu 13 rfl (by kernel_rfl) (fun _ _ _ => id) (by rfl) (by assumption) ?_
          try simp only [Act.put, pL]
          refine tu 14 rfl (by kernel_rfl) (fun _ _ _ => id) (by rfl) (by assumption) ?_
          try simp only [Act.put, pL]
          refine tu 15 rfl (by kernel_rfl) (fun _ _ _ => id) (by rfl) (by assumption) ?_
          try simp only [Act.put, pL]
          refine tu 16 rfl (by kernel_rfl) (fun _ _ _ => id) (by rfl) (by assumption) ?_
          try simp only [Act.put, pL]
          refine tu 17 rfl (by kernel_rfl) (fun _ _ _ => id) (by rfl) (by assumption) ?_
          try simp only [Act.put, pL]
          refine tu 18 rfl (by kernel_rfl) (fun _ _ _ => id) (by rfl) (by assumption) ?_
          try simp only [Act.put, pL]
          refine tu 19 rfl (by kernel_rfl) (fun _ _ _ => id) (by rfl) (by assumption) ?_
          try simp only [Act.put, pL]
          refine tu 20 rfl (by kernel_rfl) (fun _ _ _ => id) (by rfl) (by assumption) ?_
          try simp only [Act.put, pL]
          refine tu 21 rfl (by kernel_rfl) (fun _ _ _ => id) (by rfl) (by assumption) ?_
          try simp only [Act.put, pL]
          refine tu 22 rfl (by kernel_rfl) (fun _ _ _ => id) (by rfl) (by assumption) ?_
          try simp only [Act.put, pL]
          refine tu 23 rfl (by kernel_rfl) (fun _ _ _ => id) (by rfl) (by assumption) ?_
          try simp only [Act.put, pL]
          refine tu 24 rfl (by kernel_rfl) (fun _ _ _ => id) (by rfl) (by assumption) ?_
          try simp only [Act.put, pL]
          refine tu 25 rfl (by kernel_rfl) (fun _ _ _ => id) (by rfl) (by assumption) ?_
          try simp only [Act.put, pL]
          refine tu 26 rfl (by kernel_rfl) (fun _ _ _ => id) (by rfl) (by assumption) ?_
          try simp only [Act.put, pL]
          refine tu 27 rfl (by kernel_rfl) (fun _ _ _ => id) (by rfl) (by assumption) ?_
          try simp only [Act.put, pL]
          refine tk 28 ?_ rfl (by kernel_rfl) (fun _ _ _ => id) (by rfl) (by assumption) ?_ ?_
          rotate_left
          · (intro w hSw; (try dsimp only at hSw); go_simp)
            all_goals with_reducible rfl
          try simp only [Act.put, pL]
          refine wpAnyH_done (by kernel_rfl) ?_ _
          all_goals skip
          all_goals
            clear hS1
            obtain ⟨uf6, c2, c3, c4, c5⟩ := (‹Dn w1 _ ∧ _› : _ ∧ _)
            have l7 := nlt xl uf6.size
            clear xl
            replace hc := hc.dn uf6
            have vuf6 := uw1.trans uf6
            clear uf6 uw1 HShS1
            go_wp2_with fail
            go_roundw
            case rel => exact ⟨rfl, k + 1, by omega, by simp, by rw [HF.out]; exact chk_first HX.out hk0.out HB.out, HOK.out.step HX.out ((rq_err (HI.out.at HX.out).1 (HI.out.at HX.out).2).1 HB.out), hc.row, vuf6⟩
            case measure => simp [intOf]; omega
        · obtain ⟨m, rfl⟩ : ∃ m, k = m + 1 := ⟨k - 1, by omega⟩
          have d2 : decide (0 < (m : Int) + 1) = true := by rw [decide_eq_true_iff]; omega
          have hwm : IntKind.i64.wrap (m : Int) = m := IntWalk.i64_in _ (by omega)
          have hmL : (m : Int) < L.length := by omega
          have hm0 : (0 : Int) ≤ (m : Int) + 1 := by omega
          obtain ⟨q, hq⟩ : ∃ q, L[m]? = some q := ⟨L[m], by simp [show m < L.length by omega]⟩
          have HQ := Lib.hid hq
          clear hq
          have i1 := HI.out.at HX.out
          have i2 := HI.out.at HQ.out
          have hC := Lib.hid (fun W => rCmp8 q.c q.d x.a x.b W)
          have HXK : Hid x.ok := Lib.hid ((rq_err i1.1 i1.2).1 HB.out)
          have HQK : Hid q.ok := Lib.hid (HOK.out _ _ HQ.out (by omega))
          have hT := Lib.hid (fun W => rfTouch q.a q.b q.c q.d x.a x.b x.c x.d W i2.1 i2.2 i1.1 i1.2 HQK.out.2.2 HXK.out.2.2)
          have hL : Hid (0 ≤ eC q.c q.d x.a x.b ↔ x.lo ≤ q.hi) := Lib.hid (by have := eC_lt (i := q.c) (j := x.a) i2.2 i1.1; unfold Rq.lo Rq.hi; omega)
          have hti := Lib.hid (tch_iff i2 i1)
          clear i1 i2 hk0
          by_cases hcmp : 0 ≤ eC q.c q.d x.a x.b
          rotate_left
          by_cases htch : Tch q.a q.b q.c q.d x.a x.b x.c x.d
          · have d3 : decide (0 ≤ eC q.c q.d x.a x.b) = false := by simpa using hcmp
            have HO := Lib.hid (fun h => hcmp (hL.out.2 h))
            have HTT := Lib.hid (hti.out.1 htch)
            rw [decide_eq_true htch] at hT
            clear hcmp htch hL hti
            generalize eC q.c q.d x.a x.b = n at *
            go_wp2_with fail
            refine (hA.out _).mono ?_
            rintro e w1 ⟨rfl, qw1⟩
            replace hc := hc.dn qw1
            have uw1 := hu.trans qw1
            clear qw1 hu
            clear a0 a1 a2 a3
            go_wp2_with fail
            obtain ⟨b0, b1, b2, b3⟩ := hc.el _ _ HQ.out
            have bl := hc.lt
            obtain ⟨a0, a1, a2, a3⟩ := hc.el _ _ HX.out
            have al := hc.lt
            have hS1 := kdSE_8 (W := w1) (Dn.refl _) ⟨Dn.refl _, b0, b1, b2, b3, a0, a1, a2, a3⟩
            have HShS1 := Lib.hid hS1
            clear b0 b1 b2 b3 a0 a1 a2 a3
            refine wp_region_held_drew (S := fun w' => Dn w1 w' ∧ w'.cell? ⟨g, o + m * 4, none⟩ = some (.int .i8 q.a) ∧ w'.cell? ⟨g, o + m * 4 + 1, none⟩ = some (.int .i64 q.b) ∧ w'.cell? ⟨g, o + m * 4 + 2, none⟩ = some (.int .i8 q.c) ∧ w'.cell? ⟨g, o + m * 4 + 3, none⟩ = some (.int .i64 q.d) ∧ w'.cell? ⟨g, o + (m + 1) * 4, none⟩ = some (.int .i8 x.a) ∧ w'.cell? ⟨g, o + (m + 1) * 4 + 1, none⟩ = some (.int .i64 x.b) ∧ w'.cell? ⟨g, o + (m + 1) * 4 + 2, none⟩ = some (.int .i8 x.c) ∧ w'.cell? ⟨g, o + (m + 1) * 4 + 3, none⟩ = some (.int .i64 x.d)) (by kernel_rfl) ?_ (fun hHeld => ?_)
            · (try dsimp only); (first | exact kdSE_8 ((Dn.refl _).drew) hS1 | exact kdSE_8 ‹Dn _ _› ‹_› | exact kdSE_8 (Up.dn ‹Up _ _›) ‹_› | assumption | exact kdSE_8 ((Dn.refl _).alloc _) ‹_›)
            refine tk 0 ?_ rfl (by kernel_rfl) (fun _ _ _ => id) (by rfl) (by assumption) ?_ ?_
            rotate_left
            · (intro w hSw; (try dsimp only at hSw); go_simp)
              all_goals with_reducible rfl
            try simp only [Act.put, pL]
            refine tk 1 ?_ rfl (by kernel_rfl) (fun _ _ _ => id) (by rfl) (by assumption) ?_ ?_
            rotate_left
            · (intro w hSw; (try dsimp only at hSw); go_simp)
              all_goals with_reducible rfl
            try simp only [Act.put, pL]
            refine tk 2 ?_ rfl (by kernel_rfl) (fun _ _ _ => id) (by rfl) (by assumption) ?_ ?_
            rotate_left
            · (intro w hSw; (try dsimp only at hSw); go_simp)
              all_goals with_reducible rfl
            try simp only [Act.put, pL]
            refine tk 3 ?_ rfl (by kernel_rfl) (fun _ _ _ => id) (by rfl) (by assumption) ?_ ?_
            rotate_left
            · (intro w hSw; (try dsimp only at hSw); go_simp)
              all_goals with_reducible rfl
            try simp only [Act.put, pL]
            refine tk 4 ?_ rfl (by kernel_rfl) (fun _ _ _ => id) (by rfl) (by assumption) ?_ ?_
            rotate_left
            · (intro w hSw; (try dsimp only at hSw); go_simp)
              all_goals with_reducible rfl
            try simp only [Act.put, pL]
            refine tk 5 ?_ rfl (by kernel_rfl) (fun _ _ _ => id) (by rfl) (by assumption) ?_ ?_
            rotate_left
            · (intro w hSw; (try dsimp only at hSw); go_simp)
              all_goals with_reducible rfl
            try simp only [Act.put, pL]
            refine tk 6 ?_ rfl (by kernel_rfl) (fun _ _ _ => id) (by rfl) (by assumption) ?_ ?_
            rotate_left
            · (intro w hSw; (try dsimp only at hSw); go_simp)
              all_goals with_reducible rfl
            try simp only [Act.put, pL]
            refine tk 7 ?_ rfl (by kernel_rfl) (fun _ _ _ => id) (by rfl) (by assumption) ?_ ?_
            rotate_left
            · (intro w hSw; (try dsimp only at hSw); go_simp)
              all_goals with_reducible rfl
            try simp only [Act.put, pL]
            refine tk 8 ?_ rfl (by kernel_rfl) (fun _ _ _ => id) (by rfl) (by assumption) ?_ ?_
            rotate_left
            · (intro w hSw; (try dsimp only at hSw); go_simp)
              all_goals with_reducible rfl
            try simp only [Act.put, pL]
            refine tk 9 ?_ rfl (by kernel_rfl) (fun _ _ _ => id) (by rfl) (by assumption) ?_ ?_
            rotate_left
            · (intro w hSw; (try dsimp only at hSw); go_simp)
              all_goals with_reducible rfl
            try simp only [Act.put, pL]
            refine tk 10 ?_ rfl (by kernel_rfl) (fun _ _ _ => id) (by rfl) (by assumption) ?_ ?_
            rotate_left
            · (intro w hSw; (try dsimp only at hSw); go_simp)
              all_goals with_reducible rfl
            try simp only [Act.put, pL]
            refine tk 11 ?_ rfl (by kernel_rfl) (fun _ _ _ => id) (by rfl) (by assumption) ?_ ?_
            rotate_left
            · (intro w hSw; (try dsimp only at hSw); go_simp)
              all_goals with_reducible rfl
            try simp only [Act.put, pL]
            refine tk 12 ?_ rfl (by kernel_rfl) (fun _ _ _ => id) (by rfl) (by assumption) ?_ ?_
            rotate_left
            · (intro w hSw; (try dsimp only at hSw); go_simp)
              all_goals with_reducible rfl
            try simp only [Act.put, pL]
            refine tk 13 ?_ rfl (by kernel_rfl) (fun _ _ _ => id) (by rfl) (by assumption) ?_ ?_
            rotate_left
            · (intro w hSw; (try dsimp only at hSw); go_simp)
              all_goals with_reducible rfl
            try simp only [Act.put, pL]
            refine wpAnyH_ready (rs := [14]) (by kernel_rfl) (by simp) ?_
            refine AllReadyH.cons rfl (fun K hK => ?_) AllReadyH.nil
            go_simp
            (first
                | (go_at_call 48; refine (hC.out _).mono ?_; rintro e wa ⟨rfl, qa⟩; replace qa := Up.dn qa)
                | (go_at_call 49; refine (hT.out _).mono ?_; rintro e wa ⟨rfl, qa⟩))
            try go_wp2_with fail
            refine hK.out _ _ ?_ (fun hHeld => ?_)
            · (try dsimp only); (first | exact kdSE_8 ((Dn.refl _).drew) hS1 | exact kdSE_8 ‹Dn _ _› ‹_› | exact kdSE_8 (Up.dn ‹Up _ _›) ‹_› | assumption | exact kdSE_8 ((Dn.refl _).alloc _) ‹_›)
            clear hK K
            try simp only [Act.put, pL]
            refine tk 15 ?_ rfl (by kernel_rfl) (fun _ _ _ => id) (by rfl) (by assumption) ?_ ?_
            rotate_left
            · (intro w hSw; (try dsimp only at hSw); go_simp)
              all_goals with_reducible rfl
            try simp only [Act.put, pL]
            refine tk 16 ?_ rfl (by kernel_rfl) (fun _ _ _ => id) (by rfl) (by assumption) ?_ ?_
            rotate_left
            · (intro w hSw; (try dsimp only at hSw); go_simp)
              all_goals with_reducible rfl
            try simp only [Act.put, pL]
            refine tk 17 ?_ rfl (by kernel_rfl) (fun _ _ _ => id) (by rfl) (by assumption) ?_ ?_
            rotate_left
            · (intro w hSw; (try dsimp only at hSw); go_simp)
              all_goals with_reducible rfl
            try simp only [Act.put, pL]
            refine tk 18 ?_ rfl (by kernel_rfl) (fun _ _ _ => id) (by rfl) (by assumption) ?_ ?_
            rotate_left
            · (intro w hSw; (try dsimp only at hSw); go_simp)
              all_goals with_reducible rfl
            try simp only [Act.put, pL]
            refine tk 19 ?_ rfl (by kernel_rfl) (fun _ _ _ => id) (by rfl) (by assumption) ?_ ?_
            rotate_left
            · (intro w hSw; (try dsimp only at hSw); go_simp)
              all_goals with_reducible rfl
            try simp only [Act.put, pL]
            refine tk 20 ?_ rfl (by kernel_rfl) (fun _ _ _ => id) (by rfl) (by assumption) ?_ ?_
            rotate_left
            · (intro w hSw; (try dsimp only at hSw); go_simp)
              all_goals with_reducible rfl
            try simp only [Act.put, pL]
            refine tk 21 ?_ rfl (by kernel_rfl) (fun _ _ _ => id) (by rfl) (by assumption) ?_ ?_
            rotate_left
            · (intro w hSw; (try dsimp only at hSw); go_simp)
              all_goals with_reducible rfl
            try simp only [Act.put, pL]
            refine tk 22 ?_ rfl (by kernel_rfl) (fun _ _ _ => id) (by rfl) (by assumption) ?_ ?_
            rotate_left
            · (intro w hSw; (try dsimp only at hSw); go_simp)
              all_goals with_reducible rfl
            try simp only [Act.put, pL]
            refine tk 23 ?_ rfl (by kernel_rfl) (fun _ _ _ => id) (by rfl) (by assumption) ?_ ?_
            rotate_left
            · (intro w hSw; (try dsimp only at hSw); go_simp)
              all_goals with_reducible rfl
            try simp only [Act.put, pL]
            refine tk 24 ?_ rfl (by kernel_rfl) (fun _ _ _ => id) (by rfl) (by assumption) ?_ ?_
            rotate_left
            · (intro w hSw; (try dsimp only at hSw); go_simp)
              all_goals with_reducible rfl
            try simp only [Act.put, pL]
            refine tk 25 ?_ rfl (by kernel_rfl) (fun _ _ _ => id) (by rfl) (by assumption) ?_ ?_
            rotate_left
            · (intro w hSw; (try dsimp only at hSw); go_simp)
              all_goals with_reducible rfl
            try simp only [Act.put, pL]
            refine wpAnyH_ready (rs := [26]) (by kernel_rfl) (by simp) ?_
            refine AllReadyH.cons rfl (fun K hK => ?_) AllReadyH.nil
            go_simp
            (first
                | (go_at_call 48; refine (hC.out _).mono ?_; rintro e wa ⟨rfl, qa⟩; replace qa := Up.dn qa)
                | (go_at_call 49; refine (hT.out _).mono ?_; rintro e wa ⟨rfl, qa⟩))
            try go_wp2_with fail
            refine hK.out _ _ ?_ (fun hHeld => ?_)
            · (try dsimp only); (first | exact kdSE_8 ((Dn.refl _).drew) hS1 | exact kdSE_8 ‹Dn _ _› ‹_› | exact kdSE_8 (Up.dn ‹Up _ _›) ‹_› | assumption | exact kdSE_8 ((Dn.refl _).alloc _) ‹_›)
            clear hK K
            try simp only [Act.put, pL]
            refine tk 27 ?_ rfl (by kernel_rfl) (fun _ _ _ => id) (by rfl) (by assumption) ?_ ?_
            rotate_left
            · (intro w hSw; (try dsimp only at hSw); go_simp)
              all_goals with_reducible rfl
            try simp only [Act.put, pL]
            refine tk 28 ?_ rfl (by kernel_rfl) (fun _ _ _ => id) (by rfl) (by assumption) ?_ ?_
            rotate_left
            · (intro w hSw; (try dsimp only at hSw); go_simp)
              all_goals with_reducible rfl
            try simp only [Act.put, pL]
            refine wpAnyH_done (by kernel_rfl) ?_ _
            all_goals skip
            all_goals
              clear hS1
              obtain ⟨uf10, c2, c3, c4, c5, c6, c7, c8, c9⟩ := (‹Dn w1 _ ∧ _› : _ ∧ _)
              obtain ⟨w11, rfl⟩ : ∃ w11 : World, w11 = wa := ⟨_, rfl⟩
              have l12 := nlt bl uf10.size
              clear bl
              have l13 := nlt al uf10.size
              clear al
              replace hc := hc.dn uf10
              have vuf10 := uw1.trans uf10
              clear uf10 uw1 HShS1
              have HE2 := Lib.hid (HF.out.trans (chk_order HX.out (by omega) HQ.out HB.out ((order_ref HQK.out HXK.out).1 (.inr HTT.out))))
              go_wp2_with fail
              go_ret
              exact ⟨ret1_i HE2.out.symm, vuf10⟩
          · have d3 : decide (0 ≤ eC q.c q.d x.a x.b) = false := by simpa using hcmp
            have HO := Lib.hid (fun h => hcmp (hL.out.2 h))
            have HTT := Lib.hid (fun h => htch (hti.out.2 h))
            rw [decide_eq_false htch] at hT
            clear hcmp htch hL hti
            generalize eC q.c q.d x.a x.b = n at *
            go_wp2_with fail
            refine (hA.out _).mono ?_
            rintro e w1 ⟨rfl, qw1⟩
            replace hc := hc.dn qw1
            have uw1 := hu.trans qw1
            clear qw1 hu
            clear a0 a1 a2 a3
            go_wp2_with fail
            obtain ⟨b0, b1, b2, b3⟩ := hc.el _ _ HQ.out
            have bl := hc.lt
            obtain ⟨a0, a1, a2, a3⟩ := hc.el _ _ HX.out
            have al := hc.lt
            have hS1 := kdSE_8 (W := w1) (Dn.refl _) ⟨Dn.refl _, b0, b1, b2, b3, a0, a1, a2, a3⟩
            have HShS1 := Lib.hid hS1
            clear b0 b1 b2 b3 a0 a1 a2 a3
            refine wp_region_held_drew (S := fun w' => Dn w1 w' ∧ w'.cell? ⟨g, o + m * 4, none⟩ = some (.int .i8 q.a) ∧ w'.cell? ⟨g, o + m * 4 + 1, none⟩ = some (.int .i64 q.b) ∧ w'.cell? ⟨g, o + m * 4 + 2, none⟩ = some (.int .i8 q.c) ∧ w'.cell? ⟨g, o + m * 4 + 3, none⟩ = some (.int .i64 q.d) ∧ w'.cell? ⟨g, o + (m + 1) * 4, none⟩ = some (.int .i8 x.a) ∧ w'.cell? ⟨g, o + (m + 1) * 4 + 1, none⟩ = some (.int .i64 x.b) ∧ w'.cell? ⟨g, o + (m + 1) * 4 + 2, none⟩ = some (.int .i8 x.c) ∧ w'.cell? ⟨g, o + (m + 1) * 4 + 3, none⟩ = some (.int .i64 x.d)) (by kernel_rfl) ?_ (fun hHeld => ?_)
            · (try dsimp only); (first | exact kdSE_8 ((Dn.refl _).drew) hS1 | exact kdSE_8 ‹Dn _ _› ‹_› | exact kdSE_8 (Up.dn ‹Up _ _›) ‹_› | assumption | exact kdSE_8 ((Dn.refl _).alloc _) ‹_›)
            refine tk 0 ?_ rfl (by kernel_rfl) (fun _ _ _ => id) (by rfl) (by assumption) ?_ ?_
            rotate_left
            · (intro w hSw; (try dsimp only at hSw); go_simp)
              all_goals with_reducible rfl
            try simp only [Act.put, pL]
            refine tk 1 ?_ rfl (by kernel_rfl) (fun _ _ _ => id) (by rfl) (by assumption) ?_ ?_
            rotate_left
            · (intro w hSw; (try dsimp only at hSw); go_simp)
              all_goals with_reducible rfl
            try simp only [Act.put, pL]
            refine tk 2 ?_ rfl (by kernel_rfl) (fun _ _ _ => id) (by rfl) (by assumption) ?_ ?_
            rotate_left
            · (intro w hSw; (try dsimp only at hSw); go_simp)
              all_goals with_reducible rfl
            try simp only [Act.put, pL]
            refine tk 3 ?_ rfl (by kernel_rfl) (fun _ _ _ => id) (by rfl) (by assumption) ?_ ?_
            rotate_left
            · (intro w hSw; (try dsimp only at hSw); go_simp)
              all_goals with_reducible rfl
            try simp only [Act.put, pL]
            refine tk 4 ?_ rfl (by kernel_rfl) (fun _ _ _ => id) (by rfl) (by assumption) ?_ ?_
            rotate_left
            · (intro w hSw; (try dsimp only at hSw); go_simp)
              all_goals with_reducible rfl
            try simp only [Act.put, pL]
            refine tk 5 ?_ rfl (by kernel_rfl) (fun _ _ _ => id) (by rfl) (by assumption) ?_ ?_
            rotate_left
            · (intro w hSw; (try dsimp only at hSw); go_simp)
              all_goals with_reducible rfl
            try simp only [Act.put, pL]
            refine tk 6 ?_ rfl (by kernel_rfl) (fun _ _ _ => id) (by rfl) (by assumption) ?_ ?_
            rotate_left
            · (intro w hSw; (try dsimp only at hSw); go_simp)
              all_goals with_reducible rfl
            try simp only [Act.put, pL]
            refine tk 7 ?_ rfl (by kernel_rfl) (fun _ _ _ => id) (by rfl) (by assumption) ?_ ?_
            rotate_left
            · (intro w hSw; (try dsimp only at hSw); go_simp)
              all_goals with_reducible rfl
            try simp only [Act.put, pL]
            refine tk 8 ?_ rfl (by kernel_rfl) (fun _ _ _ => id) (by rfl) (by assumption) ?_ ?_
            rotate_left
            · (intro w hSw; (try dsimp only at hSw); go_simp)
              all_goals with_reducible rfl
            try simp only [Act.put, pL]
            refine tk 9 ?_ rfl (by kernel_rfl) (fun _ _ _ => id) (by rfl) (by assumption) ?_ ?_
            rotate_left
            · (intro w hSw; (try dsimp only at hSw); go_simp)
              all_goals with_reducible rfl
            try simp only [Act.put, pL]
            refine tk 10 ?_ rfl (by kernel_rfl) (fun _ _ _ => id) (by rfl) (by assumption) ?_ ?_
            rotate_left
            · (intro w hSw; (try dsimp only at hSw); go_simp)
              all_goals with_reducible rfl
            try simp only [Act.put, pL]
            refine tk 11 ?_ rfl (by kernel_rfl) (fun _ _ _ => id) (by rfl) (by assumption) ?_ ?_
            rotate_left
            · (intro w hSw; (try dsimp only at hSw); go_simp)
              all_goals with_reducible rfl
            try simp only [Act.put, pL]
            refine tk 12 ?_ rfl (by kernel_rfl) (fun _ _ _ => id) (by rfl) (by assumption) ?_ ?_
            rotate_left
            · (intro w hSw; (try dsimp only at hSw); go_simp)
              all_goals with_reducible rfl
            try simp only [Act.put, pL]
            refine tk 13 ?_ rfl (by kernel_rfl) (fun _ _ _ => id) (by rfl) (by assumption) ?_ ?_
            rotate_left
            · (intro w hSw; (try dsimp only at hSw); go_simp)
              all_goals with_reducible rfl
            try simp only [Act.put, pL]
            refine wpAnyH_ready (rs := [14]) (by kernel_rfl) (by simp) ?_
            refine AllReadyH.cons rfl (fun K hK => ?_) AllReadyH.nil
            go_simp
            (first
                | (go_at_call 48; refine (hC.out _).mono ?_; rintro e wa ⟨rfl, qa⟩; replace qa := Up.dn qa)
                | (go_at_call 49; refine (hT.out _).mono ?_; rintro e wa ⟨rfl, qa⟩))
            try go_wp2_with fail
            refine hK.out _ _ ?_ (fun hHeld => ?_)
            · (try dsimp only); (first | exact kdSE_8 ((Dn.refl _).drew) hS1 | exact kdSE_8 ‹Dn _ _› ‹_› | exact kdSE_8 (Up.dn ‹Up _ _›) ‹_› | assumption | exact kdSE_8 ((Dn.refl _).alloc _) ‹_›)
            clear hK K
            try simp only [Act.put, pL]
            refine tk 15 ?_ rfl (by kernel_rfl) (fun _ _ _ => id) (by rfl) (by assumption) ?_ ?_
            rotate_left
            · (intro w hSw; (try dsimp only at hSw); go_simp)
              all_goals with_reducible rfl
            try simp only [Act.put, pL]
            refine tk 16 ?_ rfl (by kernel_rfl) (fun _ _ _ => id) (by rfl) (by assumption) ?_ ?_
            rotate_left
            · (intro w hSw; (try dsimp only at hSw); go_simp)
              all_goals with_reducible rfl
            try simp only [Act.put, pL]
            refine tk 17 ?_ rfl (by kernel_rfl) (fun _ _ _ => id) (by rfl) (by assumption) ?_ ?_
            rotate_left
            · (intro w hSw; (try dsimp only at hSw); go_simp)
              all_goals with_reducible rfl
            try simp only [Act.put, pL]
            refine tk 18 ?_ rfl (by kernel_rfl) (fun _ _ _ => id) (by rfl) (by assumption) ?_ ?_
            rotate_left
            · (intro w hSw; (try dsimp only at hSw); go_simp)
              all_goals with_reducible rfl
            try simp only [Act.put, pL]
            refine tk 19 ?_ rfl (by kernel_rfl) (fun _ _ _ => id) (by rfl) (by assumption) ?_ ?_
            rotate_left
            · (intro w hSw; (try dsimp only at hSw); go_simp)
              all_goals with_reducible rfl
            try simp only [Act.put, pL]
            refine tk 20 ?_ rfl (by kernel_rfl) (fun _ _ _ => id) (by rfl) (by assumption) ?_ ?_
            rotate_left
            · (intro w hSw; (try dsimp only at hSw); go_simp)
              all_goals with_reducible rfl
            try simp only [Act.put, pL]
            refine tk 21 ?_ rfl (by kernel_rfl) (fun _ _ _ => id) (by rfl) (by assumption) ?_ ?_
            rotate_left
            · (intro w hSw; (try dsimp only at hSw); go_simp)
              all_goals with_reducible rfl
            try simp only [Act.put, pL]
            refine tk 22 ?_ rfl (by kernel_rfl) (fun _ _ _ => id) (by rfl) (by assumption) ?_ ?_
            rotate_left
            · (intro w hSw; (try dsimp only at hSw); go_simp)
              all_goals with_reducible rfl
            try simp only [Act.put, pL]
            refine tk 23 ?_ rfl (by kernel_rfl) (fun _ _ _ => id) (by rfl) (by assumption) ?_ ?_
            rotate_left
            · (intro w hSw; (try dsimp only at hSw); go_simp)
              all_goals with_reducible rfl
            try simp only [Act.put, pL]
            refine tk 24 ?_ rfl (by kernel_rfl) (fun _ _ _ => id) (by rfl) (by assumption) ?_ ?_
            rotate_left
            · (intro w hSw; (try dsimp only at hSw); go_simp)
              all_goals with_reducible rfl
            try simp only [Act.put, pL]
            refine tk 25 ?_ rfl (by kernel_rfl) (fun _ _ _ => id) (by rfl) (by assumption) ?_ ?_
            rotate_left
            · (intro w hSw; (try dsimp only at hSw); go_simp)
              all_goals with_reducible rfl
            try simp only [Act.put, pL]
            refine wpAnyH_ready (rs := [26]) (by kernel_rfl) (by simp) ?_
            refine AllReadyH.cons rfl (fun K hK => ?_) AllReadyH.nil
            go_simp
            (first
                | (go_at_call 48; refine (hC.out _).mono ?_; rintro e wa ⟨rfl, qa⟩; replace qa := Up.dn qa)
                | (go_at_call 49; refine (hT.out _).mono ?_; rintro e wa ⟨rfl, qa⟩))
            try go_wp2_with fail
            refine hK.out _ _ ?_ (fun hHeld => ?_)
            · (try dsimp only); (first | exact kdSE_8 ((Dn.refl _).drew) hS1 | exact kdSE_8 ‹Dn _ _› ‹_› | exact kdSE_8 (Up.dn ‹Up _ _›) ‹_› | assumption | exact kdSE_8 ((Dn.refl _).alloc _) ‹_›)
            clear hK K
            try simp only [Act.put, pL]
            refine tk 27 ?_ rfl (by kernel_rfl) (fun _ _ _ => id) (by rfl) (by assumption) ?_ ?_
            rotate_left
            · (intro w hSw; (try dsimp only at hSw); go_simp)
              all_goals with_reducible rfl
            try simp only [Act.put, pL]
            refine tk 28 ?_ rfl (by kernel_rfl) (fun _ _ _ => id) (by rfl) (by assumption) ?_ ?_
            rotate_left
            · (intro w hSw; (try dsimp only at hSw); go_simp)
              all_goals with_reducible rfl
            try simp only [Act.put, pL]
            refine wpAnyH_done (by kernel_rfl) ?_ _
            all_goals skip
            all_goals
              clear hS1
              obtain ⟨uf10, c2, c3, c4, c5, c6, c7, c8, c9⟩ := (‹Dn w1 _ ∧ _› : _ ∧ _)
              obtain ⟨w11, rfl⟩ : ∃ w11 : World, w11 = wa := ⟨_, rfl⟩
              have l12 := nlt bl uf10.size
              clear bl
              have l13 := nlt al uf10.size
              clear al
              replace hc := hc.dn uf10
              have vuf10 := uw1.trans uf10
              clear uf10 uw1 HShS1
              go_wp2_with fail
              go_roundw
              case rel => exact ⟨rfl, m + 1 + 1, by omega, by simp, by rw [HF.out]; exact chk_next HX.out (by omega) HQ.out HB.out (Classical.not_not.1 fun h => (((order_ref HQK.out HXK.out).2 h).elim HO.out HTT.out)), HOK.out.step HX.out ((rq_err (HI.out.at HX.out).1 (HI.out.at HX.out).2).1 HB.out), hc.row, vuf10⟩
              case measure => simp [intOf]; omega
          · have d3 : decide (0 ≤ eC q.c q.d x.a x.b) = true := by simpa using hcmp
            have HO := Lib.hid (hL.out.1 hcmp)
            clear hcmp hL hti
            generalize eC q.c q.d x.a x.b = n at *
            go_wp2_with fail
            refine (hA.out _).mono ?_
            rintro e w1 ⟨rfl, qw1⟩
            replace hc := hc.dn qw1
            have uw1 := hu.trans qw1
            clear qw1 hu
            clear a0 a1 a2 a3
            go_wp2_with fail
            obtain ⟨b0, b1, b2, b3⟩ := hc.el _ _ HQ.out
            have bl := hc.lt
            obtain ⟨a0, a1, a2, a3⟩ := hc.el _ _ HX.out
            have al := hc.lt
            have hS1 := kdSE_8 (W := w1) (Dn.refl _) ⟨Dn.refl _, b0, b1, b2, b3, a0, a1, a2, a3⟩
            have HShS1 := Lib.hid hS1
            clear b0 b1 b2 b3 a0 a1 a2 a3
            refine wp_region_held_drew (S := fun w' => Dn w1 w' ∧ w'.cell? ⟨g, o + m * 4, none⟩ = some (.int .i8 q.a) ∧ w'.cell? ⟨g, o + m * 4 + 1, none⟩ = some (.int .i64 q.b) ∧ w'.cell? ⟨g, o + m * 4 + 2, none⟩ = some (.int .i8 q.c) ∧ w'.cell? ⟨g, o + m * 4 + 3, none⟩ = some (.int .i64 q.d) ∧ w'.cell? ⟨g, o + (m + 1) * 4, none⟩ = some (.int .i8 x.a) ∧ w'.cell? ⟨g, o + (m + 1) * 4 + 1, none⟩ = some (.int .i64 x.b) ∧ w'.cell? ⟨g, o + (m + 1) * 4 + 2, none⟩ = some (.int .i8 x.c) ∧ w'.cell? ⟨g, o + (m + 1) * 4 + 3, none⟩ = some (.int .i64 x.d)) (by kernel_rfl) ?_ (fun hHeld => ?_)
            · (try dsimp only); (first | exact kdSE_8 ((Dn.refl _).drew) hS1 | exact kdSE_8 ‹Dn _ _› ‹_› | exact kdSE_8 (Up.dn ‹Up _ _›) ‹_› | assumption | exact kdSE_8 ((Dn.refl _).alloc _) ‹_›)
            refine tk 0 ?_ rfl (by kernel_rfl) (fun _ _ _ => id) (by rfl) (by assumption) ?_ ?_
            rotate_left
            · (intro w hSw; (try dsimp only at hSw); go_simp)
              all_goals with_reducible rfl
            try simp only [Act.put, pL]
            refine tk 1 ?_ rfl (by kernel_rfl) (fun _ _ _ => id) (by rfl) (by assumption) ?_ ?_
            rotate_left
            · (intro w hSw; (try dsimp only at hSw); go_simp)
              all_goals with_reducible rfl
            try simp only [Act.put, pL]
            refine tk 2 ?_ rfl (by kernel_rfl) (fun _ _ _ => id) (by rfl) (by assumption) ?_ ?_
            rotate_left
            · (intro w hSw; (try dsimp only at hSw); go_simp)
              all_goals with_reducible rfl
            try simp only [Act.put, pL]
            refine tk 3 ?_ rfl (by kernel_rfl) (fun _ _ _ => id) (by rfl) (by assumption) ?_ ?_
            rotate_left
            · (intro w hSw; (try dsimp only at hSw); go_simp)
              all_goals with_reducible rfl
            try simp only [Act.put, pL]
            refine tk 4 ?_ rfl (by kernel_rfl) (fun _ _ _ => id) (by rfl) (by assumption) ?_ ?_
            rotate_left
            · (intro w hSw; (try dsimp only at hSw); go_simp)
              all_goals with_reducible rfl
            try simp only [Act.put, pL]
            refine tk 5 ?_ rfl (by kernel_rfl) (fun _ _ _ => id) (by rfl) (by assumption) ?_ ?_
            rotate_left
            · (intro w hSw; (try dsimp only at hSw); go_simp)
              all_goals with_reducible rfl
            try simp only [Act.put, pL]
            refine tk 6 ?_ rfl (by kernel_rfl) (fun _ _ _ => id) (by rfl) (by assumption) ?_ ?_
            rotate_left
            · (intro w hSw; (try dsimp only at hSw); go_simp)
              all_goals with_reducible rfl
            try simp only [Act.put, pL]
            refine tk 7 ?_ rfl (by kernel_rfl) (fun _ _ _ => id) (by rfl) (by assumption) ?_ ?_
            rotate_left
            · (intro w hSw; (try dsimp only at hSw); go_simp)
              all_goals with_reducible rfl
            try simp only [Act.put, pL]
            refine tk 8 ?_ rfl (by kernel_rfl) (fun _ _ _ => id) (by rfl) (by assumption) ?_ ?_
            rotate_left
            · (intro w hSw; (try dsimp only at hSw); go_simp)
              all_goals with_reducible rfl
            try simp only [Act.put, pL]
            refine tk 9 ?_ rfl (by kernel_rfl) (fun _ _ _ => id) (by rfl) (by assumption) ?_ ?_
            rotate_left
            · (intro w hSw; (try dsimp only at hSw); go_simp)
              all_goals with_reducible rfl
            try simp only [Act.put, pL]
            refine tk 10 ?_ rfl (by kernel_rfl) (fun _ _ _ => id) (by rfl) (by assumption) ?_ ?_
            rotate_left
            · (intro w hSw; (try dsimp only at hSw); go_simp)
              all_goals with_reducible rfl
            try simp only [Act.put, pL]
            refine tk 11 ?_ rfl (by kernel_rfl) (fun _ _ _ => id) (by rfl) (by assumption) ?_ ?_
            rotate_left
            · (intro w hSw; (try dsimp only at hSw); go_simp)
              all_goals with_reducible rfl
            try simp only [Act.put, pL]
            refine tk 12 ?_ rfl (by kernel_rfl) (fun _ _ _ => id) (by rfl) (by assumption) ?_ ?_
            rotate_left
            · (intro w hSw; (try dsimp only at hSw); go_simp)
              all_goals with_reducible rfl
            try simp only [Act.put, pL]
            refine tk 13 ?_ rfl (by kernel_rfl) (fun _ _ _ => id) (by rfl) (by assumption) ?_ ?_
            rotate_left
            · (intro w hSw; (try dsimp only at hSw); go_simp)
              all_goals with_reducible rfl
            try simp only [Act.put, pL]
            refine wpAnyH_ready (rs := [14]) (by kernel_rfl) (by simp) ?_
            refine AllReadyH.cons rfl (fun K hK => ?_) AllReadyH.nil
            go_simp
            (first
                | (go_at_call 48; refine (hC.out _).mono ?_; rintro e wa ⟨rfl, qa⟩; replace qa := Up.dn qa)
                | (go_at_call 49; refine (hT.out _).mono ?_; rintro e wa ⟨rfl, qa⟩))
            try go_wp2_with fail
            refine hK.out _ _ ?_ (fun hHeld => ?_)
            · (try dsimp only); (first | exact kdSE_8 ((Dn.refl _).drew) hS1 | exact kdSE_8 ‹Dn _ _› ‹_› | exact kdSE_8 (Up.dn ‹Up _ _›) ‹_› | assumption | exact kdSE_8 ((Dn.refl _).alloc _) ‹_›)
            clear hK K
            try simp only [Act.put, pL]
            refine tk 15 ?_ rfl (by kernel_rfl) (fun _ _ _ => id) (by rfl) (by assumption) ?_ ?_
            rotate_left
            · (intro w hSw; (try dsimp only at hSw); go_simp)
              all_goals with_reducible rfl
            try simp only [Act.put, pL]
            refine tk 16 ?_ rfl (by kernel_rfl) (fun _ _ _ => id) (by rfl) (by assumption) ?_ ?_
            rotate_left
            · (intro w hSw; (try dsimp only at hSw); go_simp)
              all_goals with_reducible rfl
            try simp only [Act.put, pL]
            refine tu 17 rfl (by kernel_rfl) (fun _ _ _ => id) (by rfl) (by assumption) ?_
            try simp only [Act.put, pL]
            refine tu 18 rfl (by kernel_rfl) (fun _ _ _ => id) (by rfl) (by assumption) ?_
            try simp only [Act.put, pL]
            refine tu 19 rfl (by kernel_rfl) (fun _ _ _ => id) (by rfl) (by assumption) ?_
            try simp only [Act.put, pL]
            refine tu 20 rfl (by kernel_rfl) (fun _ _ _ => id) (by rfl) (by assumption) ?_
            try simp only [Act.put, pL]
            refine tu 21 rfl (by kernel_rfl) (fun _ _ _ => id) (by rfl) (by assumption) ?_
            try simp only [Act.put, pL]
            refine tu 22 rfl (by kernel_rfl) (fun _ _ _ => id) (by rfl) (by assumption) ?_
            try simp only [Act.put, pL]
            refine tu 23 rfl (by kernel_rfl) (fun _ _ _ => id) (by rfl) (by assumption) ?_
            try simp only [Act.put, pL]
            refine tu 24 rfl (by kernel_rfl) (fun _ _ _ => id) (by rfl) (by assumption) ?_
            try simp only [Act.put, pL]
            refine tu 25 rfl (by kernel_rfl) (fun _ _ _ => id) (by rfl) (by assumption) ?_
            try simp only [Act.put, pL]
            refine tu 26 rfl (by kernel_rfl) (fun _ _ _ => id) (by rfl) (by assumption) ?_
            try simp only [Act.put, pL]
            refine tk 27 ?_ rfl (by kernel_rfl) (fun _ _ _ => id) (by rfl) (by assumption) ?_ ?_
            rotate_left
            · (intro w hSw; (try dsimp only at hSw); go_simp)
              all_goals with_reducible rfl
            try simp only [Act.put, pL]
            refine tk 28 ?_ rfl (by kernel_rfl) (fun _ _ _ => id) (by rfl) (by assumption) ?_ ?_
            rotate_left
            · (intro w hSw; (try dsimp only at hSw); go_simp)
              all_goals with_reducible rfl
            try simp only [Act.put, pL]
            refine wpAnyH_done (by kernel_rfl) ?_ _
            all_goals skip
            all_goals
              clear hS1
              obtain ⟨uf10, c2, c3, c4, c5, c6, c7, c8, c9⟩ := (‹Dn w1 _ ∧ _› : _ ∧ _)
              obtain ⟨w11, rfl⟩ : ∃ w11 : World, w11 = wa := ⟨_, rfl⟩
              have l12 := nlt bl uf10.size
              clear bl
              have l13 := nlt al uf10.size
              clear al
              replace hc := hc.dn uf10
              have vuf10 := uw1.trans uf10
              clear uf10 uw1 HShS1
              have HE2 := Lib.hid (HF.out.trans (chk_order HX.out (by omega) HQ.out HB.out ((order_ref HQK.out HXK.out).1 (.inl HO.out))))
              go_wp2_with fail
              go_ret
              exact ⟨ret1_i HE2.out.symm, vuf10⟩
    · obtain rfl : k = L.length := by omega
      have d1 : decide ((L.length : Int) < L.length) = false := by simp
      have hend := Lib.hid (HF.out.trans chk_end)
      go_wp2_with fail
      go_ret
      exact ⟨ret1_i hend.out.symm, hu⟩
end Go.Proofs.YtoghoddjkdoohaaGreatDoor
