/-
  WALKS OF circalaw04: YearsOf, YearsLeaps, YearsStart, YearsKnown: each returns true. (Printed by wip/gen/law4b.py.)
-/
import Derived.Test.YtnaoadmffnbalaaDoorLawFourA
namespace Go.Proofs.YtnaoadmffnbalaaDoor
open Go.RowKit

set_option maxHeartbeats 1000000 in
theorem yearsOf_true (d : Int) (w : World) (hd : I64 d) (hE : Steps w) :
    Calls Tryd.prog 3 #[.int .i64 d] w fun e w' => e = .returned (.bool true) ∧ Up w w' := by
  by_cases h : IsY (Cal.yr d)
  · have hs := Cal.yr_spec d
    have c1 : decide (Cal.sy (Cal.yr d) ≤ d) = true := by simp; omega
    have c2 : decide (d ≤ Cal.sy (Cal.yr d + 1) - 1) = true := by simp; omega
    clear hs
    go_enter Tryd.func3, Tryd.ntmps3
    go_wp2_with fail
    refine (of_yes _ _ hd h hE).mono ?_
    rintro e w1 ⟨rfl, qw1⟩
    have uw1 := qw1
    clear qw1
    go_wp2_with fail
    refine (rOf_yes _ _ hd h).mono ?_
    rintro e w2 ⟨rfl, rfl⟩
    go_wp2_with fail
    refine (ystart_yes _ _ h (hE.up uw1)).mono ?_
    rintro e w3 ⟨rfl, qw3⟩
    have uw3 := uw1.trans qw3
    clear qw3 uw1
    go_wp2_with fail
    refine (yend_yes _ _ h (hE.up uw3)).mono ?_
    rintro e w4 ⟨rfl, qw4⟩
    have uw4 := uw3.trans qw4
    clear qw4 uw3
    go_wp2_with fail
    refine (num4 _ _).mono ?_
    rintro e w5 ⟨rfl, rfl⟩
    go_wp2_with fail
    refine (lives4 _ (hE.up uw4)).mono ?_
    rintro e w6 ⟨rfl, qw6⟩
    have uw6 := uw4.trans qw6
    clear qw6 uw4
    go_wp2_with fail
    go_ret
    exact ⟨rfl, uw6⟩
  · go_enter Tryd.func3, Tryd.ntmps3
    go_wp2_with fail
    refine (of_no _ _ hd h hE).mono ?_
    rintro e w1 ⟨rfl, qw1⟩
    have uw1 := qw1
    clear qw1
    go_wp2_with fail
    refine (rOf_no _ _ hd h).mono ?_
    rintro e w2 ⟨rfl, rfl⟩
    go_wp2_with fail
    refine (bad4 _).mono ?_
    rintro e w3 ⟨rfl, rfl⟩
    go_wp2_with fail
    refine (lives4 _ (hE.up uw1)).mono ?_
    rintro e w4 ⟨rfl, qw4⟩
    have uw4 := uw1.trans qw4
    clear qw4 uw1
    go_wp2_with fail
    go_ret
    exact ⟨rfl, uw4⟩

theorem leaps_sum (a b c : Int) (h : a ≤ c) (h' : c < b) : max 0 (Cal.bf (c + 1) - Cal.bf a) + max 0 (Cal.bf (b + 1) - Cal.bf (c + 1)) = max 0 (Cal.bf (b + 1) - Cal.bf a) := by
  have := Cal.bf_mono a (c + 1) (by omega)
  have := Cal.bf_mono (c + 1) (b + 1) (by omega)
  omega

set_option maxHeartbeats 1000000 in
theorem yearsLeaps_true (a b c : Int) (w : World) (_ha : I64 a) (_hb : I64 b) (_hc : I64 c) (hE : Steps w) :
    Calls Tryd.prog 4 #[.int .i64 a, .int .i64 b, .int .i64 c] w fun e w' => e = .returned (.bool true) ∧ Up w w' := by
  by_cases ha : IsY a
  rotate_left
  · go_enter Tryd.func4, Tryd.ntmps4
    go_wp2_with fail
    refine (leaps_no1 _ _ _ ha).mono ?_
    rintro e w1 ⟨rfl, rfl⟩
    go_wp2_with fail
    refine (rIs_no _ _ ha).mono ?_
    rintro e w2 ⟨rfl, rfl⟩
    go_wp2_with fail
    refine (bad4 _).mono ?_
    rintro e w3 ⟨rfl, rfl⟩
    go_wp2_with fail
    refine (lives4 _ hE).mono ?_
    rintro e w4 ⟨rfl, qw4⟩
    have uw4 := qw4
    clear qw4
    go_wp2_with fail
    go_ret
    exact ⟨rfl, uw4⟩
  by_cases hb : IsY b
  rotate_left
  · go_enter Tryd.func4, Tryd.ntmps4
    go_wp2_with fail
    refine (leaps_no2 _ _ _ ha hb).mono ?_
    rintro e w1 ⟨rfl, rfl⟩
    go_wp2_with fail
    refine (rIs_yes _ _ ha).mono ?_
    rintro e w2 ⟨rfl, rfl⟩
    go_wp2_with fail
    refine (rIs_no _ _ hb).mono ?_
    rintro e w3 ⟨rfl, rfl⟩
    go_wp2_with fail
    refine (bad4 _).mono ?_
    rintro e w4 ⟨rfl, rfl⟩
    go_wp2_with fail
    refine (lives4 _ hE).mono ?_
    rintro e w5 ⟨rfl, qw5⟩
    have uw5 := qw5
    clear qw5
    go_wp2_with fail
    go_ret
    exact ⟨rfl, uw5⟩
  have HA := ha
  have HB := hb
  obtain ⟨a1, a2⟩ := ha
  obtain ⟨b1, b2⟩ := hb
  by_cases hab : a ≤ b
  rotate_left
  · have e := Cal.bf_mono (b + 1) a (by omega)
    have hz : max 0 (Cal.bf (b + 1) - Cal.bf a) = 0 := by omega
    by_cases h1 : c < a
    · go_enter Tryd.func4, Tryd.ntmps4
      go_wp2_with fail
      refine (leaps_at a b 0 _ hz HA HB hE).mono ?_
      rintro e w1 ⟨rfl, qw1⟩
      have uw1 := qw1
      clear qw1
      go_wp2_with fail
      refine (rIs_yes _ _ HA).mono ?_
      rintro e w2 ⟨rfl, rfl⟩
      go_wp2_with fail
      refine (rIs_yes _ _ HB).mono ?_
      rintro e w3 ⟨rfl, rfl⟩
      go_wp2_with fail
      refine (rLeaps_no _ _ _ (by omega)).mono ?_
      rintro e w4 ⟨rfl, rfl⟩
      go_wp2_with fail
      refine (num4 _ _).mono ?_
      rintro e w5 ⟨rfl, rfl⟩
      go_wp2_with fail
      refine (lives4 _ (hE.up uw1)).mono ?_
      rintro e w6 ⟨rfl, qw6⟩
      have uw6 := uw1.trans qw6
      clear qw6 uw1
      go_wp2_with fail
      go_ret
      exact ⟨rfl, uw6⟩
    · go_enter Tryd.func4, Tryd.ntmps4
      go_wp2_with fail
      refine (leaps_at a b 0 _ hz HA HB hE).mono ?_
      rintro e w1 ⟨rfl, qw1⟩
      have uw1 := qw1
      clear qw1
      go_wp2_with fail
      refine (rIs_yes _ _ HA).mono ?_
      rintro e w2 ⟨rfl, rfl⟩
      go_wp2_with fail
      refine (rIs_yes _ _ HB).mono ?_
      rintro e w3 ⟨rfl, rfl⟩
      go_wp2_with fail
      refine (rLeaps_no _ _ _ (by omega)).mono ?_
      rintro e w4 ⟨rfl, rfl⟩
      go_wp2_with fail
      refine (num4 _ _).mono ?_
      rintro e w5 ⟨rfl, rfl⟩
      go_wp2_with fail
      refine (lives4 _ (hE.up uw1)).mono ?_
      rintro e w6 ⟨rfl, qw6⟩
      have uw6 := uw1.trans qw6
      clear qw6 uw1
      go_wp2_with fail
      go_ret
      exact ⟨rfl, uw6⟩
  have e := Cal.bf_mono a (b + 1) (by omega)
  have hz : max 0 (Cal.bf (b + 1) - Cal.bf a) = Cal.bf (b + 1) - Cal.bf a := by omega
  by_cases h1 : c < a
  · go_enter Tryd.func4, Tryd.ntmps4
    go_wp2_with fail
    refine (leaps_at a b _ _ hz HA HB hE).mono ?_
    rintro e w1 ⟨rfl, qw1⟩
    have uw1 := qw1
    clear qw1
    go_wp2_with fail
    refine (rIs_yes _ _ HA).mono ?_
    rintro e w2 ⟨rfl, rfl⟩
    go_wp2_with fail
    refine (rIs_yes _ _ HB).mono ?_
    rintro e w3 ⟨rfl, rfl⟩
    go_wp2_with fail
    refine (rLeaps _ _ _ HA HB hab).mono ?_
    rintro e w4 ⟨rfl, rfl⟩
    go_wp2_with fail
    refine (num4 _ _).mono ?_
    rintro e w5 ⟨rfl, rfl⟩
    go_wp2_with fail
    refine (lives4 _ (hE.up uw1)).mono ?_
    rintro e w6 ⟨rfl, qw6⟩
    have uw6 := uw1.trans qw6
    clear qw6 uw1
    go_wp2_with fail
    go_ret
    exact ⟨rfl, uw6⟩
  by_cases h2 : b ≤ c
  · go_enter Tryd.func4, Tryd.ntmps4
    go_wp2_with fail
    refine (leaps_at a b _ _ hz HA HB hE).mono ?_
    rintro e w1 ⟨rfl, qw1⟩
    have uw1 := qw1
    clear qw1
    go_wp2_with fail
    refine (rIs_yes _ _ HA).mono ?_
    rintro e w2 ⟨rfl, rfl⟩
    go_wp2_with fail
    refine (rIs_yes _ _ HB).mono ?_
    rintro e w3 ⟨rfl, rfl⟩
    go_wp2_with fail
    refine (rLeaps _ _ _ HA HB hab).mono ?_
    rintro e w4 ⟨rfl, rfl⟩
    go_wp2_with fail
    refine (num4 _ _).mono ?_
    rintro e w5 ⟨rfl, rfl⟩
    go_wp2_with fail
    refine (lives4 _ (hE.up uw1)).mono ?_
    rintro e w6 ⟨rfl, qw6⟩
    have uw6 := uw1.trans qw6
    clear qw6 uw1
    go_wp2_with fail
    go_ret
    exact ⟨rfl, uw6⟩
  have hsum := leaps_sum a b c (by omega) (by omega)
  rw [hz] at hsum
  have hb1 := bf_bd a HA.b
  have hb2 := bf_bd (b + 1) HB.b1
  have HC : IsY c := ⟨by omega, by omega⟩
  have HC1 : IsY (c + 1) := ⟨by omega, by omega⟩
  generalize hm1 : max 0 (Cal.bf (c + 1) - Cal.bf a) = m1 at hsum
  generalize hm2 : max 0 (Cal.bf (b + 1) - Cal.bf (c + 1)) = m2 at hsum
  have c3 : (m1 + m2 == Cal.bf (b + 1) - Cal.bf a) = true := by rw [beq_iff_eq]; exact hsum
  have hm3 : 0 ≤ m1 := by omega
  have hm4 : 0 ≤ m2 := by omega
  have hm5 : m1 + m2 ≤ 9223372036854775807 := by omega
  have HM1 := Lib.hid hm1
  have HM2 := Lib.hid hm2
  have HZ := Lib.hid hz
  clear hsum hm1 hm2 hz e
  go_enter Tryd.func4, Tryd.ntmps4
  go_wp2_with fail
  refine (leaps_at a b _ _ HZ.out HA HB hE).mono ?_
  rintro e w1 ⟨rfl, qw1⟩
  have uw1 := qw1
  clear qw1
  go_wp2_with fail
  refine (rIs_yes _ _ HA).mono ?_
  rintro e w2 ⟨rfl, rfl⟩
  go_wp2_with fail
  refine (rIs_yes _ _ HB).mono ?_
  rintro e w3 ⟨rfl, rfl⟩
  go_wp2_with fail
  refine (rLeaps _ _ _ HA HB hab).mono ?_
  rintro e w4 ⟨rfl, rfl⟩
  go_wp2_with fail
  refine (num4 _ _).mono ?_
  rintro e w5 ⟨rfl, rfl⟩
  go_wp2_with fail
  refine (leaps_at a c m1 _ HM1.out HA HC (hE.up uw1)).mono ?_
  rintro e w6 ⟨rfl, qw6⟩
  have uw6 := uw1.trans qw6
  clear qw6 uw1
  go_wp2_with fail
  refine (leaps_at (c + 1) b m2 _ HM2.out HC1 HB (hE.up uw6)).mono ?_
  rintro e w7 ⟨rfl, qw7⟩
  have uw7 := uw6.trans qw7
  clear qw7 uw6
  go_wp2_with fail
  refine (lives4 _ (hE.up uw7)).mono ?_
  rintro e w8 ⟨rfl, qw8⟩
  have uw8 := uw7.trans qw8
  clear qw8 uw7
  go_wp2_with fail
  go_ret
  exact ⟨rfl, uw8⟩

set_option maxHeartbeats 2000000 in
theorem yearsStart_true (y : Int) (w : World) (_hy : I64 y) (hE : Steps w) :
    Calls Tryd.prog 5 #[.int .i64 y] w fun e w' => e = .returned (.bool true) ∧ Up w w' := by
  by_cases h : IsY y
  rotate_left
  · go_enter Tryd.func5, Tryd.ntmps5
    go_wp2_with fail
    refine (leap_no _ _ h).mono ?_
    rintro e w1 ⟨rfl, rfl⟩
    go_wp2_with fail
    refine (len_no _ _ h).mono ?_
    rintro e w2 ⟨rfl, rfl⟩
    go_wp2_with fail
    refine (ystart_no _ _ h).mono ?_
    rintro e w3 ⟨rfl, rfl⟩
    go_wp2_with fail
    refine (yend_no _ _ h).mono ?_
    rintro e w4 ⟨rfl, rfl⟩
    go_wp2_with fail
    refine (rIs_no _ _ h).mono ?_
    rintro e w5 ⟨rfl, rfl⟩
    go_wp2_with fail
    refine (bad4 _).mono ?_
    rintro e w6 ⟨rfl, rfl⟩
    go_wp2_with fail
    refine (bad4 _).mono ?_
    rintro e w7 ⟨rfl, rfl⟩
    go_wp2_with fail
    refine (bad4 _).mono ?_
    rintro e w8 ⟨rfl, rfl⟩
    go_wp2_with fail
    refine (check_no _ _ h).mono ?_
    rintro e w9 ⟨rfl, rfl⟩
    go_wp2_with fail
    refine (lives4 _ hE).mono ?_
    rintro e w10 ⟨rfl, qw10⟩
    have uw10 := qw10
    clear qw10
    go_wp2_with fail
    go_ret
    exact ⟨rfl, uw10⟩
  have HY := h
  have hl := len_bd y
  have hs := sy_bdY y h
  have c1 : (!Cal.lp y == Cal.lp y) = false := by cases Cal.lp y <;> rfl
  have hse : Cal.sy (y + 1) - 1 = Cal.sy y + Cal.len y - 1 := by rw [Cal.sy_succ]
  have hsn : Cal.sy (y + 1) = Cal.sy y + Cal.len y - 1 + 1 := by rw [Cal.sy_succ]; omega
  have hsl : Cal.sy (y + 400) = Cal.sy y + 146097 := by rw [show y + 400 = 400 * 1 + y by omega, Cal.sy_cycle]; omega
  have HE1 := Lib.hid hse
  have HE2 := Lib.hid hsn
  have HE3 := Lib.hid hsl
  obtain ⟨hy1, hy2⟩ := h
  clear hse hsn hsl
  obtain ⟨hs1, hs2, hs3⟩ := hs
  by_cases h1 : y + 1 ≤ 10000000000000000
  rotate_left
  · have no1 : ¬ IsY (y + 1) := fun k => h1 k.2
    have no4 : ¬ IsY (y + 400) := fun k => by have := k.2; omega
    go_enter Tryd.func5, Tryd.ntmps5
    go_wp2_with fail
    refine (leap_yes _ _ HY hE).mono ?_
    rintro e w1 ⟨rfl, qw1⟩
    have uw1 := qw1
    clear qw1
    go_wp2_with fail
    refine (len_yes _ _ HY (hE.up uw1)).mono ?_
    rintro e w2 ⟨rfl, qw2⟩
    have uw2 := uw1.trans qw2
    clear qw2 uw1
    go_wp2_with fail
    refine (ystart_yes _ _ HY (hE.up uw2)).mono ?_
    rintro e w3 ⟨rfl, qw3⟩
    have uw3 := uw2.trans qw3
    clear qw3 uw2
    go_wp2_with fail
    refine (yend_at _ _ _ HE1.out HY (hE.up uw3)).mono ?_
    rintro e w4 ⟨rfl, qw4⟩
    have uw4 := uw3.trans qw4
    clear qw4 uw3
    go_wp2_with fail
    refine (rIs_yes _ _ HY).mono ?_
    rintro e w5 ⟨rfl, rfl⟩
    go_wp2_with fail
    refine (rStart _ _ HY.b).mono ?_
    rintro e w6 ⟨rfl, rfl⟩
    go_wp2_with fail
    refine (rLeap _ _ HY.b).mono ?_
    rintro e w7 ⟨rfl, rfl⟩
    go_wp2_with fail
    refine (rLen _ _ HY.b).mono ?_
    rintro e w8 ⟨rfl, rfl⟩
    go_wp2_with fail
    refine (num4 _ _).mono ?_
    rintro e w9 ⟨rfl, rfl⟩
    go_wp2_with fail
    refine (num4 _ _).mono ?_
    rintro e w10 ⟨rfl, rfl⟩
    go_wp2_with fail
    refine (rLen _ _ HY.b).mono ?_
    rintro e w11 ⟨rfl, rfl⟩
    go_wp2_with fail
    refine (num4 _ _).mono ?_
    rintro e w12 ⟨rfl, rfl⟩
    go_wp2_with fail
    refine (check_yes _ _ HY).mono ?_
    rintro e w13 ⟨rfl, rfl⟩
    go_wp2_with fail
    refine (ystart_no _ _ no1).mono ?_
    rintro e w14 ⟨rfl, rfl⟩
    go_wp2_with fail
    refine (rIs_no _ _ no1).mono ?_
    rintro e w15 ⟨rfl, rfl⟩
    go_wp2_with fail
    refine (ystart_no _ _ no4).mono ?_
    rintro e w16 ⟨rfl, rfl⟩
    go_wp2_with fail
    refine (rIs_no _ _ no4).mono ?_
    rintro e w17 ⟨rfl, rfl⟩
    go_wp2_with fail
    refine (lives4 _ (hE.up uw4)).mono ?_
    rintro e w18 ⟨rfl, qw18⟩
    have uw18 := uw4.trans qw18
    clear qw18 uw4
    go_wp2_with fail
    go_ret
    exact ⟨rfl, uw18⟩
  have Y1 : IsY (y + 1) := ⟨by omega, h1⟩
  by_cases h4 : y + 400 ≤ 10000000000000000
  · have Y4 : IsY (y + 400) := ⟨by omega, h4⟩
    go_enter Tryd.func5, Tryd.ntmps5
    go_wp2_with fail
    refine (leap_yes _ _ HY hE).mono ?_
    rintro e w1 ⟨rfl, qw1⟩
    have uw1 := qw1
    clear qw1
    go_wp2_with fail
    refine (len_yes _ _ HY (hE.up uw1)).mono ?_
    rintro e w2 ⟨rfl, qw2⟩
    have uw2 := uw1.trans qw2
    clear qw2 uw1
    go_wp2_with fail
    refine (ystart_yes _ _ HY (hE.up uw2)).mono ?_
    rintro e w3 ⟨rfl, qw3⟩
    have uw3 := uw2.trans qw3
    clear qw3 uw2
    go_wp2_with fail
    refine (yend_at _ _ _ HE1.out HY (hE.up uw3)).mono ?_
    rintro e w4 ⟨rfl, qw4⟩
    have uw4 := uw3.trans qw4
    clear qw4 uw3
    go_wp2_with fail
    refine (rIs_yes _ _ HY).mono ?_
    rintro e w5 ⟨rfl, rfl⟩
    go_wp2_with fail
    refine (rStart _ _ HY.b).mono ?_
    rintro e w6 ⟨rfl, rfl⟩
    go_wp2_with fail
    refine (rLeap _ _ HY.b).mono ?_
    rintro e w7 ⟨rfl, rfl⟩
    go_wp2_with fail
    refine (rLen _ _ HY.b).mono ?_
    rintro e w8 ⟨rfl, rfl⟩
    go_wp2_with fail
    refine (num4 _ _).mono ?_
    rintro e w9 ⟨rfl, rfl⟩
    go_wp2_with fail
    refine (num4 _ _).mono ?_
    rintro e w10 ⟨rfl, rfl⟩
    go_wp2_with fail
    refine (rLen _ _ HY.b).mono ?_
    rintro e w11 ⟨rfl, rfl⟩
    go_wp2_with fail
    refine (num4 _ _).mono ?_
    rintro e w12 ⟨rfl, rfl⟩
    go_wp2_with fail
    refine (check_yes _ _ HY).mono ?_
    rintro e w13 ⟨rfl, rfl⟩
    go_wp2_with fail
    refine (ystart_at _ _ _ HE2.out Y1 (hE.up uw4)).mono ?_
    rintro e w14 ⟨rfl, qw14⟩
    have uw14 := uw4.trans qw14
    clear qw14 uw4
    go_wp2_with fail
    refine (rIs_yes _ _ Y1).mono ?_
    rintro e w15 ⟨rfl, rfl⟩
    go_wp2_with fail
    refine (num4 _ _).mono ?_
    rintro e w16 ⟨rfl, rfl⟩
    go_wp2_with fail
    refine (ystart_at _ _ _ HE3.out Y4 (hE.up uw14)).mono ?_
    rintro e w17 ⟨rfl, qw17⟩
    have uw17 := uw14.trans qw17
    clear qw17 uw14
    go_wp2_with fail
    refine (rIs_yes _ _ Y4).mono ?_
    rintro e w18 ⟨rfl, rfl⟩
    go_wp2_with fail
    refine (num4 _ _).mono ?_
    rintro e w19 ⟨rfl, rfl⟩
    go_wp2_with fail
    refine (lives4 _ (hE.up uw17)).mono ?_
    rintro e w20 ⟨rfl, qw20⟩
    have uw20 := uw17.trans qw20
    clear qw20 uw17
    go_wp2_with fail
    go_ret
    exact ⟨rfl, uw20⟩
  · have no4 : ¬ IsY (y + 400) := fun k => h4 k.2
    go_enter Tryd.func5, Tryd.ntmps5
    go_wp2_with fail
    refine (leap_yes _ _ HY hE).mono ?_
    rintro e w1 ⟨rfl, qw1⟩
    have uw1 := qw1
    clear qw1
    go_wp2_with fail
    refine (len_yes _ _ HY (hE.up uw1)).mono ?_
    rintro e w2 ⟨rfl, qw2⟩
    have uw2 := uw1.trans qw2
    clear qw2 uw1
    go_wp2_with fail
    refine (ystart_yes _ _ HY (hE.up uw2)).mono ?_
    rintro e w3 ⟨rfl, qw3⟩
    have uw3 := uw2.trans qw3
    clear qw3 uw2
    go_wp2_with fail
    refine (yend_at _ _ _ HE1.out HY (hE.up uw3)).mono ?_
    rintro e w4 ⟨rfl, qw4⟩
    have uw4 := uw3.trans qw4
    clear qw4 uw3
    go_wp2_with fail
    refine (rIs_yes _ _ HY).mono ?_
    rintro e w5 ⟨rfl, rfl⟩
    go_wp2_with fail
    refine (rStart _ _ HY.b).mono ?_
    rintro e w6 ⟨rfl, rfl⟩
    go_wp2_with fail
    refine (rLeap _ _ HY.b).mono ?_
    rintro e w7 ⟨rfl, rfl⟩
    go_wp2_with fail
    refine (rLen _ _ HY.b).mono ?_
    rintro e w8 ⟨rfl, rfl⟩
    go_wp2_with fail
    refine (num4 _ _).mono ?_
    rintro e w9 ⟨rfl, rfl⟩
    go_wp2_with fail
    refine (num4 _ _).mono ?_
    rintro e w10 ⟨rfl, rfl⟩
    go_wp2_with fail
    refine (rLen _ _ HY.b).mono ?_
    rintro e w11 ⟨rfl, rfl⟩
    go_wp2_with fail
    refine (num4 _ _).mono ?_
    rintro e w12 ⟨rfl, rfl⟩
    go_wp2_with fail
    refine (check_yes _ _ HY).mono ?_
    rintro e w13 ⟨rfl, rfl⟩
    go_wp2_with fail
    refine (ystart_at _ _ _ HE2.out Y1 (hE.up uw4)).mono ?_
    rintro e w14 ⟨rfl, qw14⟩
    have uw14 := uw4.trans qw14
    clear qw14 uw4
    go_wp2_with fail
    refine (rIs_yes _ _ Y1).mono ?_
    rintro e w15 ⟨rfl, rfl⟩
    go_wp2_with fail
    refine (num4 _ _).mono ?_
    rintro e w16 ⟨rfl, rfl⟩
    go_wp2_with fail
    refine (ystart_no _ _ no4).mono ?_
    rintro e w17 ⟨rfl, rfl⟩
    go_wp2_with fail
    refine (rIs_no _ _ no4).mono ?_
    rintro e w18 ⟨rfl, rfl⟩
    go_wp2_with fail
    refine (lives4 _ (hE.up uw14)).mono ?_
    rintro e w19 ⟨rfl, qw19⟩
    have uw19 := uw14.trans qw19
    clear qw19 uw14
    go_wp2_with fail
    go_ret
    exact ⟨rfl, uw19⟩

theorem yr_sy1 (y : Int) : Cal.yr (Cal.sy y - 1) = y - 1 := by
  have := Cal.sy_lt (y - 1) y (by omega)
  exact Cal.yr_of _ _ (by omega) (by rw [show y - 1 + 1 = y by omega]; omega)

set_option maxHeartbeats 4000000 in
set_option maxRecDepth 100000 in
theorem yearsKnown_true  (w : World) (hE : Steps w) :
    Calls Tryd.prog 6 #[] w fun e w' => e = .returned (.bool true) ∧ Up w w' := by
  go_enter Tryd.func6, Tryd.ntmps6
  go_wp2_with fail
  go_loopw [1, 2] (fun d y wr => ∃ k : Int, -400 ≤ k ∧ k ≤ 500 ∧ y = .int .i64 k ∧ d = .int .i64 (Cal.sy k) ∧ Up w wr) (fun _ y _ => (500 - intOf y).toNat)
  case atStart => exact ⟨-400, by omega, by omega, rfl, by rw [show Cal.sy (-400) = -146097 by decide], Up.refl _⟩
  case round =>
    obtain ⟨y, hy1, hy2, rfl, rfl, hu⟩ := hrel
    by_cases hlt : y < 500
    · have HY : IsY y := ⟨by omega, by omega⟩
      have HY1 : IsY (y - 1) := ⟨by omega, by omega⟩
      have hs := sy_bdY y HY
      have hl := len_bd y
      have ID : I64 (Cal.sy y) := ⟨by omega, by omega⟩
      have ID1 : I64 (Cal.sy y - 1) := ⟨by omega, by omega⟩
      have HS := Lib.hid (Cal.sy_succ y)
      go_wp2_with fail
      refine (ystart_yes _ _ HY (hE.up hu)).mono ?_
      rintro e w1 ⟨rfl, qw1⟩
      have uw1 := hu.trans qw1
      clear qw1 hu
      go_wp2_with fail
      refine (of_at _ y _ (Cal.yr_sy y) ID HY (hE.up uw1)).mono ?_
      rintro e w2 ⟨rfl, qw2⟩
      have uw2 := uw1.trans qw2
      clear qw2 uw1
      go_wp2_with fail
      refine (of_at _ (y - 1) _ (yr_sy1 y) ID1 HY1 (hE.up uw2)).mono ?_
      rintro e w3 ⟨rfl, qw3⟩
      have uw3 := uw2.trans qw3
      clear qw3 uw2
      go_wp2_with fail
      refine (num4 _ _).mono ?_
      rintro e w4 ⟨rfl, rfl⟩
      go_wp2_with fail
      refine (num4 _ _).mono ?_
      rintro e w5 ⟨rfl, rfl⟩
      go_wp2_with fail
      refine (num4 _ _).mono ?_
      rintro e w6 ⟨rfl, rfl⟩
      go_wp2_with fail
      refine (rLen _ _ HY.b).mono ?_
      rintro e w7 ⟨rfl, rfl⟩
      go_wp2_with fail
      go_roundw
      case rel => exact ⟨y + 1, by omega, by omega, rfl, by rw [HS.out], uw3⟩
      case measure => simp [intOf]; omega
    · obtain rfl : y = 500 := by omega
      clear hlt hy1 hy2
      go_wp2_with fail
      refine (ystart_at (-10000000000000000) (-3652425000000000000) _ (by decide +kernel) (by decide) (hE.up hu)).mono ?_
      rintro e w21 ⟨rfl, qw21⟩
      have uw21 := hu.trans qw21
      clear qw21 hu
      go_wp2_with fail
      refine (yend_at 10000000000000000 3652425000000000365 _ (by decide +kernel) (by decide) (hE.up uw21)).mono ?_
      rintro e w22 ⟨rfl, qw22⟩
      have uw22 := uw21.trans qw22
      clear qw22 uw21
      go_wp2_with fail
      refine (num4 _ _).mono ?_
      rintro e w23 ⟨rfl, rfl⟩
      go_wp2_with fail
      refine (yearsOf_true (-3652425000000000000) _ (by decide) (hE.up uw22)).mono ?_
      rintro e w24 ⟨rfl, qw24⟩
      have uw24 := uw22.trans qw24
      clear qw24 uw22
      go_wp2_with fail
      refine (yearsOf_true (-3652425000000000001) _ (by decide) (hE.up uw24)).mono ?_
      rintro e w25 ⟨rfl, qw25⟩
      have uw25 := uw24.trans qw25
      clear qw25 uw24
      go_wp2_with fail
      refine (yearsOf_true 3652425000000000365 _ (by decide) (hE.up uw25)).mono ?_
      rintro e w26 ⟨rfl, qw26⟩
      have uw26 := uw25.trans qw26
      clear qw26 uw25
      go_wp2_with fail
      refine (yearsOf_true 3652425000000000366 _ (by decide) (hE.up uw26)).mono ?_
      rintro e w27 ⟨rfl, qw27⟩
      have uw27 := uw26.trans qw27
      clear qw27 uw26
      go_wp2_with fail
      refine (yearsOf_true 9223372036854775807 _ (by decide) (hE.up uw27)).mono ?_
      rintro e w28 ⟨rfl, qw28⟩
      have uw28 := uw27.trans qw28
      clear qw28 uw27
      go_wp2_with fail
      refine (yearsOf_true (-9223372036854775808) _ (by decide) (hE.up uw28)).mono ?_
      rintro e w29 ⟨rfl, qw29⟩
      have uw29 := uw28.trans qw29
      clear qw29 uw28
      go_wp2_with fail
      refine (yearsStart_true (-10000000000000001) _ (by decide) (hE.up uw29)).mono ?_
      rintro e w30 ⟨rfl, qw30⟩
      have uw30 := uw29.trans qw30
      clear qw30 uw29
      go_wp2_with fail
      refine (yearsStart_true 9223372036854775807 _ (by decide) (hE.up uw30)).mono ?_
      rintro e w31 ⟨rfl, qw31⟩
      have uw31 := uw30.trans qw31
      clear qw31 uw30
      go_wp2_with fail
      refine (lives4 _ (hE.up uw31)).mono ?_
      rintro e w32 ⟨rfl, qw32⟩
      have uw32 := uw31.trans qw32
      clear qw32 uw31
      go_wp2_with fail
      go_ret
      exact ⟨rfl, uw32⟩
end Go.Proofs.YtnaoadmffnbalaaDoor
