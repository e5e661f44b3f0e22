/-
  WALKS OF circaref01: Int.
-/
import Derived.Test.YtopbbcbpanfigaaGreatDoorNatG
namespace Go.Proofs.YtopbbcbpanfigaaGreatDoor
open Go.RowKit
theorem val_drop_le {l : List Int} (h : Dg.Digs l) (k : Nat) (hk : k ≤ l.length) : 0 ≤ Dg.val (l.drop k) ∧ Dg.val (l.drop k) ≤ Dg.val l := by
  have e := Dg.val_split l k hk
  have a := Dg.val_nonneg (h.take k)
  have b := Dg.val_nonneg (h.drop k)
  have p := Dg.p10_pos k
  have m : 1 * Dg.val (l.drop k) ≤ Dg.p10 k * Dg.val (l.drop k) := Int.mul_le_mul_of_nonneg_right p b
  omega
theorem val_drop_dig (l : List Int) (m : Nat) (h : m < l.length) : Dg.val (l.drop m) = Dg.dig l m + 10 * Dg.val (l.drop (m + 1)) := by
  rw [drop_dig l m h, Dg.val]
theorem len_of {n : Nat} (h : n ≤ 9223372036854775808) : (Dg.dl n).length ≤ 1000 := by have := dl_i64 n h; omega
/-- What Int's loop knows. -/
structure IntRel (b : Bool) (l : List Int) (k : Nat) (N : Int) : Prop where
  hk : k ≤ l.length
  val : N = sg b (Dg.val (l.drop k))
theorem IntRel.step {b : Bool} {l : List Int} {m : Nat} {N : Int} (h : IntRel b l (m + 1) N) : IntRel b l m (sg b (Dg.dig l m + 10 * sg b N)) := by
  have hk := h.hk
  have hv := h.val
  refine ⟨by omega, ?_⟩
  subst hv
  rw [val_drop_dig l m (by omega)]
  unfold sg
  cases b <;> simp
theorem IntRel.bd {b : Bool} {l : List Int} {m : Nat} {N x : Int} (hd : Dg.Digs l) (h : IntRel b l (m + 1) N) (hx : x = sg b (Dg.val l)) (hi : I64 x) :
    (b = true → N ≤ 0 ∧ -9223372036854775808 ≤ 10 * N - Dg.dig l m ∧ -9223372036854775808 ≤ 10 * N) ∧ (b = false → 0 ≤ N ∧ 10 * N + Dg.dig l m ≤ 9223372036854775807 ∧ 10 * N ≤ 9223372036854775807) := by
  have hk := h.hk
  have hv := h.val
  have d1 := val_drop_le hd (m + 1) hk
  have d2 := val_drop_le hd m (by omega)
  have e := val_drop_dig l m (by omega)
  have g := Dg.dig_bd hd m
  obtain ⟨i1, i2⟩ := hi
  constructor
  · rintro rfl
    simp [sg] at hv hx
    omega
  · rintro rfl
    simp [sg] at hv hx
    omega
theorem IsN.shape {w : World} {v : Value} {x : Int} (h : IsN w v x) : ∃ b p n cap, v = .agg #[.bool b, .slice p n cap] := by
  obtain ⟨p, n, cap, e, _⟩ := h.form
  exact ⟨_, p, n, cap, e⟩
theorem rCmp_is (va vb : Value) (x y r : Int) (w : World) (hr : sgn (x - y) = r) (hva : IsN w va x) (hvb : IsN w vb y) (hx : (Dg.dl x.natAbs).length ≤ 1000) (hy : (Dg.dl y.natAbs).length ≤ 1000) :
    Calls Tryz.prog 75 #[va, vb] w fun e w' => e = .returned (.int .i64 r) ∧ Dn w w' := by
  subst hr; exact rCmp va vb x y w hva hvb hx hy
theorem lenLeast : (Dg.dl (-9223372036854775808 : Int).natAbs).length ≤ 1000 := len_of (by decide)
theorem lenMost : (Dg.dl (9223372036854775807 : Int).natAbs).length ≤ 1000 := len_of (by decide)
set_option maxHeartbeats 4000000 in
set_option maxRecDepth 10000 in
theorem rInt_low (v : Value) (x : Int) (w : World) (hx : IsN w v x) (hl : (Dg.dl x.natAbs).length ≤ 1000) (h : x < -9223372036854775808) :
    Calls Tryz.prog 55 #[v] w fun e w' => e = .returned (.tuple #[.int .i64 0, .bool false]) ∧ Dn w w' := by
  have hr1 : sgn (x - -9223372036854775808) = -1 := by unfold sgn; rw [if_pos (by omega)]
  clear h
  obtain ⟨p, n, cap, rfl, hs⟩ := hx.form
  generalize hb : decide (x < 0) = b at *
  obtain ⟨rfl, ln⟩ := hs.len
  have HX := Lib.hid hx
  have HS := Lib.hid hs
  have HL := Lib.hid hl
  have HB := Lib.hid hb
  clear hx hs hl hb
  go_enter Tryz.func55, Tryz.ntmps55
  go_wp2_with fail
  refine (rOf1 _ _ (by decide)).mono ?_
  rintro e w2 ⟨v2, rfl, hI2, q2⟩
  obtain ⟨b2, p2, n2, cap2, rfl⟩ := hI2.shape
  have y1 := ((NBlk.new w b (.slice p (Dg.dl x.natAbs).length cap) 80)).dn q2
  have Y1 := Lib.hid y1
  have U2 := Lib.hid ((((Dn.refl w).alloc _).trans q2) : Dn w w2)
  have I2 := Lib.hid hI2
  obtain ⟨c0, c1, cf0, cf1, cl⟩ := y1
  clear hI2 q2
  go_wp2_with fail
  refine (rOf1 _ _ (by decide)).mono ?_
  rintro e w3 ⟨v3, rfl, hI3, q3⟩
  obtain ⟨b3, p3, n3, cap3, rfl⟩ := hI3.shape
  have y2 := Y1.out.dn (((Dn.refl _).alloc _).trans q3)
  have Y2 := Lib.hid y2
  have y3 := ((NBlk.new w2 b2 (.slice p2 n2 cap2) 80)).dn q3
  have Y3 := Lib.hid y3
  have U3 := Lib.hid (U2.out.trans (((Dn.refl _).alloc _).trans q3))
  have J2 := Lib.hid (I2.out.dn (((Dn.refl _).alloc _).trans q3))
  have J3 := Lib.hid hI3
  clear c0 c1 cf0 cf1 cl q3 hI3
  obtain ⟨c0, c1, cf0, cf1, cl⟩ := y2
  obtain ⟨d0, d1, df0, df1, dl⟩ := y3
  go_wp2_with fail
  have uV := (Dn.refl w3).alloc (.cells #[.bool b3, .slice p3 n3 cap3] 80)
  refine (rCmp_is _ _ x (-9223372036854775808) _ _ hr1 (HX.out.dn (U3.out.trans uV)) (J2.out.dn uV) HL.out lenLeast).mono ?_
  rintro e w4 ⟨rfl, q4⟩
  have y4 := (Y2.out.dn uV).dn q4
  have Y4 := Lib.hid y4
  have y5 := (NBlk.new w3 b3 (.slice p3 n3 cap3) 80).dn q4
  have U4 := Lib.hid ((U3.out.trans uV).trans q4)
  have K3 := Lib.hid (J3.out.dn (uV.trans q4))
  clear c0 c1 cf0 cf1 cl d0 d1 df0 df1 dl uV q4
  obtain ⟨c0, c1, cf0, cf1, cl⟩ := y4
  obtain ⟨d0, d1, df0, df1, dl⟩ := y5
  go_wp2_with fail
  go_ret2
  exact ⟨rfl, U4.out⟩
set_option maxHeartbeats 4000000 in
set_option maxRecDepth 10000 in
theorem rInt_high (v : Value) (x : Int) (w : World) (hx : IsN w v x) (hl : (Dg.dl x.natAbs).length ≤ 1000) (h : 9223372036854775807 < x) :
    Calls Tryz.prog 55 #[v] w fun e w' => e = .returned (.tuple #[.int .i64 0, .bool false]) ∧ Dn w w' := by
  have hr1 : sgn (x - -9223372036854775808) = 1 := by unfold sgn; rw [if_neg (by omega), if_neg (by omega)]
  have hr2 : sgn (x - 9223372036854775807) = 1 := by unfold sgn; rw [if_neg (by omega), if_neg (by omega)]
  clear h
  obtain ⟨p, n, cap, rfl, hs⟩ := hx.form
  generalize hb : decide (x < 0) = b at *
  obtain ⟨rfl, ln⟩ := hs.len
  have HX := Lib.hid hx
  have HS := Lib.hid hs
  have HL := Lib.hid hl
  have HB := Lib.hid hb
  clear hx hs hl hb
  go_enter Tryz.func55, Tryz.ntmps55
  go_wp2_with fail
  refine (rOf1 _ _ (by decide)).mono ?_
  rintro e w2 ⟨v2, rfl, hI2, q2⟩
  obtain ⟨b2, p2, n2, cap2, rfl⟩ := hI2.shape
  have y1 := ((NBlk.new w b (.slice p (Dg.dl x.natAbs).length cap) 80)).dn q2
  have Y1 := Lib.hid y1
  have U2 := Lib.hid ((((Dn.refl w).alloc _).trans q2) : Dn w w2)
  have I2 := Lib.hid hI2
  obtain ⟨c0, c1, cf0, cf1, cl⟩ := y1
  clear hI2 q2
  go_wp2_with fail
  refine (rOf1 _ _ (by decide)).mono ?_
  rintro e w3 ⟨v3, rfl, hI3, q3⟩
  obtain ⟨b3, p3, n3, cap3, rfl⟩ := hI3.shape
  have y2 := Y1.out.dn (((Dn.refl _).alloc _).trans q3)
  have Y2 := Lib.hid y2
  have y3 := ((NBlk.new w2 b2 (.slice p2 n2 cap2) 80)).dn q3
  have Y3 := Lib.hid y3
  have U3 := Lib.hid (U2.out.trans (((Dn.refl _).alloc _).trans q3))
  have J2 := Lib.hid (I2.out.dn (((Dn.refl _).alloc _).trans q3))
  have J3 := Lib.hid hI3
  clear c0 c1 cf0 cf1 cl q3 hI3
  obtain ⟨c0, c1, cf0, cf1, cl⟩ := y2
  obtain ⟨d0, d1, df0, df1, dl⟩ := y3
  go_wp2_with fail
  have uV := (Dn.refl w3).alloc (.cells #[.bool b3, .slice p3 n3 cap3] 80)
  refine (rCmp_is _ _ x (-9223372036854775808) _ _ hr1 (HX.out.dn (U3.out.trans uV)) (J2.out.dn uV) HL.out lenLeast).mono ?_
  rintro e w4 ⟨rfl, q4⟩
  have y4 := (Y2.out.dn uV).dn q4
  have Y4 := Lib.hid y4
  have y5 := (NBlk.new w3 b3 (.slice p3 n3 cap3) 80).dn q4
  have U4 := Lib.hid ((U3.out.trans uV).trans q4)
  have K3 := Lib.hid (J3.out.dn (uV.trans q4))
  clear c0 c1 cf0 cf1 cl d0 d1 df0 df1 dl uV q4
  obtain ⟨c0, c1, cf0, cf1, cl⟩ := y4
  obtain ⟨d0, d1, df0, df1, dl⟩ := y5
  go_wp2_with fail
  refine (rCmp_is _ _ x 9223372036854775807 _ _ hr2 (HX.out.dn U4.out) K3.out HL.out lenMost).mono ?_
  rintro e w5 ⟨rfl, q5⟩
  have y6 := Y4.out.dn q5
  have U5 := Lib.hid (U4.out.trans q5)
  clear c0 c1 cf0 cf1 cl d0 d1 df0 df1 dl q5
  obtain ⟨c0, c1, cf0, cf1, cl⟩ := y6
  go_wp2_with fail
  go_ret2
  exact ⟨rfl, U5.out⟩
theorem sgn_pos (z : Int) (h : 0 ≤ z) : 0 ≤ sgn z := by unfold sgn; split <;> (try split) <;> omega
theorem sgn_neg (z : Int) (h : z ≤ 0) : sgn z ≤ 0 := by unfold sgn; split <;> (try split) <;> omega
set_option maxHeartbeats 4000000 in
set_option maxRecDepth 10000 in
theorem rInt_yes (v : Value) (x : Int) (w : World) (hx : IsN w v x) (hl : (Dg.dl x.natAbs).length ≤ 1000) (h : I64 x) :
    Calls Tryz.prog 55 #[v] w fun e w' => e = .returned (.tuple #[.int .i64 x, .bool true]) ∧ Dn w w' := by
  have hp1 := sgn_pos (x - -9223372036854775808) (by have := h.1; omega)
  have hp2 := sgn_neg (x - 9223372036854775807) (by have := h.2; omega)
  generalize hr1 : sgn (x - -9223372036854775808) = r1 at *
  generalize hr2 : sgn (x - 9223372036854775807) = r2 at *
  have t1 : decide (r1 < 0) = false := by simp; omega
  have t2 : decide (0 < r2) = false := by simp; omega
  have hr1' := Lib.hid hr1
  have hr2' := Lib.hid hr2
  clear hr1 hr2
  have hr1 := hr1'
  have hr2 := hr2'
  obtain ⟨p, n, cap, rfl, hs⟩ := hx.form
  generalize hb : decide (x < 0) = b at *
  obtain ⟨rfl, ln⟩ := hs.len
  have HX := Lib.hid hx
  have HS := Lib.hid hs
  have HL := Lib.hid hl
  have HB := Lib.hid hb
  have h' := Lib.hid h
  clear hx hs hl hb h
  go_enter Tryz.func55, Tryz.ntmps55
  go_wp2_with fail
  refine (rOf1 _ _ (by decide)).mono ?_
  rintro e w2 ⟨v2, rfl, hI2, q2⟩
  obtain ⟨b2, p2, n2, cap2, rfl⟩ := hI2.shape
  have y1 := ((NBlk.new w b (.slice p (Dg.dl x.natAbs).length cap) 80)).dn q2
  have Y1 := Lib.hid y1
  have U2 := Lib.hid ((((Dn.refl w).alloc _).trans q2) : Dn w w2)
  have I2 := Lib.hid hI2
  obtain ⟨c0, c1, cf0, cf1, cl⟩ := y1
  clear hI2 q2
  go_wp2_with fail
  refine (rOf1 _ _ (by decide)).mono ?_
  rintro e w3 ⟨v3, rfl, hI3, q3⟩
  obtain ⟨b3, p3, n3, cap3, rfl⟩ := hI3.shape
  have y2 := Y1.out.dn (((Dn.refl _).alloc _).trans q3)
  have Y2 := Lib.hid y2
  have y3 := ((NBlk.new w2 b2 (.slice p2 n2 cap2) 80)).dn q3
  have Y3 := Lib.hid y3
  have U3 := Lib.hid (U2.out.trans (((Dn.refl _).alloc _).trans q3))
  have J2 := Lib.hid (I2.out.dn (((Dn.refl _).alloc _).trans q3))
  have J3 := Lib.hid hI3
  clear c0 c1 cf0 cf1 cl q3 hI3
  obtain ⟨c0, c1, cf0, cf1, cl⟩ := y2
  obtain ⟨d0, d1, df0, df1, dl⟩ := y3
  go_wp2_with fail
  have uV := (Dn.refl w3).alloc (.cells #[.bool b3, .slice p3 n3 cap3] 80)
  refine (rCmp_is _ _ x (-9223372036854775808) _ _ hr1.out (HX.out.dn (U3.out.trans uV)) (J2.out.dn uV) HL.out lenLeast).mono ?_
  rintro e w4 ⟨rfl, q4⟩
  have y4 := (Y2.out.dn uV).dn q4
  have Y4 := Lib.hid y4
  have y5 := (NBlk.new w3 b3 (.slice p3 n3 cap3) 80).dn q4
  have U4 := Lib.hid ((U3.out.trans uV).trans q4)
  have K3 := Lib.hid (J3.out.dn (uV.trans q4))
  clear c0 c1 cf0 cf1 cl d0 d1 df0 df1 dl uV q4
  obtain ⟨c0, c1, cf0, cf1, cl⟩ := y4
  obtain ⟨d0, d1, df0, df1, dl⟩ := y5
  go_wp2_with fail
  refine (rCmp_is _ _ x 9223372036854775807 _ _ hr2.out (HX.out.dn U4.out) K3.out HL.out lenMost).mono ?_
  rintro e w5 ⟨rfl, q5⟩
  have y6 := Y4.out.dn q5
  have U5 := Lib.hid (U4.out.trans q5)
  clear c0 c1 cf0 cf1 cl d0 d1 df0 df1 dl q5
  obtain ⟨c0, c1, cf0, cf1, cl⟩ := y6
  go_wp2_with fail
  have hd := Dg.dl_digs x.natAbs
  have HD := Lib.hid hd
  have HI := h'
  have HV := Lib.hid (show x = sg b (Dg.val (Dg.dl x.natAbs)) by rw [← HB.out]; exact (sg_abs x).symm)
  have S5 := HS.out.dn U5.out
  obtain ⟨p', cap', he, h1, h2, h3⟩ := S5
  injection he with e1 e2 e3
  subst e1 e3
  have H3 := Lib.hid h3
  clear h3 hd
  generalize hgl : Dg.dl x.natAbs = l at *
  clear hgl
  go_loop [6, 7] (fun nv iv => ∃ (k : Nat) (j N : Int), j = (k : Int) - 1 ∧ iv = .int .i64 j ∧ nv = .int .i64 N ∧ IntRel b l k N) (fun _ iv => (intOf iv + 1).toNat)
  case atStart => exact ⟨l.length, _, 0, rfl, rfl, rfl, ⟨Nat.le_refl _, by rw [List.drop_of_length_le (Nat.le_refl _)]; simp [sg, Dg.val]⟩⟩
  case round =>
    obtain ⟨k, j, N, hj, rfl, rfl, hr⟩ := hrel
    by_cases h0 : k = 0
    · subst h0
      obtain rfl : j = -1 := by omega
      have hN : x = N := by rw [HV.out, hr.val]; rfl
      have HN := Lib.hid hN
      clear hj hr hN
      go_wp2_with fail
      go_ret2
      exact ⟨by show Ending.returned (.tuple #[.int .i64 N, .bool true]) = Ending.returned (.tuple #[.int .i64 x, .bool true]); rw [HN.out], U5.out⟩
    · obtain ⟨m, rfl⟩ : ∃ m, k = m + 1 := ⟨k - 1, by omega⟩
      obtain rfl : j = (m : Int) := by omega
      obtain ⟨g, rfl, q⟩ := H3.out m _ (Dg.dig_some (by have := hr.hk; omega))
      have hbd := IntRel.bd HD.out hr HV.out HI.out
      have hst := hr.step
      obtain ⟨g1, g2⟩ := Dg.dig_bd HD.out m
      have HST := Lib.hid hst
      have hm : m < l.length := by have := hr.hk; omega
      clear hr hst hj
      cases hb : b with
      | true =>
        subst hb
        obtain ⟨n1, n2, n3⟩ := hbd.1 rfl
        clear hbd
        have HE := Lib.hid (show 10 * N - Dg.dig l m = sg true (Dg.dig l m + 10 * sg true N) by simp [sg]; omega)
        generalize Dg.dig l m = d at *
        go_wp2_with fail
        go_round
        case rel => exact ⟨m, _, _, rfl, rfl, rfl, by rw [HE.out]; exact HST.out⟩
        case measure => simp [intOf]
      | false =>
        subst hb
        obtain ⟨n1, n2, n3⟩ := hbd.2 rfl
        clear hbd
        have HE := Lib.hid (show 10 * N + Dg.dig l m = sg false (Dg.dig l m + 10 * sg false N) by simp [sg]; omega)
        generalize Dg.dig l m = d at *
        go_wp2_with fail
        go_round
        case rel => exact ⟨m, _, _, rfl, rfl, rfl, by rw [HE.out]; exact HST.out⟩
        case measure => simp [intOf]
end Go.Proofs.YtopbbcbpanfigaaGreatDoor
