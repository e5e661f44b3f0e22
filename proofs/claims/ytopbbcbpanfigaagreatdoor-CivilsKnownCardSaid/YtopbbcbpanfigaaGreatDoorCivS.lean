/-
  circaref06: Parse, by what the text holds. (Printed by wip/gen/civ13.py.)
-/
import Derived.Test.YtopbbcbpanfigaaGreatDoorCivRN4
import Derived.Test.YtopbbcbpanfigaaGreatDoorCivRN5
import Derived.Test.YtopbbcbpanfigaaGreatDoorCivRP4
import Derived.Test.YtopbbcbpanfigaaGreatDoorCivRP5
import Derived.Test.YtopbbcbpanfigaaGreatDoorCivG
namespace Go.Proofs.YtopbbcbpanfigaaGreatDoor
open Go.RowKit
set_option linter.unusedVariables false
set_option linter.unusedSimpArgs false
theorem ext_list (s : ByteArray) (i j : Nat) : (s.extract i j).data.toList = (s.data.toList.drop i).take (j - i) := by simp [ByteArray.data_extract, Array.toList_extract, List.extract]
theorem at_of {s : ByteArray} {i : Nat} (h : i < s.size) {c : UInt8} (hc : s.data.toList[i]? = some c) : s[i] = c := by
  have := get_at s i h
  rw [hc] at this
  exact (Option.some.inj this).symm
theorem app_at (y t : List UInt8) (j : Nat) : (y ++ t)[y.length + j]? = t[j]? := by
  rw [List.getElem?_append_right (by omega)]
  congr 1
  omega
theorem drop_at (y t : List UInt8) (j : Nat) : (y ++ t).drop (y.length + j) = t.drop j := by
  rw [List.drop_append, List.drop_eq_nil_of_le (by omega), Nat.add_sub_cancel_left]
  rfl
theorem dv_mod {c : UInt8} (h : Dg.isD c) : ((c.toNat : Int) - 48) % 256 = Dg.dv c ∧ 0 ≤ Dg.dv c ∧ Dg.dv c ≤ 9 := by
  unfold Dg.isD at h
  unfold Dg.dv
  omega
theorem head_at {s : ByteArray} (h : 0 < s.size) : s.data.toList.head? = some s[0] := by
  rw [← get_at s 0 h]
  cases s.data.toList <;> rfl
theorem neg_at {s : ByteArray} (h : 0 < s.size) : isNeg s.data.toList = true ↔ s[0] = 45 := by
  unfold isNeg
  rw [head_at h]
  simp
set_option maxHeartbeats 4000000 in
theorem rc6Parse_s (s : ByteArray) (y m d e : Int) (w : World) (hs : s.size ≤ 100) (h : PRes s.data.toList y m d e) :
    Calls Tryz.prog 23 #[.string s] w fun o w' => o = .returned (.tuple #[.agg #[.int .i64 y, .int .i64 m, .int .i64 d], .int .i64 e]) ∧ Dn w w' := by
  have hlen := len_is s
  by_cases h10 : s.size < 10
  · obtain ⟨rfl, rfl, rfl, rfl⟩ := h.bad (fun hc => by have := cf_long hc; omega)
    exact rp6_0 s h10 w
  · obtain ⟨yl, a, b, c, a2, b2, c2, hl, hy⟩ := six_split s.data.toList (by omega)
    obtain ⟨k, hk⟩ : ∃ k, yl.length = k := ⟨_, rfl⟩
    have hsz : s.size = k + 6 := by rw [← hlen, hl, List.length_append, hk]; rfl
    have g6 : s[k] = a := at_of (by omega) (by rw [hl, ← hk]; simp)
    have g5 : s[k + 1] = b := at_of (by omega) (by rw [hl, ← hk, app_at]; rfl)
    have g4 : s[k + 2] = c := at_of (by omega) (by rw [hl, ← hk, app_at]; rfl)
    have g3 : s[k + 3] = a2 := at_of (by omega) (by rw [hl, ← hk, app_at]; rfl)
    have g2 : s[k + 4] = b2 := at_of (by omega) (by rw [hl, ← hk, app_at]; rfl)
    have g1 : s[k + 5] = c2 := at_of (by omega) (by rw [hl, ← hk, app_at]; rfl)
    have t2 : (s.extract (k + 4) s.size).data.toList = [b2, c2] := by
      rw [ext_list, hl, hsz, ← hk, drop_at]
      simp
    have t5 : (s.extract (k + 1) (k + 3)).data.toList = [b, c] := by
      rw [ext_list, hl, ← hk, drop_at]
      simp
    have t0 : (s.extract 0 k).data.toList = yl := by
      rw [ext_list, hl, ← hk]
      simp
    have z0 : (s.extract 0 k).size = k := by rw [← len_is, t0, hk]
    have z2 : (s.extract (k + 4) s.size).size = 2 := by rw [← len_is, t2]; rfl
    have z5 : (s.extract (k + 1) (k + 3)).size = 2 := by rw [← len_is, t5]; rfl
    have hcf := cf_iff yl a b c a2 b2 c2
    rw [← hl] at hcf
    have D2 := fun W => rc6Dig (s.extract (k + 4) s.size) (by omega) W
    have D5 := fun W => rc6Dig (s.extract (k + 1) (k + 3)) (by omega) W
    rw [t2] at D2
    rw [t5] at D5
    by_cases h3 : a2 = 45
    · by_cases h6 : a = 45
      · have q3 : s[k + 3] = 45 := g3.trans h3
        have q6 : s[k] = 45 := g6.trans h6
        by_cases e2 : AllD [b2, c2]
        · rw [decide_eq_true e2] at D2
          by_cases e5 : AllD [b, c]
          · rw [decide_eq_true e5] at D5
            obtain ⟨Y0, hY0⟩ : ∃ Y0, Y0 = s.extract 0 k := ⟨_, rfl⟩
            rw [← hY0] at t0 z0
            have p0 : 0 < Y0.size := by omega
            have e22 := (allD2 _ _).1 e2
            have e55 := (allD2 _ _).1 e5
            have hA := fun (h : YF yl) => hcf.2 ⟨h6, h3, e22, e55, h⟩
            have hB := fun (h : CF s.data.toList) => (hcf.1 h).2.2.2.2
            have HD2 := Lib.hid D2
            have HD5 := Lib.hid D5
            have v5 := dv_mod e55.1
            have v4 := dv_mod e55.2
            have v2 := dv_mod e22.1
            have v1 := dv_mod e22.2
            rw [← g5] at v5
            rw [← g4] at v4
            rw [← g2] at v2
            rw [← g1] at v1
            have hmd : CF s.data.toList → yV s.data.toList = sg (isNeg yl) (Dg.nvA 0 (dsOf yl)) ∧ mV s.data.toList = 10 * Dg.dv s[k + 1] + Dg.dv s[k + 2] ∧ dV s.data.toList = 10 * Dg.dv s[k + 4] + Dg.dv s[k + 5] := by
              intro hc
              rw [hl, h3, h6] at hc ⊢
              rw [g5, g4, g2, g1]
              exact cf_vals yl b c b2 c2 hc
            by_cases hneg : isNeg yl = true
            · have gn : Y0[0] = 45 := (neg_at p0).1 (by rw [t0]; exact hneg)
              obtain ⟨Y1, hY1⟩ : ∃ Y1, Y1 = Y0.extract 1 Y0.size := ⟨_, rfl⟩
              have u1 : Y1.data.toList = dsOf yl := by
                rw [hY1, ext_list, t0, z0]
                unfold dsOf
                rw [if_pos hneg, List.take_of_length_le (by rw [List.length_drop]; omega)]
              have uz : Y1.size = k - 1 := by rw [← len_is, u1]; unfold dsOf; rw [if_pos hneg, List.length_drop, hk]
              have hlY : (dsOf yl).length = Y1.size := by rw [← u1]; exact len_is _
              have DY := fun W => rc6Dig Y1 (by omega) W
              rw [u1] at DY
              by_cases l4 : Y1.size < 4
              · obtain ⟨rfl, rfl, rfl, rfl⟩ := h.bad (fun hc => by have := (hB hc).1; omega)
                exact rp6_5n s Y0 Y1 _ _ (k + 5) (k + 4) (k + 3) (k + 2) (k + 1) k hs h10 (by omega) (by omega) (by omega) (by omega) (by omega) (by omega) (by omega) (by omega) (by omega) (by omega) (by omega) (by omega) rfl rfl hY0.symm q3 q6 HD2 HD5 p0 gn hY1.symm (by omega) l4 w
              · by_cases ey : AllD (dsOf yl)
                · rw [decide_eq_true ey] at DY
                  have HY : Hid (AllD Y1.data.toList) := Lib.hid (by rw [u1]; exact ey)
                  have hpy : 0 < Y1.size := by omega
                  have hhd : (dsOf yl).head? = some Y1[0] := by rw [← u1]; exact head_at hpy
                  by_cases nz : dsOf yl = [48, 48, 48, 48]
                  · obtain ⟨rfl, rfl, rfl, rfl⟩ := h.bad (fun hc => (hB hc).2.2.2 ⟨hneg, nz⟩)
                    exact rp6_8n s Y0 Y1 _ _ (k + 5) (k + 4) (k + 3) (k + 2) (k + 1) k hs h10 (by omega) (by omega) (by omega) (by omega) (by omega) (by omega) (by omega) (by omega) (by omega) (by omega) (by omega) (by omega) rfl rfl hY0.symm q3 q6 HD2 HD5 p0 gn hY1.symm (by omega) l4 (Lib.hid DY) (by have := congrArg List.length nz; rw [hlY] at this; simpa using this) (by rw [ByteArray.toList_eq, u1]; exact nz) w
                  · have nzb : ¬ Y1.toList = [48, 48, 48, 48] := by rw [ByteArray.toList_eq, u1]; exact nz
                    by_cases l5 : 4 < Y1.size
                    · by_cases g48 : Y1[0] = 48
                      · obtain ⟨rfl, rfl, rfl, rfl⟩ := h.bad (fun hc => (hB hc).2.2.1 ⟨by omega, by rw [hhd, g48]⟩)
                        exact rp6_7n s Y0 Y1 _ _ (k + 5) (k + 4) (k + 3) (k + 2) (k + 1) k hs h10 (by omega) (by omega) (by omega) (by omega) (by omega) (by omega) (by omega) (by omega) (by omega) (by omega) (by omega) (by omega) rfl rfl hY0.symm q3 q6 HD2 HD5 p0 gn hY1.symm (by omega) l4 (Lib.hid DY) l5 g48 w
                      ·
                        have hcf2 : CF s.data.toList := hA ⟨by omega, ey, fun q => g48 (by rw [hhd] at q; exact Option.some.inj q.2), fun q => nz q.2⟩
                        obtain ⟨ey1, em1, ed1⟩ := hmd hcf2
                        rw [hneg] at ey1
                        have hx : (-(Dg.nvA 0 Y1.data.toList : Int)) = yV s.data.toList := by rw [ey1, u1]; rfl
                        by_cases hF : I64 (yV s.data.toList)
                        · by_cases hI : IsY (yV s.data.toList)
                          · rcases h with ⟨hc, _⟩ | ⟨_, h4, h5, rfl, rfl, rfl⟩ | ⟨_, h4, rfl, rfl, rfl, rfl⟩
                            · exact absurd hcf2 hc
                            · rw [em1, ed1] at h4
                              exact rp6r_n5_ck s Y0 Y1 _ _ (k + 5) (k + 4) (k + 3) (k + 2) (k + 1) k hs h10 (by omega) (by omega) (by omega) (by omega) (by omega) (by omega) (by omega) (by omega) (by omega) (by omega) (by omega) (by omega) rfl rfl hY0.symm q3 q6 HD2 HD5 p0 gn hY1.symm (by omega) l4 (Lib.hid DY) HY (by omega) l5 g48 nzb (yV s.data.toList) hx (Lib.hid hF) (Lib.hid hI) e (Dg.dv s[k + 1]) (Dg.dv s[k + 2]) (Dg.dv s[k + 4]) (Dg.dv s[k + 5]) v5.1 v5.2 v4.1 v4.2 v2.1 v2.2 v1.1 v1.2 (Lib.hid h4) h5 w
                            · rw [em1, ed1] at h4 ⊢
                              exact rp6r_n5_ok s Y0 Y1 _ _ (k + 5) (k + 4) (k + 3) (k + 2) (k + 1) k hs h10 (by omega) (by omega) (by omega) (by omega) (by omega) (by omega) (by omega) (by omega) (by omega) (by omega) (by omega) (by omega) rfl rfl hY0.symm q3 q6 HD2 HD5 p0 gn hY1.symm (by omega) l4 (Lib.hid DY) HY (by omega) l5 g48 nzb (yV s.data.toList) hx (Lib.hid hF) (Lib.hid hI) (Dg.dv s[k + 1]) (Dg.dv s[k + 2]) (Dg.dv s[k + 4]) (Dg.dv s[k + 5]) v5.1 v5.2 v4.1 v4.2 v2.1 v2.2 v1.1 v1.2 (Lib.hid h4) w
                          · have h66 := cErr_far (y := yV s.data.toList) (m := mV s.data.toList) (d := dV s.data.toList) hI
                            rcases h with ⟨hc, _⟩ | ⟨_, h4, h5, rfl, rfl, rfl⟩ | ⟨_, h4, _⟩
                            · exact absurd hcf2 hc
                            · obtain rfl : e = 6 := h4.symm.trans h66
                              exact rp6r_n5_ny s Y0 Y1 _ _ (k + 5) (k + 4) (k + 3) (k + 2) (k + 1) k hs h10 (by omega) (by omega) (by omega) (by omega) (by omega) (by omega) (by omega) (by omega) (by omega) (by omega) (by omega) (by omega) rfl rfl hY0.symm q3 q6 HD2 HD5 p0 gn hY1.symm (by omega) l4 (Lib.hid DY) HY (by omega) l5 g48 nzb (yV s.data.toList) hx (Lib.hid hF) (Lib.hid hI) w
                            · rw [h66] at h4; exact absurd h4 (by decide)
                        · have h66 := cErr_far (y := yV s.data.toList) (m := mV s.data.toList) (d := dV s.data.toList) (fun hI => hF ⟨by have := hI.1; omega, by have := hI.2; omega⟩)
                          rcases h with ⟨hc, _⟩ | ⟨_, h4, h5, rfl, rfl, rfl⟩ | ⟨_, h4, _⟩
                          · exact absurd hcf2 hc
                          · obtain rfl : e = 6 := h4.symm.trans h66
                            exact rp6r_n5_ov s Y0 Y1 _ _ (k + 5) (k + 4) (k + 3) (k + 2) (k + 1) k hs h10 (by omega) (by omega) (by omega) (by omega) (by omega) (by omega) (by omega) (by omega) (by omega) (by omega) (by omega) (by omega) rfl rfl hY0.symm q3 q6 HD2 HD5 p0 gn hY1.symm (by omega) l4 (Lib.hid DY) HY (by omega) l5 g48 nzb (yV s.data.toList) hx (Lib.hid hF) w
                          · rw [h66] at h4; exact absurd h4 (by decide)
                    · have l6 : Y1.size = 4 := by omega
                      have hcf2 : CF s.data.toList := hA ⟨by omega, ey, fun q => by omega, fun q => nz q.2⟩
                      obtain ⟨ey1, em1, ed1⟩ := hmd hcf2
                      rw [hneg] at ey1
                      have hx : (-(Dg.nvA 0 Y1.data.toList : Int)) = yV s.data.toList := by rw [ey1, u1]; rfl
                      by_cases hF : I64 (yV s.data.toList)
                      · by_cases hI : IsY (yV s.data.toList)
                        · rcases h with ⟨hc, _⟩ | ⟨_, h4, h5, rfl, rfl, rfl⟩ | ⟨_, h4, rfl, rfl, rfl, rfl⟩
                          · exact absurd hcf2 hc
                          · rw [em1, ed1] at h4
                            exact rp6r_n4_ck s Y0 Y1 _ _ (k + 5) (k + 4) (k + 3) (k + 2) (k + 1) k hs h10 (by omega) (by omega) (by omega) (by omega) (by omega) (by omega) (by omega) (by omega) (by omega) (by omega) (by omega) (by omega) rfl rfl hY0.symm q3 q6 HD2 HD5 p0 gn hY1.symm (by omega) l4 (Lib.hid DY) HY (by omega) l6 nzb (yV s.data.toList) hx (Lib.hid hF) (Lib.hid hI) e (Dg.dv s[k + 1]) (Dg.dv s[k + 2]) (Dg.dv s[k + 4]) (Dg.dv s[k + 5]) v5.1 v5.2 v4.1 v4.2 v2.1 v2.2 v1.1 v1.2 (Lib.hid h4) h5 w
                          · rw [em1, ed1] at h4 ⊢
                            exact rp6r_n4_ok s Y0 Y1 _ _ (k + 5) (k + 4) (k + 3) (k + 2) (k + 1) k hs h10 (by omega) (by omega) (by omega) (by omega) (by omega) (by omega) (by omega) (by omega) (by omega) (by omega) (by omega) (by omega) rfl rfl hY0.symm q3 q6 HD2 HD5 p0 gn hY1.symm (by omega) l4 (Lib.hid DY) HY (by omega) l6 nzb (yV s.data.toList) hx (Lib.hid hF) (Lib.hid hI) (Dg.dv s[k + 1]) (Dg.dv s[k + 2]) (Dg.dv s[k + 4]) (Dg.dv s[k + 5]) v5.1 v5.2 v4.1 v4.2 v2.1 v2.2 v1.1 v1.2 (Lib.hid h4) w
                        · have h66 := cErr_far (y := yV s.data.toList) (m := mV s.data.toList) (d := dV s.data.toList) hI
                          rcases h with ⟨hc, _⟩ | ⟨_, h4, h5, rfl, rfl, rfl⟩ | ⟨_, h4, _⟩
                          · exact absurd hcf2 hc
                          · obtain rfl : e = 6 := h4.symm.trans h66
                            exact rp6r_n4_ny s Y0 Y1 _ _ (k + 5) (k + 4) (k + 3) (k + 2) (k + 1) k hs h10 (by omega) (by omega) (by omega) (by omega) (by omega) (by omega) (by omega) (by omega) (by omega) (by omega) (by omega) (by omega) rfl rfl hY0.symm q3 q6 HD2 HD5 p0 gn hY1.symm (by omega) l4 (Lib.hid DY) HY (by omega) l6 nzb (yV s.data.toList) hx (Lib.hid hF) (Lib.hid hI) w
                          · rw [h66] at h4; exact absurd h4 (by decide)
                      · have h66 := cErr_far (y := yV s.data.toList) (m := mV s.data.toList) (d := dV s.data.toList) (fun hI => hF ⟨by have := hI.1; omega, by have := hI.2; omega⟩)
                        rcases h with ⟨hc, _⟩ | ⟨_, h4, h5, rfl, rfl, rfl⟩ | ⟨_, h4, _⟩
                        · exact absurd hcf2 hc
                        · obtain rfl : e = 6 := h4.symm.trans h66
                          exact rp6r_n4_ov s Y0 Y1 _ _ (k + 5) (k + 4) (k + 3) (k + 2) (k + 1) k hs h10 (by omega) (by omega) (by omega) (by omega) (by omega) (by omega) (by omega) (by omega) (by omega) (by omega) (by omega) (by omega) rfl rfl hY0.symm q3 q6 HD2 HD5 p0 gn hY1.symm (by omega) l4 (Lib.hid DY) HY (by omega) l6 nzb (yV s.data.toList) hx (Lib.hid hF) w
                        · rw [h66] at h4; exact absurd h4 (by decide)
                · rw [decide_eq_false ey] at DY
                  obtain ⟨rfl, rfl, rfl, rfl⟩ := h.bad (fun hc => ey (hB hc).2.1)
                  exact rp6_6n s Y0 Y1 _ _ (k + 5) (k + 4) (k + 3) (k + 2) (k + 1) k hs h10 (by omega) (by omega) (by omega) (by omega) (by omega) (by omega) (by omega) (by omega) (by omega) (by omega) (by omega) (by omega) rfl rfl hY0.symm q3 q6 HD2 HD5 p0 gn hY1.symm (by omega) l4 (Lib.hid DY) w
            · have hnf : isNeg yl = false := by simpa using hneg
              have gn : Y0[0] ≠ 45 := fun q => hneg (by rw [← t0]; exact (neg_at p0).2 q)
              have u1 : Y0.data.toList = dsOf yl := by rw [t0]; exact ((ds_len yl).2 hnf).symm
              have uz : Y0.size = k := z0
              have hlY : (dsOf yl).length = Y0.size := by rw [← u1]; exact len_is _
              have DY := fun W => rc6Dig Y0 (by omega) W
              rw [u1] at DY
              by_cases l4 : Y0.size < 4
              · obtain ⟨rfl, rfl, rfl, rfl⟩ := h.bad (fun hc => by have := (hB hc).1; omega)
                exact rp6_5p s Y0 s _ _ (k + 5) (k + 4) (k + 3) (k + 2) (k + 1) k hs h10 (by omega) (by omega) (by omega) (by omega) (by omega) (by omega) (by omega) (by omega) (by omega) (by omega) (by omega) (by omega) rfl rfl hY0.symm q3 q6 HD2 HD5 p0 gn l4 w
              · by_cases ey : AllD (dsOf yl)
                · rw [decide_eq_true ey] at DY
                  have HY : Hid (AllD Y0.data.toList) := Lib.hid (by rw [u1]; exact ey)
                  have hpy : 0 < Y0.size := by omega
                  have hhd : (dsOf yl).head? = some Y0[0] := by rw [← u1]; exact head_at hpy
                  by_cases l5 : 4 < Y0.size
                  · by_cases g48 : Y0[0] = 48
                    · obtain ⟨rfl, rfl, rfl, rfl⟩ := h.bad (fun hc => (hB hc).2.2.1 ⟨by omega, by rw [hhd, g48]⟩)
                      exact rp6_7p s Y0 s _ _ (k + 5) (k + 4) (k + 3) (k + 2) (k + 1) k hs h10 (by omega) (by omega) (by omega) (by omega) (by omega) (by omega) (by omega) (by omega) (by omega) (by omega) (by omega) (by omega) rfl rfl hY0.symm q3 q6 HD2 HD5 p0 gn l4 (Lib.hid DY) l5 g48 w
                    ·
                      have hcf2 : CF s.data.toList := hA ⟨by omega, ey, fun q => g48 (by rw [hhd] at q; exact Option.some.inj q.2), fun q => by rw [hnf] at q; cases q.1⟩
                      obtain ⟨ey1, em1, ed1⟩ := hmd hcf2
                      rw [hnf] at ey1
                      have hx : (Dg.nvA 0 Y0.data.toList : Int) = yV s.data.toList := by rw [ey1, u1]; rfl
                      by_cases hF : I64 (yV s.data.toList)
                      · by_cases hI : IsY (yV s.data.toList)
                        · rcases h with ⟨hc, _⟩ | ⟨_, h4, h5, rfl, rfl, rfl⟩ | ⟨_, h4, rfl, rfl, rfl, rfl⟩
                          · exact absurd hcf2 hc
                          · rw [em1, ed1] at h4
                            exact rp6r_p5_ck s Y0 s _ _ (k + 5) (k + 4) (k + 3) (k + 2) (k + 1) k hs h10 (by omega) (by omega) (by omega) (by omega) (by omega) (by omega) (by omega) (by omega) (by omega) (by omega) (by omega) (by omega) rfl rfl hY0.symm q3 q6 HD2 HD5 p0 gn l4 (Lib.hid DY) HY (by omega) l5 g48 (yV s.data.toList) hx (Lib.hid hF) (Lib.hid hI) e (Dg.dv s[k + 1]) (Dg.dv s[k + 2]) (Dg.dv s[k + 4]) (Dg.dv s[k + 5]) v5.1 v5.2 v4.1 v4.2 v2.1 v2.2 v1.1 v1.2 (Lib.hid h4) h5 w
                          · rw [em1, ed1] at h4 ⊢
                            exact rp6r_p5_ok s Y0 s _ _ (k + 5) (k + 4) (k + 3) (k + 2) (k + 1) k hs h10 (by omega) (by omega) (by omega) (by omega) (by omega) (by omega) (by omega) (by omega) (by omega) (by omega) (by omega) (by omega) rfl rfl hY0.symm q3 q6 HD2 HD5 p0 gn l4 (Lib.hid DY) HY (by omega) l5 g48 (yV s.data.toList) hx (Lib.hid hF) (Lib.hid hI) (Dg.dv s[k + 1]) (Dg.dv s[k + 2]) (Dg.dv s[k + 4]) (Dg.dv s[k + 5]) v5.1 v5.2 v4.1 v4.2 v2.1 v2.2 v1.1 v1.2 (Lib.hid h4) w
                        · have h66 := cErr_far (y := yV s.data.toList) (m := mV s.data.toList) (d := dV s.data.toList) hI
                          rcases h with ⟨hc, _⟩ | ⟨_, h4, h5, rfl, rfl, rfl⟩ | ⟨_, h4, _⟩
                          · exact absurd hcf2 hc
                          · obtain rfl : e = 6 := h4.symm.trans h66
                            exact rp6r_p5_ny s Y0 s _ _ (k + 5) (k + 4) (k + 3) (k + 2) (k + 1) k hs h10 (by omega) (by omega) (by omega) (by omega) (by omega) (by omega) (by omega) (by omega) (by omega) (by omega) (by omega) (by omega) rfl rfl hY0.symm q3 q6 HD2 HD5 p0 gn l4 (Lib.hid DY) HY (by omega) l5 g48 (yV s.data.toList) hx (Lib.hid hF) (Lib.hid hI) w
                          · rw [h66] at h4; exact absurd h4 (by decide)
                      · have h66 := cErr_far (y := yV s.data.toList) (m := mV s.data.toList) (d := dV s.data.toList) (fun hI => hF ⟨by have := hI.1; omega, by have := hI.2; omega⟩)
                        rcases h with ⟨hc, _⟩ | ⟨_, h4, h5, rfl, rfl, rfl⟩ | ⟨_, h4, _⟩
                        · exact absurd hcf2 hc
                        · obtain rfl : e = 6 := h4.symm.trans h66
                          exact rp6r_p5_ov s Y0 s _ _ (k + 5) (k + 4) (k + 3) (k + 2) (k + 1) k hs h10 (by omega) (by omega) (by omega) (by omega) (by omega) (by omega) (by omega) (by omega) (by omega) (by omega) (by omega) (by omega) rfl rfl hY0.symm q3 q6 HD2 HD5 p0 gn l4 (Lib.hid DY) HY (by omega) l5 g48 (yV s.data.toList) hx (Lib.hid hF) w
                        · rw [h66] at h4; exact absurd h4 (by decide)
                  · have l6 : Y0.size = 4 := by omega
                    have hcf2 : CF s.data.toList := hA ⟨by omega, ey, fun q => by omega, fun q => by rw [hnf] at q; cases q.1⟩
                    obtain ⟨ey1, em1, ed1⟩ := hmd hcf2
                    rw [hnf] at ey1
                    have hx : (Dg.nvA 0 Y0.data.toList : Int) = yV s.data.toList := by rw [ey1, u1]; rfl
                    by_cases hF : I64 (yV s.data.toList)
                    · by_cases hI : IsY (yV s.data.toList)
                      · rcases h with ⟨hc, _⟩ | ⟨_, h4, h5, rfl, rfl, rfl⟩ | ⟨_, h4, rfl, rfl, rfl, rfl⟩
                        · exact absurd hcf2 hc
                        · rw [em1, ed1] at h4
                          exact rp6r_p4_ck s Y0 s _ _ (k + 5) (k + 4) (k + 3) (k + 2) (k + 1) k hs h10 (by omega) (by omega) (by omega) (by omega) (by omega) (by omega) (by omega) (by omega) (by omega) (by omega) (by omega) (by omega) rfl rfl hY0.symm q3 q6 HD2 HD5 p0 gn l4 (Lib.hid DY) HY (by omega) l6 (yV s.data.toList) hx (Lib.hid hF) (Lib.hid hI) e (Dg.dv s[k + 1]) (Dg.dv s[k + 2]) (Dg.dv s[k + 4]) (Dg.dv s[k + 5]) v5.1 v5.2 v4.1 v4.2 v2.1 v2.2 v1.1 v1.2 (Lib.hid h4) h5 w
                        · rw [em1, ed1] at h4 ⊢
                          exact rp6r_p4_ok s Y0 s _ _ (k + 5) (k + 4) (k + 3) (k + 2) (k + 1) k hs h10 (by omega) (by omega) (by omega) (by omega) (by omega) (by omega) (by omega) (by omega) (by omega) (by omega) (by omega) (by omega) rfl rfl hY0.symm q3 q6 HD2 HD5 p0 gn l4 (Lib.hid DY) HY (by omega) l6 (yV s.data.toList) hx (Lib.hid hF) (Lib.hid hI) (Dg.dv s[k + 1]) (Dg.dv s[k + 2]) (Dg.dv s[k + 4]) (Dg.dv s[k + 5]) v5.1 v5.2 v4.1 v4.2 v2.1 v2.2 v1.1 v1.2 (Lib.hid h4) w
                      · have h66 := cErr_far (y := yV s.data.toList) (m := mV s.data.toList) (d := dV s.data.toList) hI
                        rcases h with ⟨hc, _⟩ | ⟨_, h4, h5, rfl, rfl, rfl⟩ | ⟨_, h4, _⟩
                        · exact absurd hcf2 hc
                        · obtain rfl : e = 6 := h4.symm.trans h66
                          exact rp6r_p4_ny s Y0 s _ _ (k + 5) (k + 4) (k + 3) (k + 2) (k + 1) k hs h10 (by omega) (by omega) (by omega) (by omega) (by omega) (by omega) (by omega) (by omega) (by omega) (by omega) (by omega) (by omega) rfl rfl hY0.symm q3 q6 HD2 HD5 p0 gn l4 (Lib.hid DY) HY (by omega) l6 (yV s.data.toList) hx (Lib.hid hF) (Lib.hid hI) w
                        · rw [h66] at h4; exact absurd h4 (by decide)
                    · have h66 := cErr_far (y := yV s.data.toList) (m := mV s.data.toList) (d := dV s.data.toList) (fun hI => hF ⟨by have := hI.1; omega, by have := hI.2; omega⟩)
                      rcases h with ⟨hc, _⟩ | ⟨_, h4, h5, rfl, rfl, rfl⟩ | ⟨_, h4, _⟩
                      · exact absurd hcf2 hc
                      · obtain rfl : e = 6 := h4.symm.trans h66
                        exact rp6r_p4_ov s Y0 s _ _ (k + 5) (k + 4) (k + 3) (k + 2) (k + 1) k hs h10 (by omega) (by omega) (by omega) (by omega) (by omega) (by omega) (by omega) (by omega) (by omega) (by omega) (by omega) (by omega) rfl rfl hY0.symm q3 q6 HD2 HD5 p0 gn l4 (Lib.hid DY) HY (by omega) l6 (yV s.data.toList) hx (Lib.hid hF) w
                      · rw [h66] at h4; exact absurd h4 (by decide)
                · rw [decide_eq_false ey] at DY
                  obtain ⟨rfl, rfl, rfl, rfl⟩ := h.bad (fun hc => ey (hB hc).2.1)
                  exact rp6_6p s Y0 s _ _ (k + 5) (k + 4) (k + 3) (k + 2) (k + 1) k hs h10 (by omega) (by omega) (by omega) (by omega) (by omega) (by omega) (by omega) (by omega) (by omega) (by omega) (by omega) (by omega) rfl rfl hY0.symm q3 q6 HD2 HD5 p0 gn l4 (Lib.hid DY) w
          · rw [decide_eq_false e5] at D5
            obtain ⟨rfl, rfl, rfl, rfl⟩ := h.bad (fun hc => e5 ((allD2 _ _).2 (hcf.1 hc).2.2.2.1))
            exact rp6_4 s _ s _ _ (k + 5) (k + 4) (k + 3) (k + 2) (k + 1) k hs h10 (by omega) (by omega) (by omega) (by omega) (by omega) (by omega) (by omega) (by omega) (by omega) (by omega) (by omega) (by omega) rfl rfl rfl q3 q6 (Lib.hid D2) (Lib.hid D5) w
        · rw [decide_eq_false e2] at D2
          obtain ⟨rfl, rfl, rfl, rfl⟩ := h.bad (fun hc => e2 ((allD2 _ _).2 (hcf.1 hc).2.2.1))
          exact rp6_3 s _ s _ _ (k + 5) (k + 4) (k + 3) (k + 2) (k + 1) k hs h10 (by omega) (by omega) (by omega) (by omega) (by omega) (by omega) (by omega) (by omega) (by omega) (by omega) (by omega) (by omega) rfl rfl rfl q3 q6 (Lib.hid D2) w
      · obtain ⟨rfl, rfl, rfl, rfl⟩ := h.bad (fun hc => h6 (hcf.1 hc).1)
        exact rp6_2 s _ s _ _ (k + 5) (k + 4) (k + 3) (k + 2) (k + 1) k hs h10 (by omega) (by omega) (by omega) (by omega) (by omega) (by omega) (by omega) (by omega) (by omega) (by omega) (by omega) (by omega) rfl rfl rfl (g3.trans h3) (fun q => h6 (g6.symm.trans q)) w
    · obtain ⟨rfl, rfl, rfl, rfl⟩ := h.bad (fun hc => h3 (hcf.1 hc).2.1)
      exact rp6_1 s _ s _ _ (k + 5) (k + 4) (k + 3) (k + 2) (k + 1) k hs h10 (by omega) (by omega) (by omega) (by omega) (by omega) (by omega) (by omega) (by omega) (by omega) (by omega) (by omega) (by omega) rfl rfl rfl (fun q => h3 (g3.symm.trans q)) w
theorem rc6Parse (l : List UInt8) (y m d e : Int) (w : World) (hl : l.length ≤ 100) (h : PRes l y m d e) :
    Calls Tryz.prog 23 #[.string (bA l)] w fun o w' => o = .returned (.tuple #[.agg #[.int .i64 y, .int .i64 m, .int .i64 d], .int .i64 e]) ∧ Dn w w' :=
  rc6Parse_s (bA l) y m d e w (by rw [bA_size]; exact hl) h
end Go.Proofs.YtopbbcbpanfigaaGreatDoor
