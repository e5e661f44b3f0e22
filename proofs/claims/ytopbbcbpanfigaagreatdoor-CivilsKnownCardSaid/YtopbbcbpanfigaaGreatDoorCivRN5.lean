/-
  WALKS OF circaref06: Parse, part N5. (Printed by wip/gen/civ10.py.)
-/
import Derived.Test.YtopbbcbpanfigaaGreatDoorCivQ
namespace Go.Proofs.YtopbbcbpanfigaaGreatDoor
open Go.RowKit
set_option linter.unusedVariables false
set_option linter.unusedSimpArgs false
set_option maxHeartbeats 4000000 in
set_option maxRecDepth 100000 in
theorem rp6r_n5_ov (s Y0 Y1 S2 S5 : ByteArray) (n1 n2 n3 n4 n5 n6 : Nat) (hs : s.size ≤ 100) (h10 : ¬ s.size < 10) (i1 : (s.size : Int) - 1 = n1) (i2 : (s.size : Int) - 2 = n2) (i3 : (s.size : Int) - 3 = n3) (i4 : (s.size : Int) - 4 = n4) (i5 : (s.size : Int) - 5 = n5) (i6 : (s.size : Int) - 6 = n6) (b1 : n1 < s.size) (b2 : n2 < s.size) (b3 : n3 < s.size) (b4 : n4 < s.size) (b5 : n5 < s.size) (b6 : n6 < s.size) (X2 : s.extract n2 s.size = S2) (X5 : s.extract n5 n3 = S5) (X0 : s.extract 0 n6 = Y0) (h : s[n3] = 45) (h6 : s[n6] = 45) (HD2 : Hid (∀ W, Calls Tryz.prog 52 #[.string S2] W fun e w' => e = .returned (.bool true) ∧ W = w')) (HD5 : Hid (∀ W, Calls Tryz.prog 52 #[.string S5] W fun e w' => e = .returned (.bool true) ∧ W = w')) (y0 : 0 < Y0.size) (g : Y0[0] = 45) (X1 : Y0.extract 1 Y0.size = Y1) (v0 : 1 ≤ Y0.size) (l : ¬ Y1.size < 4) (HDY : Hid (∀ W, Calls Tryz.prog 52 #[.string Y1] W fun e w' => e = .returned (.bool true) ∧ W = w')) (HY : Hid (AllD Y1.data.toList)) (ys : Y1.size ≤ 100) (l4 : 4 < Y1.size) (z0 : Y1[0]'(by omega) ≠ 48) (nz : ¬ Y1.toList = [48, 48, 48, 48]) (x : Int) (hx : (-(Dg.nvA 0 Y1.data.toList : Int)) = x) (HF : Hid (¬ I64 x)) (w : World) :
    Calls Tryz.prog 23 #[.string s] w fun ro w' => ro = .returned (.tuple #[.agg #[.int .i64 0, .int .i64 0, .int .i64 0], .int .i64 6]) ∧ Dn w w' := by
  have t10 : decide ((s.size : Int) < 10) = false := by simp; omega
  have u2 : n2 ≤ s.size := by omega
  have u3 : n3 ≤ s.size := by omega
  have u5 : n5 ≤ n3 := by omega
  have u6 : n6 ≤ s.size := by omega
  have q3 : ((s[n3].toNat : Int) == 45) = true := by rw [h]; rfl
  have mq3 : s[n3].toNat = 45 := by rw [h]; rfl
  have q6 : ((s[n6].toNat : Int) == 45) = true := by rw [h6]; rfl
  have mq6 : s[n6].toNat = 45 := by rw [h6]; rfl
  clear h h6
  have qn : ((Y0[0].toNat : Int) == 45) = true := by rw [g]; rfl
  have mqn : Y0[0].toNat = 45 := by rw [g]; rfl
  clear g
  have k1 : decide ((Y1.size : Int) < 4) = false := by simp; omega
  have k2 : ¬ Y1.size < 4 := l
  have l0 : 0 < Y1.size := by omega
  have k3 : decide (4 < (Y1.size : Int)) = true := by simp; omega
  have mqz : ¬ Y1[0].toNat = 48 := fun e => z0 (UInt8.toNat_inj.1 (by have : (48 : UInt8).toNat = 48 := rfl; omega))
  have qz : ((Y1[0].toNat : Int) == 48) = false := by rw [beq_eq_false_iff_ne]; omega
  clear z0
  have k5 : (Y1.toList == [48, 48, 48, 48]) = false := by simpa using nz
  have HX := Lib.hid hx
  clear hx
  go_enter Tryz.func23, Tryz.ntmps23
  go_wp2_with fail
  obtain ⟨W1, hW1⟩ : ∃ W1, W1 = w.alloc (.cells #[.int .i64 0, .int .i64 0, .int .i64 0] 23) := ⟨_, rfl⟩
  have uW1 : Dn w W1 := by rw [hW1]; exact (Dn.refl _).alloc _
  have c2 : W1.cell? ⟨w.heap.size, 0, none⟩ = some (.int .i64 0) := by rw [hW1]; simp [go_sem]
  have c3 : W1.cell? ⟨w.heap.size, 1, none⟩ = some (.int .i64 0) := by rw [hW1]; simp [go_sem]
  have c4 : W1.cell? ⟨w.heap.size, 2, none⟩ = some (.int .i64 0) := by rw [hW1]; simp [go_sem]
  have l5 : w.heap.size < W1.heap.size := by rw [hW1]; simp <;> omega
  have f6 : W1.frozen? ⟨w.heap.size, 0, none⟩ = false := by rw [hW1]; simp [go_sem]
  have f7 : W1.frozen? ⟨w.heap.size, 1, none⟩ = false := by rw [hW1]; simp [go_sem]
  have f8 : W1.frozen? ⟨w.heap.size, 2, none⟩ = false := by rw [hW1]; simp [go_sem]
  rw [← hW1]
  clear hW1
  refine (HD2.out _).mono ?_
  rintro e w1 ⟨rfl, rfl⟩
  go_wp2_with fail
  refine (HD5.out _).mono ?_
  rintro e w2 ⟨rfl, rfl⟩
  go_wp2_with fail
  refine (HDY.out _).mono ?_
  rintro e w3 ⟨rfl, rfl⟩
  go_wp2_with fail
  go_loop [5] (fun sv => ∃ t : ByteArray, sv = .string t ∧ TQ t Y1) (fun sv => szOf sv)
  case atStart => exact ⟨Y1, rfl, ⟨ys, by omega, HY.out, rfl⟩⟩
  case round =>
    obtain ⟨t, rfl, ht⟩ := hrel
    have HT := Lib.hid ht
    obtain ⟨ts1, ts2, -, -⟩ := ht
    by_cases h1 : 1 < t.size
    · by_cases h48 : t[0] = 48
      · have e1 : decide (1 < (t.size : Int)) = true := by simp; omega
        have e2 : t[0].toNat = 48 := by rw [h48]; rfl
        have e3 : ((t[0].toNat : Int) == 48) = true := by rw [h48]; rfl
        have e5 : 1 ≤ t.size := by omega
        have HN := Lib.hid (HT.out.step h1 h48)
        clear h48
        go_wp2_with fail
        go_round
        case rel => exact ⟨_, rfl, HN.out⟩
        case measure => simp [szOf]; omega
      ·
        obtain ⟨po, pv⟩ := HT.out.num (Or.inr (fun _ => h48))
        have e1 : decide (1 < (t.size : Int)) = true := by simp; omega
        have e2 : ¬ t[0].toNat = 48 := fun e => h48 (UInt8.toNat_inj.1 (by have : (48 : UInt8).toNat = 48 := rfl; omega))
        have e3 : ((t[0].toNat : Int) == 48) = false := by rw [beq_eq_false_iff_ne]; omega
        clear h48
        have PO := Lib.hid po
        have PV := Lib.hid pv
        clear po pv
        go_wp2_with fail
        refine (rParse_yes t _ (by omega) PO.out).mono ?_
        rintro e r1 ⟨b, p, n, cap, rfl, hI, q1⟩
        rw [PV.out] at hI
        have f9 := (q1.frozen (a := ⟨w.heap.size, 0, none⟩) l5).trans f6
        have f10 := (q1.frozen (a := ⟨w.heap.size, 1, none⟩) l5).trans f7
        have f11 := (q1.frozen (a := ⟨w.heap.size, 2, none⟩) l5).trans f8
        have l12 := Nat.lt_of_lt_of_le l5 q1.size
        have c13 := q1.cell c2
        have c14 := q1.cell c3
        have c15 := q1.cell c4
        clear f6 f7 f8 l5 c2 c3 c4
        have ur1 := uW1.trans q1
        clear q1 uW1
        go_wp2_with fail
        have hI2 := hI.dn ((Dn.refl _).alloc (.cells #[.bool b, .slice p n cap] 80))
        have hlen : (Dg.dl (Dg.nvA 0 Y1.data.toList : Int).natAbs).length ≤ 1000 := nv_small _ HY.out (by rw [len_is]; omega)
        clear hI
        obtain ⟨W16, hW16⟩ : ∃ W16, W16 = r1.alloc (.cells #[.bool b, .slice p n cap] 80) := ⟨_, rfl⟩
        have uW16 : Dn r1 W16 := by rw [hW16]; exact (Dn.refl _).alloc _
        have o17 : w.heap.size ≤ r1.heap.size := by have := ur1.size; omega
        have n18 : w.heap.size ≠ r1.heap.size := by have := l12; omega
        have f19 := (uW16.frozen (a := ⟨w.heap.size, 0, none⟩) l12).trans f9
        have f20 := (uW16.frozen (a := ⟨w.heap.size, 1, none⟩) l12).trans f10
        have f21 := (uW16.frozen (a := ⟨w.heap.size, 2, none⟩) l12).trans f11
        have l22 := Nat.lt_of_lt_of_le l12 uW16.size
        have c23 := uW16.cell c13
        have c24 := uW16.cell c14
        have c25 := uW16.cell c15
        clear f9 f10 f11 l12 c13 c14 c15
        have c26 : W16.cell? ⟨r1.heap.size, 0, none⟩ = some (.bool b) := by rw [hW16]; simp [go_sem]
        have c27 : W16.cell? ⟨r1.heap.size, 1, none⟩ = some (.slice p n cap) := by rw [hW16]; simp [go_sem]
        have l28 : r1.heap.size < W16.heap.size := by rw [hW16]; simp <;> omega
        have f29 : W16.frozen? ⟨r1.heap.size, 0, none⟩ = false := by rw [hW16]; simp [go_sem]
        have f30 : W16.frozen? ⟨r1.heap.size, 1, none⟩ = false := by rw [hW16]; simp [go_sem]
        rw [← hW16] at hI2 ⊢
        clear hW16
        have vW16 := ur1.trans uW16
        clear uW16 ur1
        refine (rNeg_c _ _ _ hI2).mono ?_
        rintro e r2 ⟨b2, p2, n2', cap2, rfl, hI3, q2⟩
        clear hI2
        have f31 := (q2.frozen (a := ⟨w.heap.size, 0, none⟩) l22).trans f19
        have f32 := (q2.frozen (a := ⟨w.heap.size, 1, none⟩) l22).trans f20
        have f33 := (q2.frozen (a := ⟨w.heap.size, 2, none⟩) l22).trans f21
        have l34 := Nat.lt_of_lt_of_le l22 q2.size
        have c35 := q2.cell c23
        have c36 := q2.cell c24
        have c37 := q2.cell c25
        have f38 := (q2.frozen (a := ⟨r1.heap.size, 0, none⟩) l28).trans f29
        have f39 := (q2.frozen (a := ⟨r1.heap.size, 1, none⟩) l28).trans f30
        have l40 := Nat.lt_of_lt_of_le l28 q2.size
        have c41 := q2.cell c26
        have c42 := q2.cell c27
        clear f19 f20 f21 l22 c23 c24 c25 f29 f30 l28 c26 c27
        have ur2 := vW16.trans q2
        clear q2 vW16
        go_wp2_with fail
        replace hI3 := hI3.keep c41 c42 b2 (.slice p2 n2' cap2)
        have hNB := (NBlk.set0 (NBlk.mk c41 c42 f38 f39 l40) b2).set1 (.slice p2 n2' cap2)
        have hDn := Dn.setCell (p := ⟨r1.heap.size, 1, none⟩) (Dn.setCell (p := ⟨r1.heap.size, 0, none⟩) ur2 o17 (.bool b2)) o17 (.slice p2 n2' cap2)
        have c44 := cell_far2 (v0 := .bool b2) (v1 := .slice p2 n2' cap2) n18 c35
        have c45 := cell_far2 (v0 := .bool b2) (v1 := .slice p2 n2' cap2) n18 c36
        have c46 := cell_far2 (v0 := .bool b2) (v1 := .slice p2 n2' cap2) n18 c37
        have f47 : ((r2.setCell ⟨r1.heap.size, 0, none⟩ (.bool b2)).setCell ⟨r1.heap.size, 1, none⟩ (.slice p2 n2' cap2)).frozen? ⟨w.heap.size, 0, none⟩ = false := by simpa using f31
        have f48 : ((r2.setCell ⟨r1.heap.size, 0, none⟩ (.bool b2)).setCell ⟨r1.heap.size, 1, none⟩ (.slice p2 n2' cap2)).frozen? ⟨w.heap.size, 1, none⟩ = false := by simpa using f32
        have f49 : ((r2.setCell ⟨r1.heap.size, 0, none⟩ (.bool b2)).setCell ⟨r1.heap.size, 1, none⟩ (.slice p2 n2' cap2)).frozen? ⟨w.heap.size, 2, none⟩ = false := by simpa using f33
        have l50 : w.heap.size < ((r2.setCell ⟨r1.heap.size, 0, none⟩ (.bool b2)).setCell ⟨r1.heap.size, 1, none⟩ (.slice p2 n2' cap2)).heap.size := by simpa using l34
        clear c35 c36 c37 f31 f32 f33 l34 ur2
        obtain ⟨W43, hW43⟩ : ∃ W43, W43 = (r2.setCell ⟨r1.heap.size, 0, none⟩ (.bool b2)).setCell ⟨r1.heap.size, 1, none⟩ (.slice p2 n2' cap2) := ⟨_, rfl⟩
        rw [← hW43] at hI3 hNB hDn c44 c45 c46 f47 f48 f49 l50 ⊢
        clear hW43
        obtain ⟨c51, c52, f53, f54, l55⟩ := hNB
        rw [HX.out] at hI3 
        refine (rInt_no _ x _ hI3 (by have e4 := HX.out; rw [← e4]; simpa using hlen) HF.out).mono ?_
        rintro e r3 ⟨rfl, q3'⟩
        have f56 := (q3'.frozen (a := ⟨w.heap.size, 0, none⟩) l50).trans f47
        have f57 := (q3'.frozen (a := ⟨w.heap.size, 1, none⟩) l50).trans f48
        have f58 := (q3'.frozen (a := ⟨w.heap.size, 2, none⟩) l50).trans f49
        have l59 := Nat.lt_of_lt_of_le l50 q3'.size
        have c60 := q3'.cell c44
        have c61 := q3'.cell c45
        have c62 := q3'.cell c46
        have f63 := (q3'.frozen (a := ⟨r1.heap.size, 0, none⟩) l55).trans f53
        have f64 := (q3'.frozen (a := ⟨r1.heap.size, 1, none⟩) l55).trans f54
        have l65 := Nat.lt_of_lt_of_le l55 q3'.size
        have c66 := q3'.cell c51
        have c67 := q3'.cell c52
        clear f47 f48 f49 l50 c44 c45 c46 f53 f54 l55 c51 c52
        have ur3 := hDn.trans q3'
        clear q3' hDn
        go_wp2_with fail
        exact bodyPost_ret (v := .tuple #[.agg #[.int .i64 0, .int .i64 0, .int .i64 0], .int .i64 6]) (by simp [results, Tryz.results23, go_sem, c60, c61, c62, c66, c67, f56, f57, f58, f63, f64] <;> omega) rfl ⟨rfl, (((ur3.setCell (by simp <;> omega) _).setCell (by simp <;> omega) _).setCell (by simp <;> omega) _)⟩
    ·
      obtain ⟨po, pv⟩ := HT.out.num (Or.inl (by omega))
      have e1 : decide (1 < (t.size : Int)) = false := by simp; omega
      have e2 : ¬ 1 < t.size := h1
      have PO := Lib.hid po
      have PV := Lib.hid pv
      clear po pv
      go_wp2_with fail
      refine (rParse_yes t _ (by omega) PO.out).mono ?_
      rintro e r1 ⟨b, p, n, cap, rfl, hI, q1⟩
      rw [PV.out] at hI
      have f68 := (q1.frozen (a := ⟨w.heap.size, 0, none⟩) l5).trans f6
      have f69 := (q1.frozen (a := ⟨w.heap.size, 1, none⟩) l5).trans f7
      have f70 := (q1.frozen (a := ⟨w.heap.size, 2, none⟩) l5).trans f8
      have l71 := Nat.lt_of_lt_of_le l5 q1.size
      have c72 := q1.cell c2
      have c73 := q1.cell c3
      have c74 := q1.cell c4
      clear f6 f7 f8 l5 c2 c3 c4
      have ur1 := uW1.trans q1
      clear q1 uW1
      go_wp2_with fail
      have hI2 := hI.dn ((Dn.refl _).alloc (.cells #[.bool b, .slice p n cap] 80))
      have hlen : (Dg.dl (Dg.nvA 0 Y1.data.toList : Int).natAbs).length ≤ 1000 := nv_small _ HY.out (by rw [len_is]; omega)
      clear hI
      obtain ⟨W75, hW75⟩ : ∃ W75, W75 = r1.alloc (.cells #[.bool b, .slice p n cap] 80) := ⟨_, rfl⟩
      have uW75 : Dn r1 W75 := by rw [hW75]; exact (Dn.refl _).alloc _
      have o76 : w.heap.size ≤ r1.heap.size := by have := ur1.size; omega
      have n77 : w.heap.size ≠ r1.heap.size := by have := l71; omega
      have f78 := (uW75.frozen (a := ⟨w.heap.size, 0, none⟩) l71).trans f68
      have f79 := (uW75.frozen (a := ⟨w.heap.size, 1, none⟩) l71).trans f69
      have f80 := (uW75.frozen (a := ⟨w.heap.size, 2, none⟩) l71).trans f70
      have l81 := Nat.lt_of_lt_of_le l71 uW75.size
      have c82 := uW75.cell c72
      have c83 := uW75.cell c73
      have c84 := uW75.cell c74
      clear f68 f69 f70 l71 c72 c73 c74
      have c85 : W75.cell? ⟨r1.heap.size, 0, none⟩ = some (.bool b) := by rw [hW75]; simp [go_sem]
      have c86 : W75.cell? ⟨r1.heap.size, 1, none⟩ = some (.slice p n cap) := by rw [hW75]; simp [go_sem]
      have l87 : r1.heap.size < W75.heap.size := by rw [hW75]; simp <;> omega
      have f88 : W75.frozen? ⟨r1.heap.size, 0, none⟩ = false := by rw [hW75]; simp [go_sem]
      have f89 : W75.frozen? ⟨r1.heap.size, 1, none⟩ = false := by rw [hW75]; simp [go_sem]
      rw [← hW75] at hI2 ⊢
      clear hW75
      have vW75 := ur1.trans uW75
      clear uW75 ur1
      refine (rNeg_c _ _ _ hI2).mono ?_
      rintro e r2 ⟨b2, p2, n2', cap2, rfl, hI3, q2⟩
      clear hI2
      have f90 := (q2.frozen (a := ⟨w.heap.size, 0, none⟩) l81).trans f78
      have f91 := (q2.frozen (a := ⟨w.heap.size, 1, none⟩) l81).trans f79
      have f92 := (q2.frozen (a := ⟨w.heap.size, 2, none⟩) l81).trans f80
      have l93 := Nat.lt_of_lt_of_le l81 q2.size
      have c94 := q2.cell c82
      have c95 := q2.cell c83
      have c96 := q2.cell c84
      have f97 := (q2.frozen (a := ⟨r1.heap.size, 0, none⟩) l87).trans f88
      have f98 := (q2.frozen (a := ⟨r1.heap.size, 1, none⟩) l87).trans f89
      have l99 := Nat.lt_of_lt_of_le l87 q2.size
      have c100 := q2.cell c85
      have c101 := q2.cell c86
      clear f78 f79 f80 l81 c82 c83 c84 f88 f89 l87 c85 c86
      have ur2 := vW75.trans q2
      clear q2 vW75
      go_wp2_with fail
      replace hI3 := hI3.keep c100 c101 b2 (.slice p2 n2' cap2)
      have hNB := (NBlk.set0 (NBlk.mk c100 c101 f97 f98 l99) b2).set1 (.slice p2 n2' cap2)
      have hDn := Dn.setCell (p := ⟨r1.heap.size, 1, none⟩) (Dn.setCell (p := ⟨r1.heap.size, 0, none⟩) ur2 o76 (.bool b2)) o76 (.slice p2 n2' cap2)
      have c103 := cell_far2 (v0 := .bool b2) (v1 := .slice p2 n2' cap2) n77 c94
      have c104 := cell_far2 (v0 := .bool b2) (v1 := .slice p2 n2' cap2) n77 c95
      have c105 := cell_far2 (v0 := .bool b2) (v1 := .slice p2 n2' cap2) n77 c96
      have f106 : ((r2.setCell ⟨r1.heap.size, 0, none⟩ (.bool b2)).setCell ⟨r1.heap.size, 1, none⟩ (.slice p2 n2' cap2)).frozen? ⟨w.heap.size, 0, none⟩ = false := by simpa using f90
      have f107 : ((r2.setCell ⟨r1.heap.size, 0, none⟩ (.bool b2)).setCell ⟨r1.heap.size, 1, none⟩ (.slice p2 n2' cap2)).frozen? ⟨w.heap.size, 1, none⟩ = false := by simpa using f91
      have f108 : ((r2.setCell ⟨r1.heap.size, 0, none⟩ (.bool b2)).setCell ⟨r1.heap.size, 1, none⟩ (.slice p2 n2' cap2)).frozen? ⟨w.heap.size, 2, none⟩ = false := by simpa using f92
      have l109 : w.heap.size < ((r2.setCell ⟨r1.heap.size, 0, none⟩ (.bool b2)).setCell ⟨r1.heap.size, 1, none⟩ (.slice p2 n2' cap2)).heap.size := by simpa using l93
      clear c94 c95 c96 f90 f91 f92 l93 ur2
      obtain ⟨W102, hW102⟩ : ∃ W102, W102 = (r2.setCell ⟨r1.heap.size, 0, none⟩ (.bool b2)).setCell ⟨r1.heap.size, 1, none⟩ (.slice p2 n2' cap2) := ⟨_, rfl⟩
      rw [← hW102] at hI3 hNB hDn c103 c104 c105 f106 f107 f108 l109 ⊢
      clear hW102
      obtain ⟨c110, c111, f112, f113, l114⟩ := hNB
      rw [HX.out] at hI3 
      refine (rInt_no _ x _ hI3 (by have e4 := HX.out; rw [← e4]; simpa using hlen) HF.out).mono ?_
      rintro e r3 ⟨rfl, q3'⟩
      have f115 := (q3'.frozen (a := ⟨w.heap.size, 0, none⟩) l109).trans f106
      have f116 := (q3'.frozen (a := ⟨w.heap.size, 1, none⟩) l109).trans f107
      have f117 := (q3'.frozen (a := ⟨w.heap.size, 2, none⟩) l109).trans f108
      have l118 := Nat.lt_of_lt_of_le l109 q3'.size
      have c119 := q3'.cell c103
      have c120 := q3'.cell c104
      have c121 := q3'.cell c105
      have f122 := (q3'.frozen (a := ⟨r1.heap.size, 0, none⟩) l114).trans f112
      have f123 := (q3'.frozen (a := ⟨r1.heap.size, 1, none⟩) l114).trans f113
      have l124 := Nat.lt_of_lt_of_le l114 q3'.size
      have c125 := q3'.cell c110
      have c126 := q3'.cell c111
      clear f106 f107 f108 l109 c103 c104 c105 f112 f113 l114 c110 c111
      have ur3 := hDn.trans q3'
      clear q3' hDn
      go_wp2_with fail
      exact bodyPost_ret (v := .tuple #[.agg #[.int .i64 0, .int .i64 0, .int .i64 0], .int .i64 6]) (by simp [results, Tryz.results23, go_sem, c119, c120, c121, c125, c126, f115, f116, f117, f122, f123] <;> omega) rfl ⟨rfl, (((ur3.setCell (by simp <;> omega) _).setCell (by simp <;> omega) _).setCell (by simp <;> omega) _)⟩
set_option maxHeartbeats 4000000 in
set_option maxRecDepth 100000 in
theorem rp6r_n5_ny (s Y0 Y1 S2 S5 : ByteArray) (n1 n2 n3 n4 n5 n6 : Nat) (hs : s.size ≤ 100) (h10 : ¬ s.size < 10) (i1 : (s.size : Int) - 1 = n1) (i2 : (s.size : Int) - 2 = n2) (i3 : (s.size : Int) - 3 = n3) (i4 : (s.size : Int) - 4 = n4) (i5 : (s.size : Int) - 5 = n5) (i6 : (s.size : Int) - 6 = n6) (b1 : n1 < s.size) (b2 : n2 < s.size) (b3 : n3 < s.size) (b4 : n4 < s.size) (b5 : n5 < s.size) (b6 : n6 < s.size) (X2 : s.extract n2 s.size = S2) (X5 : s.extract n5 n3 = S5) (X0 : s.extract 0 n6 = Y0) (h : s[n3] = 45) (h6 : s[n6] = 45) (HD2 : Hid (∀ W, Calls Tryz.prog 52 #[.string S2] W fun e w' => e = .returned (.bool true) ∧ W = w')) (HD5 : Hid (∀ W, Calls Tryz.prog 52 #[.string S5] W fun e w' => e = .returned (.bool true) ∧ W = w')) (y0 : 0 < Y0.size) (g : Y0[0] = 45) (X1 : Y0.extract 1 Y0.size = Y1) (v0 : 1 ≤ Y0.size) (l : ¬ Y1.size < 4) (HDY : Hid (∀ W, Calls Tryz.prog 52 #[.string Y1] W fun e w' => e = .returned (.bool true) ∧ W = w')) (HY : Hid (AllD Y1.data.toList)) (ys : Y1.size ≤ 100) (l4 : 4 < Y1.size) (z0 : Y1[0]'(by omega) ≠ 48) (nz : ¬ Y1.toList = [48, 48, 48, 48]) (x : Int) (hx : (-(Dg.nvA 0 Y1.data.toList : Int)) = x) (HF : Hid (I64 x)) (HIY : Hid (¬ IsY x)) (w : World) :
    Calls Tryz.prog 23 #[.string s] w fun ro w' => ro = .returned (.tuple #[.agg #[.int .i64 0, .int .i64 0, .int .i64 0], .int .i64 6]) ∧ Dn w w' := by
  have t10 : decide ((s.size : Int) < 10) = false := by simp; omega
  have u2 : n2 ≤ s.size := by omega
  have u3 : n3 ≤ s.size := by omega
  have u5 : n5 ≤ n3 := by omega
  have u6 : n6 ≤ s.size := by omega
  have q3 : ((s[n3].toNat : Int) == 45) = true := by rw [h]; rfl
  have mq3 : s[n3].toNat = 45 := by rw [h]; rfl
  have q6 : ((s[n6].toNat : Int) == 45) = true := by rw [h6]; rfl
  have mq6 : s[n6].toNat = 45 := by rw [h6]; rfl
  clear h h6
  have qn : ((Y0[0].toNat : Int) == 45) = true := by rw [g]; rfl
  have mqn : Y0[0].toNat = 45 := by rw [g]; rfl
  clear g
  have k1 : decide ((Y1.size : Int) < 4) = false := by simp; omega
  have k2 : ¬ Y1.size < 4 := l
  have l0 : 0 < Y1.size := by omega
  have k3 : decide (4 < (Y1.size : Int)) = true := by simp; omega
  have mqz : ¬ Y1[0].toNat = 48 := fun e => z0 (UInt8.toNat_inj.1 (by have : (48 : UInt8).toNat = 48 := rfl; omega))
  have qz : ((Y1[0].toNat : Int) == 48) = false := by rw [beq_eq_false_iff_ne]; omega
  clear z0
  have k5 : (Y1.toList == [48, 48, 48, 48]) = false := by simpa using nz
  have HX := Lib.hid hx
  clear hx
  go_enter Tryz.func23, Tryz.ntmps23
  go_wp2_with fail
  obtain ⟨W1, hW1⟩ : ∃ W1, W1 = w.alloc (.cells #[.int .i64 0, .int .i64 0, .int .i64 0] 23) := ⟨_, rfl⟩
  have uW1 : Dn w W1 := by rw [hW1]; exact (Dn.refl _).alloc _
  have c2 : W1.cell? ⟨w.heap.size, 0, none⟩ = some (.int .i64 0) := by rw [hW1]; simp [go_sem]
  have c3 : W1.cell? ⟨w.heap.size, 1, none⟩ = some (.int .i64 0) := by rw [hW1]; simp [go_sem]
  have c4 : W1.cell? ⟨w.heap.size, 2, none⟩ = some (.int .i64 0) := by rw [hW1]; simp [go_sem]
  have l5 : w.heap.size < W1.heap.size := by rw [hW1]; simp <;> omega
  have f6 : W1.frozen? ⟨w.heap.size, 0, none⟩ = false := by rw [hW1]; simp [go_sem]
  have f7 : W1.frozen? ⟨w.heap.size, 1, none⟩ = false := by rw [hW1]; simp [go_sem]
  have f8 : W1.frozen? ⟨w.heap.size, 2, none⟩ = false := by rw [hW1]; simp [go_sem]
  rw [← hW1]
  clear hW1
  refine (HD2.out _).mono ?_
  rintro e w1 ⟨rfl, rfl⟩
  go_wp2_with fail
  refine (HD5.out _).mono ?_
  rintro e w2 ⟨rfl, rfl⟩
  go_wp2_with fail
  refine (HDY.out _).mono ?_
  rintro e w3 ⟨rfl, rfl⟩
  go_wp2_with fail
  go_loop [5] (fun sv => ∃ t : ByteArray, sv = .string t ∧ TQ t Y1) (fun sv => szOf sv)
  case atStart => exact ⟨Y1, rfl, ⟨ys, by omega, HY.out, rfl⟩⟩
  case round =>
    obtain ⟨t, rfl, ht⟩ := hrel
    have HT := Lib.hid ht
    obtain ⟨ts1, ts2, -, -⟩ := ht
    by_cases h1 : 1 < t.size
    · by_cases h48 : t[0] = 48
      · have e1 : decide (1 < (t.size : Int)) = true := by simp; omega
        have e2 : t[0].toNat = 48 := by rw [h48]; rfl
        have e3 : ((t[0].toNat : Int) == 48) = true := by rw [h48]; rfl
        have e5 : 1 ≤ t.size := by omega
        have HN := Lib.hid (HT.out.step h1 h48)
        clear h48
        go_wp2_with fail
        go_round
        case rel => exact ⟨_, rfl, HN.out⟩
        case measure => simp [szOf]; omega
      ·
        obtain ⟨po, pv⟩ := HT.out.num (Or.inr (fun _ => h48))
        have e1 : decide (1 < (t.size : Int)) = true := by simp; omega
        have e2 : ¬ t[0].toNat = 48 := fun e => h48 (UInt8.toNat_inj.1 (by have : (48 : UInt8).toNat = 48 := rfl; omega))
        have e3 : ((t[0].toNat : Int) == 48) = false := by rw [beq_eq_false_iff_ne]; omega
        clear h48
        have PO := Lib.hid po
        have PV := Lib.hid pv
        clear po pv
        go_wp2_with fail
        refine (rParse_yes t _ (by omega) PO.out).mono ?_
        rintro e r1 ⟨b, p, n, cap, rfl, hI, q1⟩
        rw [PV.out] at hI
        have f9 := (q1.frozen (a := ⟨w.heap.size, 0, none⟩) l5).trans f6
        have f10 := (q1.frozen (a := ⟨w.heap.size, 1, none⟩) l5).trans f7
        have f11 := (q1.frozen (a := ⟨w.heap.size, 2, none⟩) l5).trans f8
        have l12 := Nat.lt_of_lt_of_le l5 q1.size
        have c13 := q1.cell c2
        have c14 := q1.cell c3
        have c15 := q1.cell c4
        clear f6 f7 f8 l5 c2 c3 c4
        have ur1 := uW1.trans q1
        clear q1 uW1
        go_wp2_with fail
        have hI2 := hI.dn ((Dn.refl _).alloc (.cells #[.bool b, .slice p n cap] 80))
        have hlen : (Dg.dl (Dg.nvA 0 Y1.data.toList : Int).natAbs).length ≤ 1000 := nv_small _ HY.out (by rw [len_is]; omega)
        clear hI
        obtain ⟨W16, hW16⟩ : ∃ W16, W16 = r1.alloc (.cells #[.bool b, .slice p n cap] 80) := ⟨_, rfl⟩
        have uW16 : Dn r1 W16 := by rw [hW16]; exact (Dn.refl _).alloc _
        have o17 : w.heap.size ≤ r1.heap.size := by have := ur1.size; omega
        have n18 : w.heap.size ≠ r1.heap.size := by have := l12; omega
        have f19 := (uW16.frozen (a := ⟨w.heap.size, 0, none⟩) l12).trans f9
        have f20 := (uW16.frozen (a := ⟨w.heap.size, 1, none⟩) l12).trans f10
        have f21 := (uW16.frozen (a := ⟨w.heap.size, 2, none⟩) l12).trans f11
        have l22 := Nat.lt_of_lt_of_le l12 uW16.size
        have c23 := uW16.cell c13
        have c24 := uW16.cell c14
        have c25 := uW16.cell c15
        clear f9 f10 f11 l12 c13 c14 c15
        have c26 : W16.cell? ⟨r1.heap.size, 0, none⟩ = some (.bool b) := by rw [hW16]; simp [go_sem]
        have c27 : W16.cell? ⟨r1.heap.size, 1, none⟩ = some (.slice p n cap) := by rw [hW16]; simp [go_sem]
        have l28 : r1.heap.size < W16.heap.size := by rw [hW16]; simp <;> omega
        have f29 : W16.frozen? ⟨r1.heap.size, 0, none⟩ = false := by rw [hW16]; simp [go_sem]
        have f30 : W16.frozen? ⟨r1.heap.size, 1, none⟩ = false := by rw [hW16]; simp [go_sem]
        rw [← hW16] at hI2 ⊢
        clear hW16
        have vW16 := ur1.trans uW16
        clear uW16 ur1
        refine (rNeg_c _ _ _ hI2).mono ?_
        rintro e r2 ⟨b2, p2, n2', cap2, rfl, hI3, q2⟩
        clear hI2
        have f31 := (q2.frozen (a := ⟨w.heap.size, 0, none⟩) l22).trans f19
        have f32 := (q2.frozen (a := ⟨w.heap.size, 1, none⟩) l22).trans f20
        have f33 := (q2.frozen (a := ⟨w.heap.size, 2, none⟩) l22).trans f21
        have l34 := Nat.lt_of_lt_of_le l22 q2.size
        have c35 := q2.cell c23
        have c36 := q2.cell c24
        have c37 := q2.cell c25
        have f38 := (q2.frozen (a := ⟨r1.heap.size, 0, none⟩) l28).trans f29
        have f39 := (q2.frozen (a := ⟨r1.heap.size, 1, none⟩) l28).trans f30
        have l40 := Nat.lt_of_lt_of_le l28 q2.size
        have c41 := q2.cell c26
        have c42 := q2.cell c27
        clear f19 f20 f21 l22 c23 c24 c25 f29 f30 l28 c26 c27
        have ur2 := vW16.trans q2
        clear q2 vW16
        go_wp2_with fail
        replace hI3 := hI3.keep c41 c42 b2 (.slice p2 n2' cap2)
        have hNB := (NBlk.set0 (NBlk.mk c41 c42 f38 f39 l40) b2).set1 (.slice p2 n2' cap2)
        have hDn := Dn.setCell (p := ⟨r1.heap.size, 1, none⟩) (Dn.setCell (p := ⟨r1.heap.size, 0, none⟩) ur2 o17 (.bool b2)) o17 (.slice p2 n2' cap2)
        have c44 := cell_far2 (v0 := .bool b2) (v1 := .slice p2 n2' cap2) n18 c35
        have c45 := cell_far2 (v0 := .bool b2) (v1 := .slice p2 n2' cap2) n18 c36
        have c46 := cell_far2 (v0 := .bool b2) (v1 := .slice p2 n2' cap2) n18 c37
        have f47 : ((r2.setCell ⟨r1.heap.size, 0, none⟩ (.bool b2)).setCell ⟨r1.heap.size, 1, none⟩ (.slice p2 n2' cap2)).frozen? ⟨w.heap.size, 0, none⟩ = false := by simpa using f31
        have f48 : ((r2.setCell ⟨r1.heap.size, 0, none⟩ (.bool b2)).setCell ⟨r1.heap.size, 1, none⟩ (.slice p2 n2' cap2)).frozen? ⟨w.heap.size, 1, none⟩ = false := by simpa using f32
        have f49 : ((r2.setCell ⟨r1.heap.size, 0, none⟩ (.bool b2)).setCell ⟨r1.heap.size, 1, none⟩ (.slice p2 n2' cap2)).frozen? ⟨w.heap.size, 2, none⟩ = false := by simpa using f33
        have l50 : w.heap.size < ((r2.setCell ⟨r1.heap.size, 0, none⟩ (.bool b2)).setCell ⟨r1.heap.size, 1, none⟩ (.slice p2 n2' cap2)).heap.size := by simpa using l34
        clear c35 c36 c37 f31 f32 f33 l34 ur2
        obtain ⟨W43, hW43⟩ : ∃ W43, W43 = (r2.setCell ⟨r1.heap.size, 0, none⟩ (.bool b2)).setCell ⟨r1.heap.size, 1, none⟩ (.slice p2 n2' cap2) := ⟨_, rfl⟩
        rw [← hW43] at hI3 hNB hDn c44 c45 c46 f47 f48 f49 l50 ⊢
        clear hW43
        obtain ⟨c51, c52, f53, f54, l55⟩ := hNB
        rw [HX.out] at hI3 
        refine (rInt_yes _ x _ hI3 (by have e4 := HX.out; rw [← e4]; simpa using hlen) HF.out).mono ?_
        rintro e r3 ⟨rfl, q3'⟩
        have f56 := (q3'.frozen (a := ⟨w.heap.size, 0, none⟩) l50).trans f47
        have f57 := (q3'.frozen (a := ⟨w.heap.size, 1, none⟩) l50).trans f48
        have f58 := (q3'.frozen (a := ⟨w.heap.size, 2, none⟩) l50).trans f49
        have l59 := Nat.lt_of_lt_of_le l50 q3'.size
        have c60 := q3'.cell c44
        have c61 := q3'.cell c45
        have c62 := q3'.cell c46
        have f63 := (q3'.frozen (a := ⟨r1.heap.size, 0, none⟩) l55).trans f53
        have f64 := (q3'.frozen (a := ⟨r1.heap.size, 1, none⟩) l55).trans f54
        have l65 := Nat.lt_of_lt_of_le l55 q3'.size
        have c66 := q3'.cell c51
        have c67 := q3'.cell c52
        clear f47 f48 f49 l50 c44 c45 c46 f53 f54 l55 c51 c52
        have ur3 := hDn.trans q3'
        clear q3' hDn
        go_wp2_with fail
        refine (rIs_no x _ HIY.out).mono ?_
        rintro e w4 ⟨rfl, rfl⟩
        go_wp2_with fail
        exact bodyPost_ret (v := .tuple #[.agg #[.int .i64 0, .int .i64 0, .int .i64 0], .int .i64 6]) (by simp [results, Tryz.results23, go_sem, c60, c61, c62, c66, c67, f56, f57, f58, f63, f64] <;> omega) rfl ⟨rfl, (((ur3.setCell (by simp <;> omega) _).setCell (by simp <;> omega) _).setCell (by simp <;> omega) _)⟩
    ·
      obtain ⟨po, pv⟩ := HT.out.num (Or.inl (by omega))
      have e1 : decide (1 < (t.size : Int)) = false := by simp; omega
      have e2 : ¬ 1 < t.size := h1
      have PO := Lib.hid po
      have PV := Lib.hid pv
      clear po pv
      go_wp2_with fail
      refine (rParse_yes t _ (by omega) PO.out).mono ?_
      rintro e r1 ⟨b, p, n, cap, rfl, hI, q1⟩
      rw [PV.out] at hI
      have f68 := (q1.frozen (a := ⟨w.heap.size, 0, none⟩) l5).trans f6
      have f69 := (q1.frozen (a := ⟨w.heap.size, 1, none⟩) l5).trans f7
      have f70 := (q1.frozen (a := ⟨w.heap.size, 2, none⟩) l5).trans f8
      have l71 := Nat.lt_of_lt_of_le l5 q1.size
      have c72 := q1.cell c2
      have c73 := q1.cell c3
      have c74 := q1.cell c4
      clear f6 f7 f8 l5 c2 c3 c4
      have ur1 := uW1.trans q1
      clear q1 uW1
      go_wp2_with fail
      have hI2 := hI.dn ((Dn.refl _).alloc (.cells #[.bool b, .slice p n cap] 80))
      have hlen : (Dg.dl (Dg.nvA 0 Y1.data.toList : Int).natAbs).length ≤ 1000 := nv_small _ HY.out (by rw [len_is]; omega)
      clear hI
      obtain ⟨W75, hW75⟩ : ∃ W75, W75 = r1.alloc (.cells #[.bool b, .slice p n cap] 80) := ⟨_, rfl⟩
      have uW75 : Dn r1 W75 := by rw [hW75]; exact (Dn.refl _).alloc _
      have o76 : w.heap.size ≤ r1.heap.size := by have := ur1.size; omega
      have n77 : w.heap.size ≠ r1.heap.size := by have := l71; omega
      have f78 := (uW75.frozen (a := ⟨w.heap.size, 0, none⟩) l71).trans f68
      have f79 := (uW75.frozen (a := ⟨w.heap.size, 1, none⟩) l71).trans f69
      have f80 := (uW75.frozen (a := ⟨w.heap.size, 2, none⟩) l71).trans f70
      have l81 := Nat.lt_of_lt_of_le l71 uW75.size
      have c82 := uW75.cell c72
      have c83 := uW75.cell c73
      have c84 := uW75.cell c74
      clear f68 f69 f70 l71 c72 c73 c74
      have c85 : W75.cell? ⟨r1.heap.size, 0, none⟩ = some (.bool b) := by rw [hW75]; simp [go_sem]
      have c86 : W75.cell? ⟨r1.heap.size, 1, none⟩ = some (.slice p n cap) := by rw [hW75]; simp [go_sem]
      have l87 : r1.heap.size < W75.heap.size := by rw [hW75]; simp <;> omega
      have f88 : W75.frozen? ⟨r1.heap.size, 0, none⟩ = false := by rw [hW75]; simp [go_sem]
      have f89 : W75.frozen? ⟨r1.heap.size, 1, none⟩ = false := by rw [hW75]; simp [go_sem]
      rw [← hW75] at hI2 ⊢
      clear hW75
      have vW75 := ur1.trans uW75
      clear uW75 ur1
      refine (rNeg_c _ _ _ hI2).mono ?_
      rintro e r2 ⟨b2, p2, n2', cap2, rfl, hI3, q2⟩
      clear hI2
      have f90 := (q2.frozen (a := ⟨w.heap.size, 0, none⟩) l81).trans f78
      have f91 := (q2.frozen (a := ⟨w.heap.size, 1, none⟩) l81).trans f79
      have f92 := (q2.frozen (a := ⟨w.heap.size, 2, none⟩) l81).trans f80
      have l93 := Nat.lt_of_lt_of_le l81 q2.size
      have c94 := q2.cell c82
      have c95 := q2.cell c83
      have c96 := q2.cell c84
      have f97 := (q2.frozen (a := ⟨r1.heap.size, 0, none⟩) l87).trans f88
      have f98 := (q2.frozen (a := ⟨r1.heap.size, 1, none⟩) l87).trans f89
      have l99 := Nat.lt_of_lt_of_le l87 q2.size
      have c100 := q2.cell c85
      have c101 := q2.cell c86
      clear f78 f79 f80 l81 c82 c83 c84 f88 f89 l87 c85 c86
      have ur2 := vW75.trans q2
      clear q2 vW75
      go_wp2_with fail
      replace hI3 := hI3.keep c100 c101 b2 (.slice p2 n2' cap2)
      have hNB := (NBlk.set0 (NBlk.mk c100 c101 f97 f98 l99) b2).set1 (.slice p2 n2' cap2)
      have hDn := Dn.setCell (p := ⟨r1.heap.size, 1, none⟩) (Dn.setCell (p := ⟨r1.heap.size, 0, none⟩) ur2 o76 (.bool b2)) o76 (.slice p2 n2' cap2)
      have c103 := cell_far2 (v0 := .bool b2) (v1 := .slice p2 n2' cap2) n77 c94
      have c104 := cell_far2 (v0 := .bool b2) (v1 := .slice p2 n2' cap2) n77 c95
      have c105 := cell_far2 (v0 := .bool b2) (v1 := .slice p2 n2' cap2) n77 c96
      have f106 : ((r2.setCell ⟨r1.heap.size, 0, none⟩ (.bool b2)).setCell ⟨r1.heap.size, 1, none⟩ (.slice p2 n2' cap2)).frozen? ⟨w.heap.size, 0, none⟩ = false := by simpa using f90
      have f107 : ((r2.setCell ⟨r1.heap.size, 0, none⟩ (.bool b2)).setCell ⟨r1.heap.size, 1, none⟩ (.slice p2 n2' cap2)).frozen? ⟨w.heap.size, 1, none⟩ = false := by simpa using f91
      have f108 : ((r2.setCell ⟨r1.heap.size, 0, none⟩ (.bool b2)).setCell ⟨r1.heap.size, 1, none⟩ (.slice p2 n2' cap2)).frozen? ⟨w.heap.size, 2, none⟩ = false := by simpa using f92
      have l109 : w.heap.size < ((r2.setCell ⟨r1.heap.size, 0, none⟩ (.bool b2)).setCell ⟨r1.heap.size, 1, none⟩ (.slice p2 n2' cap2)).heap.size := by simpa using l93
      clear c94 c95 c96 f90 f91 f92 l93 ur2
      obtain ⟨W102, hW102⟩ : ∃ W102, W102 = (r2.setCell ⟨r1.heap.size, 0, none⟩ (.bool b2)).setCell ⟨r1.heap.size, 1, none⟩ (.slice p2 n2' cap2) := ⟨_, rfl⟩
      rw [← hW102] at hI3 hNB hDn c103 c104 c105 f106 f107 f108 l109 ⊢
      clear hW102
      obtain ⟨c110, c111, f112, f113, l114⟩ := hNB
      rw [HX.out] at hI3 
      refine (rInt_yes _ x _ hI3 (by have e4 := HX.out; rw [← e4]; simpa using hlen) HF.out).mono ?_
      rintro e r3 ⟨rfl, q3'⟩
      have f115 := (q3'.frozen (a := ⟨w.heap.size, 0, none⟩) l109).trans f106
      have f116 := (q3'.frozen (a := ⟨w.heap.size, 1, none⟩) l109).trans f107
      have f117 := (q3'.frozen (a := ⟨w.heap.size, 2, none⟩) l109).trans f108
      have l118 := Nat.lt_of_lt_of_le l109 q3'.size
      have c119 := q3'.cell c103
      have c120 := q3'.cell c104
      have c121 := q3'.cell c105
      have f122 := (q3'.frozen (a := ⟨r1.heap.size, 0, none⟩) l114).trans f112
      have f123 := (q3'.frozen (a := ⟨r1.heap.size, 1, none⟩) l114).trans f113
      have l124 := Nat.lt_of_lt_of_le l114 q3'.size
      have c125 := q3'.cell c110
      have c126 := q3'.cell c111
      clear f106 f107 f108 l109 c103 c104 c105 f112 f113 l114 c110 c111
      have ur3 := hDn.trans q3'
      clear q3' hDn
      go_wp2_with fail
      refine (rIs_no x _ HIY.out).mono ?_
      rintro e w5 ⟨rfl, rfl⟩
      go_wp2_with fail
      exact bodyPost_ret (v := .tuple #[.agg #[.int .i64 0, .int .i64 0, .int .i64 0], .int .i64 6]) (by simp [results, Tryz.results23, go_sem, c119, c120, c121, c125, c126, f115, f116, f117, f122, f123] <;> omega) rfl ⟨rfl, (((ur3.setCell (by simp <;> omega) _).setCell (by simp <;> omega) _).setCell (by simp <;> omega) _)⟩
set_option maxHeartbeats 4000000 in
set_option maxRecDepth 100000 in
theorem rp6r_n5_ck (s Y0 Y1 S2 S5 : ByteArray) (n1 n2 n3 n4 n5 n6 : Nat) (hs : s.size ≤ 100) (h10 : ¬ s.size < 10) (i1 : (s.size : Int) - 1 = n1) (i2 : (s.size : Int) - 2 = n2) (i3 : (s.size : Int) - 3 = n3) (i4 : (s.size : Int) - 4 = n4) (i5 : (s.size : Int) - 5 = n5) (i6 : (s.size : Int) - 6 = n6) (b1 : n1 < s.size) (b2 : n2 < s.size) (b3 : n3 < s.size) (b4 : n4 < s.size) (b5 : n5 < s.size) (b6 : n6 < s.size) (X2 : s.extract n2 s.size = S2) (X5 : s.extract n5 n3 = S5) (X0 : s.extract 0 n6 = Y0) (h : s[n3] = 45) (h6 : s[n6] = 45) (HD2 : Hid (∀ W, Calls Tryz.prog 52 #[.string S2] W fun e w' => e = .returned (.bool true) ∧ W = w')) (HD5 : Hid (∀ W, Calls Tryz.prog 52 #[.string S5] W fun e w' => e = .returned (.bool true) ∧ W = w')) (y0 : 0 < Y0.size) (g : Y0[0] = 45) (X1 : Y0.extract 1 Y0.size = Y1) (v0 : 1 ≤ Y0.size) (l : ¬ Y1.size < 4) (HDY : Hid (∀ W, Calls Tryz.prog 52 #[.string Y1] W fun e w' => e = .returned (.bool true) ∧ W = w')) (HY : Hid (AllD Y1.data.toList)) (ys : Y1.size ≤ 100) (l4 : 4 < Y1.size) (z0 : Y1[0]'(by omega) ≠ 48) (nz : ¬ Y1.toList = [48, 48, 48, 48]) (x : Int) (hx : (-(Dg.nvA 0 Y1.data.toList : Int)) = x) (HF : Hid (I64 x)) (HIY : Hid (IsY x)) (E : Int) (q5 q4 q2 q1 : Int) (a5 : ((s[n5].toNat : Int) - 48) % 256 = q5) (d5 : 0 ≤ q5 ∧ q5 ≤ 9) (a4 : ((s[n4].toNat : Int) - 48) % 256 = q4) (d4 : 0 ≤ q4 ∧ q4 ≤ 9) (a2 : ((s[n2].toNat : Int) - 48) % 256 = q2) (d2 : 0 ≤ q2 ∧ q2 ≤ 9) (a1 : ((s[n1].toNat : Int) - 48) % 256 = q1) (d1 : 0 ≤ q1 ∧ q1 ≤ 9) (HC : Hid (cErr x (10 * q5 + q4) (10 * q2 + q1) = E)) (E0 : E ≠ 0) (w : World) :
    Calls Tryz.prog 23 #[.string s] w fun ro w' => ro = .returned (.tuple #[.agg #[.int .i64 0, .int .i64 0, .int .i64 0], .int .i64 E]) ∧ Dn w w' := by
  have t10 : decide ((s.size : Int) < 10) = false := by simp; omega
  have u2 : n2 ≤ s.size := by omega
  have u3 : n3 ≤ s.size := by omega
  have u5 : n5 ≤ n3 := by omega
  have u6 : n6 ≤ s.size := by omega
  have q3 : ((s[n3].toNat : Int) == 45) = true := by rw [h]; rfl
  have mq3 : s[n3].toNat = 45 := by rw [h]; rfl
  have q6 : ((s[n6].toNat : Int) == 45) = true := by rw [h6]; rfl
  have mq6 : s[n6].toNat = 45 := by rw [h6]; rfl
  clear h h6
  have qn : ((Y0[0].toNat : Int) == 45) = true := by rw [g]; rfl
  have mqn : Y0[0].toNat = 45 := by rw [g]; rfl
  clear g
  have k1 : decide ((Y1.size : Int) < 4) = false := by simp; omega
  have k2 : ¬ Y1.size < 4 := l
  have l0 : 0 < Y1.size := by omega
  have k3 : decide (4 < (Y1.size : Int)) = true := by simp; omega
  have mqz : ¬ Y1[0].toNat = 48 := fun e => z0 (UInt8.toNat_inj.1 (by have : (48 : UInt8).toNat = 48 := rfl; omega))
  have qz : ((Y1[0].toNat : Int) == 48) = false := by rw [beq_eq_false_iff_ne]; omega
  clear z0
  have k5 : (Y1.toList == [48, 48, 48, 48]) = false := by simpa using nz
  have HX := Lib.hid hx
  clear hx
  have tE : (E != 0) = true := by simpa using E0
  clear E0
  go_enter Tryz.func23, Tryz.ntmps23
  go_wp2_with fail
  obtain ⟨W1, hW1⟩ : ∃ W1, W1 = w.alloc (.cells #[.int .i64 0, .int .i64 0, .int .i64 0] 23) := ⟨_, rfl⟩
  have uW1 : Dn w W1 := by rw [hW1]; exact (Dn.refl _).alloc _
  have c2 : W1.cell? ⟨w.heap.size, 0, none⟩ = some (.int .i64 0) := by rw [hW1]; simp [go_sem]
  have c3 : W1.cell? ⟨w.heap.size, 1, none⟩ = some (.int .i64 0) := by rw [hW1]; simp [go_sem]
  have c4 : W1.cell? ⟨w.heap.size, 2, none⟩ = some (.int .i64 0) := by rw [hW1]; simp [go_sem]
  have l5 : w.heap.size < W1.heap.size := by rw [hW1]; simp <;> omega
  have f6 : W1.frozen? ⟨w.heap.size, 0, none⟩ = false := by rw [hW1]; simp [go_sem]
  have f7 : W1.frozen? ⟨w.heap.size, 1, none⟩ = false := by rw [hW1]; simp [go_sem]
  have f8 : W1.frozen? ⟨w.heap.size, 2, none⟩ = false := by rw [hW1]; simp [go_sem]
  rw [← hW1]
  clear hW1
  refine (HD2.out _).mono ?_
  rintro e w1 ⟨rfl, rfl⟩
  go_wp2_with fail
  refine (HD5.out _).mono ?_
  rintro e w2 ⟨rfl, rfl⟩
  go_wp2_with fail
  refine (HDY.out _).mono ?_
  rintro e w3 ⟨rfl, rfl⟩
  go_wp2_with fail
  go_loop [5] (fun sv => ∃ t : ByteArray, sv = .string t ∧ TQ t Y1) (fun sv => szOf sv)
  case atStart => exact ⟨Y1, rfl, ⟨ys, by omega, HY.out, rfl⟩⟩
  case round =>
    obtain ⟨t, rfl, ht⟩ := hrel
    have HT := Lib.hid ht
    obtain ⟨ts1, ts2, -, -⟩ := ht
    by_cases h1 : 1 < t.size
    · by_cases h48 : t[0] = 48
      · have e1 : decide (1 < (t.size : Int)) = true := by simp; omega
        have e2 : t[0].toNat = 48 := by rw [h48]; rfl
        have e3 : ((t[0].toNat : Int) == 48) = true := by rw [h48]; rfl
        have e5 : 1 ≤ t.size := by omega
        have HN := Lib.hid (HT.out.step h1 h48)
        clear h48
        go_wp2_with fail
        go_round
        case rel => exact ⟨_, rfl, HN.out⟩
        case measure => simp [szOf]; omega
      ·
        obtain ⟨po, pv⟩ := HT.out.num (Or.inr (fun _ => h48))
        have e1 : decide (1 < (t.size : Int)) = true := by simp; omega
        have e2 : ¬ t[0].toNat = 48 := fun e => h48 (UInt8.toNat_inj.1 (by have : (48 : UInt8).toNat = 48 := rfl; omega))
        have e3 : ((t[0].toNat : Int) == 48) = false := by rw [beq_eq_false_iff_ne]; omega
        clear h48
        have PO := Lib.hid po
        have PV := Lib.hid pv
        clear po pv
        go_wp2_with fail
        refine (rParse_yes t _ (by omega) PO.out).mono ?_
        rintro e r1 ⟨b, p, n, cap, rfl, hI, q1⟩
        rw [PV.out] at hI
        have f9 := (q1.frozen (a := ⟨w.heap.size, 0, none⟩) l5).trans f6
        have f10 := (q1.frozen (a := ⟨w.heap.size, 1, none⟩) l5).trans f7
        have f11 := (q1.frozen (a := ⟨w.heap.size, 2, none⟩) l5).trans f8
        have l12 := Nat.lt_of_lt_of_le l5 q1.size
        have c13 := q1.cell c2
        have c14 := q1.cell c3
        have c15 := q1.cell c4
        clear f6 f7 f8 l5 c2 c3 c4
        have ur1 := uW1.trans q1
        clear q1 uW1
        go_wp2_with fail
        have hI2 := hI.dn ((Dn.refl _).alloc (.cells #[.bool b, .slice p n cap] 80))
        have hlen : (Dg.dl (Dg.nvA 0 Y1.data.toList : Int).natAbs).length ≤ 1000 := nv_small _ HY.out (by rw [len_is]; omega)
        clear hI
        obtain ⟨W16, hW16⟩ : ∃ W16, W16 = r1.alloc (.cells #[.bool b, .slice p n cap] 80) := ⟨_, rfl⟩
        have uW16 : Dn r1 W16 := by rw [hW16]; exact (Dn.refl _).alloc _
        have o17 : w.heap.size ≤ r1.heap.size := by have := ur1.size; omega
        have n18 : w.heap.size ≠ r1.heap.size := by have := l12; omega
        have f19 := (uW16.frozen (a := ⟨w.heap.size, 0, none⟩) l12).trans f9
        have f20 := (uW16.frozen (a := ⟨w.heap.size, 1, none⟩) l12).trans f10
        have f21 := (uW16.frozen (a := ⟨w.heap.size, 2, none⟩) l12).trans f11
        have l22 := Nat.lt_of_lt_of_le l12 uW16.size
        have c23 := uW16.cell c13
        have c24 := uW16.cell c14
        have c25 := uW16.cell c15
        clear f9 f10 f11 l12 c13 c14 c15
        have c26 : W16.cell? ⟨r1.heap.size, 0, none⟩ = some (.bool b) := by rw [hW16]; simp [go_sem]
        have c27 : W16.cell? ⟨r1.heap.size, 1, none⟩ = some (.slice p n cap) := by rw [hW16]; simp [go_sem]
        have l28 : r1.heap.size < W16.heap.size := by rw [hW16]; simp <;> omega
        have f29 : W16.frozen? ⟨r1.heap.size, 0, none⟩ = false := by rw [hW16]; simp [go_sem]
        have f30 : W16.frozen? ⟨r1.heap.size, 1, none⟩ = false := by rw [hW16]; simp [go_sem]
        rw [← hW16] at hI2 ⊢
        clear hW16
        have vW16 := ur1.trans uW16
        clear uW16 ur1
        refine (rNeg_c _ _ _ hI2).mono ?_
        rintro e r2 ⟨b2, p2, n2', cap2, rfl, hI3, q2⟩
        clear hI2
        have f31 := (q2.frozen (a := ⟨w.heap.size, 0, none⟩) l22).trans f19
        have f32 := (q2.frozen (a := ⟨w.heap.size, 1, none⟩) l22).trans f20
        have f33 := (q2.frozen (a := ⟨w.heap.size, 2, none⟩) l22).trans f21
        have l34 := Nat.lt_of_lt_of_le l22 q2.size
        have c35 := q2.cell c23
        have c36 := q2.cell c24
        have c37 := q2.cell c25
        have f38 := (q2.frozen (a := ⟨r1.heap.size, 0, none⟩) l28).trans f29
        have f39 := (q2.frozen (a := ⟨r1.heap.size, 1, none⟩) l28).trans f30
        have l40 := Nat.lt_of_lt_of_le l28 q2.size
        have c41 := q2.cell c26
        have c42 := q2.cell c27
        clear f19 f20 f21 l22 c23 c24 c25 f29 f30 l28 c26 c27
        have ur2 := vW16.trans q2
        clear q2 vW16
        go_wp2_with fail
        replace hI3 := hI3.keep c41 c42 b2 (.slice p2 n2' cap2)
        have hNB := (NBlk.set0 (NBlk.mk c41 c42 f38 f39 l40) b2).set1 (.slice p2 n2' cap2)
        have hDn := Dn.setCell (p := ⟨r1.heap.size, 1, none⟩) (Dn.setCell (p := ⟨r1.heap.size, 0, none⟩) ur2 o17 (.bool b2)) o17 (.slice p2 n2' cap2)
        have c44 := cell_far2 (v0 := .bool b2) (v1 := .slice p2 n2' cap2) n18 c35
        have c45 := cell_far2 (v0 := .bool b2) (v1 := .slice p2 n2' cap2) n18 c36
        have c46 := cell_far2 (v0 := .bool b2) (v1 := .slice p2 n2' cap2) n18 c37
        have f47 : ((r2.setCell ⟨r1.heap.size, 0, none⟩ (.bool b2)).setCell ⟨r1.heap.size, 1, none⟩ (.slice p2 n2' cap2)).frozen? ⟨w.heap.size, 0, none⟩ = false := by simpa using f31
        have f48 : ((r2.setCell ⟨r1.heap.size, 0, none⟩ (.bool b2)).setCell ⟨r1.heap.size, 1, none⟩ (.slice p2 n2' cap2)).frozen? ⟨w.heap.size, 1, none⟩ = false := by simpa using f32
        have f49 : ((r2.setCell ⟨r1.heap.size, 0, none⟩ (.bool b2)).setCell ⟨r1.heap.size, 1, none⟩ (.slice p2 n2' cap2)).frozen? ⟨w.heap.size, 2, none⟩ = false := by simpa using f33
        have l50 : w.heap.size < ((r2.setCell ⟨r1.heap.size, 0, none⟩ (.bool b2)).setCell ⟨r1.heap.size, 1, none⟩ (.slice p2 n2' cap2)).heap.size := by simpa using l34
        clear c35 c36 c37 f31 f32 f33 l34 ur2
        obtain ⟨W43, hW43⟩ : ∃ W43, W43 = (r2.setCell ⟨r1.heap.size, 0, none⟩ (.bool b2)).setCell ⟨r1.heap.size, 1, none⟩ (.slice p2 n2' cap2) := ⟨_, rfl⟩
        rw [← hW43] at hI3 hNB hDn c44 c45 c46 f47 f48 f49 l50 ⊢
        clear hW43
        obtain ⟨c51, c52, f53, f54, l55⟩ := hNB
        rw [HX.out] at hI3 
        refine (rInt_yes _ x _ hI3 (by have e4 := HX.out; rw [← e4]; simpa using hlen) HF.out).mono ?_
        rintro e r3 ⟨rfl, q3'⟩
        have f56 := (q3'.frozen (a := ⟨w.heap.size, 0, none⟩) l50).trans f47
        have f57 := (q3'.frozen (a := ⟨w.heap.size, 1, none⟩) l50).trans f48
        have f58 := (q3'.frozen (a := ⟨w.heap.size, 2, none⟩) l50).trans f49
        have l59 := Nat.lt_of_lt_of_le l50 q3'.size
        have c60 := q3'.cell c44
        have c61 := q3'.cell c45
        have c62 := q3'.cell c46
        have f63 := (q3'.frozen (a := ⟨r1.heap.size, 0, none⟩) l55).trans f53
        have f64 := (q3'.frozen (a := ⟨r1.heap.size, 1, none⟩) l55).trans f54
        have l65 := Nat.lt_of_lt_of_le l55 q3'.size
        have c66 := q3'.cell c51
        have c67 := q3'.cell c52
        clear f47 f48 f49 l50 c44 c45 c46 f53 f54 l55 c51 c52
        have ur3 := hDn.trans q3'
        clear q3' hDn
        go_wp2_with fail
        refine (rIs_yes x _ HIY.out).mono ?_
        rintro e w4 ⟨rfl, rfl⟩
        go_wp2_with fail
        go_region
        obtain ⟨W68, hW68⟩ : ∃ W68, W68 = (r3.alloc (.cells #[.int .i64 x, .int .i64 (10 * q5 + q4), .int .i64 (10 * q2 + q1)] 23)).drew := ⟨_, rfl⟩
        have uW68 : Dn r3 W68 := by rw [hW68]; exact ((Dn.refl _).alloc _).drew
        have n69 : w.heap.size ≠ r3.heap.size := by have := l59; omega
        have f70 := (uW68.frozen (a := ⟨w.heap.size, 0, none⟩) l59).trans f56
        have f71 := (uW68.frozen (a := ⟨w.heap.size, 1, none⟩) l59).trans f57
        have f72 := (uW68.frozen (a := ⟨w.heap.size, 2, none⟩) l59).trans f58
        have l73 := Nat.lt_of_lt_of_le l59 uW68.size
        have c74 := uW68.cell c60
        have c75 := uW68.cell c61
        have c76 := uW68.cell c62
        clear f56 f57 f58 l59 c60 c61 c62 c66 c67
        have c77 : W68.cell? ⟨r3.heap.size, 0, none⟩ = some (.int .i64 x) := by rw [hW68]; simp [go_sem]
        have c78 : W68.cell? ⟨r3.heap.size, 1, none⟩ = some (.int .i64 (10 * q5 + q4)) := by rw [hW68]; simp [go_sem]
        have c79 : W68.cell? ⟨r3.heap.size, 2, none⟩ = some (.int .i64 (10 * q2 + q1)) := by rw [hW68]; simp [go_sem]
        have l80 : r3.heap.size < W68.heap.size := by rw [hW68]; simp <;> omega
        rw [← hW68]
        clear hW68
        have vW68 := ur3.trans uW68
        go_wp2_with fail
        refine (rc6Chk x (10 * q5 + q4) (10 * q2 + q1) E _ HC.out).mono ?_
        rintro e w5 ⟨rfl, qw5⟩
        have f81 := (qw5.frozen (a := ⟨w.heap.size, 0, none⟩) l73).trans f70
        have f82 := (qw5.frozen (a := ⟨w.heap.size, 1, none⟩) l73).trans f71
        have f83 := (qw5.frozen (a := ⟨w.heap.size, 2, none⟩) l73).trans f72
        have l84 := Nat.lt_of_lt_of_le l73 qw5.size
        have c85 := qw5.cell c74
        have c86 := qw5.cell c75
        have c87 := qw5.cell c76
        have l88 := Nat.lt_of_lt_of_le l80 qw5.size
        have c89 := qw5.cell c77
        have c90 := qw5.cell c78
        have c91 := qw5.cell c79
        clear f70 f71 f72 l73 c74 c75 c76 l80 c77 c78 c79
        have uw5 := vW68.trans qw5
        clear qw5 vW68
        go_wp2_with fail
        exact bodyPost_ret (v := .tuple #[.agg #[.int .i64 0, .int .i64 0, .int .i64 0], .int .i64 E]) (by simp [results, Tryz.results23, go_sem, c85, c86, c87, c89, c90, c91, f81, f82, f83, f63, f64] <;> omega) rfl ⟨rfl, (((uw5.setCell (by simp <;> omega) _).setCell (by simp <;> omega) _).setCell (by simp <;> omega) _)⟩
    ·
      obtain ⟨po, pv⟩ := HT.out.num (Or.inl (by omega))
      have e1 : decide (1 < (t.size : Int)) = false := by simp; omega
      have e2 : ¬ 1 < t.size := h1
      have PO := Lib.hid po
      have PV := Lib.hid pv
      clear po pv
      go_wp2_with fail
      refine (rParse_yes t _ (by omega) PO.out).mono ?_
      rintro e r1 ⟨b, p, n, cap, rfl, hI, q1⟩
      rw [PV.out] at hI
      have f92 := (q1.frozen (a := ⟨w.heap.size, 0, none⟩) l5).trans f6
      have f93 := (q1.frozen (a := ⟨w.heap.size, 1, none⟩) l5).trans f7
      have f94 := (q1.frozen (a := ⟨w.heap.size, 2, none⟩) l5).trans f8
      have l95 := Nat.lt_of_lt_of_le l5 q1.size
      have c96 := q1.cell c2
      have c97 := q1.cell c3
      have c98 := q1.cell c4
      clear f6 f7 f8 l5 c2 c3 c4
      have ur1 := uW1.trans q1
      clear q1 uW1
      go_wp2_with fail
      have hI2 := hI.dn ((Dn.refl _).alloc (.cells #[.bool b, .slice p n cap] 80))
      have hlen : (Dg.dl (Dg.nvA 0 Y1.data.toList : Int).natAbs).length ≤ 1000 := nv_small _ HY.out (by rw [len_is]; omega)
      clear hI
      obtain ⟨W99, hW99⟩ : ∃ W99, W99 = r1.alloc (.cells #[.bool b, .slice p n cap] 80) := ⟨_, rfl⟩
      have uW99 : Dn r1 W99 := by rw [hW99]; exact (Dn.refl _).alloc _
      have o100 : w.heap.size ≤ r1.heap.size := by have := ur1.size; omega
      have n101 : w.heap.size ≠ r1.heap.size := by have := l95; omega
      have f102 := (uW99.frozen (a := ⟨w.heap.size, 0, none⟩) l95).trans f92
      have f103 := (uW99.frozen (a := ⟨w.heap.size, 1, none⟩) l95).trans f93
      have f104 := (uW99.frozen (a := ⟨w.heap.size, 2, none⟩) l95).trans f94
      have l105 := Nat.lt_of_lt_of_le l95 uW99.size
      have c106 := uW99.cell c96
      have c107 := uW99.cell c97
      have c108 := uW99.cell c98
      clear f92 f93 f94 l95 c96 c97 c98
      have c109 : W99.cell? ⟨r1.heap.size, 0, none⟩ = some (.bool b) := by rw [hW99]; simp [go_sem]
      have c110 : W99.cell? ⟨r1.heap.size, 1, none⟩ = some (.slice p n cap) := by rw [hW99]; simp [go_sem]
      have l111 : r1.heap.size < W99.heap.size := by rw [hW99]; simp <;> omega
      have f112 : W99.frozen? ⟨r1.heap.size, 0, none⟩ = false := by rw [hW99]; simp [go_sem]
      have f113 : W99.frozen? ⟨r1.heap.size, 1, none⟩ = false := by rw [hW99]; simp [go_sem]
      rw [← hW99] at hI2 ⊢
      clear hW99
      have vW99 := ur1.trans uW99
      clear uW99 ur1
      refine (rNeg_c _ _ _ hI2).mono ?_
      rintro e r2 ⟨b2, p2, n2', cap2, rfl, hI3, q2⟩
      clear hI2
      have f114 := (q2.frozen (a := ⟨w.heap.size, 0, none⟩) l105).trans f102
      have f115 := (q2.frozen (a := ⟨w.heap.size, 1, none⟩) l105).trans f103
      have f116 := (q2.frozen (a := ⟨w.heap.size, 2, none⟩) l105).trans f104
      have l117 := Nat.lt_of_lt_of_le l105 q2.size
      have c118 := q2.cell c106
      have c119 := q2.cell c107
      have c120 := q2.cell c108
      have f121 := (q2.frozen (a := ⟨r1.heap.size, 0, none⟩) l111).trans f112
      have f122 := (q2.frozen (a := ⟨r1.heap.size, 1, none⟩) l111).trans f113
      have l123 := Nat.lt_of_lt_of_le l111 q2.size
      have c124 := q2.cell c109
      have c125 := q2.cell c110
      clear f102 f103 f104 l105 c106 c107 c108 f112 f113 l111 c109 c110
      have ur2 := vW99.trans q2
      clear q2 vW99
      go_wp2_with fail
      replace hI3 := hI3.keep c124 c125 b2 (.slice p2 n2' cap2)
      have hNB := (NBlk.set0 (NBlk.mk c124 c125 f121 f122 l123) b2).set1 (.slice p2 n2' cap2)
      have hDn := Dn.setCell (p := ⟨r1.heap.size, 1, none⟩) (Dn.setCell (p := ⟨r1.heap.size, 0, none⟩) ur2 o100 (.bool b2)) o100 (.slice p2 n2' cap2)
      have c127 := cell_far2 (v0 := .bool b2) (v1 := .slice p2 n2' cap2) n101 c118
      have c128 := cell_far2 (v0 := .bool b2) (v1 := .slice p2 n2' cap2) n101 c119
      have c129 := cell_far2 (v0 := .bool b2) (v1 := .slice p2 n2' cap2) n101 c120
      have f130 : ((r2.setCell ⟨r1.heap.size, 0, none⟩ (.bool b2)).setCell ⟨r1.heap.size, 1, none⟩ (.slice p2 n2' cap2)).frozen? ⟨w.heap.size, 0, none⟩ = false := by simpa using f114
      have f131 : ((r2.setCell ⟨r1.heap.size, 0, none⟩ (.bool b2)).setCell ⟨r1.heap.size, 1, none⟩ (.slice p2 n2' cap2)).frozen? ⟨w.heap.size, 1, none⟩ = false := by simpa using f115
      have f132 : ((r2.setCell ⟨r1.heap.size, 0, none⟩ (.bool b2)).setCell ⟨r1.heap.size, 1, none⟩ (.slice p2 n2' cap2)).frozen? ⟨w.heap.size, 2, none⟩ = false := by simpa using f116
      have l133 : w.heap.size < ((r2.setCell ⟨r1.heap.size, 0, none⟩ (.bool b2)).setCell ⟨r1.heap.size, 1, none⟩ (.slice p2 n2' cap2)).heap.size := by simpa using l117
      clear c118 c119 c120 f114 f115 f116 l117 ur2
      obtain ⟨W126, hW126⟩ : ∃ W126, W126 = (r2.setCell ⟨r1.heap.size, 0, none⟩ (.bool b2)).setCell ⟨r1.heap.size, 1, none⟩ (.slice p2 n2' cap2) := ⟨_, rfl⟩
      rw [← hW126] at hI3 hNB hDn c127 c128 c129 f130 f131 f132 l133 ⊢
      clear hW126
      obtain ⟨c134, c135, f136, f137, l138⟩ := hNB
      rw [HX.out] at hI3 
      refine (rInt_yes _ x _ hI3 (by have e4 := HX.out; rw [← e4]; simpa using hlen) HF.out).mono ?_
      rintro e r3 ⟨rfl, q3'⟩
      have f139 := (q3'.frozen (a := ⟨w.heap.size, 0, none⟩) l133).trans f130
      have f140 := (q3'.frozen (a := ⟨w.heap.size, 1, none⟩) l133).trans f131
      have f141 := (q3'.frozen (a := ⟨w.heap.size, 2, none⟩) l133).trans f132
      have l142 := Nat.lt_of_lt_of_le l133 q3'.size
      have c143 := q3'.cell c127
      have c144 := q3'.cell c128
      have c145 := q3'.cell c129
      have f146 := (q3'.frozen (a := ⟨r1.heap.size, 0, none⟩) l138).trans f136
      have f147 := (q3'.frozen (a := ⟨r1.heap.size, 1, none⟩) l138).trans f137
      have l148 := Nat.lt_of_lt_of_le l138 q3'.size
      have c149 := q3'.cell c134
      have c150 := q3'.cell c135
      clear f130 f131 f132 l133 c127 c128 c129 f136 f137 l138 c134 c135
      have ur3 := hDn.trans q3'
      clear q3' hDn
      go_wp2_with fail
      refine (rIs_yes x _ HIY.out).mono ?_
      rintro e w6 ⟨rfl, rfl⟩
      go_wp2_with fail
      go_region
      obtain ⟨W151, hW151⟩ : ∃ W151, W151 = (r3.alloc (.cells #[.int .i64 x, .int .i64 (10 * q5 + q4), .int .i64 (10 * q2 + q1)] 23)).drew := ⟨_, rfl⟩
      have uW151 : Dn r3 W151 := by rw [hW151]; exact ((Dn.refl _).alloc _).drew
      have n152 : w.heap.size ≠ r3.heap.size := by have := l142; omega
      have f153 := (uW151.frozen (a := ⟨w.heap.size, 0, none⟩) l142).trans f139
      have f154 := (uW151.frozen (a := ⟨w.heap.size, 1, none⟩) l142).trans f140
      have f155 := (uW151.frozen (a := ⟨w.heap.size, 2, none⟩) l142).trans f141
      have l156 := Nat.lt_of_lt_of_le l142 uW151.size
      have c157 := uW151.cell c143
      have c158 := uW151.cell c144
      have c159 := uW151.cell c145
      clear f139 f140 f141 l142 c143 c144 c145 c149 c150
      have c160 : W151.cell? ⟨r3.heap.size, 0, none⟩ = some (.int .i64 x) := by rw [hW151]; simp [go_sem]
      have c161 : W151.cell? ⟨r3.heap.size, 1, none⟩ = some (.int .i64 (10 * q5 + q4)) := by rw [hW151]; simp [go_sem]
      have c162 : W151.cell? ⟨r3.heap.size, 2, none⟩ = some (.int .i64 (10 * q2 + q1)) := by rw [hW151]; simp [go_sem]
      have l163 : r3.heap.size < W151.heap.size := by rw [hW151]; simp <;> omega
      rw [← hW151]
      clear hW151
      have vW151 := ur3.trans uW151
      go_wp2_with fail
      refine (rc6Chk x (10 * q5 + q4) (10 * q2 + q1) E _ HC.out).mono ?_
      rintro e w7 ⟨rfl, qw7⟩
      have f164 := (qw7.frozen (a := ⟨w.heap.size, 0, none⟩) l156).trans f153
      have f165 := (qw7.frozen (a := ⟨w.heap.size, 1, none⟩) l156).trans f154
      have f166 := (qw7.frozen (a := ⟨w.heap.size, 2, none⟩) l156).trans f155
      have l167 := Nat.lt_of_lt_of_le l156 qw7.size
      have c168 := qw7.cell c157
      have c169 := qw7.cell c158
      have c170 := qw7.cell c159
      have l171 := Nat.lt_of_lt_of_le l163 qw7.size
      have c172 := qw7.cell c160
      have c173 := qw7.cell c161
      have c174 := qw7.cell c162
      clear f153 f154 f155 l156 c157 c158 c159 l163 c160 c161 c162
      have uw7 := vW151.trans qw7
      clear qw7 vW151
      go_wp2_with fail
      exact bodyPost_ret (v := .tuple #[.agg #[.int .i64 0, .int .i64 0, .int .i64 0], .int .i64 E]) (by simp [results, Tryz.results23, go_sem, c168, c169, c170, c172, c173, c174, f164, f165, f166, f146, f147] <;> omega) rfl ⟨rfl, (((uw7.setCell (by simp <;> omega) _).setCell (by simp <;> omega) _).setCell (by simp <;> omega) _)⟩
set_option maxHeartbeats 4000000 in
set_option maxRecDepth 100000 in
theorem rp6r_n5_ok (s Y0 Y1 S2 S5 : ByteArray) (n1 n2 n3 n4 n5 n6 : Nat) (hs : s.size ≤ 100) (h10 : ¬ s.size < 10) (i1 : (s.size : Int) - 1 = n1) (i2 : (s.size : Int) - 2 = n2) (i3 : (s.size : Int) - 3 = n3) (i4 : (s.size : Int) - 4 = n4) (i5 : (s.size : Int) - 5 = n5) (i6 : (s.size : Int) - 6 = n6) (b1 : n1 < s.size) (b2 : n2 < s.size) (b3 : n3 < s.size) (b4 : n4 < s.size) (b5 : n5 < s.size) (b6 : n6 < s.size) (X2 : s.extract n2 s.size = S2) (X5 : s.extract n5 n3 = S5) (X0 : s.extract 0 n6 = Y0) (h : s[n3] = 45) (h6 : s[n6] = 45) (HD2 : Hid (∀ W, Calls Tryz.prog 52 #[.string S2] W fun e w' => e = .returned (.bool true) ∧ W = w')) (HD5 : Hid (∀ W, Calls Tryz.prog 52 #[.string S5] W fun e w' => e = .returned (.bool true) ∧ W = w')) (y0 : 0 < Y0.size) (g : Y0[0] = 45) (X1 : Y0.extract 1 Y0.size = Y1) (v0 : 1 ≤ Y0.size) (l : ¬ Y1.size < 4) (HDY : Hid (∀ W, Calls Tryz.prog 52 #[.string Y1] W fun e w' => e = .returned (.bool true) ∧ W = w')) (HY : Hid (AllD Y1.data.toList)) (ys : Y1.size ≤ 100) (l4 : 4 < Y1.size) (z0 : Y1[0]'(by omega) ≠ 48) (nz : ¬ Y1.toList = [48, 48, 48, 48]) (x : Int) (hx : (-(Dg.nvA 0 Y1.data.toList : Int)) = x) (HF : Hid (I64 x)) (HIY : Hid (IsY x)) (q5 q4 q2 q1 : Int) (a5 : ((s[n5].toNat : Int) - 48) % 256 = q5) (d5 : 0 ≤ q5 ∧ q5 ≤ 9) (a4 : ((s[n4].toNat : Int) - 48) % 256 = q4) (d4 : 0 ≤ q4 ∧ q4 ≤ 9) (a2 : ((s[n2].toNat : Int) - 48) % 256 = q2) (d2 : 0 ≤ q2 ∧ q2 ≤ 9) (a1 : ((s[n1].toNat : Int) - 48) % 256 = q1) (d1 : 0 ≤ q1 ∧ q1 ≤ 9) (HC : Hid (cErr x (10 * q5 + q4) (10 * q2 + q1) = 0)) (w : World) :
    Calls Tryz.prog 23 #[.string s] w fun ro w' => ro = .returned (.tuple #[.agg #[.int .i64 x, .int .i64 (10 * q5 + q4), .int .i64 (10 * q2 + q1)], .int .i64 0]) ∧ Dn w w' := by
  have t10 : decide ((s.size : Int) < 10) = false := by simp; omega
  have u2 : n2 ≤ s.size := by omega
  have u3 : n3 ≤ s.size := by omega
  have u5 : n5 ≤ n3 := by omega
  have u6 : n6 ≤ s.size := by omega
  have q3 : ((s[n3].toNat : Int) == 45) = true := by rw [h]; rfl
  have mq3 : s[n3].toNat = 45 := by rw [h]; rfl
  have q6 : ((s[n6].toNat : Int) == 45) = true := by rw [h6]; rfl
  have mq6 : s[n6].toNat = 45 := by rw [h6]; rfl
  clear h h6
  have qn : ((Y0[0].toNat : Int) == 45) = true := by rw [g]; rfl
  have mqn : Y0[0].toNat = 45 := by rw [g]; rfl
  clear g
  have k1 : decide ((Y1.size : Int) < 4) = false := by simp; omega
  have k2 : ¬ Y1.size < 4 := l
  have l0 : 0 < Y1.size := by omega
  have k3 : decide (4 < (Y1.size : Int)) = true := by simp; omega
  have mqz : ¬ Y1[0].toNat = 48 := fun e => z0 (UInt8.toNat_inj.1 (by have : (48 : UInt8).toNat = 48 := rfl; omega))
  have qz : ((Y1[0].toNat : Int) == 48) = false := by rw [beq_eq_false_iff_ne]; omega
  clear z0
  have k5 : (Y1.toList == [48, 48, 48, 48]) = false := by simpa using nz
  have HX := Lib.hid hx
  clear hx
  go_enter Tryz.func23, Tryz.ntmps23
  go_wp2_with fail
  obtain ⟨W1, hW1⟩ : ∃ W1, W1 = w.alloc (.cells #[.int .i64 0, .int .i64 0, .int .i64 0] 23) := ⟨_, rfl⟩
  have uW1 : Dn w W1 := by rw [hW1]; exact (Dn.refl _).alloc _
  have c2 : W1.cell? ⟨w.heap.size, 0, none⟩ = some (.int .i64 0) := by rw [hW1]; simp [go_sem]
  have c3 : W1.cell? ⟨w.heap.size, 1, none⟩ = some (.int .i64 0) := by rw [hW1]; simp [go_sem]
  have c4 : W1.cell? ⟨w.heap.size, 2, none⟩ = some (.int .i64 0) := by rw [hW1]; simp [go_sem]
  have l5 : w.heap.size < W1.heap.size := by rw [hW1]; simp <;> omega
  have f6 : W1.frozen? ⟨w.heap.size, 0, none⟩ = false := by rw [hW1]; simp [go_sem]
  have f7 : W1.frozen? ⟨w.heap.size, 1, none⟩ = false := by rw [hW1]; simp [go_sem]
  have f8 : W1.frozen? ⟨w.heap.size, 2, none⟩ = false := by rw [hW1]; simp [go_sem]
  rw [← hW1]
  clear hW1
  refine (HD2.out _).mono ?_
  rintro e w1 ⟨rfl, rfl⟩
  go_wp2_with fail
  refine (HD5.out _).mono ?_
  rintro e w2 ⟨rfl, rfl⟩
  go_wp2_with fail
  refine (HDY.out _).mono ?_
  rintro e w3 ⟨rfl, rfl⟩
  go_wp2_with fail
  go_loop [5] (fun sv => ∃ t : ByteArray, sv = .string t ∧ TQ t Y1) (fun sv => szOf sv)
  case atStart => exact ⟨Y1, rfl, ⟨ys, by omega, HY.out, rfl⟩⟩
  case round =>
    obtain ⟨t, rfl, ht⟩ := hrel
    have HT := Lib.hid ht
    obtain ⟨ts1, ts2, -, -⟩ := ht
    by_cases h1 : 1 < t.size
    · by_cases h48 : t[0] = 48
      · have e1 : decide (1 < (t.size : Int)) = true := by simp; omega
        have e2 : t[0].toNat = 48 := by rw [h48]; rfl
        have e3 : ((t[0].toNat : Int) == 48) = true := by rw [h48]; rfl
        have e5 : 1 ≤ t.size := by omega
        have HN := Lib.hid (HT.out.step h1 h48)
        clear h48
        go_wp2_with fail
        go_round
        case rel => exact ⟨_, rfl, HN.out⟩
        case measure => simp [szOf]; omega
      ·
        obtain ⟨po, pv⟩ := HT.out.num (Or.inr (fun _ => h48))
        have e1 : decide (1 < (t.size : Int)) = true := by simp; omega
        have e2 : ¬ t[0].toNat = 48 := fun e => h48 (UInt8.toNat_inj.1 (by have : (48 : UInt8).toNat = 48 := rfl; omega))
        have e3 : ((t[0].toNat : Int) == 48) = false := by rw [beq_eq_false_iff_ne]; omega
        clear h48
        have PO := Lib.hid po
        have PV := Lib.hid pv
        clear po pv
        go_wp2_with fail
        refine (rParse_yes t _ (by omega) PO.out).mono ?_
        rintro e r1 ⟨b, p, n, cap, rfl, hI, q1⟩
        rw [PV.out] at hI
        have f9 := (q1.frozen (a := ⟨w.heap.size, 0, none⟩) l5).trans f6
        have f10 := (q1.frozen (a := ⟨w.heap.size, 1, none⟩) l5).trans f7
        have f11 := (q1.frozen (a := ⟨w.heap.size, 2, none⟩) l5).trans f8
        have l12 := Nat.lt_of_lt_of_le l5 q1.size
        have c13 := q1.cell c2
        have c14 := q1.cell c3
        have c15 := q1.cell c4
        clear f6 f7 f8 l5 c2 c3 c4
        have ur1 := uW1.trans q1
        clear q1 uW1
        go_wp2_with fail
        have hI2 := hI.dn ((Dn.refl _).alloc (.cells #[.bool b, .slice p n cap] 80))
        have hlen : (Dg.dl (Dg.nvA 0 Y1.data.toList : Int).natAbs).length ≤ 1000 := nv_small _ HY.out (by rw [len_is]; omega)
        clear hI
        obtain ⟨W16, hW16⟩ : ∃ W16, W16 = r1.alloc (.cells #[.bool b, .slice p n cap] 80) := ⟨_, rfl⟩
        have uW16 : Dn r1 W16 := by rw [hW16]; exact (Dn.refl _).alloc _
        have o17 : w.heap.size ≤ r1.heap.size := by have := ur1.size; omega
        have n18 : w.heap.size ≠ r1.heap.size := by have := l12; omega
        have f19 := (uW16.frozen (a := ⟨w.heap.size, 0, none⟩) l12).trans f9
        have f20 := (uW16.frozen (a := ⟨w.heap.size, 1, none⟩) l12).trans f10
        have f21 := (uW16.frozen (a := ⟨w.heap.size, 2, none⟩) l12).trans f11
        have l22 := Nat.lt_of_lt_of_le l12 uW16.size
        have c23 := uW16.cell c13
        have c24 := uW16.cell c14
        have c25 := uW16.cell c15
        clear f9 f10 f11 l12 c13 c14 c15
        have c26 : W16.cell? ⟨r1.heap.size, 0, none⟩ = some (.bool b) := by rw [hW16]; simp [go_sem]
        have c27 : W16.cell? ⟨r1.heap.size, 1, none⟩ = some (.slice p n cap) := by rw [hW16]; simp [go_sem]
        have l28 : r1.heap.size < W16.heap.size := by rw [hW16]; simp <;> omega
        have f29 : W16.frozen? ⟨r1.heap.size, 0, none⟩ = false := by rw [hW16]; simp [go_sem]
        have f30 : W16.frozen? ⟨r1.heap.size, 1, none⟩ = false := by rw [hW16]; simp [go_sem]
        rw [← hW16] at hI2 ⊢
        clear hW16
        have vW16 := ur1.trans uW16
        clear uW16 ur1
        refine (rNeg_c _ _ _ hI2).mono ?_
        rintro e r2 ⟨b2, p2, n2', cap2, rfl, hI3, q2⟩
        clear hI2
        have f31 := (q2.frozen (a := ⟨w.heap.size, 0, none⟩) l22).trans f19
        have f32 := (q2.frozen (a := ⟨w.heap.size, 1, none⟩) l22).trans f20
        have f33 := (q2.frozen (a := ⟨w.heap.size, 2, none⟩) l22).trans f21
        have l34 := Nat.lt_of_lt_of_le l22 q2.size
        have c35 := q2.cell c23
        have c36 := q2.cell c24
        have c37 := q2.cell c25
        have f38 := (q2.frozen (a := ⟨r1.heap.size, 0, none⟩) l28).trans f29
        have f39 := (q2.frozen (a := ⟨r1.heap.size, 1, none⟩) l28).trans f30
        have l40 := Nat.lt_of_lt_of_le l28 q2.size
        have c41 := q2.cell c26
        have c42 := q2.cell c27
        clear f19 f20 f21 l22 c23 c24 c25 f29 f30 l28 c26 c27
        have ur2 := vW16.trans q2
        clear q2 vW16
        go_wp2_with fail
        replace hI3 := hI3.keep c41 c42 b2 (.slice p2 n2' cap2)
        have hNB := (NBlk.set0 (NBlk.mk c41 c42 f38 f39 l40) b2).set1 (.slice p2 n2' cap2)
        have hDn := Dn.setCell (p := ⟨r1.heap.size, 1, none⟩) (Dn.setCell (p := ⟨r1.heap.size, 0, none⟩) ur2 o17 (.bool b2)) o17 (.slice p2 n2' cap2)
        have c44 := cell_far2 (v0 := .bool b2) (v1 := .slice p2 n2' cap2) n18 c35
        have c45 := cell_far2 (v0 := .bool b2) (v1 := .slice p2 n2' cap2) n18 c36
        have c46 := cell_far2 (v0 := .bool b2) (v1 := .slice p2 n2' cap2) n18 c37
        have f47 : ((r2.setCell ⟨r1.heap.size, 0, none⟩ (.bool b2)).setCell ⟨r1.heap.size, 1, none⟩ (.slice p2 n2' cap2)).frozen? ⟨w.heap.size, 0, none⟩ = false := by simpa using f31
        have f48 : ((r2.setCell ⟨r1.heap.size, 0, none⟩ (.bool b2)).setCell ⟨r1.heap.size, 1, none⟩ (.slice p2 n2' cap2)).frozen? ⟨w.heap.size, 1, none⟩ = false := by simpa using f32
        have f49 : ((r2.setCell ⟨r1.heap.size, 0, none⟩ (.bool b2)).setCell ⟨r1.heap.size, 1, none⟩ (.slice p2 n2' cap2)).frozen? ⟨w.heap.size, 2, none⟩ = false := by simpa using f33
        have l50 : w.heap.size < ((r2.setCell ⟨r1.heap.size, 0, none⟩ (.bool b2)).setCell ⟨r1.heap.size, 1, none⟩ (.slice p2 n2' cap2)).heap.size := by simpa using l34
        clear c35 c36 c37 f31 f32 f33 l34 ur2
        obtain ⟨W43, hW43⟩ : ∃ W43, W43 = (r2.setCell ⟨r1.heap.size, 0, none⟩ (.bool b2)).setCell ⟨r1.heap.size, 1, none⟩ (.slice p2 n2' cap2) := ⟨_, rfl⟩
        rw [← hW43] at hI3 hNB hDn c44 c45 c46 f47 f48 f49 l50 ⊢
        clear hW43
        obtain ⟨c51, c52, f53, f54, l55⟩ := hNB
        rw [HX.out] at hI3 
        refine (rInt_yes _ x _ hI3 (by have e4 := HX.out; rw [← e4]; simpa using hlen) HF.out).mono ?_
        rintro e r3 ⟨rfl, q3'⟩
        have f56 := (q3'.frozen (a := ⟨w.heap.size, 0, none⟩) l50).trans f47
        have f57 := (q3'.frozen (a := ⟨w.heap.size, 1, none⟩) l50).trans f48
        have f58 := (q3'.frozen (a := ⟨w.heap.size, 2, none⟩) l50).trans f49
        have l59 := Nat.lt_of_lt_of_le l50 q3'.size
        have c60 := q3'.cell c44
        have c61 := q3'.cell c45
        have c62 := q3'.cell c46
        have f63 := (q3'.frozen (a := ⟨r1.heap.size, 0, none⟩) l55).trans f53
        have f64 := (q3'.frozen (a := ⟨r1.heap.size, 1, none⟩) l55).trans f54
        have l65 := Nat.lt_of_lt_of_le l55 q3'.size
        have c66 := q3'.cell c51
        have c67 := q3'.cell c52
        clear f47 f48 f49 l50 c44 c45 c46 f53 f54 l55 c51 c52
        have ur3 := hDn.trans q3'
        clear q3' hDn
        go_wp2_with fail
        refine (rIs_yes x _ HIY.out).mono ?_
        rintro e w4 ⟨rfl, rfl⟩
        go_wp2_with fail
        go_region
        obtain ⟨W68, hW68⟩ : ∃ W68, W68 = (r3.alloc (.cells #[.int .i64 x, .int .i64 (10 * q5 + q4), .int .i64 (10 * q2 + q1)] 23)).drew := ⟨_, rfl⟩
        have uW68 : Dn r3 W68 := by rw [hW68]; exact ((Dn.refl _).alloc _).drew
        have n69 : w.heap.size ≠ r3.heap.size := by have := l59; omega
        have f70 := (uW68.frozen (a := ⟨w.heap.size, 0, none⟩) l59).trans f56
        have f71 := (uW68.frozen (a := ⟨w.heap.size, 1, none⟩) l59).trans f57
        have f72 := (uW68.frozen (a := ⟨w.heap.size, 2, none⟩) l59).trans f58
        have l73 := Nat.lt_of_lt_of_le l59 uW68.size
        have c74 := uW68.cell c60
        have c75 := uW68.cell c61
        have c76 := uW68.cell c62
        clear f56 f57 f58 l59 c60 c61 c62 c66 c67
        have c77 : W68.cell? ⟨r3.heap.size, 0, none⟩ = some (.int .i64 x) := by rw [hW68]; simp [go_sem]
        have c78 : W68.cell? ⟨r3.heap.size, 1, none⟩ = some (.int .i64 (10 * q5 + q4)) := by rw [hW68]; simp [go_sem]
        have c79 : W68.cell? ⟨r3.heap.size, 2, none⟩ = some (.int .i64 (10 * q2 + q1)) := by rw [hW68]; simp [go_sem]
        have l80 : r3.heap.size < W68.heap.size := by rw [hW68]; simp <;> omega
        rw [← hW68]
        clear hW68
        have vW68 := ur3.trans uW68
        go_wp2_with fail
        refine (rc6Chk x (10 * q5 + q4) (10 * q2 + q1) 0 _ HC.out).mono ?_
        rintro e w5 ⟨rfl, qw5⟩
        have f81 := (qw5.frozen (a := ⟨w.heap.size, 0, none⟩) l73).trans f70
        have f82 := (qw5.frozen (a := ⟨w.heap.size, 1, none⟩) l73).trans f71
        have f83 := (qw5.frozen (a := ⟨w.heap.size, 2, none⟩) l73).trans f72
        have l84 := Nat.lt_of_lt_of_le l73 qw5.size
        have c85 := qw5.cell c74
        have c86 := qw5.cell c75
        have c87 := qw5.cell c76
        have l88 := Nat.lt_of_lt_of_le l80 qw5.size
        have c89 := qw5.cell c77
        have c90 := qw5.cell c78
        have c91 := qw5.cell c79
        clear f70 f71 f72 l73 c74 c75 c76 l80 c77 c78 c79
        have uw5 := vW68.trans qw5
        clear qw5 vW68
        go_wp2_with fail
        exact bodyPost_ret (v := .tuple #[.agg #[.int .i64 x, .int .i64 (10 * q5 + q4), .int .i64 (10 * q2 + q1)], .int .i64 0]) (by simp [results, Tryz.results23, go_sem, c85, c86, c87, c89, c90, c91, f81, f82, f83, f63, f64] <;> omega) rfl ⟨rfl, (((uw5.setCell (by simp <;> omega) _).setCell (by simp <;> omega) _).setCell (by simp <;> omega) _)⟩
    ·
      obtain ⟨po, pv⟩ := HT.out.num (Or.inl (by omega))
      have e1 : decide (1 < (t.size : Int)) = false := by simp; omega
      have e2 : ¬ 1 < t.size := h1
      have PO := Lib.hid po
      have PV := Lib.hid pv
      clear po pv
      go_wp2_with fail
      refine (rParse_yes t _ (by omega) PO.out).mono ?_
      rintro e r1 ⟨b, p, n, cap, rfl, hI, q1⟩
      rw [PV.out] at hI
      have f92 := (q1.frozen (a := ⟨w.heap.size, 0, none⟩) l5).trans f6
      have f93 := (q1.frozen (a := ⟨w.heap.size, 1, none⟩) l5).trans f7
      have f94 := (q1.frozen (a := ⟨w.heap.size, 2, none⟩) l5).trans f8
      have l95 := Nat.lt_of_lt_of_le l5 q1.size
      have c96 := q1.cell c2
      have c97 := q1.cell c3
      have c98 := q1.cell c4
      clear f6 f7 f8 l5 c2 c3 c4
      have ur1 := uW1.trans q1
      clear q1 uW1
      go_wp2_with fail
      have hI2 := hI.dn ((Dn.refl _).alloc (.cells #[.bool b, .slice p n cap] 80))
      have hlen : (Dg.dl (Dg.nvA 0 Y1.data.toList : Int).natAbs).length ≤ 1000 := nv_small _ HY.out (by rw [len_is]; omega)
      clear hI
      obtain ⟨W99, hW99⟩ : ∃ W99, W99 = r1.alloc (.cells #[.bool b, .slice p n cap] 80) := ⟨_, rfl⟩
      have uW99 : Dn r1 W99 := by rw [hW99]; exact (Dn.refl _).alloc _
      have o100 : w.heap.size ≤ r1.heap.size := by have := ur1.size; omega
      have n101 : w.heap.size ≠ r1.heap.size := by have := l95; omega
      have f102 := (uW99.frozen (a := ⟨w.heap.size, 0, none⟩) l95).trans f92
      have f103 := (uW99.frozen (a := ⟨w.heap.size, 1, none⟩) l95).trans f93
      have f104 := (uW99.frozen (a := ⟨w.heap.size, 2, none⟩) l95).trans f94
      have l105 := Nat.lt_of_lt_of_le l95 uW99.size
      have c106 := uW99.cell c96
      have c107 := uW99.cell c97
      have c108 := uW99.cell c98
      clear f92 f93 f94 l95 c96 c97 c98
      have c109 : W99.cell? ⟨r1.heap.size, 0, none⟩ = some (.bool b) := by rw [hW99]; simp [go_sem]
      have c110 : W99.cell? ⟨r1.heap.size, 1, none⟩ = some (.slice p n cap) := by rw [hW99]; simp [go_sem]
      have l111 : r1.heap.size < W99.heap.size := by rw [hW99]; simp <;> omega
      have f112 : W99.frozen? ⟨r1.heap.size, 0, none⟩ = false := by rw [hW99]; simp [go_sem]
      have f113 : W99.frozen? ⟨r1.heap.size, 1, none⟩ = false := by rw [hW99]; simp [go_sem]
      rw [← hW99] at hI2 ⊢
      clear hW99
      have vW99 := ur1.trans uW99
      clear uW99 ur1
      refine (rNeg_c _ _ _ hI2).mono ?_
      rintro e r2 ⟨b2, p2, n2', cap2, rfl, hI3, q2⟩
      clear hI2
      have f114 := (q2.frozen (a := ⟨w.heap.size, 0, none⟩) l105).trans f102
      have f115 := (q2.frozen (a := ⟨w.heap.size, 1, none⟩) l105).trans f103
      have f116 := (q2.frozen (a := ⟨w.heap.size, 2, none⟩) l105).trans f104
      have l117 := Nat.lt_of_lt_of_le l105 q2.size
      have c118 := q2.cell c106
      have c119 := q2.cell c107
      have c120 := q2.cell c108
      have f121 := (q2.frozen (a := ⟨r1.heap.size, 0, none⟩) l111).trans f112
      have f122 := (q2.frozen (a := ⟨r1.heap.size, 1, none⟩) l111).trans f113
      have l123 := Nat.lt_of_lt_of_le l111 q2.size
      have c124 := q2.cell c109
      have c125 := q2.cell c110
      clear f102 f103 f104 l105 c106 c107 c108 f112 f113 l111 c109 c110
      have ur2 := vW99.trans q2
      clear q2 vW99
      go_wp2_with fail
      replace hI3 := hI3.keep c124 c125 b2 (.slice p2 n2' cap2)
      have hNB := (NBlk.set0 (NBlk.mk c124 c125 f121 f122 l123) b2).set1 (.slice p2 n2' cap2)
      have hDn := Dn.setCell (p := ⟨r1.heap.size, 1, none⟩) (Dn.setCell (p := ⟨r1.heap.size, 0, none⟩) ur2 o100 (.bool b2)) o100 (.slice p2 n2' cap2)
      have c127 := cell_far2 (v0 := .bool b2) (v1 := .slice p2 n2' cap2) n101 c118
      have c128 := cell_far2 (v0 := .bool b2) (v1 := .slice p2 n2' cap2) n101 c119
      have c129 := cell_far2 (v0 := .bool b2) (v1 := .slice p2 n2' cap2) n101 c120
      have f130 : ((r2.setCell ⟨r1.heap.size, 0, none⟩ (.bool b2)).setCell ⟨r1.heap.size, 1, none⟩ (.slice p2 n2' cap2)).frozen? ⟨w.heap.size, 0, none⟩ = false := by simpa using f114
      have f131 : ((r2.setCell ⟨r1.heap.size, 0, none⟩ (.bool b2)).setCell ⟨r1.heap.size, 1, none⟩ (.slice p2 n2' cap2)).frozen? ⟨w.heap.size, 1, none⟩ = false := by simpa using f115
      have f132 : ((r2.setCell ⟨r1.heap.size, 0, none⟩ (.bool b2)).setCell ⟨r1.heap.size, 1, none⟩ (.slice p2 n2' cap2)).frozen? ⟨w.heap.size, 2, none⟩ = false := by simpa using f116
      have l133 : w.heap.size < ((r2.setCell ⟨r1.heap.size, 0, none⟩ (.bool b2)).setCell ⟨r1.heap.size, 1, none⟩ (.slice p2 n2' cap2)).heap.size := by simpa using l117
      clear c118 c119 c120 f114 f115 f116 l117 ur2
      obtain ⟨W126, hW126⟩ : ∃ W126, W126 = (r2.setCell ⟨r1.heap.size, 0, none⟩ (.bool b2)).setCell ⟨r1.heap.size, 1, none⟩ (.slice p2 n2' cap2) := ⟨_, rfl⟩
      rw [← hW126] at hI3 hNB hDn c127 c128 c129 f130 f131 f132 l133 ⊢
      clear hW126
      obtain ⟨c134, c135, f136, f137, l138⟩ := hNB
      rw [HX.out] at hI3 
      refine (rInt_yes _ x _ hI3 (by have e4 := HX.out; rw [← e4]; simpa using hlen) HF.out).mono ?_
      rintro e r3 ⟨rfl, q3'⟩
      have f139 := (q3'.frozen (a := ⟨w.heap.size, 0, none⟩) l133).trans f130
      have f140 := (q3'.frozen (a := ⟨w.heap.size, 1, none⟩) l133).trans f131
      have f141 := (q3'.frozen (a := ⟨w.heap.size, 2, none⟩) l133).trans f132
      have l142 := Nat.lt_of_lt_of_le l133 q3'.size
      have c143 := q3'.cell c127
      have c144 := q3'.cell c128
      have c145 := q3'.cell c129
      have f146 := (q3'.frozen (a := ⟨r1.heap.size, 0, none⟩) l138).trans f136
      have f147 := (q3'.frozen (a := ⟨r1.heap.size, 1, none⟩) l138).trans f137
      have l148 := Nat.lt_of_lt_of_le l138 q3'.size
      have c149 := q3'.cell c134
      have c150 := q3'.cell c135
      clear f130 f131 f132 l133 c127 c128 c129 f136 f137 l138 c134 c135
      have ur3 := hDn.trans q3'
      clear q3' hDn
      go_wp2_with fail
      refine (rIs_yes x _ HIY.out).mono ?_
      rintro e w6 ⟨rfl, rfl⟩
      go_wp2_with fail
      go_region
      obtain ⟨W151, hW151⟩ : ∃ W151, W151 = (r3.alloc (.cells #[.int .i64 x, .int .i64 (10 * q5 + q4), .int .i64 (10 * q2 + q1)] 23)).drew := ⟨_, rfl⟩
      have uW151 : Dn r3 W151 := by rw [hW151]; exact ((Dn.refl _).alloc _).drew
      have n152 : w.heap.size ≠ r3.heap.size := by have := l142; omega
      have f153 := (uW151.frozen (a := ⟨w.heap.size, 0, none⟩) l142).trans f139
      have f154 := (uW151.frozen (a := ⟨w.heap.size, 1, none⟩) l142).trans f140
      have f155 := (uW151.frozen (a := ⟨w.heap.size, 2, none⟩) l142).trans f141
      have l156 := Nat.lt_of_lt_of_le l142 uW151.size
      have c157 := uW151.cell c143
      have c158 := uW151.cell c144
      have c159 := uW151.cell c145
      clear f139 f140 f141 l142 c143 c144 c145 c149 c150
      have c160 : W151.cell? ⟨r3.heap.size, 0, none⟩ = some (.int .i64 x) := by rw [hW151]; simp [go_sem]
      have c161 : W151.cell? ⟨r3.heap.size, 1, none⟩ = some (.int .i64 (10 * q5 + q4)) := by rw [hW151]; simp [go_sem]
      have c162 : W151.cell? ⟨r3.heap.size, 2, none⟩ = some (.int .i64 (10 * q2 + q1)) := by rw [hW151]; simp [go_sem]
      have l163 : r3.heap.size < W151.heap.size := by rw [hW151]; simp <;> omega
      rw [← hW151]
      clear hW151
      have vW151 := ur3.trans uW151
      go_wp2_with fail
      refine (rc6Chk x (10 * q5 + q4) (10 * q2 + q1) 0 _ HC.out).mono ?_
      rintro e w7 ⟨rfl, qw7⟩
      have f164 := (qw7.frozen (a := ⟨w.heap.size, 0, none⟩) l156).trans f153
      have f165 := (qw7.frozen (a := ⟨w.heap.size, 1, none⟩) l156).trans f154
      have f166 := (qw7.frozen (a := ⟨w.heap.size, 2, none⟩) l156).trans f155
      have l167 := Nat.lt_of_lt_of_le l156 qw7.size
      have c168 := qw7.cell c157
      have c169 := qw7.cell c158
      have c170 := qw7.cell c159
      have l171 := Nat.lt_of_lt_of_le l163 qw7.size
      have c172 := qw7.cell c160
      have c173 := qw7.cell c161
      have c174 := qw7.cell c162
      clear f153 f154 f155 l156 c157 c158 c159 l163 c160 c161 c162
      have uw7 := vW151.trans qw7
      clear qw7 vW151
      go_wp2_with fail
      exact bodyPost_ret (v := .tuple #[.agg #[.int .i64 x, .int .i64 (10 * q5 + q4), .int .i64 (10 * q2 + q1)], .int .i64 0]) (by simp [results, Tryz.results23, go_sem, c168, c169, c170, c172, c173, c174, f164, f165, f166, f146, f147] <;> omega) rfl ⟨rfl, (((uw7.setCell (by simp <;> omega) _).setCell (by simp <;> omega) _).setCell (by simp <;> omega) _)⟩
end Go.Proofs.YtopbbcbpanfigaaGreatDoor
