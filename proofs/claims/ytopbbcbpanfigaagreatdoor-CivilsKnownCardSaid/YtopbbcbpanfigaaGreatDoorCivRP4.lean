/-
  WALKS OF circaref06: Parse, part P4. (Printed by wip/gen/civ10.py.)
-/
import Derived.Test.YtopbbcbpanfigaaGreatDoorCivQ
namespace Go.Proofs.YtopbbcbpanfigaaGreatDoor
open Go.RowKit
set_option linter.unusedVariables false
set_option linter.unusedSimpArgs false
set_option maxHeartbeats 4000000 in
set_option maxRecDepth 100000 in
theorem rp6r_p4_ov (s Y0 Y1 S2 S5 : ByteArray) (n1 n2 n3 n4 n5 n6 : Nat) (hs : s.size ≤ 100) (h10 : ¬ s.size < 10) (i1 : (s.size : Int) - 1 = n1) (i2 : (s.size : Int) - 2 = n2) (i3 : (s.size : Int) - 3 = n3) (i4 : (s.size : Int) - 4 = n4) (i5 : (s.size : Int) - 5 = n5) (i6 : (s.size : Int) - 6 = n6) (b1 : n1 < s.size) (b2 : n2 < s.size) (b3 : n3 < s.size) (b4 : n4 < s.size) (b5 : n5 < s.size) (b6 : n6 < s.size) (X2 : s.extract n2 s.size = S2) (X5 : s.extract n5 n3 = S5) (X0 : s.extract 0 n6 = Y0) (h : s[n3] = 45) (h6 : s[n6] = 45) (HD2 : Hid (∀ W, Calls Tryz.prog 52 #[.string S2] W fun e w' => e = .returned (.bool true) ∧ W = w')) (HD5 : Hid (∀ W, Calls Tryz.prog 52 #[.string S5] W fun e w' => e = .returned (.bool true) ∧ W = w')) (y0 : 0 < Y0.size) (g : Y0[0] ≠ 45) (l : ¬ Y0.size < 4) (HDY : Hid (∀ W, Calls Tryz.prog 52 #[.string Y0] W fun e w' => e = .returned (.bool true) ∧ W = w')) (HY : Hid (AllD Y0.data.toList)) (ys : Y0.size ≤ 100) (l4 : Y0.size = 4) (x : Int) (hx : (Dg.nvA 0 Y0.data.toList : Int) = x) (HF : Hid (¬ I64 x)) (w : World) :
    Calls Tryz.prog 23 #[.string s] w fun ro w' => ro = .returned (.tuple #[.agg #[.int .i64 0, .int .i64 0, .int .i64 0], .int .i64 6]) ∧ Dn w w' := by
  have t10 : decide ((s.size : Int) < 10) = false := by simp; omega
  have u2 : n2 ≤ s.size := by omega
  have u3 : n3 ≤ s.size := by omega
  have u5 : n5 ≤ n3 := by omega
  have u6 : n6 ≤ s.size := by omega
  have q3 : ((s[n3].toNat : Int) == 45) = true := by rw [h]; rfl
  have mq3 : s[n3].toNat = 45 := by rw [h]; rfl
  have q6 : ((s[n6].toNat : Int) == 45) = true := by rw [h6]; rfl
  have mq6 : s[n6].toNat = 45 := by rw [h6]; rfl
  clear h h6
  have mqn : ¬ Y0[0].toNat = 45 := fun e => g (UInt8.toNat_inj.1 (by have : (45 : UInt8).toNat = 45 := rfl; omega))
  have qn : ((Y0[0].toNat : Int) == 45) = false := by rw [beq_eq_false_iff_ne]; omega
  clear g
  have k1 : decide ((Y0.size : Int) < 4) = false := by simp; omega
  have k2 : ¬ Y0.size < 4 := l
  have k3 : decide (4 < (Y0.size : Int)) = false := by simp; omega
  have k4 : ¬ 4 < Y0.size := by omega
  have HX := Lib.hid hx
  clear hx
  go_enter Tryz.func23, Tryz.ntmps23
  go_wp2_with fail
  obtain ⟨W1, hW1⟩ : ∃ W1, W1 = w.alloc (.cells #[.int .i64 0, .int .i64 0, .int .i64 0] 23) := ⟨_, rfl⟩
  have uW1 : Dn w W1 := by rw [hW1]; exact (Dn.refl _).alloc _
  have c2 : W1.cell? ⟨w.heap.size, 0, none⟩ = some (.int .i64 0) := by rw [hW1]; simp [go_sem]
  have c3 : W1.cell? ⟨w.heap.size, 1, none⟩ = some (.int .i64 0) := by rw [hW1]; simp [go_sem]
  have c4 : W1.cell? ⟨w.heap.size, 2, none⟩ = some (.int .i64 0) := by rw [hW1]; simp [go_sem]
  have l5 : w.heap.size < W1.heap.size := by rw [hW1]; simp <;> omega
  have f6 : W1.frozen? ⟨w.heap.size, 0, none⟩ = false := by rw [hW1]; simp [go_sem]
  have f7 : W1.frozen? ⟨w.heap.size, 1, none⟩ = false := by rw [hW1]; simp [go_sem]
  have f8 : W1.frozen? ⟨w.heap.size, 2, none⟩ = false := by rw [hW1]; simp [go_sem]
  rw [← hW1]
  clear hW1
  refine (HD2.out _).mono ?_
  rintro e w1 ⟨rfl, rfl⟩
  go_wp2_with fail
  refine (HD5.out _).mono ?_
  rintro e w2 ⟨rfl, rfl⟩
  go_wp2_with fail
  refine (HDY.out _).mono ?_
  rintro e w3 ⟨rfl, rfl⟩
  go_wp2_with fail
  go_loop [5] (fun sv => ∃ t : ByteArray, sv = .string t ∧ TQ t Y0) (fun sv => szOf sv)
  case atStart => exact ⟨Y0, rfl, ⟨ys, by omega, HY.out, rfl⟩⟩
  case round =>
    obtain ⟨t, rfl, ht⟩ := hrel
    have HT := Lib.hid ht
    obtain ⟨ts1, ts2, -, -⟩ := ht
    by_cases h1 : 1 < t.size
    · by_cases h48 : t[0] = 48
      · have e1 : decide (1 < (t.size : Int)) = true := by simp; omega
        have e2 : t[0].toNat = 48 := by rw [h48]; rfl
        have e3 : ((t[0].toNat : Int) == 48) = true := by rw [h48]; rfl
        have e5 : 1 ≤ t.size := by omega
        have HN := Lib.hid (HT.out.step h1 h48)
        clear h48
        go_wp2_with fail
        go_round
        case rel => exact ⟨_, rfl, HN.out⟩
        case measure => simp [szOf]; omega
      ·
        obtain ⟨po, pv⟩ := HT.out.num (Or.inr (fun _ => h48))
        have e1 : decide (1 < (t.size : Int)) = true := by simp; omega
        have e2 : ¬ t[0].toNat = 48 := fun e => h48 (UInt8.toNat_inj.1 (by have : (48 : UInt8).toNat = 48 := rfl; omega))
        have e3 : ((t[0].toNat : Int) == 48) = false := by rw [beq_eq_false_iff_ne]; omega
        clear h48
        have PO := Lib.hid po
        have PV := Lib.hid pv
        clear po pv
        go_wp2_with fail
        refine (rParse_yes t _ (by omega) PO.out).mono ?_
        rintro e r1 ⟨b, p, n, cap, rfl, hI, q1⟩
        rw [PV.out] at hI
        have f9 := (q1.frozen (a := ⟨w.heap.size, 0, none⟩) l5).trans f6
        have f10 := (q1.frozen (a := ⟨w.heap.size, 1, none⟩) l5).trans f7
        have f11 := (q1.frozen (a := ⟨w.heap.size, 2, none⟩) l5).trans f8
        have l12 := Nat.lt_of_lt_of_le l5 q1.size
        have c13 := q1.cell c2
        have c14 := q1.cell c3
        have c15 := q1.cell c4
        clear f6 f7 f8 l5 c2 c3 c4
        have ur1 := uW1.trans q1
        clear q1 uW1
        go_wp2_with fail
        have hI2 := hI.dn ((Dn.refl _).alloc (.cells #[.bool b, .slice p n cap] 80))
        have hlen : (Dg.dl (Dg.nvA 0 Y0.data.toList : Int).natAbs).length ≤ 1000 := nv_small _ HY.out (by rw [len_is]; omega)
        clear hI
        obtain ⟨W16, hW16⟩ : ∃ W16, W16 = r1.alloc (.cells #[.bool b, .slice p n cap] 80) := ⟨_, rfl⟩
        have uW16 : Dn r1 W16 := by rw [hW16]; exact (Dn.refl _).alloc _
        have o17 : w.heap.size ≤ r1.heap.size := by have := ur1.size; omega
        have n18 : w.heap.size ≠ r1.heap.size := by have := l12; omega
        have f19 := (uW16.frozen (a := ⟨w.heap.size, 0, none⟩) l12).trans f9
        have f20 := (uW16.frozen (a := ⟨w.heap.size, 1, none⟩) l12).trans f10
        have f21 := (uW16.frozen (a := ⟨w.heap.size, 2, none⟩) l12).trans f11
        have l22 := Nat.lt_of_lt_of_le l12 uW16.size
        have c23 := uW16.cell c13
        have c24 := uW16.cell c14
        have c25 := uW16.cell c15
        clear f9 f10 f11 l12 c13 c14 c15
        have c26 : W16.cell? ⟨r1.heap.size, 0, none⟩ = some (.bool b) := by rw [hW16]; simp [go_sem]
        have c27 : W16.cell? ⟨r1.heap.size, 1, none⟩ = some (.slice p n cap) := by rw [hW16]; simp [go_sem]
        have l28 : r1.heap.size < W16.heap.size := by rw [hW16]; simp <;> omega
        have f29 : W16.frozen? ⟨r1.heap.size, 0, none⟩ = false := by rw [hW16]; simp [go_sem]
        have f30 : W16.frozen? ⟨r1.heap.size, 1, none⟩ = false := by rw [hW16]; simp [go_sem]
        rw [← hW16] at hI2 ⊢
        clear hW16
        have vW16 := ur1.trans uW16
        clear uW16 ur1
        have hI3 := hI2
        clear hI2
        rw [HX.out] at hI3 
        refine (rInt_no _ x _ hI3 (by have e4 := HX.out; rw [← e4]; exact hlen) HF.out).mono ?_
        rintro e r3 ⟨rfl, q3'⟩
        have f31 := (q3'.frozen (a := ⟨w.heap.size, 0, none⟩) l22).trans f19
        have f32 := (q3'.frozen (a := ⟨w.heap.size, 1, none⟩) l22).trans f20
        have f33 := (q3'.frozen (a := ⟨w.heap.size, 2, none⟩) l22).trans f21
        have l34 := Nat.lt_of_lt_of_le l22 q3'.size
        have c35 := q3'.cell c23
        have c36 := q3'.cell c24
        have c37 := q3'.cell c25
        have f38 := (q3'.frozen (a := ⟨r1.heap.size, 0, none⟩) l28).trans f29
        have f39 := (q3'.frozen (a := ⟨r1.heap.size, 1, none⟩) l28).trans f30
        have l40 := Nat.lt_of_lt_of_le l28 q3'.size
        have c41 := q3'.cell c26
        have c42 := q3'.cell c27
        clear f19 f20 f21 l22 c23 c24 c25 f29 f30 l28 c26 c27
        have ur3 := vW16.trans q3'
        clear q3' vW16
        go_wp2_with fail
        exact bodyPost_ret (v := .tuple #[.agg #[.int .i64 0, .int .i64 0, .int .i64 0], .int .i64 6]) (by simp [results, Tryz.results23, go_sem, c35, c36, c37, c41, c42, f31, f32, f33, f38, f39] <;> omega) rfl ⟨rfl, (((ur3.setCell (by simp <;> omega) _).setCell (by simp <;> omega) _).setCell (by simp <;> omega) _)⟩
    ·
      obtain ⟨po, pv⟩ := HT.out.num (Or.inl (by omega))
      have e1 : decide (1 < (t.size : Int)) = false := by simp; omega
      have e2 : ¬ 1 < t.size := h1
      have PO := Lib.hid po
      have PV := Lib.hid pv
      clear po pv
      go_wp2_with fail
      refine (rParse_yes t _ (by omega) PO.out).mono ?_
      rintro e r1 ⟨b, p, n, cap, rfl, hI, q1⟩
      rw [PV.out] at hI
      have f43 := (q1.frozen (a := ⟨w.heap.size, 0, none⟩) l5).trans f6
      have f44 := (q1.frozen (a := ⟨w.heap.size, 1, none⟩) l5).trans f7
      have f45 := (q1.frozen (a := ⟨w.heap.size, 2, none⟩) l5).trans f8
      have l46 := Nat.lt_of_lt_of_le l5 q1.size
      have c47 := q1.cell c2
      have c48 := q1.cell c3
      have c49 := q1.cell c4
      clear f6 f7 f8 l5 c2 c3 c4
      have ur1 := uW1.trans q1
      clear q1 uW1
      go_wp2_with fail
      have hI2 := hI.dn ((Dn.refl _).alloc (.cells #[.bool b, .slice p n cap] 80))
      have hlen : (Dg.dl (Dg.nvA 0 Y0.data.toList : Int).natAbs).length ≤ 1000 := nv_small _ HY.out (by rw [len_is]; omega)
      clear hI
      obtain ⟨W50, hW50⟩ : ∃ W50, W50 = r1.alloc (.cells #[.bool b, .slice p n cap] 80) := ⟨_, rfl⟩
      have uW50 : Dn r1 W50 := by rw [hW50]; exact (Dn.refl _).alloc _
      have o51 : w.heap.size ≤ r1.heap.size := by have := ur1.size; omega
      have n52 : w.heap.size ≠ r1.heap.size := by have := l46; omega
      have f53 := (uW50.frozen (a := ⟨w.heap.size, 0, none⟩) l46).trans f43
      have f54 := (uW50.frozen (a := ⟨w.heap.size, 1, none⟩) l46).trans f44
      have f55 := (uW50.frozen (a := ⟨w.heap.size, 2, none⟩) l46).trans f45
      have l56 := Nat.lt_of_lt_of_le l46 uW50.size
      have c57 := uW50.cell c47
      have c58 := uW50.cell c48
      have c59 := uW50.cell c49
      clear f43 f44 f45 l46 c47 c48 c49
      have c60 : W50.cell? ⟨r1.heap.size, 0, none⟩ = some (.bool b) := by rw [hW50]; simp [go_sem]
      have c61 : W50.cell? ⟨r1.heap.size, 1, none⟩ = some (.slice p n cap) := by rw [hW50]; simp [go_sem]
      have l62 : r1.heap.size < W50.heap.size := by rw [hW50]; simp <;> omega
      have f63 : W50.frozen? ⟨r1.heap.size, 0, none⟩ = false := by rw [hW50]; simp [go_sem]
      have f64 : W50.frozen? ⟨r1.heap.size, 1, none⟩ = false := by rw [hW50]; simp [go_sem]
      rw [← hW50] at hI2 ⊢
      clear hW50
      have vW50 := ur1.trans uW50
      clear uW50 ur1
      have hI3 := hI2
      clear hI2
      rw [HX.out] at hI3 
      refine (rInt_no _ x _ hI3 (by have e4 := HX.out; rw [← e4]; exact hlen) HF.out).mono ?_
      rintro e r3 ⟨rfl, q3'⟩
      have f65 := (q3'.frozen (a := ⟨w.heap.size, 0, none⟩) l56).trans f53
      have f66 := (q3'.frozen (a := ⟨w.heap.size, 1, none⟩) l56).trans f54
      have f67 := (q3'.frozen (a := ⟨w.heap.size, 2, none⟩) l56).trans f55
      have l68 := Nat.lt_of_lt_of_le l56 q3'.size
      have c69 := q3'.cell c57
      have c70 := q3'.cell c58
      have c71 := q3'.cell c59
      have f72 := (q3'.frozen (a := ⟨r1.heap.size, 0, none⟩) l62).trans f63
      have f73 := (q3'.frozen (a := ⟨r1.heap.size, 1, none⟩) l62).trans f64
      have l74 := Nat.lt_of_lt_of_le l62 q3'.size
      have c75 := q3'.cell c60
      have c76 := q3'.cell c61
      clear f53 f54 f55 l56 c57 c58 c59 f63 f64 l62 c60 c61
      have ur3 := vW50.trans q3'
      clear q3' vW50
      go_wp2_with fail
      exact bodyPost_ret (v := .tuple #[.agg #[.int .i64 0, .int .i64 0, .int .i64 0], .int .i64 6]) (by simp [results, Tryz.results23, go_sem, c69, c70, c71, c75, c76, f65, f66, f67, f72, f73] <;> omega) rfl ⟨rfl, (((ur3.setCell (by simp <;> omega) _).setCell (by simp <;> omega) _).setCell (by simp <;> omega) _)⟩
set_option maxHeartbeats 4000000 in
set_option maxRecDepth 100000 in
theorem rp6r_p4_ny (s Y0 Y1 S2 S5 : ByteArray) (n1 n2 n3 n4 n5 n6 : Nat) (hs : s.size ≤ 100) (h10 : ¬ s.size < 10) (i1 : (s.size : Int) - 1 = n1) (i2 : (s.size : Int) - 2 = n2) (i3 : (s.size : Int) - 3 = n3) (i4 : (s.size : Int) - 4 = n4) (i5 : (s.size : Int) - 5 = n5) (i6 : (s.size : Int) - 6 = n6) (b1 : n1 < s.size) (b2 : n2 < s.size) (b3 : n3 < s.size) (b4 : n4 < s.size) (b5 : n5 < s.size) (b6 : n6 < s.size) (X2 : s.extract n2 s.size = S2) (X5 : s.extract n5 n3 = S5) (X0 : s.extract 0 n6 = Y0) (h : s[n3] = 45) (h6 : s[n6] = 45) (HD2 : Hid (∀ W, Calls Tryz.prog 52 #[.string S2] W fun e w' => e = .returned (.bool true) ∧ W = w')) (HD5 : Hid (∀ W, Calls Tryz.prog 52 #[.string S5] W fun e w' => e = .returned (.bool true) ∧ W = w')) (y0 : 0 < Y0.size) (g : Y0[0] ≠ 45) (l : ¬ Y0.size < 4) (HDY : Hid (∀ W, Calls Tryz.prog 52 #[.string Y0] W fun e w' => e = .returned (.bool true) ∧ W = w')) (HY : Hid (AllD Y0.data.toList)) (ys : Y0.size ≤ 100) (l4 : Y0.size = 4) (x : Int) (hx : (Dg.nvA 0 Y0.data.toList : Int) = x) (HF : Hid (I64 x)) (HIY : Hid (¬ IsY x)) (w : World) :
    Calls Tryz.prog 23 #[.string s] w fun ro w' => ro = .returned (.tuple #[.agg #[.int .i64 0, .int .i64 0, .int .i64 0], .int .i64 6]) ∧ Dn w w' := by
  have t10 : decide ((s.size : Int) < 10) = false := by simp; omega
  have u2 : n2 ≤ s.size := by omega
  have u3 : n3 ≤ s.size := by omega
  have u5 : n5 ≤ n3 := by omega
  have u6 : n6 ≤ s.size := by omega
  have q3 : ((s[n3].toNat : Int) == 45) = true := by rw [h]; rfl
  have mq3 : s[n3].toNat = 45 := by rw [h]; rfl
  have q6 : ((s[n6].toNat : Int) == 45) = true := by rw [h6]; rfl
  have mq6 : s[n6].toNat = 45 := by rw [h6]; rfl
  clear h h6
  have mqn : ¬ Y0[0].toNat = 45 := fun e => g (UInt8.toNat_inj.1 (by have : (45 : UInt8).toNat = 45 := rfl; omega))
  have qn : ((Y0[0].toNat : Int) == 45) = false := by rw [beq_eq_false_iff_ne]; omega
  clear g
  have k1 : decide ((Y0.size : Int) < 4) = false := by simp; omega
  have k2 : ¬ Y0.size < 4 := l
  have k3 : decide (4 < (Y0.size : Int)) = false := by simp; omega
  have k4 : ¬ 4 < Y0.size := by omega
  have HX := Lib.hid hx
  clear hx
  go_enter Tryz.func23, Tryz.ntmps23
  go_wp2_with fail
  obtain ⟨W1, hW1⟩ : ∃ W1, W1 = w.alloc (.cells #[.int .i64 0, .int .i64 0, .int .i64 0] 23) := ⟨_, rfl⟩
  have uW1 : Dn w W1 := by rw [hW1]; exact (Dn.refl _).alloc _
  have c2 : W1.cell? ⟨w.heap.size, 0, none⟩ = some (.int .i64 0) := by rw [hW1]; simp [go_sem]
  have c3 : W1.cell? ⟨w.heap.size, 1, none⟩ = some (.int .i64 0) := by rw [hW1]; simp [go_sem]
  have c4 : W1.cell? ⟨w.heap.size, 2, none⟩ = some (.int .i64 0) := by rw [hW1]; simp [go_sem]
  have l5 : w.heap.size < W1.heap.size := by rw [hW1]; simp <;> omega
  have f6 : W1.frozen? ⟨w.heap.size, 0, none⟩ = false := by rw [hW1]; simp [go_sem]
  have f7 : W1.frozen? ⟨w.heap.size, 1, none⟩ = false := by rw [hW1]; simp [go_sem]
  have f8 : W1.frozen? ⟨w.heap.size, 2, none⟩ = false := by rw [hW1]; simp [go_sem]
  rw [← hW1]
  clear hW1
  refine (HD2.out _).mono ?_
  rintro e w1 ⟨rfl, rfl⟩
  go_wp2_with fail
  refine (HD5.out _).mono ?_
  rintro e w2 ⟨rfl, rfl⟩
  go_wp2_with fail
  refine (HDY.out _).mono ?_
  rintro e w3 ⟨rfl, rfl⟩
  go_wp2_with fail
  go_loop [5] (fun sv => ∃ t : ByteArray, sv = .string t ∧ TQ t Y0) (fun sv => szOf sv)
  case atStart => exact ⟨Y0, rfl, ⟨ys, by omega, HY.out, rfl⟩⟩
  case round =>
    obtain ⟨t, rfl, ht⟩ := hrel
    have HT := Lib.hid ht
    obtain ⟨ts1, ts2, -, -⟩ := ht
    by_cases h1 : 1 < t.size
    · by_cases h48 : t[0] = 48
      · have e1 : decide (1 < (t.size : Int)) = true := by simp; omega
        have e2 : t[0].toNat = 48 := by rw [h48]; rfl
        have e3 : ((t[0].toNat : Int) == 48) = true := by rw [h48]; rfl
        have e5 : 1 ≤ t.size := by omega
        have HN := Lib.hid (HT.out.step h1 h48)
        clear h48
        go_wp2_with fail
        go_round
        case rel => exact ⟨_, rfl, HN.out⟩
        case measure => simp [szOf]; omega
      ·
        obtain ⟨po, pv⟩ := HT.out.num (Or.inr (fun _ => h48))
        have e1 : decide (1 < (t.size : Int)) = true := by simp; omega
        have e2 : ¬ t[0].toNat = 48 := fun e => h48 (UInt8.toNat_inj.1 (by have : (48 : UInt8).toNat = 48 := rfl; omega))
        have e3 : ((t[0].toNat : Int) == 48) = false := by rw [beq_eq_false_iff_ne]; omega
        clear h48
        have PO := Lib.hid po
        have PV := Lib.hid pv
        clear po pv
        go_wp2_with fail
        refine (rParse_yes t _ (by omega) PO.out).mono ?_
        rintro e r1 ⟨b, p, n, cap, rfl, hI, q1⟩
        rw [PV.out] at hI
        have f9 := (q1.frozen (a := ⟨w.heap.size, 0, none⟩) l5).trans f6
        have f10 := (q1.frozen (a := ⟨w.heap.size, 1, none⟩) l5).trans f7
        have f11 := (q1.frozen (a := ⟨w.heap.size, 2, none⟩) l5).trans f8
        have l12 := Nat.lt_of_lt_of_le l5 q1.size
        have c13 := q1.cell c2
        have c14 := q1.cell c3
        have c15 := q1.cell c4
        clear f6 f7 f8 l5 c2 c3 c4
        have ur1 := uW1.trans q1
        clear q1 uW1
        go_wp2_with fail
        have hI2 := hI.dn ((Dn.refl _).alloc (.cells #[.bool b, .slice p n cap] 80))
        have hlen : (Dg.dl (Dg.nvA 0 Y0.data.toList : Int).natAbs).length ≤ 1000 := nv_small _ HY.out (by rw [len_is]; omega)
        clear hI
        obtain ⟨W16, hW16⟩ : ∃ W16, W16 = r1.alloc (.cells #[.bool b, .slice p n cap] 80) := ⟨_, rfl⟩
        have uW16 : Dn r1 W16 := by rw [hW16]; exact (Dn.refl _).alloc _
        have o17 : w.heap.size ≤ r1.heap.size := by have := ur1.size; omega
        have n18 : w.heap.size ≠ r1.heap.size := by have := l12; omega
        have f19 := (uW16.frozen (a := ⟨w.heap.size, 0, none⟩) l12).trans f9
        have f20 := (uW16.frozen (a := ⟨w.heap.size, 1, none⟩) l12).trans f10
        have f21 := (uW16.frozen (a := ⟨w.heap.size, 2, none⟩) l12).trans f11
        have l22 := Nat.lt_of_lt_of_le l12 uW16.size
        have c23 := uW16.cell c13
        have c24 := uW16.cell c14
        have c25 := uW16.cell c15
        clear f9 f10 f11 l12 c13 c14 c15
        have c26 : W16.cell? ⟨r1.heap.size, 0, none⟩ = some (.bool b) := by rw [hW16]; simp [go_sem]
        have c27 : W16.cell? ⟨r1.heap.size, 1, none⟩ = some (.slice p n cap) := by rw [hW16]; simp [go_sem]
        have l28 : r1.heap.size < W16.heap.size := by rw [hW16]; simp <;> omega
        have f29 : W16.frozen? ⟨r1.heap.size, 0, none⟩ = false := by rw [hW16]; simp [go_sem]
        have f30 : W16.frozen? ⟨r1.heap.size, 1, none⟩ = false := by rw [hW16]; simp [go_sem]
        rw [← hW16] at hI2 ⊢
        clear hW16
        have vW16 := ur1.trans uW16
        clear uW16 ur1
        have hI3 := hI2
        clear hI2
        rw [HX.out] at hI3 
        refine (rInt_yes _ x _ hI3 (by have e4 := HX.out; rw [← e4]; exact hlen) HF.out).mono ?_
        rintro e r3 ⟨rfl, q3'⟩
        have f31 := (q3'.frozen (a := ⟨w.heap.size, 0, none⟩) l22).trans f19
        have f32 := (q3'.frozen (a := ⟨w.heap.size, 1, none⟩) l22).trans f20
        have f33 := (q3'.frozen (a := ⟨w.heap.size, 2, none⟩) l22).trans f21
        have l34 := Nat.lt_of_lt_of_le l22 q3'.size
        have c35 := q3'.cell c23
        have c36 := q3'.cell c24
        have c37 := q3'.cell c25
        have f38 := (q3'.frozen (a := ⟨r1.heap.size, 0, none⟩) l28).trans f29
        have f39 := (q3'.frozen (a := ⟨r1.heap.size, 1, none⟩) l28).trans f30
        have l40 := Nat.lt_of_lt_of_le l28 q3'.size
        have c41 := q3'.cell c26
        have c42 := q3'.cell c27
        clear f19 f20 f21 l22 c23 c24 c25 f29 f30 l28 c26 c27
        have ur3 := vW16.trans q3'
        clear q3' vW16
        go_wp2_with fail
        refine (rIs_no x _ HIY.out).mono ?_
        rintro e w4 ⟨rfl, rfl⟩
        go_wp2_with fail
        exact bodyPost_ret (v := .tuple #[.agg #[.int .i64 0, .int .i64 0, .int .i64 0], .int .i64 6]) (by simp [results, Tryz.results23, go_sem, c35, c36, c37, c41, c42, f31, f32, f33, f38, f39] <;> omega) rfl ⟨rfl, (((ur3.setCell (by simp <;> omega) _).setCell (by simp <;> omega) _).setCell (by simp <;> omega) _)⟩
    ·
      obtain ⟨po, pv⟩ := HT.out.num (Or.inl (by omega))
      have e1 : decide (1 < (t.size : Int)) = false := by simp; omega
      have e2 : ¬ 1 < t.size := h1
      have PO := Lib.hid po
      have PV := Lib.hid pv
      clear po pv
      go_wp2_with fail
      refine (rParse_yes t _ (by omega) PO.out).mono ?_
      rintro e r1 ⟨b, p, n, cap, rfl, hI, q1⟩
      rw [PV.out] at hI
      have f43 := (q1.frozen (a := ⟨w.heap.size, 0, none⟩) l5).trans f6
      have f44 := (q1.frozen (a := ⟨w.heap.size, 1, none⟩) l5).trans f7
      have f45 := (q1.frozen (a := ⟨w.heap.size, 2, none⟩) l5).trans f8
      have l46 := Nat.lt_of_lt_of_le l5 q1.size
      have c47 := q1.cell c2
      have c48 := q1.cell c3
      have c49 := q1.cell c4
      clear f6 f7 f8 l5 c2 c3 c4
      have ur1 := uW1.trans q1
      clear q1 uW1
      go_wp2_with fail
      have hI2 := hI.dn ((Dn.refl _).alloc (.cells #[.bool b, .slice p n cap] 80))
      have hlen : (Dg.dl (Dg.nvA 0 Y0.data.toList : Int).natAbs).length ≤ 1000 := nv_small _ HY.out (by rw [len_is]; omega)
      clear hI
      obtain ⟨W50, hW50⟩ : ∃ W50, W50 = r1.alloc (.cells #[.bool b, .slice p n cap] 80) := ⟨_, rfl⟩
      have uW50 : Dn r1 W50 := by rw [hW50]; exact (Dn.refl _).alloc _
      have o51 : w.heap.size ≤ r1.heap.size := by have := ur1.size; omega
      have n52 : w.heap.size ≠ r1.heap.size := by have := l46; omega
      have f53 := (uW50.frozen (a := ⟨w.heap.size, 0, none⟩) l46).trans f43
      have f54 := (uW50.frozen (a := ⟨w.heap.size, 1, none⟩) l46).trans f44
      have f55 := (uW50.frozen (a := ⟨w.heap.size, 2, none⟩) l46).trans f45
      have l56 := Nat.lt_of_lt_of_le l46 uW50.size
      have c57 := uW50.cell c47
      have c58 := uW50.cell c48
      have c59 := uW50.cell c49
      clear f43 f44 f45 l46 c47 c48 c49
      have c60 : W50.cell? ⟨r1.heap.size, 0, none⟩ = some (.bool b) := by rw [hW50]; simp [go_sem]
      have c61 : W50.cell? ⟨r1.heap.size, 1, none⟩ = some (.slice p n cap) := by rw [hW50]; simp [go_sem]
      have l62 : r1.heap.size < W50.heap.size := by rw [hW50]; simp <;> omega
      have f63 : W50.frozen? ⟨r1.heap.size, 0, none⟩ = false := by rw [hW50]; simp [go_sem]
      have f64 : W50.frozen? ⟨r1.heap.size, 1, none⟩ = false := by rw [hW50]; simp [go_sem]
      rw [← hW50] at hI2 ⊢
      clear hW50
      have vW50 := ur1.trans uW50
      clear uW50 ur1
      have hI3 := hI2
      clear hI2
      rw [HX.out] at hI3 
      refine (rInt_yes _ x _ hI3 (by have e4 := HX.out; rw [← e4]; exact hlen) HF.out).mono ?_
      rintro e r3 ⟨rfl, q3'⟩
      have f65 := (q3'.frozen (a := ⟨w.heap.size, 0, none⟩) l56).trans f53
      have f66 := (q3'.frozen (a := ⟨w.heap.size, 1, none⟩) l56).trans f54
      have f67 := (q3'.frozen (a := ⟨w.heap.size, 2, none⟩) l56).trans f55
      have l68 := Nat.lt_of_lt_of_le l56 q3'.size
      have c69 := q3'.cell c57
      have c70 := q3'.cell c58
      have c71 := q3'.cell c59
      have f72 := (q3'.frozen (a := ⟨r1.heap.size, 0, none⟩) l62).trans f63
      have f73 := (q3'.frozen (a := ⟨r1.heap.size, 1, none⟩) l62).trans f64
      have l74 := Nat.lt_of_lt_of_le l62 q3'.size
      have c75 := q3'.cell c60
      have c76 := q3'.cell c61
      clear f53 f54 f55 l56 c57 c58 c59 f63 f64 l62 c60 c61
      have ur3 := vW50.trans q3'
      clear q3' vW50
      go_wp2_with fail
      refine (rIs_no x _ HIY.out).mono ?_
      rintro e w5 ⟨rfl, rfl⟩
      go_wp2_with fail
      exact bodyPost_ret (v := .tuple #[.agg #[.int .i64 0, .int .i64 0, .int .i64 0], .int .i64 6]) (by simp [results, Tryz.results23, go_sem, c69, c70, c71, c75, c76, f65, f66, f67, f72, f73] <;> omega) rfl ⟨rfl, (((ur3.setCell (by simp <;> omega) _).setCell (by simp <;> omega) _).setCell (by simp <;> omega) _)⟩
set_option maxHeartbeats 4000000 in
set_option maxRecDepth 100000 in
theorem rp6r_p4_ck (s Y0 Y1 S2 S5 : ByteArray) (n1 n2 n3 n4 n5 n6 : Nat) (hs : s.size ≤ 100) (h10 : ¬ s.size < 10) (i1 : (s.size : Int) - 1 = n1) (i2 : (s.size : Int) - 2 = n2) (i3 : (s.size : Int) - 3 = n3) (i4 : (s.size : Int) - 4 = n4) (i5 : (s.size : Int) - 5 = n5) (i6 : (s.size : Int) - 6 = n6) (b1 : n1 < s.size) (b2 : n2 < s.size) (b3 : n3 < s.size) (b4 : n4 < s.size) (b5 : n5 < s.size) (b6 : n6 < s.size) (X2 : s.extract n2 s.size = S2) (X5 : s.extract n5 n3 = S5) (X0 : s.extract 0 n6 = Y0) (h : s[n3] = 45) (h6 : s[n6] = 45) (HD2 : Hid (∀ W, Calls Tryz.prog 52 #[.string S2] W fun e w' => e = .returned (.bool true) ∧ W = w')) (HD5 : Hid (∀ W, Calls Tryz.prog 52 #[.string S5] W fun e w' => e = .returned (.bool true) ∧ W = w')) (y0 : 0 < Y0.size) (g : Y0[0] ≠ 45) (l : ¬ Y0.size < 4) (HDY : Hid (∀ W, Calls Tryz.prog 52 #[.string Y0] W fun e w' => e = .returned (.bool true) ∧ W = w')) (HY : Hid (AllD Y0.data.toList)) (ys : Y0.size ≤ 100) (l4 : Y0.size = 4) (x : Int) (hx : (Dg.nvA 0 Y0.data.toList : Int) = x) (HF : Hid (I64 x)) (HIY : Hid (IsY x)) (E : Int) (q5 q4 q2 q1 : Int) (a5 : ((s[n5].toNat : Int) - 48) % 256 = q5) (d5 : 0 ≤ q5 ∧ q5 ≤ 9) (a4 : ((s[n4].toNat : Int) - 48) % 256 = q4) (d4 : 0 ≤ q4 ∧ q4 ≤ 9) (a2 : ((s[n2].toNat : Int) - 48) % 256 = q2) (d2 : 0 ≤ q2 ∧ q2 ≤ 9) (a1 : ((s[n1].toNat : Int) - 48) % 256 = q1) (d1 : 0 ≤ q1 ∧ q1 ≤ 9) (HC : Hid (cErr x (10 * q5 + q4) (10 * q2 + q1) = E)) (E0 : E ≠ 0) (w : World) :
    Calls Tryz.prog 23 #[.string s] w fun ro w' => ro = .returned (.tuple #[.agg #[.int .i64 0, .int .i64 0, .int .i64 0], .int .i64 E]) ∧ Dn w w' := by
  have t10 : decide ((s.size : Int) < 10) = false := by simp; omega
  have u2 : n2 ≤ s.size := by omega
  have u3 : n3 ≤ s.size := by omega
  have u5 : n5 ≤ n3 := by omega
  have u6 : n6 ≤ s.size := by omega
  have q3 : ((s[n3].toNat : Int) == 45) = true := by rw [h]; rfl
  have mq3 : s[n3].toNat = 45 := by rw [h]; rfl
  have q6 : ((s[n6].toNat : Int) == 45) = true := by rw [h6]; rfl
  have mq6 : s[n6].toNat = 45 := by rw [h6]; rfl
  clear h h6
  have mqn : ¬ Y0[0].toNat = 45 := fun e => g (UInt8.toNat_inj.1 (by have : (45 : UInt8).toNat = 45 := rfl; omega))
  have qn : ((Y0[0].toNat : Int) == 45) = false := by rw [beq_eq_false_iff_ne]; omega
  clear g
  have k1 : decide ((Y0.size : Int) < 4) = false := by simp; omega
  have k2 : ¬ Y0.size < 4 := l
  have k3 : decide (4 < (Y0.size : Int)) = false := by simp; omega
  have k4 : ¬ 4 < Y0.size := by omega
  have HX := Lib.hid hx
  clear hx
  have tE : (E != 0) = true := by simpa using E0
  clear E0
  go_enter Tryz.func23, Tryz.ntmps23
  go_wp2_with fail
  obtain ⟨W1, hW1⟩ : ∃ W1, W1 = w.alloc (.cells #[.int .i64 0, .int .i64 0, .int .i64 0] 23) := ⟨_, rfl⟩
  have uW1 : Dn w W1 := by rw [hW1]; exact (Dn.refl _).alloc _
  have c2 : W1.cell? ⟨w.heap.size, 0, none⟩ = some (.int .i64 0) := by rw [hW1]; simp [go_sem]
  have c3 : W1.cell? ⟨w.heap.size, 1, none⟩ = some (.int .i64 0) := by rw [hW1]; simp [go_sem]
  have c4 : W1.cell? ⟨w.heap.size, 2, none⟩ = some (.int .i64 0) := by rw [hW1]; simp [go_sem]
  have l5 : w.heap.size < W1.heap.size := by rw [hW1]; simp <;> omega
  have f6 : W1.frozen? ⟨w.heap.size, 0, none⟩ = false := by rw [hW1]; simp [go_sem]
  have f7 : W1.frozen? ⟨w.heap.size, 1, none⟩ = false := by rw [hW1]; simp [go_sem]
  have f8 : W1.frozen? ⟨w.heap.size, 2, none⟩ = false := by rw [hW1]; simp [go_sem]
  rw [← hW1]
  clear hW1
  refine (HD2.out _).mono ?_
  rintro e w1 ⟨rfl, rfl⟩
  go_wp2_with fail
  refine (HD5.out _).mono ?_
  rintro e w2 ⟨rfl, rfl⟩
  go_wp2_with fail
  refine (HDY.out _).mono ?_
  rintro e w3 ⟨rfl, rfl⟩
  go_wp2_with fail
  go_loop [5] (fun sv => ∃ t : ByteArray, sv = .string t ∧ TQ t Y0) (fun sv => szOf sv)
  case atStart => exact ⟨Y0, rfl, ⟨ys, by omega, HY.out, rfl⟩⟩
  case round =>
    obtain ⟨t, rfl, ht⟩ := hrel
    have HT := Lib.hid ht
    obtain ⟨ts1, ts2, -, -⟩ := ht
    by_cases h1 : 1 < t.size
    · by_cases h48 : t[0] = 48
      · have e1 : decide (1 < (t.size : Int)) = true := by simp; omega
        have e2 : t[0].toNat = 48 := by rw [h48]; rfl
        have e3 : ((t[0].toNat : Int) == 48) = true := by rw [h48]; rfl
        have e5 : 1 ≤ t.size := by omega
        have HN := Lib.hid (HT.out.step h1 h48)
        clear h48
        go_wp2_with fail
        go_round
        case rel => exact ⟨_, rfl, HN.out⟩
        case measure => simp [szOf]; omega
      ·
        obtain ⟨po, pv⟩ := HT.out.num (Or.inr (fun _ => h48))
        have e1 : decide (1 < (t.size : Int)) = true := by simp; omega
        have e2 : ¬ t[0].toNat = 48 := fun e => h48 (UInt8.toNat_inj.1 (by have : (48 : UInt8).toNat = 48 := rfl; omega))
        have e3 : ((t[0].toNat : Int) == 48) = false := by rw [beq_eq_false_iff_ne]; omega
        clear h48
        have PO := Lib.hid po
        have PV := Lib.hid pv
        clear po pv
        go_wp2_with fail
        refine (rParse_yes t _ (by omega) PO.out).mono ?_
        rintro e r1 ⟨b, p, n, cap, rfl, hI, q1⟩
        rw [PV.out] at hI
        have f9 := (q1.frozen (a := ⟨w.heap.size, 0, none⟩) l5).trans f6
        have f10 := (q1.frozen (a := ⟨w.heap.size, 1, none⟩) l5).trans f7
        have f11 := (q1.frozen (a := ⟨w.heap.size, 2, none⟩) l5).trans f8
        have l12 := Nat.lt_of_lt_of_le l5 q1.size
        have c13 := q1.cell c2
        have c14 := q1.cell c3
        have c15 := q1.cell c4
        clear f6 f7 f8 l5 c2 c3 c4
        have ur1 := uW1.trans q1
        clear q1 uW1
        go_wp2_with fail
        have hI2 := hI.dn ((Dn.refl _).alloc (.cells #[.bool b, .slice p n cap] 80))
        have hlen : (Dg.dl (Dg.nvA 0 Y0.data.toList : Int).natAbs).length ≤ 1000 := nv_small _ HY.out (by rw [len_is]; omega)
        clear hI
        obtain ⟨W16, hW16⟩ : ∃ W16, W16 = r1.alloc (.cells #[.bool b, .slice p n cap] 80) := ⟨_, rfl⟩
        have uW16 : Dn r1 W16 := by rw [hW16]; exact (Dn.refl _).alloc _
        have o17 : w.heap.size ≤ r1.heap.size := by have := ur1.size; omega
        have n18 : w.heap.size ≠ r1.heap.size := by have := l12; omega
        have f19 := (uW16.frozen (a := ⟨w.heap.size, 0, none⟩) l12).trans f9
        have f20 := (uW16.frozen (a := ⟨w.heap.size, 1, none⟩) l12).trans f10
        have f21 := (uW16.frozen (a := ⟨w.heap.size, 2, none⟩) l12).trans f11
        have l22 := Nat.lt_of_lt_of_le l12 uW16.size
        have c23 := uW16.cell c13
        have c24 := uW16.cell c14
        have c25 := uW16.cell c15
        clear f9 f10 f11 l12 c13 c14 c15
        have c26 : W16.cell? ⟨r1.heap.size, 0, none⟩ = some (.bool b) := by rw [hW16]; simp [go_sem]
        have c27 : W16.cell? ⟨r1.heap.size, 1, none⟩ = some (.slice p n cap) := by rw [hW16]; simp [go_sem]
        have l28 : r1.heap.size < W16.heap.size := by rw [hW16]; simp <;> omega
        have f29 : W16.frozen? ⟨r1.heap.size, 0, none⟩ = false := by rw [hW16]; simp [go_sem]
        have f30 : W16.frozen? ⟨r1.heap.size, 1, none⟩ = false := by rw [hW16]; simp [go_sem]
        rw [← hW16] at hI2 ⊢
        clear hW16
        have vW16 := ur1.trans uW16
        clear uW16 ur1
        have hI3 := hI2
        clear hI2
        rw [HX.out] at hI3 
        refine (rInt_yes _ x _ hI3 (by have e4 := HX.out; rw [← e4]; exact hlen) HF.out).mono ?_
        rintro e r3 ⟨rfl, q3'⟩
        have f31 := (q3'.frozen (a := ⟨w.heap.size, 0, none⟩) l22).trans f19
        have f32 := (q3'.frozen (a := ⟨w.heap.size, 1, none⟩) l22).trans f20
        have f33 := (q3'.frozen (a := ⟨w.heap.size, 2, none⟩) l22).trans f21
        have l34 := Nat.lt_of_lt_of_le l22 q3'.size
        have c35 := q3'.cell c23
        have c36 := q3'.cell c24
        have c37 := q3'.cell c25
        have f38 := (q3'.frozen (a := ⟨r1.heap.size, 0, none⟩) l28).trans f29
        have f39 := (q3'.frozen (a := ⟨r1.heap.size, 1, none⟩) l28).trans f30
        have l40 := Nat.lt_of_lt_of_le l28 q3'.size
        have c41 := q3'.cell c26
        have c42 := q3'.cell c27
        clear f19 f20 f21 l22 c23 c24 c25 f29 f30 l28 c26 c27
        have ur3 := vW16.trans q3'
        clear q3' vW16
        go_wp2_with fail
        refine (rIs_yes x _ HIY.out).mono ?_
        rintro e w4 ⟨rfl, rfl⟩
        go_wp2_with fail
        go_region
        obtain ⟨W43, hW43⟩ : ∃ W43, W43 = (r3.alloc (.cells #[.int .i64 x, .int .i64 (10 * q5 + q4), .int .i64 (10 * q2 + q1)] 23)).drew := ⟨_, rfl⟩
        have uW43 : Dn r3 W43 := by rw [hW43]; exact ((Dn.refl _).alloc _).drew
        have n44 : w.heap.size ≠ r3.heap.size := by have := l34; omega
        have f45 := (uW43.frozen (a := ⟨w.heap.size, 0, none⟩) l34).trans f31
        have f46 := (uW43.frozen (a := ⟨w.heap.size, 1, none⟩) l34).trans f32
        have f47 := (uW43.frozen (a := ⟨w.heap.size, 2, none⟩) l34).trans f33
        have l48 := Nat.lt_of_lt_of_le l34 uW43.size
        have c49 := uW43.cell c35
        have c50 := uW43.cell c36
        have c51 := uW43.cell c37
        clear f31 f32 f33 l34 c35 c36 c37 c41 c42
        have c52 : W43.cell? ⟨r3.heap.size, 0, none⟩ = some (.int .i64 x) := by rw [hW43]; simp [go_sem]
        have c53 : W43.cell? ⟨r3.heap.size, 1, none⟩ = some (.int .i64 (10 * q5 + q4)) := by rw [hW43]; simp [go_sem]
        have c54 : W43.cell? ⟨r3.heap.size, 2, none⟩ = some (.int .i64 (10 * q2 + q1)) := by rw [hW43]; simp [go_sem]
        have l55 : r3.heap.size < W43.heap.size := by rw [hW43]; simp <;> omega
        rw [← hW43]
        clear hW43
        have vW43 := ur3.trans uW43
        go_wp2_with fail
        refine (rc6Chk x (10 * q5 + q4) (10 * q2 + q1) E _ HC.out).mono ?_
        rintro e w5 ⟨rfl, qw5⟩
        have f56 := (qw5.frozen (a := ⟨w.heap.size, 0, none⟩) l48).trans f45
        have f57 := (qw5.frozen (a := ⟨w.heap.size, 1, none⟩) l48).trans f46
        have f58 := (qw5.frozen (a := ⟨w.heap.size, 2, none⟩) l48).trans f47
        have l59 := Nat.lt_of_lt_of_le l48 qw5.size
        have c60 := qw5.cell c49
        have c61 := qw5.cell c50
        have c62 := qw5.cell c51
        have l63 := Nat.lt_of_lt_of_le l55 qw5.size
        have c64 := qw5.cell c52
        have c65 := qw5.cell c53
        have c66 := qw5.cell c54
        clear f45 f46 f47 l48 c49 c50 c51 l55 c52 c53 c54
        have uw5 := vW43.trans qw5
        clear qw5 vW43
        go_wp2_with fail
        exact bodyPost_ret (v := .tuple #[.agg #[.int .i64 0, .int .i64 0, .int .i64 0], .int .i64 E]) (by simp [results, Tryz.results23, go_sem, c60, c61, c62, c64, c65, c66, f56, f57, f58, f38, f39] <;> omega) rfl ⟨rfl, (((uw5.setCell (by simp <;> omega) _).setCell (by simp <;> omega) _).setCell (by simp <;> omega) _)⟩
    ·
      obtain ⟨po, pv⟩ := HT.out.num (Or.inl (by omega))
      have e1 : decide (1 < (t.size : Int)) = false := by simp; omega
      have e2 : ¬ 1 < t.size := h1
      have PO := Lib.hid po
      have PV := Lib.hid pv
      clear po pv
      go_wp2_with fail
      refine (rParse_yes t _ (by omega) PO.out).mono ?_
      rintro e r1 ⟨b, p, n, cap, rfl, hI, q1⟩
      rw [PV.out] at hI
      have f67 := (q1.frozen (a := ⟨w.heap.size, 0, none⟩) l5).trans f6
      have f68 := (q1.frozen (a := ⟨w.heap.size, 1, none⟩) l5).trans f7
      have f69 := (q1.frozen (a := ⟨w.heap.size, 2, none⟩) l5).trans f8
      have l70 := Nat.lt_of_lt_of_le l5 q1.size
      have c71 := q1.cell c2
      have c72 := q1.cell c3
      have c73 := q1.cell c4
      clear f6 f7 f8 l5 c2 c3 c4
      have ur1 := uW1.trans q1
      clear q1 uW1
      go_wp2_with fail
      have hI2 := hI.dn ((Dn.refl _).alloc (.cells #[.bool b, .slice p n cap] 80))
      have hlen : (Dg.dl (Dg.nvA 0 Y0.data.toList : Int).natAbs).length ≤ 1000 := nv_small _ HY.out (by rw [len_is]; omega)
      clear hI
      obtain ⟨W74, hW74⟩ : ∃ W74, W74 = r1.alloc (.cells #[.bool b, .slice p n cap] 80) := ⟨_, rfl⟩
      have uW74 : Dn r1 W74 := by rw [hW74]; exact (Dn.refl _).alloc _
      have o75 : w.heap.size ≤ r1.heap.size := by have := ur1.size; omega
      have n76 : w.heap.size ≠ r1.heap.size := by have := l70; omega
      have f77 := (uW74.frozen (a := ⟨w.heap.size, 0, none⟩) l70).trans f67
      have f78 := (uW74.frozen (a := ⟨w.heap.size, 1, none⟩) l70).trans f68
      have f79 := (uW74.frozen (a := ⟨w.heap.size, 2, none⟩) l70).trans f69
      have l80 := Nat.lt_of_lt_of_le l70 uW74.size
      have c81 := uW74.cell c71
      have c82 := uW74.cell c72
      have c83 := uW74.cell c73
      clear f67 f68 f69 l70 c71 c72 c73
      have c84 : W74.cell? ⟨r1.heap.size, 0, none⟩ = some (.bool b) := by rw [hW74]; simp [go_sem]
      have c85 : W74.cell? ⟨r1.heap.size, 1, none⟩ = some (.slice p n cap) := by rw [hW74]; simp [go_sem]
      have l86 : r1.heap.size < W74.heap.size := by rw [hW74]; simp <;> omega
      have f87 : W74.frozen? ⟨r1.heap.size, 0, none⟩ = false := by rw [hW74]; simp [go_sem]
      have f88 : W74.frozen? ⟨r1.heap.size, 1, none⟩ = false := by rw [hW74]; simp [go_sem]
      rw [← hW74] at hI2 ⊢
      clear hW74
      have vW74 := ur1.trans uW74
      clear uW74 ur1
      have hI3 := hI2
      clear hI2
      rw [HX.out] at hI3 
      refine (rInt_yes _ x _ hI3 (by have e4 := HX.out; rw [← e4]; exact hlen) HF.out).mono ?_
      rintro e r3 ⟨rfl, q3'⟩
      have f89 := (q3'.frozen (a := ⟨w.heap.size, 0, none⟩) l80).trans f77
      have f90 := (q3'.frozen (a := ⟨w.heap.size, 1, none⟩) l80).trans f78
      have f91 := (q3'.frozen (a := ⟨w.heap.size, 2, none⟩) l80).trans f79
      have l92 := Nat.lt_of_lt_of_le l80 q3'.size
      have c93 := q3'.cell c81
      have c94 := q3'.cell c82
      have c95 := q3'.cell c83
      have f96 := (q3'.frozen (a := ⟨r1.heap.size, 0, none⟩) l86).trans f87
      have f97 := (q3'.frozen (a := ⟨r1.heap.size, 1, none⟩) l86).trans f88
      have l98 := Nat.lt_of_lt_of_le l86 q3'.size
      have c99 := q3'.cell c84
      have c100 := q3'.cell c85
      clear f77 f78 f79 l80 c81 c82 c83 f87 f88 l86 c84 c85
      have ur3 := vW74.trans q3'
      clear q3' vW74
      go_wp2_with fail
      refine (rIs_yes x _ HIY.out).mono ?_
      rintro e w6 ⟨rfl, rfl⟩
      go_wp2_with fail
      go_region
      obtain ⟨W101, hW101⟩ : ∃ W101, W101 = (r3.alloc (.cells #[.int .i64 x, .int .i64 (10 * q5 + q4), .int .i64 (10 * q2 + q1)] 23)).drew := ⟨_, rfl⟩
      have uW101 : Dn r3 W101 := by rw [hW101]; exact ((Dn.refl _).alloc _).drew
      have n102 : w.heap.size ≠ r3.heap.size := by have := l92; omega
      have f103 := (uW101.frozen (a := ⟨w.heap.size, 0, none⟩) l92).trans f89
      have f104 := (uW101.frozen (a := ⟨w.heap.size, 1, none⟩) l92).trans f90
      have f105 := (uW101.frozen (a := ⟨w.heap.size, 2, none⟩) l92).trans f91
      have l106 := Nat.lt_of_lt_of_le l92 uW101.size
      have c107 := uW101.cell c93
      have c108 := uW101.cell c94
      have c109 := uW101.cell c95
      clear f89 f90 f91 l92 c93 c94 c95 c99 c100
      have c110 : W101.cell? ⟨r3.heap.size, 0, none⟩ = some (.int .i64 x) := by rw [hW101]; simp [go_sem]
      have c111 : W101.cell? ⟨r3.heap.size, 1, none⟩ = some (.int .i64 (10 * q5 + q4)) := by rw [hW101]; simp [go_sem]
      have c112 : W101.cell? ⟨r3.heap.size, 2, none⟩ = some (.int .i64 (10 * q2 + q1)) := by rw [hW101]; simp [go_sem]
      have l113 : r3.heap.size < W101.heap.size := by rw [hW101]; simp <;> omega
      rw [← hW101]
      clear hW101
      have vW101 := ur3.trans uW101
      go_wp2_with fail
      refine (rc6Chk x (10 * q5 + q4) (10 * q2 + q1) E _ HC.out).mono ?_
      rintro e w7 ⟨rfl, qw7⟩
      have f114 := (qw7.frozen (a := ⟨w.heap.size, 0, none⟩) l106).trans f103
      have f115 := (qw7.frozen (a := ⟨w.heap.size, 1, none⟩) l106).trans f104
      have f116 := (qw7.frozen (a := ⟨w.heap.size, 2, none⟩) l106).trans f105
      have l117 := Nat.lt_of_lt_of_le l106 qw7.size
      have c118 := qw7.cell c107
      have c119 := qw7.cell c108
      have c120 := qw7.cell c109
      have l121 := Nat.lt_of_lt_of_le l113 qw7.size
      have c122 := qw7.cell c110
      have c123 := qw7.cell c111
      have c124 := qw7.cell c112
      clear f103 f104 f105 l106 c107 c108 c109 l113 c110 c111 c112
      have uw7 := vW101.trans qw7
      clear qw7 vW101
      go_wp2_with fail
      exact bodyPost_ret (v := .tuple #[.agg #[.int .i64 0, .int .i64 0, .int .i64 0], .int .i64 E]) (by simp [results, Tryz.results23, go_sem, c118, c119, c120, c122, c123, c124, f114, f115, f116, f96, f97] <;> omega) rfl ⟨rfl, (((uw7.setCell (by simp <;> omega) _).setCell (by simp <;> omega) _).setCell (by simp <;> omega) _)⟩
set_option maxHeartbeats 4000000 in
set_option maxRecDepth 100000 in
theorem rp6r_p4_ok (s Y0 Y1 S2 S5 : ByteArray) (n1 n2 n3 n4 n5 n6 : Nat) (hs : s.size ≤ 100) (h10 : ¬ s.size < 10) (i1 : (s.size : Int) - 1 = n1) (i2 : (s.size : Int) - 2 = n2) (i3 : (s.size : Int) - 3 = n3) (i4 : (s.size : Int) - 4 = n4) (i5 : (s.size : Int) - 5 = n5) (i6 : (s.size : Int) - 6 = n6) (b1 : n1 < s.size) (b2 : n2 < s.size) (b3 : n3 < s.size) (b4 : n4 < s.size) (b5 : n5 < s.size) (b6 : n6 < s.size) (X2 : s.extract n2 s.size = S2) (X5 : s.extract n5 n3 = S5) (X0 : s.extract 0 n6 = Y0) (h : s[n3] = 45) (h6 : s[n6] = 45) (HD2 : Hid (∀ W, Calls Tryz.prog 52 #[.string S2] W fun e w' => e = .returned (.bool true) ∧ W = w')) (HD5 : Hid (∀ W, Calls Tryz.prog 52 #[.string S5] W fun e w' => e = .returned (.bool true) ∧ W = w')) (y0 : 0 < Y0.size) (g : Y0[0] ≠ 45) (l : ¬ Y0.size < 4) (HDY : Hid (∀ W, Calls Tryz.prog 52 #[.string Y0] W fun e w' => e = .returned (.bool true) ∧ W = w')) (HY : Hid (AllD Y0.data.toList)) (ys : Y0.size ≤ 100) (l4 : Y0.size = 4) (x : Int) (hx : (Dg.nvA 0 Y0.data.toList : Int) = x) (HF : Hid (I64 x)) (HIY : Hid (IsY x)) (q5 q4 q2 q1 : Int) (a5 : ((s[n5].toNat : Int) - 48) % 256 = q5) (d5 : 0 ≤ q5 ∧ q5 ≤ 9) (a4 : ((s[n4].toNat : Int) - 48) % 256 = q4) (d4 : 0 ≤ q4 ∧ q4 ≤ 9) (a2 : ((s[n2].toNat : Int) - 48) % 256 = q2) (d2 : 0 ≤ q2 ∧ q2 ≤ 9) (a1 : ((s[n1].toNat : Int) - 48) % 256 = q1) (d1 : 0 ≤ q1 ∧ q1 ≤ 9) (HC : Hid (cErr x (10 * q5 + q4) (10 * q2 + q1) = 0)) (w : World) :
    Calls Tryz.prog 23 #[.string s] w fun ro w' => ro = .returned (.tuple #[.agg #[.int .i64 x, .int .i64 (10 * q5 + q4), .int .i64 (10 * q2 + q1)], .int .i64 0]) ∧ Dn w w' := by
  have t10 : decide ((s.size : Int) < 10) = false := by simp; omega
  have u2 : n2 ≤ s.size := by omega
  have u3 : n3 ≤ s.size := by omega
  have u5 : n5 ≤ n3 := by omega
  have u6 : n6 ≤ s.size := by omega
  have q3 : ((s[n3].toNat : Int) == 45) = true := by rw [h]; rfl
  have mq3 : s[n3].toNat = 45 := by rw [h]; rfl
  have q6 : ((s[n6].toNat : Int) == 45) = true := by rw [h6]; rfl
  have mq6 : s[n6].toNat = 45 := by rw [h6]; rfl
  clear h h6
  have mqn : ¬ Y0[0].toNat = 45 := fun e => g (UInt8.toNat_inj.1 (by have : (45 : UInt8).toNat = 45 := rfl; omega))
  have qn : ((Y0[0].toNat : Int) == 45) = false := by rw [beq_eq_false_iff_ne]; omega
  clear g
  have k1 : decide ((Y0.size : Int) < 4) = false := by simp; omega
  have k2 : ¬ Y0.size < 4 := l
  have k3 : decide (4 < (Y0.size : Int)) = false := by simp; omega
  have k4 : ¬ 4 < Y0.size := by omega
  have HX := Lib.hid hx
  clear hx
  go_enter Tryz.func23, Tryz.ntmps23
  go_wp2_with fail
  obtain ⟨W1, hW1⟩ : ∃ W1, W1 = w.alloc (.cells #[.int .i64 0, .int .i64 0, .int .i64 0] 23) := ⟨_, rfl⟩
  have uW1 : Dn w W1 := by rw [hW1]; exact (Dn.refl _).alloc _
  have c2 : W1.cell? ⟨w.heap.size, 0, none⟩ = some (.int .i64 0) := by rw [hW1]; simp [go_sem]
  have c3 : W1.cell? ⟨w.heap.size, 1, none⟩ = some (.int .i64 0) := by rw [hW1]; simp [go_sem]
  have c4 : W1.cell? ⟨w.heap.size, 2, none⟩ = some (.int .i64 0) := by rw [hW1]; simp [go_sem]
  have l5 : w.heap.size < W1.heap.size := by rw [hW1]; simp <;> omega
  have f6 : W1.frozen? ⟨w.heap.size, 0, none⟩ = false := by rw [hW1]; simp [go_sem]
  have f7 : W1.frozen? ⟨w.heap.size, 1, none⟩ = false := by rw [hW1]; simp [go_sem]
  have f8 : W1.frozen? ⟨w.heap.size, 2, none⟩ = false := by rw [hW1]; simp [go_sem]
  rw [← hW1]
  clear hW1
  refine (HD2.out _).mono ?_
  rintro e w1 ⟨rfl, rfl⟩
  go_wp2_with fail
  refine (HD5.out _).mono ?_
  rintro e w2 ⟨rfl, rfl⟩
  go_wp2_with fail
  refine (HDY.out _).mono ?_
  rintro e w3 ⟨rfl, rfl⟩
  go_wp2_with fail
  go_loop [5] (fun sv => ∃ t : ByteArray, sv = .string t ∧ TQ t Y0) (fun sv => szOf sv)
  case atStart => exact ⟨Y0, rfl, ⟨ys, by omega, HY.out, rfl⟩⟩
  case round =>
    obtain ⟨t, rfl, ht⟩ := hrel
    have HT := Lib.hid ht
    obtain ⟨ts1, ts2, -, -⟩ := ht
    by_cases h1 : 1 < t.size
    · by_cases h48 : t[0] = 48
      · have e1 : decide (1 < (t.size : Int)) = true := by simp; omega
        have e2 : t[0].toNat = 48 := by rw [h48]; rfl
        have e3 : ((t[0].toNat : Int) == 48) = true := by rw [h48]; rfl
        have e5 : 1 ≤ t.size := by omega
        have HN := Lib.hid (HT.out.step h1 h48)
        clear h48
        go_wp2_with fail
        go_round
        case rel => exact ⟨_, rfl, HN.out⟩
        case measure => simp [szOf]; omega
      ·
        obtain ⟨po, pv⟩ := HT.out.num (Or.inr (fun _ => h48))
        have e1 : decide (1 < (t.size : Int)) = true := by simp; omega
        have e2 : ¬ t[0].toNat = 48 := fun e => h48 (UInt8.toNat_inj.1 (by have : (48 : UInt8).toNat = 48 := rfl; omega))
        have e3 : ((t[0].toNat : Int) == 48) = false := by rw [beq_eq_false_iff_ne]; omega
        clear h48
        have PO := Lib.hid po
        have PV := Lib.hid pv
        clear po pv
        go_wp2_with fail
        refine (rParse_yes t _ (by omega) PO.out).mono ?_
        rintro e r1 ⟨b, p, n, cap, rfl, hI, q1⟩
        rw [PV.out] at hI
        have f9 := (q1.frozen (a := ⟨w.heap.size, 0, none⟩) l5).trans f6
        have f10 := (q1.frozen (a := ⟨w.heap.size, 1, none⟩) l5).trans f7
        have f11 := (q1.frozen (a := ⟨w.heap.size, 2, none⟩) l5).trans f8
        have l12 := Nat.lt_of_lt_of_le l5 q1.size
        have c13 := q1.cell c2
        have c14 := q1.cell c3
        have c15 := q1.cell c4
        clear f6 f7 f8 l5 c2 c3 c4
        have ur1 := uW1.trans q1
        clear q1 uW1
        go_wp2_with fail
        have hI2 := hI.dn ((Dn.refl _).alloc (.cells #[.bool b, .slice p n cap] 80))
        have hlen : (Dg.dl (Dg.nvA 0 Y0.data.toList : Int).natAbs).length ≤ 1000 := nv_small _ HY.out (by rw [len_is]; omega)
        clear hI
        obtain ⟨W16, hW16⟩ : ∃ W16, W16 = r1.alloc (.cells #[.bool b, .slice p n cap] 80) := ⟨_, rfl⟩
        have uW16 : Dn r1 W16 := by rw [hW16]; exact (Dn.refl _).alloc _
        have o17 : w.heap.size ≤ r1.heap.size := by have := ur1.size; omega
        have n18 : w.heap.size ≠ r1.heap.size := by have := l12; omega
        have f19 := (uW16.frozen (a := ⟨w.heap.size, 0, none⟩) l12).trans f9
        have f20 := (uW16.frozen (a := ⟨w.heap.size, 1, none⟩) l12).trans f10
        have f21 := (uW16.frozen (a := ⟨w.heap.size, 2, none⟩) l12).trans f11
        have l22 := Nat.lt_of_lt_of_le l12 uW16.size
        have c23 := uW16.cell c13
        have c24 := uW16.cell c14
        have c25 := uW16.cell c15
        clear f9 f10 f11 l12 c13 c14 c15
        have c26 : W16.cell? ⟨r1.heap.size, 0, none⟩ = some (.bool b) := by rw [hW16]; simp [go_sem]
        have c27 : W16.cell? ⟨r1.heap.size, 1, none⟩ = some (.slice p n cap) := by rw [hW16]; simp [go_sem]
        have l28 : r1.heap.size < W16.heap.size := by rw [hW16]; simp <;> omega
        have f29 : W16.frozen? ⟨r1.heap.size, 0, none⟩ = false := by rw [hW16]; simp [go_sem]
        have f30 : W16.frozen? ⟨r1.heap.size, 1, none⟩ = false := by rw [hW16]; simp [go_sem]
        rw [← hW16] at hI2 ⊢
        clear hW16
        have vW16 := ur1.trans uW16
        clear uW16 ur1
        have hI3 := hI2
        clear hI2
        rw [HX.out] at hI3 
        refine (rInt_yes _ x _ hI3 (by have e4 := HX.out; rw [← e4]; exact hlen) HF.out).mono ?_
        rintro e r3 ⟨rfl, q3'⟩
        have f31 := (q3'.frozen (a := ⟨w.heap.size, 0, none⟩) l22).trans f19
        have f32 := (q3'.frozen (a := ⟨w.heap.size, 1, none⟩) l22).trans f20
        have f33 := (q3'.frozen (a := ⟨w.heap.size, 2, none⟩) l22).trans f21
        have l34 := Nat.lt_of_lt_of_le l22 q3'.size
        have c35 := q3'.cell c23
        have c36 := q3'.cell c24
        have c37 := q3'.cell c25
        have f38 := (q3'.frozen (a := ⟨r1.heap.size, 0, none⟩) l28).trans f29
        have f39 := (q3'.frozen (a := ⟨r1.heap.size, 1, none⟩) l28).trans f30
        have l40 := Nat.lt_of_lt_of_le l28 q3'.size
        have c41 := q3'.cell c26
        have c42 := q3'.cell c27
        clear f19 f20 f21 l22 c23 c24 c25 f29 f30 l28 c26 c27
        have ur3 := vW16.trans q3'
        clear q3' vW16
        go_wp2_with fail
        refine (rIs_yes x _ HIY.out).mono ?_
        rintro e w4 ⟨rfl, rfl⟩
        go_wp2_with fail
        go_region
        obtain ⟨W43, hW43⟩ : ∃ W43, W43 = (r3.alloc (.cells #[.int .i64 x, .int .i64 (10 * q5 + q4), .int .i64 (10 * q2 + q1)] 23)).drew := ⟨_, rfl⟩
        have uW43 : Dn r3 W43 := by rw [hW43]; exact ((Dn.refl _).alloc _).drew
        have n44 : w.heap.size ≠ r3.heap.size := by have := l34; omega
        have f45 := (uW43.frozen (a := ⟨w.heap.size, 0, none⟩) l34).trans f31
        have f46 := (uW43.frozen (a := ⟨w.heap.size, 1, none⟩) l34).trans f32
        have f47 := (uW43.frozen (a := ⟨w.heap.size, 2, none⟩) l34).trans f33
        have l48 := Nat.lt_of_lt_of_le l34 uW43.size
        have c49 := uW43.cell c35
        have c50 := uW43.cell c36
        have c51 := uW43.cell c37
        clear f31 f32 f33 l34 c35 c36 c37 c41 c42
        have c52 : W43.cell? ⟨r3.heap.size, 0, none⟩ = some (.int .i64 x) := by rw [hW43]; simp [go_sem]
        have c53 : W43.cell? ⟨r3.heap.size, 1, none⟩ = some (.int .i64 (10 * q5 + q4)) := by rw [hW43]; simp [go_sem]
        have c54 : W43.cell? ⟨r3.heap.size, 2, none⟩ = some (.int .i64 (10 * q2 + q1)) := by rw [hW43]; simp [go_sem]
        have l55 : r3.heap.size < W43.heap.size := by rw [hW43]; simp <;> omega
        rw [← hW43]
        clear hW43
        have vW43 := ur3.trans uW43
        go_wp2_with fail
        refine (rc6Chk x (10 * q5 + q4) (10 * q2 + q1) 0 _ HC.out).mono ?_
        rintro e w5 ⟨rfl, qw5⟩
        have f56 := (qw5.frozen (a := ⟨w.heap.size, 0, none⟩) l48).trans f45
        have f57 := (qw5.frozen (a := ⟨w.heap.size, 1, none⟩) l48).trans f46
        have f58 := (qw5.frozen (a := ⟨w.heap.size, 2, none⟩) l48).trans f47
        have l59 := Nat.lt_of_lt_of_le l48 qw5.size
        have c60 := qw5.cell c49
        have c61 := qw5.cell c50
        have c62 := qw5.cell c51
        have l63 := Nat.lt_of_lt_of_le l55 qw5.size
        have c64 := qw5.cell c52
        have c65 := qw5.cell c53
        have c66 := qw5.cell c54
        clear f45 f46 f47 l48 c49 c50 c51 l55 c52 c53 c54
        have uw5 := vW43.trans qw5
        clear qw5 vW43
        go_wp2_with fail
        exact bodyPost_ret (v := .tuple #[.agg #[.int .i64 x, .int .i64 (10 * q5 + q4), .int .i64 (10 * q2 + q1)], .int .i64 0]) (by simp [results, Tryz.results23, go_sem, c60, c61, c62, c64, c65, c66, f56, f57, f58, f38, f39] <;> omega) rfl ⟨rfl, (((uw5.setCell (by simp <;> omega) _).setCell (by simp <;> omega) _).setCell (by simp <;> omega) _)⟩
    ·
      obtain ⟨po, pv⟩ := HT.out.num (Or.inl (by omega))
      have e1 : decide (1 < (t.size : Int)) = false := by simp; omega
      have e2 : ¬ 1 < t.size := h1
      have PO := Lib.hid po
      have PV := Lib.hid pv
      clear po pv
      go_wp2_with fail
      refine (rParse_yes t _ (by omega) PO.out).mono ?_
      rintro e r1 ⟨b, p, n, cap, rfl, hI, q1⟩
      rw [PV.out] at hI
      have f67 := (q1.frozen (a := ⟨w.heap.size, 0, none⟩) l5).trans f6
      have f68 := (q1.frozen (a := ⟨w.heap.size, 1, none⟩) l5).trans f7
      have f69 := (q1.frozen (a := ⟨w.heap.size, 2, none⟩) l5).trans f8
      have l70 := Nat.lt_of_lt_of_le l5 q1.size
      have c71 := q1.cell c2
      have c72 := q1.cell c3
      have c73 := q1.cell c4
      clear f6 f7 f8 l5 c2 c3 c4
      have ur1 := uW1.trans q1
      clear q1 uW1
      go_wp2_with fail
      have hI2 := hI.dn ((Dn.refl _).alloc (.cells #[.bool b, .slice p n cap] 80))
      have hlen : (Dg.dl (Dg.nvA 0 Y0.data.toList : Int).natAbs).length ≤ 1000 := nv_small _ HY.out (by rw [len_is]; omega)
      clear hI
      obtain ⟨W74, hW74⟩ : ∃ W74, W74 = r1.alloc (.cells #[.bool b, .slice p n cap] 80) := ⟨_, rfl⟩
      have uW74 : Dn r1 W74 := by rw [hW74]; exact (Dn.refl _).alloc _
      have o75 : w.heap.size ≤ r1.heap.size := by have := ur1.size; omega
      have n76 : w.heap.size ≠ r1.heap.size := by have := l70; omega
      have f77 := (uW74.frozen (a := ⟨w.heap.size, 0, none⟩) l70).trans f67
      have f78 := (uW74.frozen (a := ⟨w.heap.size, 1, none⟩) l70).trans f68
      have f79 := (uW74.frozen (a := ⟨w.heap.size, 2, none⟩) l70).trans f69
      have l80 := Nat.lt_of_lt_of_le l70 uW74.size
      have c81 := uW74.cell c71
      have c82 := uW74.cell c72
      have c83 := uW74.cell c73
      clear f67 f68 f69 l70 c71 c72 c73
      have c84 : W74.cell? ⟨r1.heap.size, 0, none⟩ = some (.bool b) := by rw [hW74]; simp [go_sem]
      have c85 : W74.cell? ⟨r1.heap.size, 1, none⟩ = some (.slice p n cap) := by rw [hW74]; simp [go_sem]
      have l86 : r1.heap.size < W74.heap.size := by rw [hW74]; simp <;> omega
      have f87 : W74.frozen? ⟨r1.heap.size, 0, none⟩ = false := by rw [hW74]; simp [go_sem]
      have f88 : W74.frozen? ⟨r1.heap.size, 1, none⟩ = false := by rw [hW74]; simp [go_sem]
      rw [← hW74] at hI2 ⊢
      clear hW74
      have vW74 := ur1.trans uW74
      clear uW74 ur1
      have hI3 := hI2
      clear hI2
      rw [HX.out] at hI3 
      refine (rInt_yes _ x _ hI3 (by have e4 := HX.out; rw [← e4]; exact hlen) HF.out).mono ?_
      rintro e r3 ⟨rfl, q3'⟩
      have f89 := (q3'.frozen (a := ⟨w.heap.size, 0, none⟩) l80).trans f77
      have f90 := (q3'.frozen (a := ⟨w.heap.size, 1, none⟩) l80).trans f78
      have f91 := (q3'.frozen (a := ⟨w.heap.size, 2, none⟩) l80).trans f79
      have l92 := Nat.lt_of_lt_of_le l80 q3'.size
      have c93 := q3'.cell c81
      have c94 := q3'.cell c82
      have c95 := q3'.cell c83
      have f96 := (q3'.frozen (a := ⟨r1.heap.size, 0, none⟩) l86).trans f87
      have f97 := (q3'.frozen (a := ⟨r1.heap.size, 1, none⟩) l86).trans f88
      have l98 := Nat.lt_of_lt_of_le l86 q3'.size
      have c99 := q3'.cell c84
      have c100 := q3'.cell c85
      clear f77 f78 f79 l80 c81 c82 c83 f87 f88 l86 c84 c85
      have ur3 := vW74.trans q3'
      clear q3' vW74
      go_wp2_with fail
      refine (rIs_yes x _ HIY.out).mono ?_
      rintro e w6 ⟨rfl, rfl⟩
      go_wp2_with fail
      go_region
      obtain ⟨W101, hW101⟩ : ∃ W101, W101 = (r3.alloc (.cells #[.int .i64 x, .int .i64 (10 * q5 + q4), .int .i64 (10 * q2 + q1)] 23)).drew := ⟨_, rfl⟩
      have uW101 : Dn r3 W101 := by rw [hW101]; exact ((Dn.refl _).alloc _).drew
      have n102 : w.heap.size ≠ r3.heap.size := by have := l92; omega
      have f103 := (uW101.frozen (a := ⟨w.heap.size, 0, none⟩) l92).trans f89
      have f104 := (uW101.frozen (a := ⟨w.heap.size, 1, none⟩) l92).trans f90
      have f105 := (uW101.frozen (a := ⟨w.heap.size, 2, none⟩) l92).trans f91
      have l106 := Nat.lt_of_lt_of_le l92 uW101.size
      have c107 := uW101.cell c93
      have c108 := uW101.cell c94
      have c109 := uW101.cell c95
      clear f89 f90 f91 l92 c93 c94 c95 c99 c100
      have c110 : W101.cell? ⟨r3.heap.size, 0, none⟩ = some (.int .i64 x) := by rw [hW101]; simp [go_sem]
      have c111 : W101.cell? ⟨r3.heap.size, 1, none⟩ = some (.int .i64 (10 * q5 + q4)) := by rw [hW101]; simp [go_sem]
      have c112 : W101.cell? ⟨r3.heap.size, 2, none⟩ = some (.int .i64 (10 * q2 + q1)) := by rw [hW101]; simp [go_sem]
      have l113 : r3.heap.size < W101.heap.size := by rw [hW101]; simp <;> omega
      rw [← hW101]
      clear hW101
      have vW101 := ur3.trans uW101
      go_wp2_with fail
      refine (rc6Chk x (10 * q5 + q4) (10 * q2 + q1) 0 _ HC.out).mono ?_
      rintro e w7 ⟨rfl, qw7⟩
      have f114 := (qw7.frozen (a := ⟨w.heap.size, 0, none⟩) l106).trans f103
      have f115 := (qw7.frozen (a := ⟨w.heap.size, 1, none⟩) l106).trans f104
      have f116 := (qw7.frozen (a := ⟨w.heap.size, 2, none⟩) l106).trans f105
      have l117 := Nat.lt_of_lt_of_le l106 qw7.size
      have c118 := qw7.cell c107
      have c119 := qw7.cell c108
      have c120 := qw7.cell c109
      have l121 := Nat.lt_of_lt_of_le l113 qw7.size
      have c122 := qw7.cell c110
      have c123 := qw7.cell c111
      have c124 := qw7.cell c112
      clear f103 f104 f105 l106 c107 c108 c109 l113 c110 c111 c112
      have uw7 := vW101.trans qw7
      clear qw7 vW101
      go_wp2_with fail
      exact bodyPost_ret (v := .tuple #[.agg #[.int .i64 x, .int .i64 (10 * q5 + q4), .int .i64 (10 * q2 + q1)], .int .i64 0]) (by simp [results, Tryz.results23, go_sem, c118, c119, c120, c122, c123, c124, f114, f115, f116, f96, f97] <;> omega) rfl ⟨rfl, (((uw7.setCell (by simp <;> omega) _).setCell (by simp <;> omega) _).setCell (by simp <;> omega) _)⟩
end Go.Proofs.YtopbbcbpanfigaaGreatDoor
