/- Walks and laws that the claim's theorem leans on: part 2. -/
import Derived.Test.YtcdkeiolblifkaaDoorZPr1
namespace Go.Proofs.YtcdkeiolblifkaaDoor
set_option maxHeartbeats 400000
open Go.RowKit
def c3 (a b : Int) : Int := if a < b then -1 else if b < a then 1 else 0
def eC (i d j f : Int) : Int := if c3 i j ≠ 0 then c3 i j else c3 d f
def eOk (i d : Int) : Prop := i = 0 ∨ (i = 1 ∨ i = -1) ∧ d = 0
instance decEOk (i d : Int) : Decidable (eOk i d) := by unfold eOk; infer_instance
def eErr (i d : Int) : Int := if eOk i d then 0 else 5
theorem c3_lt {a b : Int} (h : a < b) : c3 a b = -1 := by unfold c3; rw [if_pos h]
theorem c3_gt {a b : Int} (h : b < a) : c3 a b = 1 := by unfold c3; rw [if_neg (by omega), if_pos h]
theorem c3_eq (a : Int) : c3 a a = 0 := by unfold c3; simp
theorem isNaN8 (a : Int) (w : World) : Calls Tryd.prog 79 #[.int .i8 a] w fun e w' => e = .returned (.bool false) ∧ w = w' := by
 go_enter Tryd.func79, Tryd.ntmps79
 go_wp2_with fail
 go_ret
 exact ⟨retb (by simp), rfl⟩
theorem isNaN64 (a : Int) (w : World) : Calls Tryd.prog 80 #[.int .i64 a] w fun e w' => e = .returned (.bool false) ∧ w = w' := by
 go_enter Tryd.func80, Tryd.ntmps80
 go_wp2_with fail
 go_ret
 exact ⟨retb (by simp), rfl⟩
theorem cmp8 (a b : Int) (w : World) : Calls Tryd.prog 65 #[.int .i8 a, .int .i8 b] w fun e w' => e = .returned (.int .i64 (c3 a b)) ∧ w = w' := by
 rcases Int.lt_trichotomy a b with h | h | h
 · have d1 : decide (a < b) = true := by simpa using h
   have HC := Lib.hid (c3_lt h)
   go_enter Tryd.func65, Tryd.ntmps65
   go_wp2_with fail
   refine (isNaN8 a _).mono ?_
   rintro e w1 ⟨rfl, rfl⟩
   go_wp2_with fail
   refine (isNaN8 b _).mono ?_
   rintro e w2 ⟨rfl, rfl⟩
   go_wp2_with fail
   go_ret
   exact ⟨ret1_i HC.out.symm, rfl⟩
 · subst h
   have HC := Lib.hid (c3_eq a)
   have d1 : decide (a < a) = false := by simp
   go_enter Tryd.func65, Tryd.ntmps65
   go_wp2_with fail
   refine (isNaN8 a _).mono ?_
   rintro e w1 ⟨rfl, rfl⟩
   go_wp2_with fail
   refine (isNaN8 a _).mono ?_
   rintro e w2 ⟨rfl, rfl⟩
   go_wp2_with fail
   go_ret
   exact ⟨ret1_i HC.out.symm, rfl⟩
 · have d1 : decide (a < b) = false := by simp; omega
   have d2 : decide (b < a) = true := by simpa using h
   have HC := Lib.hid (c3_gt h)
   go_enter Tryd.func65, Tryd.ntmps65
   go_wp2_with fail
   refine (isNaN8 a _).mono ?_
   rintro e w1 ⟨rfl, rfl⟩
   go_wp2_with fail
   refine (isNaN8 b _).mono ?_
   rintro e w2 ⟨rfl, rfl⟩
   go_wp2_with fail
   go_ret
   exact ⟨ret1_i HC.out.symm, rfl⟩
theorem cmp64 (a b : Int) (w : World) : Calls Tryd.prog 66 #[.int .i64 a, .int .i64 b] w fun e w' => e = .returned (.int .i64 (c3 a b)) ∧ w = w' := by
 rcases Int.lt_trichotomy a b with h | h | h
 · have d1 : decide (a < b) = true := by simpa using h
   have HC := Lib.hid (c3_lt h)
   go_enter Tryd.func66, Tryd.ntmps66
   go_wp2_with fail
   refine (isNaN64 a _).mono ?_
   rintro e w1 ⟨rfl, rfl⟩
   go_wp2_with fail
   refine (isNaN64 b _).mono ?_
   rintro e w2 ⟨rfl, rfl⟩
   go_wp2_with fail
   go_ret
   exact ⟨ret1_i HC.out.symm, rfl⟩
 · subst h
   have HC := Lib.hid (c3_eq a)
   have d1 : decide (a < a) = false := by simp
   go_enter Tryd.func66, Tryd.ntmps66
   go_wp2_with fail
   refine (isNaN64 a _).mono ?_
   rintro e w1 ⟨rfl, rfl⟩
   go_wp2_with fail
   refine (isNaN64 a _).mono ?_
   rintro e w2 ⟨rfl, rfl⟩
   go_wp2_with fail
   go_ret
   exact ⟨ret1_i HC.out.symm, rfl⟩
 · have d1 : decide (a < b) = false := by simp; omega
   have d2 : decide (b < a) = true := by simpa using h
   have HC := Lib.hid (c3_gt h)
   go_enter Tryd.func66, Tryd.ntmps66
   go_wp2_with fail
   refine (isNaN64 a _).mono ?_
   rintro e w1 ⟨rfl, rfl⟩
   go_wp2_with fail
   refine (isNaN64 b _).mono ?_
   rintro e w2 ⟨rfl, rfl⟩
   go_wp2_with fail
   go_ret
   exact ⟨ret1_i HC.out.symm, rfl⟩
def or2 (x y : Int) : Int := if x ≠ 0 then x else y
theorem cmpOr (B : Nat) (x y : Int) (w : World) (h0 : w.cell? ⟨B, 0, none⟩ = some (.int .i64 x)) (h1 : w.cell? ⟨B, 1, none⟩ = some (.int .i64 y)) :
  Calls Tryd.prog 50 #[.slice (some ⟨B, 0, none⟩) 2 2] w fun e w' => e = .returned (.int .i64 (or2 x y)) ∧ w = w' := by
 go_enter Tryd.func50, Tryd.ntmps50
 go_wp2_with fail
 go_loop [8] (fun kv => ∃ k : Int, 0 ≤ k ∧ k ≤ 2 ∧ kv = .int .i64 k ∧ (1 ≤ k → x = 0) ∧ (2 ≤ k → y = 0)) (fun kv => (2 - intOf kv).toNat)
 case atStart => exact ⟨0, by omega, by omega, rfl, by omega, by omega⟩
 case round =>
  obtain ⟨k, k0, k2, rfl, hx, hy⟩ := hrel
  have hk : k = 0 ∨ k = 1 ∨ k = 2 := by omega
  clear k0 k2
  rcases hk with rfl | rfl | rfl
  · clear hx hy
    by_cases hx : x = 0
    · subst hx
      go_wp2_with fail
      go_round
      case rel => exact ⟨1, by omega, by omega, rfl, by intros; trivial, by omega⟩
      case measure => simp [intOf]
    · have d : (x != 0) = true := by simpa using hx
      have HC := Lib.hid (show or2 x y = x by unfold or2; rw [if_pos hx])
      go_wp2_with fail
      go_ret
      exact ⟨ret1_i HC.out.symm, rfl⟩
  · obtain rfl := hx (by omega)
    clear hx hy
    by_cases hy : y = 0
    · subst hy
      go_wp2_with fail
      go_round
      case rel => exact ⟨2, by omega, by omega, rfl, by intros; trivial, by intros; trivial⟩
      case measure => simp [intOf]
    · have d : (y != 0) = true := by simpa using hy
      have HC := Lib.hid (show or2 0 y = y by unfold or2; rw [if_neg (by simp)])
      go_wp2_with fail
      go_ret
      exact ⟨ret1_i HC.out.symm, rfl⟩
  · obtain rfl := hx (by omega)
    obtain rfl := hy (by omega)
    clear hx hy
    have HC := Lib.hid (show or2 0 0 = 0 by decide)
    go_wp2_with fail
    go_ret
    exact ⟨ret1_i HC.out.symm, rfl⟩
set_option maxHeartbeats 1000000
theorem eErr_ok {i d : Int} (h : eOk i d) : eErr i d = 0 := by unfold eErr; rw [if_pos h]
theorem eErr_bad {i d : Int} (h : ¬ eOk i d) : eErr i d = 5 := by unfold eErr; rw [if_neg h]
theorem eChk (i d : Int) (w : World) : Calls Tryd.prog 49 #[.agg #[.int .i8 i, .int .i64 d]] w fun e w' => e = .returned (.int .i64 (eErr i d)) ∧ Up w w' := by
 by_cases h0 : i = 0
 · subst h0
   have HE := Lib.hid (eErr_ok (i := 0) (d := d) (Or.inl rfl))
   go_enter Tryd.func49, Tryd.ntmps49
   go_wp2_with fail
   go_ret
   exact ⟨ret1_i HE.out.symm, (Up.refl _).alloc _⟩
 · have c0 : (i == 0) = false := by simpa using h0
   by_cases h1 : i = 1
   · subst h1
     by_cases hd : d = 0
     · subst hd
       have HE := Lib.hid (eErr_ok (i := 1) (d := 0) (Or.inr ⟨Or.inl rfl, rfl⟩))
       go_enter Tryd.func49, Tryd.ntmps49
       go_wp2_with fail
       go_ret
       exact ⟨ret1_i HE.out.symm, (Up.refl _).alloc _⟩
     · have c1 : (d == 0) = false := by simpa using hd
       have HE := Lib.hid (eErr_bad (i := 1) (d := d) (by unfold eOk; omega))
       go_enter Tryd.func49, Tryd.ntmps49
       go_wp2_with fail
       go_ret
       exact ⟨ret1_i HE.out.symm, (Up.refl _).alloc _⟩
   · have c1 : (i == 1) = false := by simpa using h1
     by_cases h2 : i = -1
     · subst h2
       by_cases hd : d = 0
       · subst hd
         have HE := Lib.hid (eErr_ok (i := -1) (d := 0) (Or.inr ⟨Or.inr rfl, rfl⟩))
         go_enter Tryd.func49, Tryd.ntmps49
         go_wp2_with fail
         go_ret
         exact ⟨ret1_i HE.out.symm, (Up.refl _).alloc _⟩
       · have c2 : (d == 0) = false := by simpa using hd
         have HE := Lib.hid (eErr_bad (i := -1) (d := d) (by unfold eOk; omega))
         go_enter Tryd.func49, Tryd.ntmps49
         go_wp2_with fail
         go_ret
         exact ⟨ret1_i HE.out.symm, (Up.refl _).alloc _⟩
     · have c2 : (i == -1) = false := by simpa using h2
       have HE := Lib.hid (eErr_bad (i := i) (d := d) (by unfold eOk; omega))
       go_enter Tryd.func49, Tryd.ntmps49
       go_wp2_with fail
       go_ret
       exact ⟨ret1_i HE.out.symm, (Up.refl _).alloc _⟩
theorem rChk8 (i d : Int) (w : World) : Calls Tryd.prog 47 #[.agg #[.int .i8 i, .int .i64 d]] w fun e w' => e = .returned (.int .i64 (eErr i d)) ∧ Up w w' := by
 by_cases h0 : i = 0
 · subst h0
   have HE := Lib.hid (eErr_ok (i := 0) (d := d) (Or.inl rfl))
   go_enter Tryd.func47, Tryd.ntmps47
   go_wp2_with fail
   go_ret
   exact ⟨ret1_i HE.out.symm, (Up.refl _).alloc _⟩
 · have c0 : (i == 0) = false := by simpa using h0
   by_cases hd : d = 0
   · subst hd
     by_cases h1 : i = 1
     · subst h1
       have HE := Lib.hid (eErr_ok (i := 1) (d := 0) (Or.inr ⟨Or.inl rfl, rfl⟩))
       go_enter Tryd.func47, Tryd.ntmps47
       go_wp2_with fail
       go_ret
       exact ⟨ret1_i HE.out.symm, (Up.refl _).alloc _⟩
     · have c1 : (i == 1) = false := by simpa using h1
       by_cases h2 : i = -1
       · subst h2
         have HE := Lib.hid (eErr_ok (i := -1) (d := 0) (Or.inr ⟨Or.inr rfl, rfl⟩))
         go_enter Tryd.func47, Tryd.ntmps47
         go_wp2_with fail
         go_ret
         exact ⟨ret1_i HE.out.symm, (Up.refl _).alloc _⟩
       · have c2 : (i == -1) = false := by simpa using h2
         have HE := Lib.hid (eErr_bad (i := i) (d := 0) (by unfold eOk; omega))
         go_enter Tryd.func47, Tryd.ntmps47
         go_wp2_with fail
         go_ret
         exact ⟨ret1_i HE.out.symm, (Up.refl _).alloc _⟩
   · have c3 : (d == 0) = false := by simpa using hd
     have HE := Lib.hid (eErr_bad (i := i) (d := d) (by unfold eOk; omega))
     by_cases h1 : i = 1
     · subst h1
       go_enter Tryd.func47, Tryd.ntmps47
       go_wp2_with fail
       go_ret
       exact ⟨ret1_i HE.out.symm, (Up.refl _).alloc _⟩
     · have c1 : (i == 1) = false := by simpa using h1
       by_cases h2 : i = -1
       · subst h2
         go_enter Tryd.func47, Tryd.ntmps47
         go_wp2_with fail
         go_ret
         exact ⟨ret1_i HE.out.symm, (Up.refl _).alloc _⟩
       · have c2 : (i == -1) = false := by simpa using h2
         go_enter Tryd.func47, Tryd.ntmps47
         go_wp2_with fail
         go_ret
         exact ⟨ret1_i HE.out.symm, (Up.refl _).alloc _⟩
theorem eOf (d : Int) (w : World) : Calls Tryd.prog 37 #[.int .i64 d] w fun e w' => e = .returned (.agg #[.int .i8 0, .int .i64 d]) ∧ Up w w' := by
 go_enter Tryd.func37, Tryd.ntmps37
 go_wp2_with fail
 exact bodyPost_ret (v := .agg #[.int .i8 0, .int .i64 d]) (by simp [results, Tryd.results37, go_sem]) rfl ⟨rfl, (Up.refl _).alloc _⟩
theorem kE2 {W w1 w2 : World} {a0 a1 a2 a3 : Addr} {v0 v1 v2 v3 : Value} (k : Up w1 w2) (h : Up W w1 ∧ w1.cell? a0 = some v0 ∧ w1.cell? a1 = some v1 ∧ w1.cell? a2 = some v2 ∧ w1.cell? a3 = some v3) :
  Up W w2 ∧ w2.cell? a0 = some v0 ∧ w2.cell? a1 = some v1 ∧ w2.cell? a2 = some v2 ∧ w2.cell? a3 = some v3 := by
 obtain ⟨h1, c0, c1, c2, c3⟩ := h
 exact ⟨h1.trans k, k.cell c0, k.cell c1, k.cell c2, k.cell c3⟩
theorem eCmp (i d j f : Int) (w : World) : Calls Tryd.prog 41 #[.agg #[.int .i8 i, .int .i64 d], .agg #[.int .i8 j, .int .i64 f]] w fun e w' => e = .returned (.int .i64 (eC i d j f)) ∧ Up w w' := by
 obtain ⟨W, hW⟩ : ∃ W, W = (w.alloc (.cells #[.int .i8 i, .int .i64 d] 27)).alloc (.cells #[.int .i8 j, .int .i64 f] 27) := ⟨_, rfl⟩
 have u : Up w W := by rw [hW]; exact ((Up.refl _).alloc _).alloc _
 have c0 : W.cell? ⟨w.heap.size, 0, none⟩ = some (.int .i8 i) := by rw [hW]; simp [go_sem]
 have c1 : W.cell? ⟨w.heap.size, 1, none⟩ = some (.int .i64 d) := by rw [hW]; simp [go_sem]
 have c2 : W.cell? ⟨w.heap.size + 1, 0, none⟩ = some (.int .i8 j) := by rw [hW]; simp [go_sem]
 have c3' : W.cell? ⟨w.heap.size + 1, 1, none⟩ = some (.int .i64 f) := by rw [hW]; simp [go_sem]
 have hS := kE2 (W := W) (Up.refl W) ⟨Up.refl _, c0, c1, c2, c3'⟩
 have HW := Lib.hid hW
 have HC := Lib.hid (show or2 (c3 i j) (c3 d f) = eC i d j f from rfl)
 clear hW c0 c1 c2 c3'
 go_enter Tryd.func41, Tryd.ntmps41
 go_wp2_with fail
 rw [← HW.out]
 clear HW
 go_region_held3 (fun w' => Up W w' ∧ w'.cell? ⟨w.heap.size, 0, none⟩ = some (.int .i8 i) ∧ w'.cell? ⟨w.heap.size, 1, none⟩ = some (.int .i64 d) ∧ w'.cell? ⟨w.heap.size + 1, 0, none⟩ = some (.int .i8 j) ∧ w'.cell? ⟨w.heap.size + 1, 1, none⟩ = some (.int .i64 f))
  (first | exact kE2 ((Up.refl _).drew) hS | exact kE2 (((Up.refl _).alloc _).drew) hS | assumption)
  (first
   | (go_at_call 65; refine (cmp8 _ _ _).mono ?_; rintro e wa ⟨rfl, rfl⟩)
   | (go_at_call 66; refine (cmp64 _ _ _).mono ?_; rintro e wa ⟨rfl, rfl⟩)
   | (go_at_call 50; refine (cmpOr _ (c3 i j) (c3 d f) _ ?_ ?_).mono ?_; (simp [go_sem]); (simp [go_sem]); rintro e wa ⟨rfl, rfl⟩))
 all_goals
  clear hS
  go_wp2_with fail
  go_ret
  exact ⟨ret1_i HC.out, u.trans (((Up.refl _).alloc _).drew)⟩
theorem eC_lt1 {i d j f : Int} (h : i < j) : eC i d j f = -1 := by unfold eC; rw [c3_lt h]; simp
theorem eC_gt1 {i d j f : Int} (h : j < i) : eC i d j f = 1 := by unfold eC; rw [c3_gt h]; simp
theorem eC_eq1 (i d f : Int) : eC i d i f = c3 d f := by unfold eC; rw [c3_eq]; simp
theorem rCmp8 (i d j f : Int) (w : World) : Calls Tryd.prog 48 #[.agg #[.int .i8 i, .int .i64 d], .agg #[.int .i8 j, .int .i64 f]] w fun e w' => e = .returned (.int .i64 (eC i d j f)) ∧ Up w w' := by
 rcases Int.lt_trichotomy i j with h | h | h
 · have d1 : decide (i < j) = true := by simpa using h
   have HC := Lib.hid (eC_lt1 (d := d) (f := f) h)
   clear h
   go_enter Tryd.func48, Tryd.ntmps48
   go_wp2_with fail
   go_ret
   exact ⟨ret1_i HC.out.symm, ((Up.refl _).alloc _).alloc _⟩
 · subst h
   have e0 := eC_eq1 i d f
   have d0 : decide (i < i) = false := by simp
   rcases Int.lt_trichotomy d f with h | h | h
   · have d1 : decide (d < f) = true := by simpa using h
     have HC := Lib.hid (e0.trans (c3_lt h))
     clear h e0
     go_enter Tryd.func48, Tryd.ntmps48
     go_wp2_with fail
     go_ret
     exact ⟨ret1_i HC.out.symm, ((Up.refl _).alloc _).alloc _⟩
   · subst h
     have HC := Lib.hid (e0.trans (c3_eq d))
     have d1 : decide (d < d) = false := by simp
     clear e0
     go_enter Tryd.func48, Tryd.ntmps48
     go_wp2_with fail
     go_ret
     exact ⟨ret1_i HC.out.symm, ((Up.refl _).alloc _).alloc _⟩
   · have d1 : decide (d < f) = false := by simp; omega
     have d2 : decide (f < d) = true := by simpa using h
     have HC := Lib.hid (e0.trans (c3_gt h))
     clear h e0
     go_enter Tryd.func48, Tryd.ntmps48
     go_wp2_with fail
     go_ret
     exact ⟨ret1_i HC.out.symm, ((Up.refl _).alloc _).alloc _⟩
 · have d1 : decide (i < j) = false := by simp; omega
   have d2 : decide (j < i) = true := by simpa using h
   have HC := Lib.hid (eC_gt1 (d := d) (f := f) h)
   clear h
   go_enter Tryd.func48, Tryd.ntmps48
   go_wp2_with fail
   go_ret
   exact ⟨ret1_i HC.out.symm, ((Up.refl _).alloc _).alloc _⟩
def key (i d : Int) : Int := 36893488147419103232 * i + d
theorem eC_key {i d j f : Int} (hd : I64 d) (hf : I64 f) : eC i d j f = c3 (key i d) (key j f) := by
 unfold I64 at *
 unfold eC c3 key
 repeat' split
 all_goals omega
theorem eC_le {i d j f : Int} (hd : I64 d) (hf : I64 f) : eC i d j f ≤ 0 ↔ key i d ≤ key j f := by
 rw [eC_key hd hf]; unfold c3; repeat' split
 all_goals omega
theorem eC_lt {i d j f : Int} (hd : I64 d) (hf : I64 f) : eC i d j f < 0 ↔ key i d < key j f := by
 rw [eC_key hd hf]; unfold c3; repeat' split
 all_goals omega
theorem eC_gt {i d j f : Int} (hd : I64 d) (hf : I64 f) : 0 < eC i d j f ↔ key j f < key i d := by
 rw [eC_key hd hf]; unfold c3; repeat' split
 all_goals omega
theorem key_inj {i d j f : Int} (hd : I64 d) (hf : I64 f) : key i d = key j f ↔ i = j ∧ d = f := by
 unfold I64 at *
 unfold key
 omega
def rnErr (a b c d : Int) : Int := if ¬ (eOk a b ∧ eOk c d) then 5 else if 0 < a ∨ c < 0 then 4 else if 0 < eC a b c d then 12 else 0
def RnOk (a b c d : Int) : Prop := eOk a b ∧ eOk c d ∧ a ≤ 0 ∧ 0 ≤ c ∧ key a b ≤ key c d
instance decRnOk (a b c d : Int) : Decidable (RnOk a b c d) := by unfold RnOk; infer_instance
theorem rnErr_ok {a b c d : Int} (hb : I64 b) (hd : I64 d) : rnErr a b c d = 0 ↔ RnOk a b c d := by
 have h := eC_gt (i := a) (j := c) hb hd
 unfold rnErr RnOk
 by_cases h1 : eOk a b ∧ eOk c d
 · rw [if_neg (by simpa using h1)]
   by_cases h2 : 0 < a ∨ c < 0
   · rw [if_pos h2]; constructor
     · intro h; cases h
     · rintro ⟨_, _, _, _, _⟩; omega
   · rw [if_neg h2]
     by_cases h3 : 0 < eC a b c d
     · rw [if_pos h3]; constructor
       · intro h; cases h
       · rintro ⟨_, _, _, _, _⟩; omega
     · rw [if_neg h3]; simp only [true_iff]; exact ⟨h1.1, h1.2, by omega, by omega, by omega⟩
 · rw [if_pos h1]; constructor
   · intro h; cases h
   · rintro ⟨h2, h3, _⟩; exact absurd ⟨h2, h3⟩ h1
def mnI (i d j f : Int) : Int := if eC j f i d < 0 then j else i
def mnD (i d j f : Int) : Int := if eC j f i d < 0 then f else d
def mxI (i d j f : Int) : Int := if 0 < eC j f i d then j else i
def mxD (i d j f : Int) : Int := if 0 < eC j f i d then f else d
theorem mn_i64 {i d j f : Int} (hd : I64 d) (hf : I64 f) : I64 (mnD i d j f) := by unfold mnD; split <;> assumption
theorem mx_i64 {i d j f : Int} (hd : I64 d) (hf : I64 f) : I64 (mxD i d j f) := by unfold mxD; split <;> assumption
theorem mn_key {i d j f : Int} (hd : I64 d) (hf : I64 f) : key (mnI i d j f) (mnD i d j f) = min (key i d) (key j f) := by
 have h := eC_lt (i := j) (j := i) hf hd
 unfold mnI mnD
 by_cases hc : eC j f i d < 0
 · rw [if_pos hc, if_pos hc]; omega
 · rw [if_neg hc, if_neg hc]; omega
theorem mx_key {i d j f : Int} (hd : I64 d) (hf : I64 f) : key (mxI i d j f) (mxD i d j f) = max (key i d) (key j f) := by
 have h := eC_gt (i := j) (j := i) hf hd
 unfold mxI mxD
 by_cases hc : 0 < eC j f i d
 · rw [if_pos hc, if_pos hc]; omega
 · rw [if_neg hc, if_neg hc]; omega
def Wi (a b c d e f g h : Int) : Prop := RnOk a b c d ∧ RnOk e f g h ∧ key e f ≤ key a b ∧ key c d ≤ key g h
def Tch (a b c d e f g h : Int) : Prop := RnOk a b c d ∧ RnOk e f g h ∧ key e f ≤ key c d + 1 ∧ key a b ≤ key g h + 1
def Meet (a b c d e f g h : Int) : Prop := RnOk a b c d ∧ RnOk e f g h ∧ key e f ≤ key c d ∧ key a b ≤ key g h
instance decWi (a b c d e f g h : Int) : Decidable (Wi a b c d e f g h) := by unfold Wi; infer_instance
instance decTch (a b c d e f g h : Int) : Decidable (Tch a b c d e f g h) := by unfold Tch; infer_instance
instance decMeet (a b c d e f g h : Int) : Decidable (Meet a b c d e f g h) := by unfold Meet; infer_instance
theorem mn_ok {i d j f : Int} (h : eOk i d) (k : eOk j f) : eOk (mnI i d j f) (mnD i d j f) := by unfold mnI mnD; split <;> assumption
theorem mx_ok {i d j f : Int} (h : eOk i d) (k : eOk j f) : eOk (mxI i d j f) (mxD i d j f) := by unfold mxI mxD; split <;> assumption
theorem common_ok {a b c d e f g h : Int} (hb : I64 b) (hd : I64 d) (hf : I64 f) (hh : I64 h) (h1 : RnOk a b c d) (h2 : RnOk e f g h) :
   RnOk (mxI a b e f) (mxD a b e f) (mnI c d g h) (mnD c d g h) ↔ Meet a b c d e f g h := by
 have k1 := mx_key (i := a) (j := e) hb hf
 have k2 := mn_key (i := c) (j := g) hd hh
 unfold Meet
 constructor
 · rintro ⟨_, _, _, _, hk⟩
   rw [k1, k2] at hk
   have := h1.2.2.2.2
   have := h2.2.2.2.2
   exact ⟨h1, h2, by omega, by omega⟩
 · rintro ⟨_, _, _, _⟩
   refine ⟨mx_ok h1.1 h2.1, mn_ok h1.2.1 h2.2.1, ?_, ?_, ?_⟩
   · have := h1.2.2.1; have := h2.2.2.1; unfold mxI; split <;> assumption
   · have := h1.2.2.2.1; have := h2.2.2.2.1; unfold mnI; split <;> assumption
   · rw [k1, k2]
     have := h1.2.2.2.2
     have := h2.2.2.2.2
     omega
set_option maxHeartbeats 4000000
structure CB (w : World) (B : Nat) (u v : Value) : Prop where
 c0 : w.cell? ⟨B, 0, none⟩ = some u
 c1 : w.cell? ⟨B, 1, none⟩ = some v
 f0 : w.frozen? ⟨B, 0, none⟩ = false
 f1 : w.frozen? ⟨B, 1, none⟩ = false
 lt : B < w.heap.size
theorem CB.dn {w w' : World} {B : Nat} {u v : Value} (h : CB w B u v) (k : Dn w w') : CB w' B u v :=
 ⟨k.cell h.c0, k.cell h.c1, by rw [k.frozen h.lt]; exact h.f0, by rw [k.frozen h.lt]; exact h.f1, Nat.lt_of_lt_of_le h.lt k.size⟩
theorem CB.up {w w' : World} {B : Nat} {u v : Value} (h : CB w B u v) (k : Up w w') : CB w' B u v := h.dn k.dn
theorem CB.alloc {w : World} {B : Nat} {u v : Value} (h : CB w B u v) (o : Obj) : CB (w.alloc o) B u v := h.dn ((Dn.refl _).alloc o)
theorem CB.drew {w : World} {B : Nat} {u v : Value} (h : CB w B u v) : CB w.drew B u v := h.dn (Dn.refl _).drew
theorem CB.new (w : World) (u v : Value) (t : TypeId) : CB (w.alloc (.cells #[u, v] t)) w.heap.size u v := by
 refine ⟨?_, ?_, ?_, ?_, ?_⟩ <;> simp [go_sem]
theorem CB.new1 (w : World) (o : Obj) (u v : Value) (t : TypeId) : CB ((w.alloc o).alloc (.cells #[u, v] t)) (w.heap.size + 1) u v := by
 have := CB.new (w.alloc o) u v t
 simpa using this
theorem CB.new2 (w : World) (o o2 : Obj) (u v : Value) (t : TypeId) : CB (((w.alloc o).alloc o2).alloc (.cells #[u, v] t)) (w.heap.size + 1 + 1) u v := by
 have := CB.new ((w.alloc o).alloc o2) u v t
 simpa using this
def Mv (i d k i' d' e : Int) : Prop := (¬ eOk i d ∧ i' = 0 ∧ d' = 0 ∧ e = 5) ∨ (eOk i d ∧ i ≠ 0 ∧ i' = i ∧ d' = d ∧ e = 0) ∨ (i = 0 ∧ i' = 0 ∧ Fits (d + k) d' e)
theorem eChk_ok (i d : Int) (w : World) (h : eOk i d) : Calls Tryd.prog 49 #[.agg #[.int .i8 i, .int .i64 d]] w fun e w' => e = .returned (.int .i64 0) ∧ Up w w' := by
 have := eChk i d w; rwa [eErr_ok h] at this
theorem eChk_bad (i d : Int) (w : World) (h : ¬ eOk i d) : Calls Tryd.prog 49 #[.agg #[.int .i8 i, .int .i64 d]] w fun e w' => e = .returned (.int .i64 5) ∧ Up w w' := by
 have := eChk i d w; rwa [eErr_bad h] at this
theorem rChk8_ok (i d : Int) (w : World) (h : eOk i d) : Calls Tryd.prog 47 #[.agg #[.int .i8 i, .int .i64 d]] w fun e w' => e = .returned (.int .i64 0) ∧ Up w w' := by
 have := rChk8 i d w; rwa [eErr_ok h] at this
theorem rChk8_bad (i d : Int) (w : World) (h : ¬ eOk i d) : Calls Tryd.prog 47 #[.agg #[.int .i8 i, .int .i64 d]] w fun e w' => e = .returned (.int .i64 5) ∧ Up w w' := by
 have := rChk8 i d w; rwa [eErr_bad h] at this
set_option linter.unusedSimpArgs false in
theorem eMoved (i d k i' d' r : Int) (w : World) (hd : I64 d) (hk : I64 k) (h : Mv i d k i' d' r) :
   Calls Tryd.prog 67 #[.agg #[.int .i8 i, .int .i64 d], .int .i64 k] w fun e w' => e = .returned (.tuple #[.agg #[.int .i8 i', .int .i64 d'], .int .i64 r]) ∧ Up w w' := by
 have b0 := (CB.new w (.int .i8 i) (.int .i64 d) 27).alloc (.cells #[.int .i8 0, .int .i64 0] 27)
 have b1 := CB.new1 w (.cells #[.int .i8 i, .int .i64 d] 27) (.int .i8 0) (.int .i64 0) 27
 have u0 : Up w _ := ((Up.refl w).alloc (.cells #[.int .i8 i, .int .i64 d] 27)).alloc (.cells #[.int .i8 0, .int .i64 0] 27)
 have B0 := Lib.hid b0
 have B1 := Lib.hid b1
 have U0 := Lib.hid u0
 clear b0 b1 u0
 rcases h with ⟨h, rfl, rfl, rfl⟩ | ⟨h, h0, rfl, rfl, rfl⟩ | ⟨rfl, rfl, hf⟩
 · have HE := Lib.hid (fun W => eChk_bad i d W h)
   clear h
   go_enter Tryd.func67, Tryd.ntmps67
   go_wp2_with fail
   refine (HE.out _).mono ?_
   rintro e w1 ⟨rfl, q1⟩
   obtain ⟨c0, c1, f0, f1, l0⟩ := B0.out.up q1
   obtain ⟨c2, c3, f2, f3, l1⟩ := B1.out.up q1
   have u1 := U0.out.trans q1
   clear q1
   go_wp2_with fail
   exact bodyPost_ret (v := .tuple #[.agg #[.int .i8 0, .int .i64 0], .int .i64 5]) (by simp [results, Tryd.results67, go_sem, c0, c1, c2, c3, f0, f1, f2, f3] <;> omega) rfl ⟨rfl, ((((u1.setCell (by simp <;> omega) _).setCell (by simp <;> omega) _).setCell (by simp <;> omega) _).setCell (by simp <;> omega) _)⟩
 · have HE := Lib.hid (fun W => eChk_ok _ _ W h)
   have n0 : (i' != 0) = true := by simpa using h0
   clear h h0
   go_enter Tryd.func67, Tryd.ntmps67
   go_wp2_with fail
   refine (HE.out _).mono ?_
   rintro e w1 ⟨rfl, q1⟩
   obtain ⟨c0, c1, f0, f1, l0⟩ := B0.out.up q1
   obtain ⟨c2, c3, f2, f3, l1⟩ := B1.out.up q1
   have u1 := U0.out.trans q1
   clear q1
   go_wp2_with fail
   exact bodyPost_ret (v := .tuple #[.agg #[.int .i8 _, .int .i64 _], .int .i64 0]) (by simp [results, Tryd.results67, go_sem, c0, c1, c2, c3, f0, f1, f2, f3] <;> omega) rfl ⟨rfl, ((u1.setCell (by simp <;> omega) _).setCell (by simp <;> omega) _)⟩
 · have HE := Lib.hid (fun W => eChk_ok 0 d W (Or.inl rfl))
   have HA := Lib.hid (fun W => add_any d k _ d' r W hd hk rfl hf)
   clear hf
   go_enter Tryd.func67, Tryd.ntmps67
   go_wp2_with fail
   refine (HE.out _).mono ?_
   rintro e w1 ⟨rfl, q1⟩
   have k0 := B0.out.up q1
   have k1 := B1.out.up q1
   have u1 := U0.out.trans q1
   clear q1
   have K0 := Lib.hid k0
   have K1 := Lib.hid k1
   obtain ⟨c0, c1, _, _, _⟩ := k0
   clear k1
   go_wp2_with fail
   refine (HA.out _).mono ?_
   rintro e w2 ⟨rfl, q2⟩
   go_wp2_with fail
   refine (eOf d' _).mono ?_
   rintro e w3 ⟨rfl, q3⟩
   have u3 := (u1.trans q2).trans q3
   obtain ⟨c2, c3, f2, f3, l1⟩ := (K1.out.up q2).up q3
   clear q2 q3 u1 c0 c1
   go_wp2_with fail
   exact bodyPost_ret (v := .tuple #[.agg #[.int .i8 0, .int .i64 d'], .int .i64 r]) (by simp [results, Tryd.results67, go_sem, c2, c3, f2, f3] <;> omega) rfl ⟨rfl, ((u3.setCell (by simp <;> omega) _).setCell (by simp <;> omega) _)⟩
set_option linter.unusedSimpArgs false in
theorem eNext (i d i' d' r : Int) (w : World) (hd : I64 d) (h : Mv i d 1 i' d' r) :
  Calls Tryd.prog 42 #[.agg #[.int .i8 i, .int .i64 d]] w fun e w' => e = .returned (.tuple #[.agg #[.int .i8 i', .int .i64 d'], .int .i64 r]) ∧ Up w w' := by
 have b1 := CB.new1 w (.cells #[.int .i8 i, .int .i64 d] 27) (.int .i8 0) (.int .i64 0) 27
 have u0 : Up w _ := ((Up.refl w).alloc (.cells #[.int .i8 i, .int .i64 d] 27)).alloc (.cells #[.int .i8 0, .int .i64 0] 27)
 have B1 := Lib.hid b1
 have U0 := Lib.hid u0
 have HM := Lib.hid (fun W => eMoved i d 1 i' d' r W hd (by decide) h)
 clear b1 u0 h
 go_enter Tryd.func42, Tryd.ntmps42
 go_wp2_with fail
 refine (HM.out _).mono ?_
 rintro e w1 ⟨rfl, q1⟩
 obtain ⟨c2, c3, f2, f3, l1⟩ := B1.out.up q1
 have u1 := U0.out.trans q1
 clear q1
 go_wp2_with fail
 exact bodyPost_ret (v := .tuple #[.agg #[.int .i8 i', .int .i64 d'], .int .i64 r]) (by simp [results, Tryd.results42, go_sem, c2, c3, f2, f3] <;> omega) rfl ⟨rfl, ((u1.setCell (by simp <;> omega) _).setCell (by simp <;> omega) _)⟩
set_option linter.unusedSimpArgs false in
theorem eMin_2 (i d j f : Int) (w : World) (h : eC j f i d < 0) :
  Calls Tryd.prog 38 #[.agg #[.int .i8 i, .int .i64 d], .agg #[.int .i8 j, .int .i64 f]] w fun e w' => e = .returned (.agg #[.int .i8 j, .int .i64 f]) ∧ Up w w' := by
 have b0 := ((CB.new w (.int .i8 i) (.int .i64 d) 27).alloc (.cells #[.int .i8 j, .int .i64 f] 27)).alloc (.cells #[.int .i8 0, .int .i64 0] 27)
 have b1 := (CB.new1 w (.cells #[.int .i8 i, .int .i64 d] 27) (.int .i8 j) (.int .i64 f) 27).alloc (.cells #[.int .i8 0, .int .i64 0] 27)
 have b2 := CB.new2 w (.cells #[.int .i8 i, .int .i64 d] 27) (.cells #[.int .i8 j, .int .i64 f] 27) (.int .i8 0) (.int .i64 0) 27
 have u0 : Up w _ := (((Up.refl w).alloc (.cells #[.int .i8 i, .int .i64 d] 27)).alloc (.cells #[.int .i8 j, .int .i64 f] 27)).alloc (.cells #[.int .i8 0, .int .i64 0] 27)
 have B0 := Lib.hid b0
 have B1 := Lib.hid b1
 have B2 := Lib.hid b2
 have U0 := Lib.hid u0
 clear b0 b1 b2 u0
 have HC := Lib.hid (fun W => eCmp j f i d W)
 generalize eC j f i d = c at *
 have t : decide (c < 0) = true := by simpa using h
 clear h
 go_enter Tryd.func38, Tryd.ntmps38
 go_wp2_with fail
 refine (HC.out _).mono ?_
 rintro e w1 ⟨rfl, q1⟩
 obtain ⟨c0, c1, _, _, l0⟩ := B0.out.up q1
 obtain ⟨c2, c3, _, _, l1⟩ := B1.out.up q1
 obtain ⟨c4, c5, f4, f5, l2⟩ := B2.out.up q1
 have u1 := U0.out.trans q1
 clear q1
 go_wp2_with fail
 exact bodyPost_ret (v := .agg #[.int .i8 j, .int .i64 f]) (by simp [results, Tryd.results38, go_sem, c0, c1, c2, c3, c4, c5, f4, f5] <;> omega) rfl ⟨rfl, ((u1.setCell (by simp <;> omega) _).setCell (by simp <;> omega) _)⟩
set_option linter.unusedSimpArgs false in
theorem eMin_1 (i d j f : Int) (w : World) (h : ¬ eC j f i d < 0) :
  Calls Tryd.prog 38 #[.agg #[.int .i8 i, .int .i64 d], .agg #[.int .i8 j, .int .i64 f]] w fun e w' => e = .returned (.agg #[.int .i8 i, .int .i64 d]) ∧ Up w w' := by
 have b0 := ((CB.new w (.int .i8 i) (.int .i64 d) 27).alloc (.cells #[.int .i8 j, .int .i64 f] 27)).alloc (.cells #[.int .i8 0, .int .i64 0] 27)
 have b1 := (CB.new1 w (.cells #[.int .i8 i, .int .i64 d] 27) (.int .i8 j) (.int .i64 f) 27).alloc (.cells #[.int .i8 0, .int .i64 0] 27)
 have b2 := CB.new2 w (.cells #[.int .i8 i, .int .i64 d] 27) (.cells #[.int .i8 j, .int .i64 f] 27) (.int .i8 0) (.int .i64 0) 27
 have u0 : Up w _ := (((Up.refl w).alloc (.cells #[.int .i8 i, .int .i64 d] 27)).alloc (.cells #[.int .i8 j, .int .i64 f] 27)).alloc (.cells #[.int .i8 0, .int .i64 0] 27)
 have B0 := Lib.hid b0
 have B1 := Lib.hid b1
 have B2 := Lib.hid b2
 have U0 := Lib.hid u0
 clear b0 b1 b2 u0
 have HC := Lib.hid (fun W => eCmp j f i d W)
 generalize eC j f i d = c at *
 have t : decide (c < 0) = false := by simpa using h
 clear h
 go_enter Tryd.func38, Tryd.ntmps38
 go_wp2_with fail
 refine (HC.out _).mono ?_
 rintro e w1 ⟨rfl, q1⟩
 obtain ⟨c0, c1, _, _, l0⟩ := B0.out.up q1
 obtain ⟨c2, c3, _, _, l1⟩ := B1.out.up q1
 obtain ⟨c4, c5, f4, f5, l2⟩ := B2.out.up q1
 have u1 := U0.out.trans q1
 clear q1
 go_wp2_with fail
 exact bodyPost_ret (v := .agg #[.int .i8 i, .int .i64 d]) (by simp [results, Tryd.results38, go_sem, c0, c1, c2, c3, c4, c5, f4, f5] <;> omega) rfl ⟨rfl, ((u1.setCell (by simp <;> omega) _).setCell (by simp <;> omega) _)⟩
set_option linter.unusedSimpArgs false in
theorem eMax_2 (i d j f : Int) (w : World) (h : 0 < eC j f i d) :
  Calls Tryd.prog 39 #[.agg #[.int .i8 i, .int .i64 d], .agg #[.int .i8 j, .int .i64 f]] w fun e w' => e = .returned (.agg #[.int .i8 j, .int .i64 f]) ∧ Up w w' := by
 have b0 := ((CB.new w (.int .i8 i) (.int .i64 d) 27).alloc (.cells #[.int .i8 j, .int .i64 f] 27)).alloc (.cells #[.int .i8 0, .int .i64 0] 27)
 have b1 := (CB.new1 w (.cells #[.int .i8 i, .int .i64 d] 27) (.int .i8 j) (.int .i64 f) 27).alloc (.cells #[.int .i8 0, .int .i64 0] 27)
 have b2 := CB.new2 w (.cells #[.int .i8 i, .int .i64 d] 27) (.cells #[.int .i8 j, .int .i64 f] 27) (.int .i8 0) (.int .i64 0) 27
 have u0 : Up w _ := (((Up.refl w).alloc (.cells #[.int .i8 i, .int .i64 d] 27)).alloc (.cells #[.int .i8 j, .int .i64 f] 27)).alloc (.cells #[.int .i8 0, .int .i64 0] 27)
 have B0 := Lib.hid b0
 have B1 := Lib.hid b1
 have B2 := Lib.hid b2
 have U0 := Lib.hid u0
 clear b0 b1 b2 u0
 have HC := Lib.hid (fun W => eCmp j f i d W)
 generalize eC j f i d = c at *
 have t : decide (0 < c) = true := by simpa using h
 clear h
 go_enter Tryd.func39, Tryd.ntmps39
 go_wp2_with fail
 refine (HC.out _).mono ?_
 rintro e w1 ⟨rfl, q1⟩
 obtain ⟨c0, c1, _, _, l0⟩ := B0.out.up q1
 obtain ⟨c2, c3, _, _, l1⟩ := B1.out.up q1
 obtain ⟨c4, c5, f4, f5, l2⟩ := B2.out.up q1
 have u1 := U0.out.trans q1
 clear q1
 go_wp2_with fail
 exact bodyPost_ret (v := .agg #[.int .i8 j, .int .i64 f]) (by simp [results, Tryd.results39, go_sem, c0, c1, c2, c3, c4, c5, f4, f5] <;> omega) rfl ⟨rfl, ((u1.setCell (by simp <;> omega) _).setCell (by simp <;> omega) _)⟩
set_option linter.unusedSimpArgs false in
theorem eMax_1 (i d j f : Int) (w : World) (h : ¬ 0 < eC j f i d) :
  Calls Tryd.prog 39 #[.agg #[.int .i8 i, .int .i64 d], .agg #[.int .i8 j, .int .i64 f]] w fun e w' => e = .returned (.agg #[.int .i8 i, .int .i64 d]) ∧ Up w w' := by
 have b0 := ((CB.new w (.int .i8 i) (.int .i64 d) 27).alloc (.cells #[.int .i8 j, .int .i64 f] 27)).alloc (.cells #[.int .i8 0, .int .i64 0] 27)
 have b1 := (CB.new1 w (.cells #[.int .i8 i, .int .i64 d] 27) (.int .i8 j) (.int .i64 f) 27).alloc (.cells #[.int .i8 0, .int .i64 0] 27)
 have b2 := CB.new2 w (.cells #[.int .i8 i, .int .i64 d] 27) (.cells #[.int .i8 j, .int .i64 f] 27) (.int .i8 0) (.int .i64 0) 27
 have u0 : Up w _ := (((Up.refl w).alloc (.cells #[.int .i8 i, .int .i64 d] 27)).alloc (.cells #[.int .i8 j, .int .i64 f] 27)).alloc (.cells #[.int .i8 0, .int .i64 0] 27)
 have B0 := Lib.hid b0
 have B1 := Lib.hid b1
 have B2 := Lib.hid b2
 have U0 := Lib.hid u0
 clear b0 b1 b2 u0
 have HC := Lib.hid (fun W => eCmp j f i d W)
 generalize eC j f i d = c at *
 have t : decide (0 < c) = false := by simpa using h
 clear h
 go_enter Tryd.func39, Tryd.ntmps39
 go_wp2_with fail
 refine (HC.out _).mono ?_
 rintro e w1 ⟨rfl, q1⟩
 obtain ⟨c0, c1, _, _, l0⟩ := B0.out.up q1
 obtain ⟨c2, c3, _, _, l1⟩ := B1.out.up q1
 obtain ⟨c4, c5, f4, f5, l2⟩ := B2.out.up q1
 have u1 := U0.out.trans q1
 clear q1
 go_wp2_with fail
 exact bodyPost_ret (v := .agg #[.int .i8 i, .int .i64 d]) (by simp [results, Tryd.results39, go_sem, c0, c1, c2, c3, c4, c5, f4, f5] <;> omega) rfl ⟨rfl, ((u1.setCell (by simp <;> omega) _).setCell (by simp <;> omega) _)⟩
set_option maxHeartbeats 4000000
set_option maxRecDepth 100000
set_option linter.unusedVariables false
set_option linter.unusedSimpArgs false
theorem prePr28x1 (w : World) (a b c d : Int) : ∃ W1, W1 = w.alloc (.cells #[.int .i8 a, .int .i64 b, .int .i8 c, .int .i64 d] 29) ∧ (Dn w W1) ∧ (W1.cell? ⟨w.heap.size, 0, none⟩ = some (.int .i8 a)) ∧ (W1.cell? ⟨w.heap.size, 1, none⟩ = some (.int .i64 b)) ∧ (W1.cell? ⟨w.heap.size, 2, none⟩ = some (.int .i8 c)) ∧ (W1.cell? ⟨w.heap.size, 3, none⟩ = some (.int .i64 d)) ∧ (w.heap.size < W1.heap.size) := by
  obtain ⟨W1, hW1⟩ : ∃ W1, W1 = w.alloc (.cells #[.int .i8 a, .int .i64 b, .int .i8 c, .int .i64 d] 29) := ⟨_, rfl⟩
  exact ⟨W1, hW1, (by rw [hW1]; exact (Dn.refl _).alloc _), (by rw [hW1]; simp [go_sem]), (by rw [hW1]; simp [go_sem]), (by rw [hW1]; simp [go_sem]), (by rw [hW1]; simp [go_sem]), (by rw [hW1]; simp <;> omega)⟩
theorem rnChk_1 (a b c d : Int) (h1 : ¬ eOk a b) (w : World) :
  Calls Tryd.prog 19 #[.agg #[.int .i8 a, .int .i64 b, .int .i8 c, .int .i64 d]] w fun ro w' => ro = .returned (.int .i64 5) ∧ Dn w w' := by
 have Hh1 := Lib.hid h1
 clear h1
 go_enter Tryd.func19, Tryd.ntmps19
 go_wp2_with fail
 obtain ⟨W1, hW1, uW1, c2, c3, c4, c5, l6⟩ := prePr28x1 w a b c d
 rw [← hW1]
 clear hW1
 refine (eChk_bad a b _ Hh1.out).mono ?_
 rintro e w1 ⟨rfl, qw1⟩
 replace qw1 := qw1.dn
 have l7 := nlt l6 qw1.size
 obtain ⟨c8, c9, c10, c11⟩ := mv4 qw1.cell c2 c3 c4 c5
 clear l6 c2 c3 c4 c5
 have uw1 := uW1.trans qw1
 clear qw1 uW1
 go_wp2_with fail
 go_ret
 exact ⟨rfl, uw1⟩
theorem rnChk_2 (a b c d : Int) (h1 : eOk a b) (h2 : ¬ eOk c d) (w : World) :
  Calls Tryd.prog 19 #[.agg #[.int .i8 a, .int .i64 b, .int .i8 c, .int .i64 d]] w fun ro w' => ro = .returned (.int .i64 5) ∧ Dn w w' := by
 have Hh1 := Lib.hid h1
 have Hh2 := Lib.hid h2
 clear h1 h2
 go_enter Tryd.func19, Tryd.ntmps19
 go_wp2_with fail
 obtain ⟨W1, hW1, uW1, c2, c3, c4, c5, l6⟩ := prePr28x1 w a b c d
 rw [← hW1]
 clear hW1
 refine (eChk_ok a b _ Hh1.out).mono ?_
 rintro e w1 ⟨rfl, qw1⟩
 replace qw1 := qw1.dn
 have l7 := nlt l6 qw1.size
 obtain ⟨c8, c9, a0, a1⟩ := mv4 qw1.cell c2 c3 c4 c5
 clear l6 c2 c3 c4 c5
 have uw1 := uW1.trans qw1
 clear qw1 uW1
 go_wp2_with fail
 refine (eChk_bad c d _ Hh2.out).mono ?_
 rintro e w2 ⟨rfl, qw2⟩
 replace qw2 := qw2.dn
 have a2 := nlt l7 qw2.size
 obtain ⟨a3, a4, a5, a6⟩ := mv4 qw2.cell c8 c9 a0 a1
 clear l7 c8 c9 a0 a1
 have uw2 := uw1.trans qw2
 clear qw2 uw1
 go_wp2_with fail
 go_ret
 exact ⟨rfl, uw2⟩
theorem rnChk_3 (a b c d : Int) (h1 : eOk a b) (h2 : eOk c d) (h3 : 0 < a) (w : World) :
  Calls Tryd.prog 19 #[.agg #[.int .i8 a, .int .i64 b, .int .i8 c, .int .i64 d]] w fun ro w' => ro = .returned (.int .i64 4) ∧ Dn w w' := by
 have Hh1 := Lib.hid h1
 have Hh2 := Lib.hid h2
 clear h1 h2
 have t1 : decide (0 < a) = true := by simpa using h3
 clear h3
 go_enter Tryd.func19, Tryd.ntmps19
 go_wp2_with fail
 obtain ⟨W1, hW1, uW1, c2, c3, c4, c5, l6⟩ := prePr28x1 w a b c d
 rw [← hW1]
 clear hW1
 refine (eChk_ok a b _ Hh1.out).mono ?_
 rintro e w1 ⟨rfl, qw1⟩
 replace qw1 := qw1.dn
 have l7 := nlt l6 qw1.size
 obtain ⟨c8, c9, a0, a1⟩ := mv4 qw1.cell c2 c3 c4 c5
 clear l6 c2 c3 c4 c5
 have uw1 := uW1.trans qw1
 clear qw1 uW1
 go_wp2_with fail
 refine (eChk_ok c d _ Hh2.out).mono ?_
 rintro e w2 ⟨rfl, qw2⟩
 replace qw2 := qw2.dn
 have a2 := nlt l7 qw2.size
 obtain ⟨a3, a4, a5, a6⟩ := mv4 qw2.cell c8 c9 a0 a1
 clear l7 c8 c9 a0 a1
 have uw2 := uw1.trans qw2
 clear qw2 uw1
 go_wp2_with fail
 go_ret
 exact ⟨rfl, uw2⟩
theorem rnChk_4 (a b c d : Int) (h1 : eOk a b) (h2 : eOk c d) (h3 : ¬ 0 < a) (h4 : c < 0) (w : World) :
  Calls Tryd.prog 19 #[.agg #[.int .i8 a, .int .i64 b, .int .i8 c, .int .i64 d]] w fun ro w' => ro = .returned (.int .i64 4) ∧ Dn w w' := by
 have Hh1 := Lib.hid h1
 have Hh2 := Lib.hid h2
 clear h1 h2
 have t1 : decide (0 < a) = false := by simpa using h3
 have t2 : decide (c < 0) = true := by simpa using h4
 clear h3 h4
 go_enter Tryd.func19, Tryd.ntmps19
 go_wp2_with fail
 obtain ⟨W1, hW1, uW1, c2, c3, c4, c5, l6⟩ := prePr28x1 w a b c d
 rw [← hW1]
 clear hW1
 refine (eChk_ok a b _ Hh1.out).mono ?_
 rintro e w1 ⟨rfl, qw1⟩
 replace qw1 := qw1.dn
 have l7 := nlt l6 qw1.size
 obtain ⟨c8, c9, a0, a1⟩ := mv4 qw1.cell c2 c3 c4 c5
 clear l6 c2 c3 c4 c5
 have uw1 := uW1.trans qw1
 clear qw1 uW1
 go_wp2_with fail
 refine (eChk_ok c d _ Hh2.out).mono ?_
 rintro e w2 ⟨rfl, qw2⟩
 replace qw2 := qw2.dn
 have a2 := nlt l7 qw2.size
 obtain ⟨a3, a4, a5, a6⟩ := mv4 qw2.cell c8 c9 a0 a1
 clear l7 c8 c9 a0 a1
 have uw2 := uw1.trans qw2
 clear qw2 uw1
 go_wp2_with fail
 go_ret
 exact ⟨rfl, uw2⟩
theorem rnChk_5 (a b c d : Int) (h1 : eOk a b) (h2 : eOk c d) (h3 : ¬ 0 < a) (h4 : ¬ c < 0) (h5 : 0 < eC a b c d) (w : World) :
  Calls Tryd.prog 19 #[.agg #[.int .i8 a, .int .i64 b, .int .i8 c, .int .i64 d]] w fun ro w' => ro = .returned (.int .i64 12) ∧ Dn w w' := by
 have Hh1 := Lib.hid h1
 have Hh2 := Lib.hid h2
 clear h1 h2
 have t1 : decide (0 < a) = false := by simpa using h3
 have t2 : decide (c < 0) = false := by simpa using h4
 have HC := Lib.hid (fun W => eCmp a b c d W)
 generalize eC a b c d = n at *
 have t3 : decide (0 < n) = true := by simpa using h5
 clear h3 h4 h5
 go_enter Tryd.func19, Tryd.ntmps19
 go_wp2_with fail
 obtain ⟨W1, hW1, uW1, c2, c3, c4, c5, l6⟩ := prePr28x1 w a b c d
 rw [← hW1]
 clear hW1
 refine (eChk_ok a b _ Hh1.out).mono ?_
 rintro e w1 ⟨rfl, qw1⟩
 replace qw1 := qw1.dn
 have l7 := nlt l6 qw1.size
 obtain ⟨c8, c9, a0, a1⟩ := mv4 qw1.cell c2 c3 c4 c5
 clear l6 c2 c3 c4 c5
 have uw1 := uW1.trans qw1
 clear qw1 uW1
 go_wp2_with fail
 refine (eChk_ok c d _ Hh2.out).mono ?_
 rintro e w2 ⟨rfl, qw2⟩
 replace qw2 := qw2.dn
 have a2 := nlt l7 qw2.size
 obtain ⟨a3, a4, a5, a6⟩ := mv4 qw2.cell c8 c9 a0 a1
 clear l7 c8 c9 a0 a1
 have uw2 := uw1.trans qw2
 clear qw2 uw1
 go_wp2_with fail
 refine (HC.out _).mono ?_
 rintro e w3 ⟨rfl, qw3⟩
 replace qw3 := qw3.dn
 have a7 := nlt a2 qw3.size
 obtain ⟨a8, a9, aA, aB⟩ := mv4 qw3.cell a3 a4 a5 a6
 clear a2 a3 a4 a5 a6
 have uw3 := uw2.trans qw3
 clear qw3 uw2
 go_wp2_with fail
 go_ret
 exact ⟨rfl, uw3⟩
theorem rnChk_6 (a b c d : Int) (h1 : eOk a b) (h2 : eOk c d) (h3 : ¬ 0 < a) (h4 : ¬ c < 0) (h5 : ¬ 0 < eC a b c d) (w : World) :
  Calls Tryd.prog 19 #[.agg #[.int .i8 a, .int .i64 b, .int .i8 c, .int .i64 d]] w fun ro w' => ro = .returned (.int .i64 0) ∧ Dn w w' := by
 have Hh1 := Lib.hid h1
 have Hh2 := Lib.hid h2
 clear h1 h2
 have t1 : decide (0 < a) = false := by simpa using h3
 have t2 : decide (c < 0) = false := by simpa using h4
 have HC := Lib.hid (fun W => eCmp a b c d W)
 generalize eC a b c d = n at *
 have t3 : decide (0 < n) = false := by simpa using h5
 clear h3 h4 h5
 go_enter Tryd.func19, Tryd.ntmps19
 go_wp2_with fail
 obtain ⟨W1, hW1, uW1, c2, c3, c4, c5, l6⟩ := prePr28x1 w a b c d
 rw [← hW1]
 clear hW1
 refine (eChk_ok a b _ Hh1.out).mono ?_
 rintro e w1 ⟨rfl, qw1⟩
 replace qw1 := qw1.dn
 have l7 := nlt l6 qw1.size
 obtain ⟨c8, c9, a0, a1⟩ := mv4 qw1.cell c2 c3 c4 c5
 clear l6 c2 c3 c4 c5
 have uw1 := uW1.trans qw1
 clear qw1 uW1
 go_wp2_with fail
 refine (eChk_ok c d _ Hh2.out).mono ?_
 rintro e w2 ⟨rfl, qw2⟩
 replace qw2 := qw2.dn
 have a2 := nlt l7 qw2.size
 obtain ⟨a3, a4, a5, a6⟩ := mv4 qw2.cell c8 c9 a0 a1
 clear l7 c8 c9 a0 a1
 have uw2 := uw1.trans qw2
 clear qw2 uw1
 go_wp2_with fail
 refine (HC.out _).mono ?_
 rintro e w3 ⟨rfl, qw3⟩
 replace qw3 := qw3.dn
 have a7 := nlt a2 qw3.size
 obtain ⟨a8, a9, aA, aB⟩ := mv4 qw3.cell a3 a4 a5 a6
 clear a2 a3 a4 a5 a6
 have uw3 := uw2.trans qw3
 clear qw3 uw2
 go_wp2_with fail
 go_ret
 exact ⟨rfl, uw3⟩
theorem rnChk (a b c d : Int) (w : World) :
   Calls Tryd.prog 19 #[.agg #[.int .i8 a, .int .i64 b, .int .i8 c, .int .i64 d]] w fun e w' => e = .returned (.int .i64 (rnErr a b c d)) ∧ Dn w w' := by
 unfold rnErr
 by_cases h1 : eOk a b
 · by_cases h2 : eOk c d
   · rw [if_neg (by simp [h1, h2])]
     by_cases h3 : 0 < a
     · rw [if_pos (Or.inl h3)]; exact rnChk_3 a b c d h1 h2 h3 w
     · by_cases h4 : c < 0
       · rw [if_pos (Or.inr h4)]; exact rnChk_4 a b c d h1 h2 h3 h4 w
       · rw [if_neg (by omega)]
         by_cases h5 : 0 < eC a b c d
         · rw [if_pos h5]; exact rnChk_5 a b c d h1 h2 h3 h4 h5 w
         · rw [if_neg h5]; exact rnChk_6 a b c d h1 h2 h3 h4 h5 w
   · rw [if_pos (by simp [h2])]; exact rnChk_2 a b c d h1 h2 w
 · rw [if_pos (by simp [h1])]; exact rnChk_1 a b c d h1 w
def ChkIs (a b c d e : Int) : Prop := ∀ W, Calls Tryd.prog 19 #[.agg #[.int .i8 a, .int .i64 b, .int .i8 c, .int .i64 d]] W fun r w' => r = .returned (.int .i64 e) ∧ Dn W w'
theorem prePr28x2 (w : World) (a b c d e f g h : Int) : ∃ W1, W1 = (w.alloc (.cells #[.int .i8 a, .int .i64 b, .int .i8 c, .int .i64 d] 29)).alloc (.cells #[.int .i8 e, .int .i64 f, .int .i8 g, .int .i64 h] 29) ∧ (Dn w W1) ∧ (W1.cell? ⟨w.heap.size, 0, none⟩ = some (.int .i8 a)) ∧ (W1.cell? ⟨w.heap.size, 1, none⟩ = some (.int .i64 b)) ∧ (W1.cell? ⟨w.heap.size, 2, none⟩ = some (.int .i8 c)) ∧ (W1.cell? ⟨w.heap.size, 3, none⟩ = some (.int .i64 d)) ∧ (w.heap.size < W1.heap.size) ∧ (W1.cell? ⟨w.heap.size + 1, 0, none⟩ = some (.int .i8 e)) ∧ (W1.cell? ⟨w.heap.size + 1, 1, none⟩ = some (.int .i64 f)) ∧ (W1.cell? ⟨w.heap.size + 1, 2, none⟩ = some (.int .i8 g)) ∧ (W1.cell? ⟨w.heap.size + 1, 3, none⟩ = some (.int .i64 h)) ∧ (w.heap.size + 1 < W1.heap.size) := by
  obtain ⟨W1, hW1⟩ : ∃ W1, W1 = (w.alloc (.cells #[.int .i8 a, .int .i64 b, .int .i8 c, .int .i64 d] 29)).alloc (.cells #[.int .i8 e, .int .i64 f, .int .i8 g, .int .i64 h] 29) := ⟨_, rfl⟩
  exact ⟨W1, hW1, (by rw [hW1]; exact ((Dn.refl _).alloc _).alloc _), (by rw [hW1]; simp [go_sem]), (by rw [hW1]; simp [go_sem]), (by rw [hW1]; simp [go_sem]), (by rw [hW1]; simp [go_sem]), (by rw [hW1]; simp <;> omega), (by rw [hW1]; simp [go_sem]), (by rw [hW1]; simp [go_sem]), (by rw [hW1]; simp [go_sem]), (by rw [hW1]; simp [go_sem]), (by rw [hW1]; simp <;> omega)⟩
theorem rnRight_1 (a b c d e f g h : Int) (m : Int) (HA : Hid (ChkIs a b c d m)) (h1 : m ≠ 0) (w : World) :
  Calls Tryd.prog 40 #[.agg #[.int .i8 a, .int .i64 b, .int .i8 c, .int .i64 d], .agg #[.int .i8 e, .int .i64 f, .int .i8 g, .int .i64 h]] w fun ro w' => ro = .returned (.bool false) ∧ Dn w w' := by
 have t1 : (m == 0) = false := by simpa using h1
 clear h1
 go_enter Tryd.func40, Tryd.ntmps40
 go_wp2_with fail
 obtain ⟨W1, hW1, uW1, c2, c3, c4, c5, l6, c7, c8, c9, a0, a1⟩ := prePr28x2 w a b c d e f g h
 rw [← hW1]
 clear hW1
 refine (HA.out _).mono ?_
 rintro e w1 ⟨rfl, qw1⟩
 have a2 := nlt l6 qw1.size
 have a7 := nlt a1 qw1.size
 obtain ⟨a3, a4, a5, a6, a8, a9, aA, aB⟩ := mv8 qw1.cell c2 c3 c4 c5 c7 c8 c9 a0
 clear l6 c2 c3 c4 c5 a1 c7 c8 c9 a0
 have uw1 := uW1.trans qw1
 clear qw1 uW1
 go_wp2_with fail
 go_ret
 exact ⟨rfl, uw1⟩
theorem rnRight_2 (a b c d e f g h : Int) (m : Int) (HA : Hid (ChkIs a b c d 0)) (HB : Hid (ChkIs e f g h m)) (h1 : m ≠ 0) (w : World) :
  Calls Tryd.prog 40 #[.agg #[.int .i8 a, .int .i64 b, .int .i8 c, .int .i64 d], .agg #[.int .i8 e, .int .i64 f, .int .i8 g, .int .i64 h]] w fun ro w' => ro = .returned (.bool false) ∧ Dn w w' := by
 have t1 : (m == 0) = false := by simpa using h1
 clear h1
 go_enter Tryd.func40, Tryd.ntmps40
 go_wp2_with fail
 obtain ⟨W1, hW1, uW1, c2, c3, c4, c5, l6, c7, c8, c9, a0, a1⟩ := prePr28x2 w a b c d e f g h
 rw [← hW1]
 clear hW1
 refine (HA.out _).mono ?_
 rintro e w1 ⟨rfl, qw1⟩
 have a2 := nlt l6 qw1.size
 have a7 := nlt a1 qw1.size
 obtain ⟨a3, a4, a5, a6, a8, a9, aA, aB⟩ := mv8 qw1.cell c2 c3 c4 c5 c7 c8 c9 a0
 clear l6 c2 c3 c4 c5 a1 c7 c8 c9 a0
 have uw1 := uW1.trans qw1
 clear qw1 uW1
 go_wp2_with fail
 refine (HB.out _).mono ?_
 rintro e w2 ⟨rfl, qw2⟩
 have aC := nlt a2 qw2.size
 have aH := nlt a7 qw2.size
 obtain ⟨aD, aE, aF, aG, aI, aJ, aK, aL⟩ := mv8 qw2.cell a3 a4 a5 a6 a8 a9 aA aB
 clear a2 a3 a4 a5 a6 a7 a8 a9 aA aB
 have uw2 := uw1.trans qw2
 clear qw2 uw1
 go_wp2_with fail
 go_ret
 exact ⟨rfl, uw2⟩
theorem rnRight_3 (a b c d e f g h : Int) (HA : Hid (ChkIs a b c d 0)) (HB : Hid (ChkIs e f g h 0)) (w : World) :
  Calls Tryd.prog 40 #[.agg #[.int .i8 a, .int .i64 b, .int .i8 c, .int .i64 d], .agg #[.int .i8 e, .int .i64 f, .int .i8 g, .int .i64 h]] w fun ro w' => ro = .returned (.bool true) ∧ Dn w w' := by
 go_enter Tryd.func40, Tryd.ntmps40
 go_wp2_with fail
 obtain ⟨W1, hW1, uW1, c2, c3, c4, c5, l6, c7, c8, c9, a0, a1⟩ := prePr28x2 w a b c d e f g h
 rw [← hW1]
 clear hW1
 refine (HA.out _).mono ?_
 rintro e w1 ⟨rfl, qw1⟩
 have a2 := nlt l6 qw1.size
 have a7 := nlt a1 qw1.size
 obtain ⟨a3, a4, a5, a6, a8, a9, aA, aB⟩ := mv8 qw1.cell c2 c3 c4 c5 c7 c8 c9 a0
 clear l6 c2 c3 c4 c5 a1 c7 c8 c9 a0
 have uw1 := uW1.trans qw1
 clear qw1 uW1
 go_wp2_with fail
 refine (HB.out _).mono ?_
 rintro e w2 ⟨rfl, qw2⟩
 have aC := nlt a2 qw2.size
 have aH := nlt a7 qw2.size
 obtain ⟨aD, aE, aF, aG, aI, aJ, aK, aL⟩ := mv8 qw2.cell a3 a4 a5 a6 a8 a9 aA aB
 clear a2 a3 a4 a5 a6 a7 a8 a9 aA aB
 have uw2 := uw1.trans qw2
 clear qw2 uw1
 go_wp2_with fail
 go_ret
 exact ⟨rfl, uw2⟩
theorem rnRight (a b c d e f g h : Int) (w : World) (hb : I64 b) (hd : I64 d) (hf : I64 f) (hh : I64 h) :
   Calls Tryd.prog 40 #[.agg #[.int .i8 a, .int .i64 b, .int .i8 c, .int .i64 d], .agg #[.int .i8 e, .int .i64 f, .int .i8 g, .int .i64 h]] w fun r w' => r = .returned (.bool (decide (RnOk a b c d ∧ RnOk e f g h))) ∧ Dn w w' := by
 have k1 := rnErr_ok (a := a) (c := c) hb hd
 have k2 := rnErr_ok (a := e) (c := g) hf hh
 have HA : Hid (ChkIs a b c d (rnErr a b c d)) := Lib.hid (rnChk a b c d)
 have HB : Hid (ChkIs e f g h (rnErr e f g h)) := Lib.hid (rnChk e f g h)
 by_cases h1 : RnOk a b c d
 · rw [k1.2 h1] at HA
   by_cases h2 : RnOk e f g h
   · rw [k2.2 h2] at HB
     rw [decide_eq_true ⟨h1, h2⟩]; exact rnRight_3 a b c d e f g h HA HB w
   · rw [decide_eq_false (fun hc => h2 hc.2)]; exact rnRight_2 a b c d e f g h _ HA HB (fun hc => h2 (k2.1 hc)) w
 · rw [decide_eq_false (fun hc => h1 hc.1)]; exact rnRight_1 a b c d e f g h _ HA (fun hc => h1 (k1.1 hc)) w
theorem rnWi_0 (a b c d e f g h m n : Int) (HR : Hid (∀ W, Calls Tryd.prog 40 #[.agg #[.int .i8 a, .int .i64 b, .int .i8 c, .int .i64 d], .agg #[.int .i8 e, .int .i64 f, .int .i8 g, .int .i64 h]] W fun r w' => r = .returned (.bool false) ∧ Dn W w')) (w : World) :
  Calls Tryd.prog 13 #[.agg #[.int .i8 a, .int .i64 b, .int .i8 c, .int .i64 d], .agg #[.int .i8 e, .int .i64 f, .int .i8 g, .int .i64 h]] w fun ro w' => ro = .returned (.bool false) ∧ Dn w w' := by
 go_enter Tryd.func13, Tryd.ntmps13
 go_wp2_with fail
 obtain ⟨W1, hW1, uW1, c2, c3, c4, c5, l6, c7, c8, c9, a0, a1⟩ := prePr28x2 w a b c d e f g h
 rw [← hW1]
 clear hW1
 refine (HR.out _).mono ?_
 rintro e w1 ⟨rfl, qw1⟩
 have a2 := nlt l6 qw1.size
 have a7 := nlt a1 qw1.size
 obtain ⟨a3, a4, a5, a6, a8, a9, aA, aB⟩ := mv8 qw1.cell c2 c3 c4 c5 c7 c8 c9 a0
 clear l6 c2 c3 c4 c5 a1 c7 c8 c9 a0
 have uw1 := uW1.trans qw1
 clear qw1 uW1
 go_wp2_with fail
 go_ret
 exact ⟨rfl, uw1⟩
theorem rnWi_1 (a b c d e f g h m n : Int) (HR : Hid (∀ W, Calls Tryd.prog 40 #[.agg #[.int .i8 a, .int .i64 b, .int .i8 c, .int .i64 d], .agg #[.int .i8 e, .int .i64 f, .int .i8 g, .int .i64 h]] W fun r w' => r = .returned (.bool true) ∧ Dn W w')) (H1 : Hid (∀ W, Calls Tryd.prog 41 #[.agg #[.int .i8 e, .int .i64 f], .agg #[.int .i8 a, .int .i64 b]] W fun r w' => r = .returned (.int .i64 m) ∧ Up W w')) (h1 : ¬ m ≤ 0) (w : World) :
  Calls Tryd.prog 13 #[.agg #[.int .i8 a, .int .i64 b, .int .i8 c, .int .i64 d], .agg #[.int .i8 e, .int .i64 f, .int .i8 g, .int .i64 h]] w fun ro w' => ro = .returned (.bool false) ∧ Dn w w' := by
 have t1 : decide (m ≤ 0) = false := by simpa using h1
 clear h1
 go_enter Tryd.func13, Tryd.ntmps13
 go_wp2_with fail
 obtain ⟨W1, hW1, uW1, c2, c3, c4, c5, l6, c7, c8, c9, a0, a1⟩ := prePr28x2 w a b c d e f g h
 rw [← hW1]
 clear hW1
 refine (HR.out _).mono ?_
 rintro e w1 ⟨rfl, qw1⟩
 have a2 := nlt l6 qw1.size
 have a7 := nlt a1 qw1.size
 obtain ⟨a3, a4, a5, a6, a8, a9, aA, aB⟩ := mv8 qw1.cell c2 c3 c4 c5 c7 c8 c9 a0
 clear l6 c2 c3 c4 c5 a1 c7 c8 c9 a0
 have uw1 := uW1.trans qw1
 clear qw1 uW1
 go_wp2_with fail
 refine (H1.out _).mono ?_
 rintro e w2 ⟨rfl, qw2⟩
 replace qw2 := qw2.dn
 have aC := nlt a2 qw2.size
 have aH := nlt a7 qw2.size
 obtain ⟨aD, aE, aF, aG, aI, aJ, aK, aL⟩ := mv8 qw2.cell a3 a4 a5 a6 a8 a9 aA aB
 clear a2 a3 a4 a5 a6 a7 a8 a9 aA aB
 have uw2 := uw1.trans qw2
 clear qw2 uw1
 go_wp2_with fail
 go_ret
 exact ⟨rfl, uw2⟩
theorem rnWi_2 (a b c d e f g h m n : Int) (HR : Hid (∀ W, Calls Tryd.prog 40 #[.agg #[.int .i8 a, .int .i64 b, .int .i8 c, .int .i64 d], .agg #[.int .i8 e, .int .i64 f, .int .i8 g, .int .i64 h]] W fun r w' => r = .returned (.bool true) ∧ Dn W w')) (H1 : Hid (∀ W, Calls Tryd.prog 41 #[.agg #[.int .i8 e, .int .i64 f], .agg #[.int .i8 a, .int .i64 b]] W fun r w' => r = .returned (.int .i64 m) ∧ Up W w')) (H2 : Hid (∀ W, Calls Tryd.prog 41 #[.agg #[.int .i8 c, .int .i64 d], .agg #[.int .i8 g, .int .i64 h]] W fun r w' => r = .returned (.int .i64 n) ∧ Up W w')) (h1 : m ≤ 0) (h2 : ¬ n ≤ 0) (w : World) :
  Calls Tryd.prog 13 #[.agg #[.int .i8 a, .int .i64 b, .int .i8 c, .int .i64 d], .agg #[.int .i8 e, .int .i64 f, .int .i8 g, .int .i64 h]] w fun ro w' => ro = .returned (.bool false) ∧ Dn w w' := by
 have t1 : decide (m ≤ 0) = true := by simpa using h1
 have t2 : decide (n ≤ 0) = false := by simpa using h2
 clear h1 h2
 go_enter Tryd.func13, Tryd.ntmps13
 go_wp2_with fail
 obtain ⟨W1, hW1, uW1, c2, c3, c4, c5, l6, c7, c8, c9, a0, a1⟩ := prePr28x2 w a b c d e f g h
 rw [← hW1]
 clear hW1
 refine (HR.out _).mono ?_
 rintro e w1 ⟨rfl, qw1⟩
 have a2 := nlt l6 qw1.size
 have a7 := nlt a1 qw1.size
 obtain ⟨a3, a4, a5, a6, a8, a9, aA, aB⟩ := mv8 qw1.cell c2 c3 c4 c5 c7 c8 c9 a0
 clear l6 c2 c3 c4 c5 a1 c7 c8 c9 a0
 have uw1 := uW1.trans qw1
 clear qw1 uW1
 go_wp2_with fail
 refine (H1.out _).mono ?_
 rintro e w2 ⟨rfl, qw2⟩
 replace qw2 := qw2.dn
 have aC := nlt a2 qw2.size
 have aH := nlt a7 qw2.size
 obtain ⟨aD, aE, aF, aG, aI, aJ, aK, aL⟩ := mv8 qw2.cell a3 a4 a5 a6 a8 a9 aA aB
 clear a2 a3 a4 a5 a6 a7 a8 a9 aA aB
 have uw2 := uw1.trans qw2
 clear qw2 uw1
 go_wp2_with fail
 refine (H2.out _).mono ?_
 rintro e w3 ⟨rfl, qw3⟩
 replace qw3 := qw3.dn
 have aM := nlt aC qw3.size
 have aR := nlt aH qw3.size
 obtain ⟨aN, aO, aP, aQ, aS, aT, aU, aV⟩ := mv8 qw3.cell aD aE aF aG aI aJ aK aL
 clear aC aD aE aF aG aH aI aJ aK aL
 have uw3 := uw2.trans qw3
 clear qw3 uw2
 go_wp2_with fail
 go_ret
 exact ⟨rfl, uw3⟩
theorem rnWi_3 (a b c d e f g h m n : Int) (HR : Hid (∀ W, Calls Tryd.prog 40 #[.agg #[.int .i8 a, .int .i64 b, .int .i8 c, .int .i64 d], .agg #[.int .i8 e, .int .i64 f, .int .i8 g, .int .i64 h]] W fun r w' => r = .returned (.bool true) ∧ Dn W w')) (H1 : Hid (∀ W, Calls Tryd.prog 41 #[.agg #[.int .i8 e, .int .i64 f], .agg #[.int .i8 a, .int .i64 b]] W fun r w' => r = .returned (.int .i64 m) ∧ Up W w')) (H2 : Hid (∀ W, Calls Tryd.prog 41 #[.agg #[.int .i8 c, .int .i64 d], .agg #[.int .i8 g, .int .i64 h]] W fun r w' => r = .returned (.int .i64 n) ∧ Up W w')) (h1 : m ≤ 0) (h2 : n ≤ 0) (w : World) :
  Calls Tryd.prog 13 #[.agg #[.int .i8 a, .int .i64 b, .int .i8 c, .int .i64 d], .agg #[.int .i8 e, .int .i64 f, .int .i8 g, .int .i64 h]] w fun ro w' => ro = .returned (.bool true) ∧ Dn w w' := by
 have t1 : decide (m ≤ 0) = true := by simpa using h1
 have t2 : decide (n ≤ 0) = true := by simpa using h2
 clear h1 h2
 go_enter Tryd.func13, Tryd.ntmps13
 go_wp2_with fail
 obtain ⟨W1, hW1, uW1, c2, c3, c4, c5, l6, c7, c8, c9, a0, a1⟩ := prePr28x2 w a b c d e f g h
 rw [← hW1]
 clear hW1
 refine (HR.out _).mono ?_
 rintro e w1 ⟨rfl, qw1⟩
 have a2 := nlt l6 qw1.size
 have a7 := nlt a1 qw1.size
 obtain ⟨a3, a4, a5, a6, a8, a9, aA, aB⟩ := mv8 qw1.cell c2 c3 c4 c5 c7 c8 c9 a0
 clear l6 c2 c3 c4 c5 a1 c7 c8 c9 a0
 have uw1 := uW1.trans qw1
 clear qw1 uW1
 go_wp2_with fail
 refine (H1.out _).mono ?_
 rintro e w2 ⟨rfl, qw2⟩
 replace qw2 := qw2.dn
 have aC := nlt a2 qw2.size
 have aH := nlt a7 qw2.size
 obtain ⟨aD, aE, aF, aG, aI, aJ, aK, aL⟩ := mv8 qw2.cell a3 a4 a5 a6 a8 a9 aA aB
 clear a2 a3 a4 a5 a6 a7 a8 a9 aA aB
 have uw2 := uw1.trans qw2
 clear qw2 uw1
 go_wp2_with fail
 refine (H2.out _).mono ?_
 rintro e w3 ⟨rfl, qw3⟩
 replace qw3 := qw3.dn
 have aM := nlt aC qw3.size
 have aR := nlt aH qw3.size
 obtain ⟨aN, aO, aP, aQ, aS, aT, aU, aV⟩ := mv8 qw3.cell aD aE aF aG aI aJ aK aL
 clear aC aD aE aF aG aH aI aJ aK aL
 have uw3 := uw2.trans qw3
 clear qw3 uw2
 go_wp2_with fail
 go_ret
 exact ⟨rfl, uw3⟩
theorem rnWithin (a b c d e f g h : Int) (w : World) (hb : I64 b) (hd : I64 d) (hf : I64 f) (hh : I64 h) :
   Calls Tryd.prog 13 #[.agg #[.int .i8 a, .int .i64 b, .int .i8 c, .int .i64 d], .agg #[.int .i8 e, .int .i64 f, .int .i8 g, .int .i64 h]] w fun r w' => r = .returned (.bool (decide (Wi a b c d e f g h))) ∧ Dn w w' := by
 have HR := Lib.hid (fun W => rnRight a b c d e f g h W hb hd hf hh)
 have H1 := Lib.hid (fun W => eCmp e f a b W)
 have H2 := Lib.hid (fun W => eCmp c d g h W)
 have k1 := eC_le (i := e) (j := a) hf hb
 have k2 := eC_le (i := c) (j := g) hd hh
 by_cases h0 : RnOk a b c d ∧ RnOk e f g h
 · rw [decide_eq_true h0] at HR
   by_cases h1 : eC e f a b ≤ 0
   · by_cases h2 : eC c d g h ≤ 0
     · rw [decide_eq_true (show Wi a b c d e f g h from ⟨h0.1, h0.2, k1.1 h1, k2.1 h2⟩)]; exact rnWi_3 a b c d e f g h _ _ HR H1 H2 h1 h2 w
     · rw [decide_eq_false (fun hc : Wi a b c d e f g h => h2 (k2.2 hc.2.2.2))]; exact rnWi_2 a b c d e f g h _ _ HR H1 H2 h1 h2 w
   · rw [decide_eq_false (fun hc : Wi a b c d e f g h => h1 (k1.2 hc.2.2.1))]; exact rnWi_1 a b c d e f g h _ 0 HR H1 h1 w
 · rw [decide_eq_false h0] at HR
   rw [decide_eq_false (fun hc : Wi a b c d e f g h => h0 ⟨hc.1, hc.2.1⟩)]; exact rnWi_0 a b c d e f g h 0 0 HR w
end Go.Proofs.YtcdkeiolblifkaaDoor
