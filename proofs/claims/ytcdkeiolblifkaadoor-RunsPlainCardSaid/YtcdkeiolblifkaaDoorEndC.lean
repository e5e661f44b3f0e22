/-
  WALKS OF circa/ends AND circaref08: moved, Next, Prev, Min, Max; of circalaw08.gives.
-/
import Derived.Test.YtcdkeiolblifkaaDoorEndB
namespace Go.Proofs.YtcdkeiolblifkaaDoor
open Go.RowKit
/-- A block of two cells that may be written. -/
structure CB (w : World) (B : Nat) (u v : Value) : Prop where
  c0 : w.cell? ⟨B, 0, none⟩ = some u
  c1 : w.cell? ⟨B, 1, none⟩ = some v
  f0 : w.frozen? ⟨B, 0, none⟩ = false
  f1 : w.frozen? ⟨B, 1, none⟩ = false
  lt : B < w.heap.size
theorem CB.dn {w w' : World} {B : Nat} {u v : Value} (h : CB w B u v) (k : Dn w w') : CB w' B u v :=
  ⟨k.cell h.c0, k.cell h.c1, by rw [k.frozen h.lt]; exact h.f0, by rw [k.frozen h.lt]; exact h.f1, Nat.lt_of_lt_of_le h.lt k.size⟩
theorem CB.up {w w' : World} {B : Nat} {u v : Value} (h : CB w B u v) (k : Up w w') : CB w' B u v := h.dn k.dn
theorem CB.alloc {w : World} {B : Nat} {u v : Value} (h : CB w B u v) (o : Obj) : CB (w.alloc o) B u v := h.dn ((Dn.refl _).alloc o)
theorem CB.drew {w : World} {B : Nat} {u v : Value} (h : CB w B u v) : CB w.drew B u v := h.dn (Dn.refl _).drew
theorem CB.new (w : World) (u v : Value) (t : TypeId) : CB (w.alloc (.cells #[u, v] t)) w.heap.size u v := by
  refine ⟨?_, ?_, ?_, ?_, ?_⟩ <;> simp [go_sem]
theorem CB.new1 (w : World) (o : Obj) (u v : Value) (t : TypeId) : CB ((w.alloc o).alloc (.cells #[u, v] t)) (w.heap.size + 1) u v := by
  have := CB.new (w.alloc o) u v t
  simpa using this
theorem CB.new2 (w : World) (o o2 : Obj) (u v : Value) (t : TypeId) : CB (((w.alloc o).alloc o2).alloc (.cells #[u, v] t)) (w.heap.size + 1 + 1) u v := by
  have := CB.new ((w.alloc o).alloc o2) u v t
  simpa using this
/-- The end that is k days on, and the error. -/
def Mv (i d k i' d' e : Int) : Prop := (¬ eOk i d ∧ i' = 0 ∧ d' = 0 ∧ e = 5) ∨ (eOk i d ∧ i ≠ 0 ∧ i' = i ∧ d' = d ∧ e = 0) ∨ (i = 0 ∧ i' = 0 ∧ Fits (d + k) d' e)
theorem eChk_ok (i d : Int) (w : World) (h : eOk i d) : Calls Tryd.prog 49 #[.agg #[.int .i8 i, .int .i64 d]] w fun e w' => e = .returned (.int .i64 0) ∧ Up w w' := by
  have := eChk i d w; rwa [eErr_ok h] at this
theorem eChk_bad (i d : Int) (w : World) (h : ¬ eOk i d) : Calls Tryd.prog 49 #[.agg #[.int .i8 i, .int .i64 d]] w fun e w' => e = .returned (.int .i64 5) ∧ Up w w' := by
  have := eChk i d w; rwa [eErr_bad h] at this
theorem rChk8_ok (i d : Int) (w : World) (h : eOk i d) : Calls Tryd.prog 47 #[.agg #[.int .i8 i, .int .i64 d]] w fun e w' => e = .returned (.int .i64 0) ∧ Up w w' := by
  have := rChk8 i d w; rwa [eErr_ok h] at this
theorem rChk8_bad (i d : Int) (w : World) (h : ¬ eOk i d) : Calls Tryd.prog 47 #[.agg #[.int .i8 i, .int .i64 d]] w fun e w' => e = .returned (.int .i64 5) ∧ Up w w' := by
  have := rChk8 i d w; rwa [eErr_bad h] at this
set_option maxHeartbeats 4000000 in
set_option linter.unusedSimpArgs false in
theorem eMoved (i d k i' d' r : Int) (w : World) (hd : I64 d) (hk : I64 k) (h : Mv i d k i' d' r) :
    Calls Tryd.prog 67 #[.agg #[.int .i8 i, .int .i64 d], .int .i64 k] w fun e w' => e = .returned (.tuple #[.agg #[.int .i8 i', .int .i64 d'], .int .i64 r]) ∧ Up w w' := by
  have b0 := (CB.new w (.int .i8 i) (.int .i64 d) 27).alloc (.cells #[.int .i8 0, .int .i64 0] 27)
  have b1 := CB.new1 w (.cells #[.int .i8 i, .int .i64 d] 27) (.int .i8 0) (.int .i64 0) 27
  have u0 : Up w _ := ((Up.refl w).alloc (.cells #[.int .i8 i, .int .i64 d] 27)).alloc (.cells #[.int .i8 0, .int .i64 0] 27)
  have B0 := Lib.hid b0
  have B1 := Lib.hid b1
  have U0 := Lib.hid u0
  clear b0 b1 u0
  rcases h with ⟨h, rfl, rfl, rfl⟩ | ⟨h, h0, rfl, rfl, rfl⟩ | ⟨rfl, rfl, hf⟩
  · have HE := Lib.hid (fun W => eChk_bad i d W h)
    clear h
    go_enter Tryd.func67, Tryd.ntmps67
    go_wp2_with fail
    refine (HE.out _).mono ?_
    rintro e w1 ⟨rfl, q1⟩
    obtain ⟨c0, c1, f0, f1, l0⟩ := B0.out.up q1
    obtain ⟨c2, c3, f2, f3, l1⟩ := B1.out.up q1
    have u1 := U0.out.trans q1
    clear q1
    go_wp2_with fail
    exact bodyPost_ret (v := .tuple #[.agg #[.int .i8 0, .int .i64 0], .int .i64 5]) (by simp [results, Tryd.results67, go_sem, c0, c1, c2, c3, f0, f1, f2, f3] <;> omega) rfl ⟨rfl, ((((u1.setCell (by simp <;> omega) _).setCell (by simp <;> omega) _).setCell (by simp <;> omega) _).setCell (by simp <;> omega) _)⟩
  · have HE := Lib.hid (fun W => eChk_ok _ _ W h)
    have n0 : (i' != 0) = true := by simpa using h0
    clear h h0
    go_enter Tryd.func67, Tryd.ntmps67
    go_wp2_with fail
    refine (HE.out _).mono ?_
    rintro e w1 ⟨rfl, q1⟩
    obtain ⟨c0, c1, f0, f1, l0⟩ := B0.out.up q1
    obtain ⟨c2, c3, f2, f3, l1⟩ := B1.out.up q1
    have u1 := U0.out.trans q1
    clear q1
    go_wp2_with fail
    exact bodyPost_ret (v := .tuple #[.agg #[.int .i8 _, .int .i64 _], .int .i64 0]) (by simp [results, Tryd.results67, go_sem, c0, c1, c2, c3, f0, f1, f2, f3] <;> omega) rfl ⟨rfl, ((u1.setCell (by simp <;> omega) _).setCell (by simp <;> omega) _)⟩
  · have HE := Lib.hid (fun W => eChk_ok 0 d W (Or.inl rfl))
    have HA := Lib.hid (fun W => add_any d k _ d' r W hd hk rfl hf)
    clear hf
    go_enter Tryd.func67, Tryd.ntmps67
    go_wp2_with fail
    refine (HE.out _).mono ?_
    rintro e w1 ⟨rfl, q1⟩
    have k0 := B0.out.up q1
    have k1 := B1.out.up q1
    have u1 := U0.out.trans q1
    clear q1
    have K0 := Lib.hid k0
    have K1 := Lib.hid k1
    obtain ⟨c0, c1, _, _, _⟩ := k0
    clear k1
    go_wp2_with fail
    refine (HA.out _).mono ?_
    rintro e w2 ⟨rfl, q2⟩
    go_wp2_with fail
    refine (eOf d' _).mono ?_
    rintro e w3 ⟨rfl, q3⟩
    have u3 := (u1.trans q2).trans q3
    obtain ⟨c2, c3, f2, f3, l1⟩ := (K1.out.up q2).up q3
    clear q2 q3 u1 c0 c1
    go_wp2_with fail
    exact bodyPost_ret (v := .tuple #[.agg #[.int .i8 0, .int .i64 d'], .int .i64 r]) (by simp [results, Tryd.results67, go_sem, c2, c3, f2, f3] <;> omega) rfl ⟨rfl, ((u3.setCell (by simp <;> omega) _).setCell (by simp <;> omega) _)⟩
set_option maxHeartbeats 4000000 in
set_option linter.unusedSimpArgs false in
theorem eNext (i d i' d' r : Int) (w : World) (hd : I64 d) (h : Mv i d 1 i' d' r) :
    Calls Tryd.prog 42 #[.agg #[.int .i8 i, .int .i64 d]] w fun e w' => e = .returned (.tuple #[.agg #[.int .i8 i', .int .i64 d'], .int .i64 r]) ∧ Up w w' := by
  have b1 := CB.new1 w (.cells #[.int .i8 i, .int .i64 d] 27) (.int .i8 0) (.int .i64 0) 27
  have u0 : Up w _ := ((Up.refl w).alloc (.cells #[.int .i8 i, .int .i64 d] 27)).alloc (.cells #[.int .i8 0, .int .i64 0] 27)
  have B1 := Lib.hid b1
  have U0 := Lib.hid u0
  have HM := Lib.hid (fun W => eMoved i d 1 i' d' r W hd (by decide) h)
  clear b1 u0 h
  go_enter Tryd.func42, Tryd.ntmps42
  go_wp2_with fail
  refine (HM.out _).mono ?_
  rintro e w1 ⟨rfl, q1⟩
  obtain ⟨c2, c3, f2, f3, l1⟩ := B1.out.up q1
  have u1 := U0.out.trans q1
  clear q1
  go_wp2_with fail
  exact bodyPost_ret (v := .tuple #[.agg #[.int .i8 i', .int .i64 d'], .int .i64 r]) (by simp [results, Tryd.results42, go_sem, c2, c3, f2, f3] <;> omega) rfl ⟨rfl, ((u1.setCell (by simp <;> omega) _).setCell (by simp <;> omega) _)⟩
set_option maxHeartbeats 4000000 in
set_option linter.unusedSimpArgs false in
theorem eMin_2 (i d j f : Int) (w : World) (h : eC j f i d < 0) :
    Calls Tryd.prog 38 #[.agg #[.int .i8 i, .int .i64 d], .agg #[.int .i8 j, .int .i64 f]] w fun e w' => e = .returned (.agg #[.int .i8 j, .int .i64 f]) ∧ Up w w' := by
  have b0 := ((CB.new w (.int .i8 i) (.int .i64 d) 27).alloc (.cells #[.int .i8 j, .int .i64 f] 27)).alloc (.cells #[.int .i8 0, .int .i64 0] 27)
  have b1 := (CB.new1 w (.cells #[.int .i8 i, .int .i64 d] 27) (.int .i8 j) (.int .i64 f) 27).alloc (.cells #[.int .i8 0, .int .i64 0] 27)
  have b2 := CB.new2 w (.cells #[.int .i8 i, .int .i64 d] 27) (.cells #[.int .i8 j, .int .i64 f] 27) (.int .i8 0) (.int .i64 0) 27
  have u0 : Up w _ := (((Up.refl w).alloc (.cells #[.int .i8 i, .int .i64 d] 27)).alloc (.cells #[.int .i8 j, .int .i64 f] 27)).alloc (.cells #[.int .i8 0, .int .i64 0] 27)
  have B0 := Lib.hid b0
  have B1 := Lib.hid b1
  have B2 := Lib.hid b2
  have U0 := Lib.hid u0
  clear b0 b1 b2 u0
  have HC := Lib.hid (fun W => eCmp j f i d W)
  generalize eC j f i d = c at *
  have t : decide (c < 0) = true := by simpa using h
  clear h
  go_enter Tryd.func38, Tryd.ntmps38
  go_wp2_with fail
  refine (HC.out _).mono ?_
  rintro e w1 ⟨rfl, q1⟩
  obtain ⟨c0, c1, _, _, l0⟩ := B0.out.up q1
  obtain ⟨c2, c3, _, _, l1⟩ := B1.out.up q1
  obtain ⟨c4, c5, f4, f5, l2⟩ := B2.out.up q1
  have u1 := U0.out.trans q1
  clear q1
  go_wp2_with fail
  exact bodyPost_ret (v := .agg #[.int .i8 j, .int .i64 f]) (by simp [results, Tryd.results38, go_sem, c0, c1, c2, c3, c4, c5, f4, f5] <;> omega) rfl ⟨rfl, ((u1.setCell (by simp <;> omega) _).setCell (by simp <;> omega) _)⟩
set_option maxHeartbeats 4000000 in
set_option linter.unusedSimpArgs false in
theorem eMin_1 (i d j f : Int) (w : World) (h : ¬ eC j f i d < 0) :
    Calls Tryd.prog 38 #[.agg #[.int .i8 i, .int .i64 d], .agg #[.int .i8 j, .int .i64 f]] w fun e w' => e = .returned (.agg #[.int .i8 i, .int .i64 d]) ∧ Up w w' := by
  have b0 := ((CB.new w (.int .i8 i) (.int .i64 d) 27).alloc (.cells #[.int .i8 j, .int .i64 f] 27)).alloc (.cells #[.int .i8 0, .int .i64 0] 27)
  have b1 := (CB.new1 w (.cells #[.int .i8 i, .int .i64 d] 27) (.int .i8 j) (.int .i64 f) 27).alloc (.cells #[.int .i8 0, .int .i64 0] 27)
  have b2 := CB.new2 w (.cells #[.int .i8 i, .int .i64 d] 27) (.cells #[.int .i8 j, .int .i64 f] 27) (.int .i8 0) (.int .i64 0) 27
  have u0 : Up w _ := (((Up.refl w).alloc (.cells #[.int .i8 i, .int .i64 d] 27)).alloc (.cells #[.int .i8 j, .int .i64 f] 27)).alloc (.cells #[.int .i8 0, .int .i64 0] 27)
  have B0 := Lib.hid b0
  have B1 := Lib.hid b1
  have B2 := Lib.hid b2
  have U0 := Lib.hid u0
  clear b0 b1 b2 u0
  have HC := Lib.hid (fun W => eCmp j f i d W)
  generalize eC j f i d = c at *
  have t : decide (c < 0) = false := by simpa using h
  clear h
  go_enter Tryd.func38, Tryd.ntmps38
  go_wp2_with fail
  refine (HC.out _).mono ?_
  rintro e w1 ⟨rfl, q1⟩
  obtain ⟨c0, c1, _, _, l0⟩ := B0.out.up q1
  obtain ⟨c2, c3, _, _, l1⟩ := B1.out.up q1
  obtain ⟨c4, c5, f4, f5, l2⟩ := B2.out.up q1
  have u1 := U0.out.trans q1
  clear q1
  go_wp2_with fail
  exact bodyPost_ret (v := .agg #[.int .i8 i, .int .i64 d]) (by simp [results, Tryd.results38, go_sem, c0, c1, c2, c3, c4, c5, f4, f5] <;> omega) rfl ⟨rfl, ((u1.setCell (by simp <;> omega) _).setCell (by simp <;> omega) _)⟩
set_option maxHeartbeats 4000000 in
set_option linter.unusedSimpArgs false in
theorem eMax_2 (i d j f : Int) (w : World) (h : 0 < eC j f i d) :
    Calls Tryd.prog 39 #[.agg #[.int .i8 i, .int .i64 d], .agg #[.int .i8 j, .int .i64 f]] w fun e w' => e = .returned (.agg #[.int .i8 j, .int .i64 f]) ∧ Up w w' := by
  have b0 := ((CB.new w (.int .i8 i) (.int .i64 d) 27).alloc (.cells #[.int .i8 j, .int .i64 f] 27)).alloc (.cells #[.int .i8 0, .int .i64 0] 27)
  have b1 := (CB.new1 w (.cells #[.int .i8 i, .int .i64 d] 27) (.int .i8 j) (.int .i64 f) 27).alloc (.cells #[.int .i8 0, .int .i64 0] 27)
  have b2 := CB.new2 w (.cells #[.int .i8 i, .int .i64 d] 27) (.cells #[.int .i8 j, .int .i64 f] 27) (.int .i8 0) (.int .i64 0) 27
  have u0 : Up w _ := (((Up.refl w).alloc (.cells #[.int .i8 i, .int .i64 d] 27)).alloc (.cells #[.int .i8 j, .int .i64 f] 27)).alloc (.cells #[.int .i8 0, .int .i64 0] 27)
  have B0 := Lib.hid b0
  have B1 := Lib.hid b1
  have B2 := Lib.hid b2
  have U0 := Lib.hid u0
  clear b0 b1 b2 u0
  have HC := Lib.hid (fun W => eCmp j f i d W)
  generalize eC j f i d = c at *
  have t : decide (0 < c) = true := by simpa using h
  clear h
  go_enter Tryd.func39, Tryd.ntmps39
  go_wp2_with fail
  refine (HC.out _).mono ?_
  rintro e w1 ⟨rfl, q1⟩
  obtain ⟨c0, c1, _, _, l0⟩ := B0.out.up q1
  obtain ⟨c2, c3, _, _, l1⟩ := B1.out.up q1
  obtain ⟨c4, c5, f4, f5, l2⟩ := B2.out.up q1
  have u1 := U0.out.trans q1
  clear q1
  go_wp2_with fail
  exact bodyPost_ret (v := .agg #[.int .i8 j, .int .i64 f]) (by simp [results, Tryd.results39, go_sem, c0, c1, c2, c3, c4, c5, f4, f5] <;> omega) rfl ⟨rfl, ((u1.setCell (by simp <;> omega) _).setCell (by simp <;> omega) _)⟩
set_option maxHeartbeats 4000000 in
set_option linter.unusedSimpArgs false in
theorem eMax_1 (i d j f : Int) (w : World) (h : ¬ 0 < eC j f i d) :
    Calls Tryd.prog 39 #[.agg #[.int .i8 i, .int .i64 d], .agg #[.int .i8 j, .int .i64 f]] w fun e w' => e = .returned (.agg #[.int .i8 i, .int .i64 d]) ∧ Up w w' := by
  have b0 := ((CB.new w (.int .i8 i) (.int .i64 d) 27).alloc (.cells #[.int .i8 j, .int .i64 f] 27)).alloc (.cells #[.int .i8 0, .int .i64 0] 27)
  have b1 := (CB.new1 w (.cells #[.int .i8 i, .int .i64 d] 27) (.int .i8 j) (.int .i64 f) 27).alloc (.cells #[.int .i8 0, .int .i64 0] 27)
  have b2 := CB.new2 w (.cells #[.int .i8 i, .int .i64 d] 27) (.cells #[.int .i8 j, .int .i64 f] 27) (.int .i8 0) (.int .i64 0) 27
  have u0 : Up w _ := (((Up.refl w).alloc (.cells #[.int .i8 i, .int .i64 d] 27)).alloc (.cells #[.int .i8 j, .int .i64 f] 27)).alloc (.cells #[.int .i8 0, .int .i64 0] 27)
  have B0 := Lib.hid b0
  have B1 := Lib.hid b1
  have B2 := Lib.hid b2
  have U0 := Lib.hid u0
  clear b0 b1 b2 u0
  have HC := Lib.hid (fun W => eCmp j f i d W)
  generalize eC j f i d = c at *
  have t : decide (0 < c) = false := by simpa using h
  clear h
  go_enter Tryd.func39, Tryd.ntmps39
  go_wp2_with fail
  refine (HC.out _).mono ?_
  rintro e w1 ⟨rfl, q1⟩
  obtain ⟨c0, c1, _, _, l0⟩ := B0.out.up q1
  obtain ⟨c2, c3, _, _, l1⟩ := B1.out.up q1
  obtain ⟨c4, c5, f4, f5, l2⟩ := B2.out.up q1
  have u1 := U0.out.trans q1
  clear q1
  go_wp2_with fail
  exact bodyPost_ret (v := .agg #[.int .i8 i, .int .i64 d]) (by simp [results, Tryd.results39, go_sem, c0, c1, c2, c3, c4, c5, f4, f5] <;> omega) rfl ⟨rfl, ((u1.setCell (by simp <;> omega) _).setCell (by simp <;> omega) _)⟩
end Go.Proofs.YtcdkeiolblifkaaDoor
