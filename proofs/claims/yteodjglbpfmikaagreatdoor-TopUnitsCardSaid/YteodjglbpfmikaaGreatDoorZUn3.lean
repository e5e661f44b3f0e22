/- Walks and laws that the claim's theorem leans on: part 3. -/
import Derived.Test.YteodjglbpfmikaaGreatDoorZUn1
import Derived.Test.YteodjglbpfmikaaGreatDoorZUn2
namespace Go.Proofs.YteodjglbpfmikaaGreatDoor
set_option maxHeartbeats 4000000
open Go.RowKit
structure CB (w : World) (B : Nat) (u v : Value) : Prop where
 c0 : w.cell? ⟨B, 0, none⟩ = some u
 c1 : w.cell? ⟨B, 1, none⟩ = some v
 f0 : w.frozen? ⟨B, 0, none⟩ = false
 f1 : w.frozen? ⟨B, 1, none⟩ = false
 lt : B < w.heap.size
theorem CB.dn {w w' : World} {B : Nat} {u v : Value} (h : CB w B u v) (k : Dn w w') : CB w' B u v :=
 ⟨k.cell h.c0, k.cell h.c1, by rw [k.frozen h.lt]; exact h.f0, by rw [k.frozen h.lt]; exact h.f1, Nat.lt_of_lt_of_le h.lt k.size⟩
theorem CB.up {w w' : World} {B : Nat} {u v : Value} (h : CB w B u v) (k : Up w w') : CB w' B u v := h.dn k.dn
theorem CB.alloc {w : World} {B : Nat} {u v : Value} (h : CB w B u v) (o : Obj) : CB (w.alloc o) B u v := h.dn ((Dn.refl _).alloc o)
theorem CB.drew {w : World} {B : Nat} {u v : Value} (h : CB w B u v) : CB w.drew B u v := h.dn (Dn.refl _).drew
theorem CB.new (w : World) (u v : Value) (t : TypeId) : CB (w.alloc (.cells #[u, v] t)) w.heap.size u v := by
 refine ⟨?_, ?_, ?_, ?_, ?_⟩ <;> simp [go_sem]
theorem CB.new1 (w : World) (o : Obj) (u v : Value) (t : TypeId) : CB ((w.alloc o).alloc (.cells #[u, v] t)) (w.heap.size + 1) u v := by
 have := CB.new (w.alloc o) u v t
 simpa using this
theorem CB.new2 (w : World) (o o2 : Obj) (u v : Value) (t : TypeId) : CB (((w.alloc o).alloc o2).alloc (.cells #[u, v] t)) (w.heap.size + 1 + 1) u v := by
 have := CB.new ((w.alloc o).alloc o2) u v t
 simpa using this
def Mv (i d k i' d' e : Int) : Prop := (¬ eOk i d ∧ i' = 0 ∧ d' = 0 ∧ e = 5) ∨ (eOk i d ∧ i ≠ 0 ∧ i' = i ∧ d' = d ∧ e = 0) ∨ (i = 0 ∧ i' = 0 ∧ Fits (d + k) d' e)
theorem eChk_ok (i d : Int) (w : World) (h : eOk i d) : Calls Tryz.prog 91 #[.agg #[.int .i8 i, .int .i64 d]] w fun e w' => e = .returned (.int .i64 0) ∧ Up w w' := by
 have := eChk i d w; rwa [eErr_ok h] at this
theorem eChk_bad (i d : Int) (w : World) (h : ¬ eOk i d) : Calls Tryz.prog 91 #[.agg #[.int .i8 i, .int .i64 d]] w fun e w' => e = .returned (.int .i64 5) ∧ Up w w' := by
 have := eChk i d w; rwa [eErr_bad h] at this
set_option linter.unusedSimpArgs false in
theorem eMoved (i d k i' d' r : Int) (w : World) (hd : I64 d) (hk : I64 k) (h : Mv i d k i' d' r) :
   Calls Tryz.prog 197 #[.agg #[.int .i8 i, .int .i64 d], .int .i64 k] w fun e w' => e = .returned (.tuple #[.agg #[.int .i8 i', .int .i64 d'], .int .i64 r]) ∧ Up w w' := by
 have b0 := (CB.new w (.int .i8 i) (.int .i64 d) 28).alloc (.cells #[.int .i8 0, .int .i64 0] 28)
 have b1 := CB.new1 w (.cells #[.int .i8 i, .int .i64 d] 28) (.int .i8 0) (.int .i64 0) 28
 have u0 : Up w _ := ((Up.refl w).alloc (.cells #[.int .i8 i, .int .i64 d] 28)).alloc (.cells #[.int .i8 0, .int .i64 0] 28)
 have B0 := Lib.hid b0
 have B1 := Lib.hid b1
 have U0 := Lib.hid u0
 clear b0 b1 u0
 rcases h with ⟨h, rfl, rfl, rfl⟩ | ⟨h, h0, rfl, rfl, rfl⟩ | ⟨rfl, rfl, hf⟩
 · have HE := Lib.hid (fun W => eChk_bad i d W h)
   clear h
   go_enter Tryz.func197, Tryz.ntmps197
   go_wp2_with fail
   refine (HE.out _).mono ?_
   rintro e w1 ⟨rfl, q1⟩
   obtain ⟨c0, c1, f0, f1, l0⟩ := B0.out.up q1
   obtain ⟨c2, c3, f2, f3, l1⟩ := B1.out.up q1
   have u1 := U0.out.trans q1
   clear q1
   go_wp2_with fail
   exact bodyPost_ret (v := .tuple #[.agg #[.int .i8 0, .int .i64 0], .int .i64 5]) (by simp [results, Tryz.results197, go_sem, c0, c1, c2, c3, f0, f1, f2, f3] <;> omega) rfl ⟨rfl, ((((u1.setCell (by simp <;> omega) _).setCell (by simp <;> omega) _).setCell (by simp <;> omega) _).setCell (by simp <;> omega) _)⟩
 · have HE := Lib.hid (fun W => eChk_ok _ _ W h)
   have n0 : (i' != 0) = true := by simpa using h0
   clear h h0
   go_enter Tryz.func197, Tryz.ntmps197
   go_wp2_with fail
   refine (HE.out _).mono ?_
   rintro e w1 ⟨rfl, q1⟩
   obtain ⟨c0, c1, f0, f1, l0⟩ := B0.out.up q1
   obtain ⟨c2, c3, f2, f3, l1⟩ := B1.out.up q1
   have u1 := U0.out.trans q1
   clear q1
   go_wp2_with fail
   exact bodyPost_ret (v := .tuple #[.agg #[.int .i8 _, .int .i64 _], .int .i64 0]) (by simp [results, Tryz.results197, go_sem, c0, c1, c2, c3, f0, f1, f2, f3] <;> omega) rfl ⟨rfl, ((u1.setCell (by simp <;> omega) _).setCell (by simp <;> omega) _)⟩
 · have HE := Lib.hid (fun W => eChk_ok 0 d W (Or.inl rfl))
   have HA := Lib.hid (fun W => add_any d k _ d' r W hd hk rfl hf)
   clear hf
   go_enter Tryz.func197, Tryz.ntmps197
   go_wp2_with fail
   refine (HE.out _).mono ?_
   rintro e w1 ⟨rfl, q1⟩
   have k0 := B0.out.up q1
   have k1 := B1.out.up q1
   have u1 := U0.out.trans q1
   clear q1
   have K0 := Lib.hid k0
   have K1 := Lib.hid k1
   obtain ⟨c0, c1, _, _, _⟩ := k0
   clear k1
   go_wp2_with fail
   refine (HA.out _).mono ?_
   rintro e w2 ⟨rfl, q2⟩
   go_wp2_with fail
   refine (eOf d' _).mono ?_
   rintro e w3 ⟨rfl, q3⟩
   have u3 := (u1.trans q2).trans q3
   obtain ⟨c2, c3, f2, f3, l1⟩ := (K1.out.up q2).up q3
   clear q2 q3 u1 c0 c1
   go_wp2_with fail
   exact bodyPost_ret (v := .tuple #[.agg #[.int .i8 0, .int .i64 d'], .int .i64 r]) (by simp [results, Tryz.results197, go_sem, c2, c3, f2, f3] <;> omega) rfl ⟨rfl, ((u3.setCell (by simp <;> omega) _).setCell (by simp <;> omega) _)⟩
set_option linter.unusedSimpArgs false in
theorem eNext (i d i' d' r : Int) (w : World) (hd : I64 d) (h : Mv i d 1 i' d' r) :
  Calls Tryz.prog 167 #[.agg #[.int .i8 i, .int .i64 d]] w fun e w' => e = .returned (.tuple #[.agg #[.int .i8 i', .int .i64 d'], .int .i64 r]) ∧ Up w w' := by
 have b1 := CB.new1 w (.cells #[.int .i8 i, .int .i64 d] 28) (.int .i8 0) (.int .i64 0) 28
 have u0 : Up w _ := ((Up.refl w).alloc (.cells #[.int .i8 i, .int .i64 d] 28)).alloc (.cells #[.int .i8 0, .int .i64 0] 28)
 have B1 := Lib.hid b1
 have U0 := Lib.hid u0
 have HM := Lib.hid (fun W => eMoved i d 1 i' d' r W hd (by decide) h)
 clear b1 u0 h
 go_enter Tryz.func167, Tryz.ntmps167
 go_wp2_with fail
 refine (HM.out _).mono ?_
 rintro e w1 ⟨rfl, q1⟩
 obtain ⟨c2, c3, f2, f3, l1⟩ := B1.out.up q1
 have u1 := U0.out.trans q1
 clear q1
 go_wp2_with fail
 exact bodyPost_ret (v := .tuple #[.agg #[.int .i8 i', .int .i64 d'], .int .i64 r]) (by simp [results, Tryz.results167, go_sem, c2, c3, f2, f3] <;> omega) rfl ⟨rfl, ((u1.setCell (by simp <;> omega) _).setCell (by simp <;> omega) _)⟩
set_option linter.unusedSimpArgs false in
theorem eMin_2 (i d j f : Int) (w : World) (h : eC j f i d < 0) :
  Calls Tryz.prog 151 #[.agg #[.int .i8 i, .int .i64 d], .agg #[.int .i8 j, .int .i64 f]] w fun e w' => e = .returned (.agg #[.int .i8 j, .int .i64 f]) ∧ Up w w' := by
 have b0 := ((CB.new w (.int .i8 i) (.int .i64 d) 28).alloc (.cells #[.int .i8 j, .int .i64 f] 28)).alloc (.cells #[.int .i8 0, .int .i64 0] 28)
 have b1 := (CB.new1 w (.cells #[.int .i8 i, .int .i64 d] 28) (.int .i8 j) (.int .i64 f) 28).alloc (.cells #[.int .i8 0, .int .i64 0] 28)
 have b2 := CB.new2 w (.cells #[.int .i8 i, .int .i64 d] 28) (.cells #[.int .i8 j, .int .i64 f] 28) (.int .i8 0) (.int .i64 0) 28
 have u0 : Up w _ := (((Up.refl w).alloc (.cells #[.int .i8 i, .int .i64 d] 28)).alloc (.cells #[.int .i8 j, .int .i64 f] 28)).alloc (.cells #[.int .i8 0, .int .i64 0] 28)
 have B0 := Lib.hid b0
 have B1 := Lib.hid b1
 have B2 := Lib.hid b2
 have U0 := Lib.hid u0
 clear b0 b1 b2 u0
 have HC := Lib.hid (fun W => eCmp j f i d W)
 generalize eC j f i d = c at *
 have t : decide (c < 0) = true := by simpa using h
 clear h
 go_enter Tryz.func151, Tryz.ntmps151
 go_wp2_with fail
 refine (HC.out _).mono ?_
 rintro e w1 ⟨rfl, q1⟩
 obtain ⟨c0, c1, _, _, l0⟩ := B0.out.up q1
 obtain ⟨c2, c3, _, _, l1⟩ := B1.out.up q1
 obtain ⟨c4, c5, f4, f5, l2⟩ := B2.out.up q1
 have u1 := U0.out.trans q1
 clear q1
 go_wp2_with fail
 exact bodyPost_ret (v := .agg #[.int .i8 j, .int .i64 f]) (by simp [results, Tryz.results151, go_sem, c0, c1, c2, c3, c4, c5, f4, f5] <;> omega) rfl ⟨rfl, ((u1.setCell (by simp <;> omega) _).setCell (by simp <;> omega) _)⟩
set_option linter.unusedSimpArgs false in
theorem eMin_1 (i d j f : Int) (w : World) (h : ¬ eC j f i d < 0) :
  Calls Tryz.prog 151 #[.agg #[.int .i8 i, .int .i64 d], .agg #[.int .i8 j, .int .i64 f]] w fun e w' => e = .returned (.agg #[.int .i8 i, .int .i64 d]) ∧ Up w w' := by
 have b0 := ((CB.new w (.int .i8 i) (.int .i64 d) 28).alloc (.cells #[.int .i8 j, .int .i64 f] 28)).alloc (.cells #[.int .i8 0, .int .i64 0] 28)
 have b1 := (CB.new1 w (.cells #[.int .i8 i, .int .i64 d] 28) (.int .i8 j) (.int .i64 f) 28).alloc (.cells #[.int .i8 0, .int .i64 0] 28)
 have b2 := CB.new2 w (.cells #[.int .i8 i, .int .i64 d] 28) (.cells #[.int .i8 j, .int .i64 f] 28) (.int .i8 0) (.int .i64 0) 28
 have u0 : Up w _ := (((Up.refl w).alloc (.cells #[.int .i8 i, .int .i64 d] 28)).alloc (.cells #[.int .i8 j, .int .i64 f] 28)).alloc (.cells #[.int .i8 0, .int .i64 0] 28)
 have B0 := Lib.hid b0
 have B1 := Lib.hid b1
 have B2 := Lib.hid b2
 have U0 := Lib.hid u0
 clear b0 b1 b2 u0
 have HC := Lib.hid (fun W => eCmp j f i d W)
 generalize eC j f i d = c at *
 have t : decide (c < 0) = false := by simpa using h
 clear h
 go_enter Tryz.func151, Tryz.ntmps151
 go_wp2_with fail
 refine (HC.out _).mono ?_
 rintro e w1 ⟨rfl, q1⟩
 obtain ⟨c0, c1, _, _, l0⟩ := B0.out.up q1
 obtain ⟨c2, c3, _, _, l1⟩ := B1.out.up q1
 obtain ⟨c4, c5, f4, f5, l2⟩ := B2.out.up q1
 have u1 := U0.out.trans q1
 clear q1
 go_wp2_with fail
 exact bodyPost_ret (v := .agg #[.int .i8 i, .int .i64 d]) (by simp [results, Tryz.results151, go_sem, c0, c1, c2, c3, c4, c5, f4, f5] <;> omega) rfl ⟨rfl, ((u1.setCell (by simp <;> omega) _).setCell (by simp <;> omega) _)⟩
set_option linter.unusedSimpArgs false in
theorem eMax_2 (i d j f : Int) (w : World) (h : 0 < eC j f i d) :
  Calls Tryz.prog 152 #[.agg #[.int .i8 i, .int .i64 d], .agg #[.int .i8 j, .int .i64 f]] w fun e w' => e = .returned (.agg #[.int .i8 j, .int .i64 f]) ∧ Up w w' := by
 have b0 := ((CB.new w (.int .i8 i) (.int .i64 d) 28).alloc (.cells #[.int .i8 j, .int .i64 f] 28)).alloc (.cells #[.int .i8 0, .int .i64 0] 28)
 have b1 := (CB.new1 w (.cells #[.int .i8 i, .int .i64 d] 28) (.int .i8 j) (.int .i64 f) 28).alloc (.cells #[.int .i8 0, .int .i64 0] 28)
 have b2 := CB.new2 w (.cells #[.int .i8 i, .int .i64 d] 28) (.cells #[.int .i8 j, .int .i64 f] 28) (.int .i8 0) (.int .i64 0) 28
 have u0 : Up w _ := (((Up.refl w).alloc (.cells #[.int .i8 i, .int .i64 d] 28)).alloc (.cells #[.int .i8 j, .int .i64 f] 28)).alloc (.cells #[.int .i8 0, .int .i64 0] 28)
 have B0 := Lib.hid b0
 have B1 := Lib.hid b1
 have B2 := Lib.hid b2
 have U0 := Lib.hid u0
 clear b0 b1 b2 u0
 have HC := Lib.hid (fun W => eCmp j f i d W)
 generalize eC j f i d = c at *
 have t : decide (0 < c) = true := by simpa using h
 clear h
 go_enter Tryz.func152, Tryz.ntmps152
 go_wp2_with fail
 refine (HC.out _).mono ?_
 rintro e w1 ⟨rfl, q1⟩
 obtain ⟨c0, c1, _, _, l0⟩ := B0.out.up q1
 obtain ⟨c2, c3, _, _, l1⟩ := B1.out.up q1
 obtain ⟨c4, c5, f4, f5, l2⟩ := B2.out.up q1
 have u1 := U0.out.trans q1
 clear q1
 go_wp2_with fail
 exact bodyPost_ret (v := .agg #[.int .i8 j, .int .i64 f]) (by simp [results, Tryz.results152, go_sem, c0, c1, c2, c3, c4, c5, f4, f5] <;> omega) rfl ⟨rfl, ((u1.setCell (by simp <;> omega) _).setCell (by simp <;> omega) _)⟩
set_option linter.unusedSimpArgs false in
theorem eMax_1 (i d j f : Int) (w : World) (h : ¬ 0 < eC j f i d) :
  Calls Tryz.prog 152 #[.agg #[.int .i8 i, .int .i64 d], .agg #[.int .i8 j, .int .i64 f]] w fun e w' => e = .returned (.agg #[.int .i8 i, .int .i64 d]) ∧ Up w w' := by
 have b0 := ((CB.new w (.int .i8 i) (.int .i64 d) 28).alloc (.cells #[.int .i8 j, .int .i64 f] 28)).alloc (.cells #[.int .i8 0, .int .i64 0] 28)
 have b1 := (CB.new1 w (.cells #[.int .i8 i, .int .i64 d] 28) (.int .i8 j) (.int .i64 f) 28).alloc (.cells #[.int .i8 0, .int .i64 0] 28)
 have b2 := CB.new2 w (.cells #[.int .i8 i, .int .i64 d] 28) (.cells #[.int .i8 j, .int .i64 f] 28) (.int .i8 0) (.int .i64 0) 28
 have u0 : Up w _ := (((Up.refl w).alloc (.cells #[.int .i8 i, .int .i64 d] 28)).alloc (.cells #[.int .i8 j, .int .i64 f] 28)).alloc (.cells #[.int .i8 0, .int .i64 0] 28)
 have B0 := Lib.hid b0
 have B1 := Lib.hid b1
 have B2 := Lib.hid b2
 have U0 := Lib.hid u0
 clear b0 b1 b2 u0
 have HC := Lib.hid (fun W => eCmp j f i d W)
 generalize eC j f i d = c at *
 have t : decide (0 < c) = false := by simpa using h
 clear h
 go_enter Tryz.func152, Tryz.ntmps152
 go_wp2_with fail
 refine (HC.out _).mono ?_
 rintro e w1 ⟨rfl, q1⟩
 obtain ⟨c0, c1, _, _, l0⟩ := B0.out.up q1
 obtain ⟨c2, c3, _, _, l1⟩ := B1.out.up q1
 obtain ⟨c4, c5, f4, f5, l2⟩ := B2.out.up q1
 have u1 := U0.out.trans q1
 clear q1
 go_wp2_with fail
 exact bodyPost_ret (v := .agg #[.int .i8 i, .int .i64 d]) (by simp [results, Tryz.results152, go_sem, c0, c1, c2, c3, c4, c5, f4, f5] <;> omega) rfl ⟨rfl, ((u1.setCell (by simp <;> omega) _).setCell (by simp <;> omega) _)⟩
set_option maxHeartbeats 4000000
set_option maxRecDepth 100000
set_option linter.unusedVariables false
set_option linter.unusedSimpArgs false
theorem preUn48x1 (w : World) (a b c d : Int) : ∃ W1, W1 = w.alloc (.cells #[.int .i8 a, .int .i64 b, .int .i8 c, .int .i64 d] 30) ∧ (Dn w W1) ∧ (W1.cell? ⟨w.heap.size, 0, none⟩ = some (.int .i8 a)) ∧ (W1.cell? ⟨w.heap.size, 1, none⟩ = some (.int .i64 b)) ∧ (W1.cell? ⟨w.heap.size, 2, none⟩ = some (.int .i8 c)) ∧ (W1.cell? ⟨w.heap.size, 3, none⟩ = some (.int .i64 d)) ∧ (w.heap.size < W1.heap.size) := by
  obtain ⟨W1, hW1⟩ : ∃ W1, W1 = w.alloc (.cells #[.int .i8 a, .int .i64 b, .int .i8 c, .int .i64 d] 30) := ⟨_, rfl⟩
  exact ⟨W1, hW1, (by rw [hW1]; exact (Dn.refl _).alloc _), (by rw [hW1]; simp [go_sem]), (by rw [hW1]; simp [go_sem]), (by rw [hW1]; simp [go_sem]), (by rw [hW1]; simp [go_sem]), (by rw [hW1]; simp <;> omega)⟩
theorem rnChk_1 (a b c d : Int) (h1 : ¬ eOk a b) (w : World) :
  Calls Tryz.prog 38 #[.agg #[.int .i8 a, .int .i64 b, .int .i8 c, .int .i64 d]] w fun ro w' => ro = .returned (.int .i64 5) ∧ Dn w w' := by
 have Hh1 := Lib.hid h1
 clear h1
 go_enter Tryz.func38, Tryz.ntmps38
 go_wp2_with fail
 obtain ⟨W1, hW1, uW1, c2, c3, c4, c5, l6⟩ := preUn48x1 w a b c d
 rw [← hW1]
 clear hW1
 refine (eChk_bad a b _ Hh1.out).mono ?_
 rintro e w1 ⟨rfl, qw1⟩
 replace qw1 := qw1.dn
 have l7 := nlt l6 qw1.size
 obtain ⟨c8, c9, c10, c11⟩ := mv4 qw1.cell c2 c3 c4 c5
 clear l6 c2 c3 c4 c5
 have uw1 := uW1.trans qw1
 clear qw1 uW1
 go_wp2_with fail
 go_ret
 exact ⟨rfl, uw1⟩
theorem rnChk_2 (a b c d : Int) (h1 : eOk a b) (h2 : ¬ eOk c d) (w : World) :
  Calls Tryz.prog 38 #[.agg #[.int .i8 a, .int .i64 b, .int .i8 c, .int .i64 d]] w fun ro w' => ro = .returned (.int .i64 5) ∧ Dn w w' := by
 have Hh1 := Lib.hid h1
 have Hh2 := Lib.hid h2
 clear h1 h2
 go_enter Tryz.func38, Tryz.ntmps38
 go_wp2_with fail
 obtain ⟨W1, hW1, uW1, c2, c3, c4, c5, l6⟩ := preUn48x1 w a b c d
 rw [← hW1]
 clear hW1
 refine (eChk_ok a b _ Hh1.out).mono ?_
 rintro e w1 ⟨rfl, qw1⟩
 replace qw1 := qw1.dn
 have l7 := nlt l6 qw1.size
 obtain ⟨c8, c9, a0, a1⟩ := mv4 qw1.cell c2 c3 c4 c5
 clear l6 c2 c3 c4 c5
 have uw1 := uW1.trans qw1
 clear qw1 uW1
 go_wp2_with fail
 refine (eChk_bad c d _ Hh2.out).mono ?_
 rintro e w2 ⟨rfl, qw2⟩
 replace qw2 := qw2.dn
 have a2 := nlt l7 qw2.size
 obtain ⟨a3, a4, a5, a6⟩ := mv4 qw2.cell c8 c9 a0 a1
 clear l7 c8 c9 a0 a1
 have uw2 := uw1.trans qw2
 clear qw2 uw1
 go_wp2_with fail
 go_ret
 exact ⟨rfl, uw2⟩
theorem rnChk_3 (a b c d : Int) (h1 : eOk a b) (h2 : eOk c d) (h3 : 0 < a) (w : World) :
  Calls Tryz.prog 38 #[.agg #[.int .i8 a, .int .i64 b, .int .i8 c, .int .i64 d]] w fun ro w' => ro = .returned (.int .i64 4) ∧ Dn w w' := by
 have Hh1 := Lib.hid h1
 have Hh2 := Lib.hid h2
 clear h1 h2
 have t1 : decide (0 < a) = true := by simpa using h3
 clear h3
 go_enter Tryz.func38, Tryz.ntmps38
 go_wp2_with fail
 obtain ⟨W1, hW1, uW1, c2, c3, c4, c5, l6⟩ := preUn48x1 w a b c d
 rw [← hW1]
 clear hW1
 refine (eChk_ok a b _ Hh1.out).mono ?_
 rintro e w1 ⟨rfl, qw1⟩
 replace qw1 := qw1.dn
 have l7 := nlt l6 qw1.size
 obtain ⟨c8, c9, a0, a1⟩ := mv4 qw1.cell c2 c3 c4 c5
 clear l6 c2 c3 c4 c5
 have uw1 := uW1.trans qw1
 clear qw1 uW1
 go_wp2_with fail
 refine (eChk_ok c d _ Hh2.out).mono ?_
 rintro e w2 ⟨rfl, qw2⟩
 replace qw2 := qw2.dn
 have a2 := nlt l7 qw2.size
 obtain ⟨a3, a4, a5, a6⟩ := mv4 qw2.cell c8 c9 a0 a1
 clear l7 c8 c9 a0 a1
 have uw2 := uw1.trans qw2
 clear qw2 uw1
 go_wp2_with fail
 go_ret
 exact ⟨rfl, uw2⟩
theorem rnChk_4 (a b c d : Int) (h1 : eOk a b) (h2 : eOk c d) (h3 : ¬ 0 < a) (h4 : c < 0) (w : World) :
  Calls Tryz.prog 38 #[.agg #[.int .i8 a, .int .i64 b, .int .i8 c, .int .i64 d]] w fun ro w' => ro = .returned (.int .i64 4) ∧ Dn w w' := by
 have Hh1 := Lib.hid h1
 have Hh2 := Lib.hid h2
 clear h1 h2
 have t1 : decide (0 < a) = false := by simpa using h3
 have t2 : decide (c < 0) = true := by simpa using h4
 clear h3 h4
 go_enter Tryz.func38, Tryz.ntmps38
 go_wp2_with fail
 obtain ⟨W1, hW1, uW1, c2, c3, c4, c5, l6⟩ := preUn48x1 w a b c d
 rw [← hW1]
 clear hW1
 refine (eChk_ok a b _ Hh1.out).mono ?_
 rintro e w1 ⟨rfl, qw1⟩
 replace qw1 := qw1.dn
 have l7 := nlt l6 qw1.size
 obtain ⟨c8, c9, a0, a1⟩ := mv4 qw1.cell c2 c3 c4 c5
 clear l6 c2 c3 c4 c5
 have uw1 := uW1.trans qw1
 clear qw1 uW1
 go_wp2_with fail
 refine (eChk_ok c d _ Hh2.out).mono ?_
 rintro e w2 ⟨rfl, qw2⟩
 replace qw2 := qw2.dn
 have a2 := nlt l7 qw2.size
 obtain ⟨a3, a4, a5, a6⟩ := mv4 qw2.cell c8 c9 a0 a1
 clear l7 c8 c9 a0 a1
 have uw2 := uw1.trans qw2
 clear qw2 uw1
 go_wp2_with fail
 go_ret
 exact ⟨rfl, uw2⟩
theorem rnChk_5 (a b c d : Int) (h1 : eOk a b) (h2 : eOk c d) (h3 : ¬ 0 < a) (h4 : ¬ c < 0) (h5 : 0 < eC a b c d) (w : World) :
  Calls Tryz.prog 38 #[.agg #[.int .i8 a, .int .i64 b, .int .i8 c, .int .i64 d]] w fun ro w' => ro = .returned (.int .i64 12) ∧ Dn w w' := by
 have Hh1 := Lib.hid h1
 have Hh2 := Lib.hid h2
 clear h1 h2
 have t1 : decide (0 < a) = false := by simpa using h3
 have t2 : decide (c < 0) = false := by simpa using h4
 have HC := Lib.hid (fun W => eCmp a b c d W)
 generalize eC a b c d = n at *
 have t3 : decide (0 < n) = true := by simpa using h5
 clear h3 h4 h5
 go_enter Tryz.func38, Tryz.ntmps38
 go_wp2_with fail
 obtain ⟨W1, hW1, uW1, c2, c3, c4, c5, l6⟩ := preUn48x1 w a b c d
 rw [← hW1]
 clear hW1
 refine (eChk_ok a b _ Hh1.out).mono ?_
 rintro e w1 ⟨rfl, qw1⟩
 replace qw1 := qw1.dn
 have l7 := nlt l6 qw1.size
 obtain ⟨c8, c9, a0, a1⟩ := mv4 qw1.cell c2 c3 c4 c5
 clear l6 c2 c3 c4 c5
 have uw1 := uW1.trans qw1
 clear qw1 uW1
 go_wp2_with fail
 refine (eChk_ok c d _ Hh2.out).mono ?_
 rintro e w2 ⟨rfl, qw2⟩
 replace qw2 := qw2.dn
 have a2 := nlt l7 qw2.size
 obtain ⟨a3, a4, a5, a6⟩ := mv4 qw2.cell c8 c9 a0 a1
 clear l7 c8 c9 a0 a1
 have uw2 := uw1.trans qw2
 clear qw2 uw1
 go_wp2_with fail
 refine (HC.out _).mono ?_
 rintro e w3 ⟨rfl, qw3⟩
 replace qw3 := qw3.dn
 have a7 := nlt a2 qw3.size
 obtain ⟨a8, a9, aA, aB⟩ := mv4 qw3.cell a3 a4 a5 a6
 clear a2 a3 a4 a5 a6
 have uw3 := uw2.trans qw3
 clear qw3 uw2
 go_wp2_with fail
 go_ret
 exact ⟨rfl, uw3⟩
theorem rnChk_6 (a b c d : Int) (h1 : eOk a b) (h2 : eOk c d) (h3 : ¬ 0 < a) (h4 : ¬ c < 0) (h5 : ¬ 0 < eC a b c d) (w : World) :
  Calls Tryz.prog 38 #[.agg #[.int .i8 a, .int .i64 b, .int .i8 c, .int .i64 d]] w fun ro w' => ro = .returned (.int .i64 0) ∧ Dn w w' := by
 have Hh1 := Lib.hid h1
 have Hh2 := Lib.hid h2
 clear h1 h2
 have t1 : decide (0 < a) = false := by simpa using h3
 have t2 : decide (c < 0) = false := by simpa using h4
 have HC := Lib.hid (fun W => eCmp a b c d W)
 generalize eC a b c d = n at *
 have t3 : decide (0 < n) = false := by simpa using h5
 clear h3 h4 h5
 go_enter Tryz.func38, Tryz.ntmps38
 go_wp2_with fail
 obtain ⟨W1, hW1, uW1, c2, c3, c4, c5, l6⟩ := preUn48x1 w a b c d
 rw [← hW1]
 clear hW1
 refine (eChk_ok a b _ Hh1.out).mono ?_
 rintro e w1 ⟨rfl, qw1⟩
 replace qw1 := qw1.dn
 have l7 := nlt l6 qw1.size
 obtain ⟨c8, c9, a0, a1⟩ := mv4 qw1.cell c2 c3 c4 c5
 clear l6 c2 c3 c4 c5
 have uw1 := uW1.trans qw1
 clear qw1 uW1
 go_wp2_with fail
 refine (eChk_ok c d _ Hh2.out).mono ?_
 rintro e w2 ⟨rfl, qw2⟩
 replace qw2 := qw2.dn
 have a2 := nlt l7 qw2.size
 obtain ⟨a3, a4, a5, a6⟩ := mv4 qw2.cell c8 c9 a0 a1
 clear l7 c8 c9 a0 a1
 have uw2 := uw1.trans qw2
 clear qw2 uw1
 go_wp2_with fail
 refine (HC.out _).mono ?_
 rintro e w3 ⟨rfl, qw3⟩
 replace qw3 := qw3.dn
 have a7 := nlt a2 qw3.size
 obtain ⟨a8, a9, aA, aB⟩ := mv4 qw3.cell a3 a4 a5 a6
 clear a2 a3 a4 a5 a6
 have uw3 := uw2.trans qw3
 clear qw3 uw2
 go_wp2_with fail
 go_ret
 exact ⟨rfl, uw3⟩
theorem rnChk (a b c d : Int) (w : World) :
   Calls Tryz.prog 38 #[.agg #[.int .i8 a, .int .i64 b, .int .i8 c, .int .i64 d]] w fun e w' => e = .returned (.int .i64 (rnErr a b c d)) ∧ Dn w w' := by
 unfold rnErr
 by_cases h1 : eOk a b
 · by_cases h2 : eOk c d
   · rw [if_neg (by simp [h1, h2])]
     by_cases h3 : 0 < a
     · rw [if_pos (Or.inl h3)]; exact rnChk_3 a b c d h1 h2 h3 w
     · by_cases h4 : c < 0
       · rw [if_pos (Or.inr h4)]; exact rnChk_4 a b c d h1 h2 h3 h4 w
       · rw [if_neg (by omega)]
         by_cases h5 : 0 < eC a b c d
         · rw [if_pos h5]; exact rnChk_5 a b c d h1 h2 h3 h4 h5 w
         · rw [if_neg h5]; exact rnChk_6 a b c d h1 h2 h3 h4 h5 w
   · rw [if_pos (by simp [h2])]; exact rnChk_2 a b c d h1 h2 w
 · rw [if_pos (by simp [h1])]; exact rnChk_1 a b c d h1 w
def ChkIs (a b c d e : Int) : Prop := ∀ W, Calls Tryz.prog 38 #[.agg #[.int .i8 a, .int .i64 b, .int .i8 c, .int .i64 d]] W fun r w' => r = .returned (.int .i64 e) ∧ Dn W w'
theorem preUn48x2 (w : World) (a b c d e f g h : Int) : ∃ W1, W1 = (w.alloc (.cells #[.int .i8 a, .int .i64 b, .int .i8 c, .int .i64 d] 30)).alloc (.cells #[.int .i8 e, .int .i64 f, .int .i8 g, .int .i64 h] 30) ∧ (Dn w W1) ∧ (W1.cell? ⟨w.heap.size, 0, none⟩ = some (.int .i8 a)) ∧ (W1.cell? ⟨w.heap.size, 1, none⟩ = some (.int .i64 b)) ∧ (W1.cell? ⟨w.heap.size, 2, none⟩ = some (.int .i8 c)) ∧ (W1.cell? ⟨w.heap.size, 3, none⟩ = some (.int .i64 d)) ∧ (w.heap.size < W1.heap.size) ∧ (W1.cell? ⟨w.heap.size + 1, 0, none⟩ = some (.int .i8 e)) ∧ (W1.cell? ⟨w.heap.size + 1, 1, none⟩ = some (.int .i64 f)) ∧ (W1.cell? ⟨w.heap.size + 1, 2, none⟩ = some (.int .i8 g)) ∧ (W1.cell? ⟨w.heap.size + 1, 3, none⟩ = some (.int .i64 h)) ∧ (w.heap.size + 1 < W1.heap.size) := by
  obtain ⟨W1, hW1⟩ : ∃ W1, W1 = (w.alloc (.cells #[.int .i8 a, .int .i64 b, .int .i8 c, .int .i64 d] 30)).alloc (.cells #[.int .i8 e, .int .i64 f, .int .i8 g, .int .i64 h] 30) := ⟨_, rfl⟩
  exact ⟨W1, hW1, (by rw [hW1]; exact ((Dn.refl _).alloc _).alloc _), (by rw [hW1]; simp [go_sem]), (by rw [hW1]; simp [go_sem]), (by rw [hW1]; simp [go_sem]), (by rw [hW1]; simp [go_sem]), (by rw [hW1]; simp <;> omega), (by rw [hW1]; simp [go_sem]), (by rw [hW1]; simp [go_sem]), (by rw [hW1]; simp [go_sem]), (by rw [hW1]; simp [go_sem]), (by rw [hW1]; simp <;> omega)⟩
theorem rnRight_1 (a b c d e f g h : Int) (m : Int) (HA : Hid (ChkIs a b c d m)) (h1 : m ≠ 0) (w : World) :
  Calls Tryz.prog 80 #[.agg #[.int .i8 a, .int .i64 b, .int .i8 c, .int .i64 d], .agg #[.int .i8 e, .int .i64 f, .int .i8 g, .int .i64 h]] w fun ro w' => ro = .returned (.bool false) ∧ Dn w w' := by
 have t1 : (m == 0) = false := by simpa using h1
 clear h1
 go_enter Tryz.func80, Tryz.ntmps80
 go_wp2_with fail
 obtain ⟨W1, hW1, uW1, c2, c3, c4, c5, l6, c7, c8, c9, a0, a1⟩ := preUn48x2 w a b c d e f g h
 rw [← hW1]
 clear hW1
 refine (HA.out _).mono ?_
 rintro e w1 ⟨rfl, qw1⟩
 have a2 := nlt l6 qw1.size
 have a7 := nlt a1 qw1.size
 obtain ⟨a3, a4, a5, a6, a8, a9, aA, aB⟩ := mv8 qw1.cell c2 c3 c4 c5 c7 c8 c9 a0
 clear l6 c2 c3 c4 c5 a1 c7 c8 c9 a0
 have uw1 := uW1.trans qw1
 clear qw1 uW1
 go_wp2_with fail
 go_ret
 exact ⟨rfl, uw1⟩
theorem rnRight_2 (a b c d e f g h : Int) (m : Int) (HA : Hid (ChkIs a b c d 0)) (HB : Hid (ChkIs e f g h m)) (h1 : m ≠ 0) (w : World) :
  Calls Tryz.prog 80 #[.agg #[.int .i8 a, .int .i64 b, .int .i8 c, .int .i64 d], .agg #[.int .i8 e, .int .i64 f, .int .i8 g, .int .i64 h]] w fun ro w' => ro = .returned (.bool false) ∧ Dn w w' := by
 have t1 : (m == 0) = false := by simpa using h1
 clear h1
 go_enter Tryz.func80, Tryz.ntmps80
 go_wp2_with fail
 obtain ⟨W1, hW1, uW1, c2, c3, c4, c5, l6, c7, c8, c9, a0, a1⟩ := preUn48x2 w a b c d e f g h
 rw [← hW1]
 clear hW1
 refine (HA.out _).mono ?_
 rintro e w1 ⟨rfl, qw1⟩
 have a2 := nlt l6 qw1.size
 have a7 := nlt a1 qw1.size
 obtain ⟨a3, a4, a5, a6, a8, a9, aA, aB⟩ := mv8 qw1.cell c2 c3 c4 c5 c7 c8 c9 a0
 clear l6 c2 c3 c4 c5 a1 c7 c8 c9 a0
 have uw1 := uW1.trans qw1
 clear qw1 uW1
 go_wp2_with fail
 refine (HB.out _).mono ?_
 rintro e w2 ⟨rfl, qw2⟩
 have aC := nlt a2 qw2.size
 have aH := nlt a7 qw2.size
 obtain ⟨aD, aE, aF, aG, aI, aJ, aK, aL⟩ := mv8 qw2.cell a3 a4 a5 a6 a8 a9 aA aB
 clear a2 a3 a4 a5 a6 a7 a8 a9 aA aB
 have uw2 := uw1.trans qw2
 clear qw2 uw1
 go_wp2_with fail
 go_ret
 exact ⟨rfl, uw2⟩
theorem rnRight_3 (a b c d e f g h : Int) (HA : Hid (ChkIs a b c d 0)) (HB : Hid (ChkIs e f g h 0)) (w : World) :
  Calls Tryz.prog 80 #[.agg #[.int .i8 a, .int .i64 b, .int .i8 c, .int .i64 d], .agg #[.int .i8 e, .int .i64 f, .int .i8 g, .int .i64 h]] w fun ro w' => ro = .returned (.bool true) ∧ Dn w w' := by
 go_enter Tryz.func80, Tryz.ntmps80
 go_wp2_with fail
 obtain ⟨W1, hW1, uW1, c2, c3, c4, c5, l6, c7, c8, c9, a0, a1⟩ := preUn48x2 w a b c d e f g h
 rw [← hW1]
 clear hW1
 refine (HA.out _).mono ?_
 rintro e w1 ⟨rfl, qw1⟩
 have a2 := nlt l6 qw1.size
 have a7 := nlt a1 qw1.size
 obtain ⟨a3, a4, a5, a6, a8, a9, aA, aB⟩ := mv8 qw1.cell c2 c3 c4 c5 c7 c8 c9 a0
 clear l6 c2 c3 c4 c5 a1 c7 c8 c9 a0
 have uw1 := uW1.trans qw1
 clear qw1 uW1
 go_wp2_with fail
 refine (HB.out _).mono ?_
 rintro e w2 ⟨rfl, qw2⟩
 have aC := nlt a2 qw2.size
 have aH := nlt a7 qw2.size
 obtain ⟨aD, aE, aF, aG, aI, aJ, aK, aL⟩ := mv8 qw2.cell a3 a4 a5 a6 a8 a9 aA aB
 clear a2 a3 a4 a5 a6 a7 a8 a9 aA aB
 have uw2 := uw1.trans qw2
 clear qw2 uw1
 go_wp2_with fail
 go_ret
 exact ⟨rfl, uw2⟩
theorem rnRight (a b c d e f g h : Int) (w : World) (hb : I64 b) (hd : I64 d) (hf : I64 f) (hh : I64 h) :
   Calls Tryz.prog 80 #[.agg #[.int .i8 a, .int .i64 b, .int .i8 c, .int .i64 d], .agg #[.int .i8 e, .int .i64 f, .int .i8 g, .int .i64 h]] w fun r w' => r = .returned (.bool (decide (RnOk a b c d ∧ RnOk e f g h))) ∧ Dn w w' := by
 have k1 := rnErr_ok (a := a) (c := c) hb hd
 have k2 := rnErr_ok (a := e) (c := g) hf hh
 have HA : Hid (ChkIs a b c d (rnErr a b c d)) := Lib.hid (rnChk a b c d)
 have HB : Hid (ChkIs e f g h (rnErr e f g h)) := Lib.hid (rnChk e f g h)
 by_cases h1 : RnOk a b c d
 · rw [k1.2 h1] at HA
   by_cases h2 : RnOk e f g h
   · rw [k2.2 h2] at HB
     rw [decide_eq_true ⟨h1, h2⟩]; exact rnRight_3 a b c d e f g h HA HB w
   · rw [decide_eq_false (fun hc => h2 hc.2)]; exact rnRight_2 a b c d e f g h _ HA HB (fun hc => h2 (k2.1 hc)) w
 · rw [decide_eq_false (fun hc => h1 hc.1)]; exact rnRight_1 a b c d e f g h _ HA (fun hc => h1 (k1.1 hc)) w
theorem preUn48x3 (w : World) : ∃ W1, W1 = w.alloc (.cells #[.int .i8 0, .int .i64 0, .int .i8 0, .int .i64 0] 30) ∧ (Dn w W1) ∧ (W1.cell? ⟨w.heap.size, 0, none⟩ = some (.int .i8 0)) ∧ (W1.cell? ⟨w.heap.size, 1, none⟩ = some (.int .i64 0)) ∧ (W1.cell? ⟨w.heap.size, 2, none⟩ = some (.int .i8 0)) ∧ (W1.cell? ⟨w.heap.size, 3, none⟩ = some (.int .i64 0)) ∧ (w.heap.size < W1.heap.size) ∧ (W1.frozen? ⟨w.heap.size, 0, none⟩ = false) ∧ (W1.frozen? ⟨w.heap.size, 1, none⟩ = false) ∧ (W1.frozen? ⟨w.heap.size, 2, none⟩ = false) ∧ (W1.frozen? ⟨w.heap.size, 3, none⟩ = false) := by
  obtain ⟨W1, hW1⟩ : ∃ W1, W1 = w.alloc (.cells #[.int .i8 0, .int .i64 0, .int .i8 0, .int .i64 0] 30) := ⟨_, rfl⟩
  exact ⟨W1, hW1, (by rw [hW1]; exact (Dn.refl _).alloc _), (by rw [hW1]; simp [go_sem]), (by rw [hW1]; simp [go_sem]), (by rw [hW1]; simp [go_sem]), (by rw [hW1]; simp [go_sem]), (by rw [hW1]; simp <;> omega), (by rw [hW1]; simp [go_sem]), (by rw [hW1]; simp [go_sem]), (by rw [hW1]; simp [go_sem]), (by rw [hW1]; simp [go_sem])⟩
theorem rnOf_yes (x y : Int) (h : ¬ y < x) (w : World) :
  Calls Tryz.prog 21 #[.int .i64 x, .int .i64 y] w fun ro w' => ro = .returned (.tuple #[.agg #[.int .i8 0, .int .i64 x, .int .i8 0, .int .i64 y], .int .i64 0]) ∧ Dn w w' := by
 have t1 : decide (y < x) = false := by simpa using h
 clear h
 go_enter Tryz.func21, Tryz.ntmps21
 go_wp2_with fail
 obtain ⟨W1, hW1, uW1, c2, c3, c4, c5, l6, f7, f8, f9, f10⟩ := preUn48x3 w 
 rw [← hW1]
 clear hW1
 refine (eOf x _).mono ?_
 rintro e w1 ⟨rfl, qw1⟩
 replace qw1 := qw1.dn
 have f11 := (qw1.frozen (a := ⟨w.heap.size, 0, none⟩) l6).trans f7
 have f12 := (qw1.frozen (a := ⟨w.heap.size, 1, none⟩) l6).trans f8
 have f13 := (qw1.frozen (a := ⟨w.heap.size, 2, none⟩) l6).trans f9
 have f14 := (qw1.frozen (a := ⟨w.heap.size, 3, none⟩) l6).trans f10
 have a0 := nlt l6 qw1.size
 obtain ⟨a1, a2, a3, a4⟩ := mv4 qw1.cell c2 c3 c4 c5
 clear f7 f8 f9 f10 l6 c2 c3 c4 c5
 have uw1 := uW1.trans qw1
 clear qw1 uW1
 go_wp2_with fail
 refine (eOf y _).mono ?_
 rintro e w2 ⟨rfl, qw2⟩
 replace qw2 := qw2.dn
 have f20 := (qw2.frozen (a := ⟨w.heap.size, 0, none⟩) a0).trans f11
 have f21 := (qw2.frozen (a := ⟨w.heap.size, 1, none⟩) a0).trans f12
 have f22 := (qw2.frozen (a := ⟨w.heap.size, 2, none⟩) a0).trans f13
 have f23 := (qw2.frozen (a := ⟨w.heap.size, 3, none⟩) a0).trans f14
 have a9 := nlt a0 qw2.size
 obtain ⟨a5, a6, a7, a8⟩ := mv4 qw2.cell a1 a2 a3 a4
 clear f11 f12 f13 f14 a0 a1 a2 a3 a4
 have uw2 := uw1.trans qw2
 clear qw2 uw1
 go_wp2_with fail
 exact bodyPost_ret (v := .tuple #[.agg #[.int .i8 0, .int .i64 x, .int .i8 0, .int .i64 y], .int .i64 0]) (by simp [results, Tryz.results21, go_sem, a5, a6, a7, a8, f20, f21, f22, f23] <;> omega) rfl ⟨rfl, ((((uw2.setCell (by simp <;> omega) _).setCell (by simp <;> omega) _).setCell (by simp <;> omega) _).setCell (by simp <;> omega) _)⟩
end Go.Proofs.YteodjglbpfmikaaGreatDoor
