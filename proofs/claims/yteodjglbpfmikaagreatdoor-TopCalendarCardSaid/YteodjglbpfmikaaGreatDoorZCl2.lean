/- Walks and laws that the claim's theorem leans on: part 2. -/
import Derived.Test.YteodjglbpfmikaaGreatDoorZCl1
import Derived.OwnWalk
import Derived.Lib.ItoaNum
import Derived.Lib.ParseIntB
import Derived.Laws.OwnMore
import Derived.Outline
import Derived.Deep.QuietTactic
import Derived.BigQuiet
import Derived.Deep.RegionWith
import Derived.Laws.MakeOwn
import Derived.IntWalk
namespace Go.Proofs.YteodjglbpfmikaaGreatDoor
set_option maxHeartbeats 1000000
open Go.RowKit
def spansL : List Int := [3, 3, 6, 3, 9, 3, 12, 3, 3, 3, 6, 3, 9, 3, 12, 3, 9, 3, 12, 3, 3, 3, 6, 3, 1, 3, 4, 3, 7, 3, 10, 3, 1, 4, 5, 4, 9, 4, 1, 6, 7, 6]
def fromS (c : Int) : Int := spansL.getD (2 * (c - 21)).toNat 0
def manyS (c : Int) : Int := spansL.getD (2 * (c - 21) + 1).toNat 0
structure EnvS (w : World) : Prop where
 mo : EnvM w
 sp : ∀ i : Nat, i < 42 → w.cell? ⟨2, i, none⟩ = some (.int .i64 (spansL.getD i 0))
theorem EnvS.up {w w' : World} (h : EnvS w) (hb : Up w w') : EnvS w' := ⟨h.mo.up hb, fun i hi => hb.cell (h.sp i hi)⟩
theorem EnvS.below {w w' : World} (h : EnvS w) (hb : Below w.heap.size w w') : EnvS w' := ⟨h.mo.below hb, fun i hi => cell_below hb (h.sp i hi)⟩
def IsC (c : Int) : Prop := 21 ≤ c ∧ c ≤ 41
instance (c : Int) : Decidable (IsC c) := by unfold IsC; infer_instance
theorem scheck_yes (c : Int) (w : World) (h : IsC c) :
  Calls Tryz.prog 115 #[.int .i64 c] w fun e w' => e = .returned (.int .i64 0) ∧ w = w' := by
 obtain ⟨h1, h2⟩ := h
 have c1 : decide (c < 21) = false := by simp; omega
 have c2 : decide (42 ≤ c) = false := by simp; omega
 go_enter Tryz.func115, Tryz.ntmps115
 go_wp2_with fail
 go_ret
 exact ⟨rfl, rfl⟩
theorem smonths_yes (c : Int) (w : World) (h : IsC c) (hE : EnvS w) :
  Calls Tryz.prog 61 #[.int .i64 c] w fun e w' => e = .returned (.tuple #[.int .i64 (fromS c), .int .i64 (manyS c), .int .i64 0]) ∧ Up w w' := by
 have HC := h
 obtain ⟨k, hk⟩ : ∃ k : Nat, (k : Int) = c - 21 := ⟨(c - 21).toNat, by have := h.1; omega⟩
 obtain rfl : c = k + 21 := by omega
 have hk2 : k < 21 := by have := h.2; omega
 have c0 := hE.sp (k * 2) (by omega)
 have c1 := hE.sp (k * 2 + 1) (by omega)
 have e0 : fromS (k + 21) = spansL.getD (k * 2) 0 := by unfold fromS; congr 1; omega
 have e1 : manyS (k + 21) = spansL.getD (k * 2 + 1) 0 := by unfold manyS; congr 1; omega
 rw [← e0] at c0
 rw [← e1] at c1
 have E0 := Lib.hid e0
 have E1 := Lib.hid e1
 clear e0 e1 hk h
 generalize fromS (k + 21) = a at *
 generalize manyS (k + 21) = b at *
 go_enter Tryz.func61, Tryz.ntmps61
 go_wp2_with fail
 refine (scheck_yes _ _ HC).mono ?_
 rintro e w1 ⟨rfl, rfl⟩
 go_wp2_with fail
 go_quiet (fail)
 go_wp2_with fail
 go_ret3
 exact ⟨rfl, ((Up.refl _).alloc _).drewN _⟩
def runV (a b : Int) : Value := .agg #[.int .i8 0, .int .i64 a, .int .i8 0, .int .i64 b]
theorem Up.frozen {w w' : World} {a : Addr} (hb : Up w w') (ha : a.block < w.heap.size) : w'.frozen? a = w.frozen? a := hb.below.frozen ha
structure RunAt (n : Nat) (w' : World) : Prop where
 c0 : w'.cell? ⟨n, 0, none⟩ = some (.int .i8 0)
 c1 : w'.cell? ⟨n, 1, none⟩ = some (.int .i64 0)
 c2 : w'.cell? ⟨n, 2, none⟩ = some (.int .i8 0)
 c3 : w'.cell? ⟨n, 3, none⟩ = some (.int .i64 0)
 f : ∀ i, w'.frozen? ⟨n, i, none⟩ = false
 s : n < w'.heap.size
theorem RunAt.up {n : Nat} {w w' : World} (h : RunAt n w) (k : Up w w') : RunAt n w' :=
 ⟨k.cell h.c0, k.cell h.c1, k.cell h.c2, k.cell h.c3, fun i => (k.frozen (a := ⟨n, i, none⟩) h.s).trans (h.f i), Nat.lt_of_lt_of_le h.s k.size⟩
theorem RunAt.new (w : World) (t : TypeId) : RunAt w.heap.size (w.alloc (.cells #[.int .i8 0, .int .i64 0, .int .i8 0, .int .i64 0] t)) :=
 ⟨by simp, by simp, by simp, by simp, fun i => by simp [go_sem], by simp⟩
def setRun (w : World) (n : Nat) (a b c d : Value) : World := (((w.setCell ⟨n, 0, none⟩ a).setCell ⟨n, 1, none⟩ b).setCell ⟨n, 2, none⟩ c).setCell ⟨n, 3, none⟩ d
theorem setRun_cells {n : Nat} {w : World} (h : RunAt n w) (a b c d : Value) : (setRun w n a b c d).cell? ⟨n, 0, none⟩ = some a ∧ (setRun w n a b c d).cell? ⟨n, 1, none⟩ = some b ∧ (setRun w n a b c d).cell? ⟨n, 2, none⟩ = some c ∧ (setRun w n a b c d).cell? ⟨n, 3, none⟩ = some d := by
 obtain ⟨c0, c1, c2, c3, _, _⟩ := h
 have o : ∀ (w : World) (i j : Nat) (v : Value), i ≠ j → (w.setCell ⟨n, i, none⟩ v).cell? ⟨n, j, none⟩ = w.cell? ⟨n, j, none⟩ := fun w i j v hij => World.cell?_setCell_other _ _ _ _ (fun h => hij (congrArg Addr.off h))
 unfold setRun
 refine ⟨?_, ?_, ?_, ?_⟩
 · rw [o _ _ _ _ (by decide), o _ _ _ _ (by decide), o _ _ _ _ (by decide)]
   exact World.cell?_setCell_same _ _ _ c0
 · rw [o _ _ _ _ (by decide), o _ _ _ _ (by decide)]
   exact World.cell?_setCell_same _ _ _ (u := .int .i64 0) (by rw [o _ _ _ _ (by decide)]; exact c1)
 · rw [o _ _ _ _ (by decide)]
   exact World.cell?_setCell_same _ _ _ (u := .int .i8 0) (by rw [o _ _ _ _ (by decide), o _ _ _ _ (by decide)]; exact c2)
 · exact World.cell?_setCell_same _ _ _ (u := .int .i64 0) (by rw [o _ _ _ _ (by decide), o _ _ _ _ (by decide), o _ _ _ _ (by decide)]; exact c3)
theorem setRun_up {w0 w : World} {n : Nat} (h : Up w0 w) (hn : w0.heap.size ≤ n) (a b c d : Value) : Up w0 (setRun w n a b c d) :=
 (((h.setCell (p := ⟨n, 0, none⟩) hn a).setCell (p := ⟨n, 1, none⟩) hn b).setCell (p := ⟨n, 2, none⟩) hn c).setCell (p := ⟨n, 3, none⟩) hn d
theorem code_bd (c : Int) (h : IsC c) : 1 ≤ fromS c ∧ fromS c ≤ 12 ∧ 3 ≤ manyS c ∧ manyS c ≤ 6 := by
 obtain ⟨h1, h2⟩ := h
 have : c = 21 ∨ c = 22 ∨ c = 23 ∨ c = 24 ∨ c = 25 ∨ c = 26 ∨ c = 27 ∨ c = 28 ∨ c = 29 ∨ c = 30 ∨ c = 31 ∨ c = 32 ∨ c = 33 ∨ c = 34 ∨ c = 35 ∨ c = 36 ∨ c = 37 ∨ c = 38 ∨ c = 39 ∨ c = 40 ∨ c = 41 := by omega
 rcases this with rfl | rfl | rfl | rfl | rfl | rfl | rfl | rfl | rfl | rfl | rfl | rfl | rfl | rfl | rfl | rfl | rfl | rfl | rfl | rfl | rfl <;> decide
def lastS (y c : Int) : Int := mi y (fromS c) + (manyS c - 1)
def IsSY (y c : Int) : Prop := IsY y ∧ IsY (lastS y c / 12)
instance (y c : Int) : Decidable (IsSY y c) := by unfold IsSY; infer_instance
def sLo (y c : Int) : Int := Cal.sm y (fromS c)
def sHi (y c : Int) : Int := Cal.sm (lastS y c / 12) (lastS y c % 12 + 1 + 1) - 1
theorem srun_no2 (y c : Int) (w : World) (h : IsC c) (hy : ¬ IsY y) (hE : EnvS w) :
  Calls Tryz.prog 22 #[.int .i64 y, .int .i64 c] w fun e w' => e = .returned (.tuple #[runV 0 0, .int .i64 6]) ∧ Up w w' := by
 have hr := RunAt.new w 30
 have u0 : Up w (w.alloc (.cells #[.int .i8 0, .int .i64 0, .int .i8 0, .int .i64 0] 30)) := (Up.refl _).alloc _
 go_enter Tryz.func22, Tryz.ntmps22
 go_wp2_with fail
 refine (smonths_yes _ _ h (hE.up u0)).mono ?_
 rintro e w1 ⟨rfl, q1⟩
 have r1 := hr.up q1
 have u1 := u0.trans q1
 clear q1 u0 hr
 go_wp2_with fail
 refine (mstart_no y (fromS c) 6 _ (Or.inl ⟨hy, rfl⟩)).mono ?_
 rintro e w2 ⟨rfl, rfl⟩
 have HR := r1
 obtain ⟨r0, r1, r2, r3, rf, rs⟩ := r1
 have f0 := rf 0
 have f1 := rf 1
 have f2 := rf 2
 have f3 := rf 3
 clear rf
 go_wp2_with fail
 obtain ⟨z0, z1, z2, z3⟩ := setRun_cells HR (.int .i8 0) (.int .i64 0) (.int .i8 0) (.int .i64 0)
 exact bodyPost_ret (w := setRun w1 w.heap.size (.int .i8 0) (.int .i64 0) (.int .i8 0) (.int .i64 0)) (v := .tuple #[runV 0 0, .int .i64 6]) (by simp [results, Tryz.results22, go_sem, runV, z0, z1, z2, z3]) rfl ⟨rfl, setRun_up u1 (Nat.le_refl _) _ _ _ _⟩
theorem srun_no3 (y c : Int) (w : World) (h : IsC c) (hy : IsY y) (hz : ¬ IsY (lastS y c / 12)) (hE : EnvS w) :
  Calls Tryz.prog 22 #[.int .i64 y, .int .i64 c] w fun e w' => e = .returned (.tuple #[runV 0 0, .int .i64 6]) ∧ Up w w' := by
 have hr := RunAt.new w 30
 have u0 : Up w (w.alloc (.cells #[.int .i8 0, .int .i64 0, .int .i8 0, .int .i64 0] 30)) := (Up.refl _).alloc _
 obtain ⟨b1, b2, b3, b4⟩ := code_bd c h
 have HM : IsM y (fromS c) := ⟨hy, b1, b2⟩
 go_enter Tryz.func22, Tryz.ntmps22
 go_wp2_with fail
 refine (smonths_yes _ _ h (hE.up u0)).mono ?_
 rintro e w1 ⟨rfl, q1⟩
 have r1 := hr.up q1
 have u1 := u0.trans q1
 clear q1 u0 hr
 go_wp2_with fail
 refine (mstart_yes _ _ _ HM (hE.up u1).mo).mono ?_
 rintro e w2 ⟨rfl, q2⟩
 have r2 := r1.up q2
 have u2 := u1.trans q2
 clear q2 u1 r1
 go_wp2_with fail
 refine (madd_far _ _ _ _ HM ⟨by omega, by omega⟩ hz (hE.up u2).mo).mono ?_
 rintro e w3 ⟨rfl, q3⟩
 have r1 := r2.up q3
 have u3 := u2.trans q3
 clear q3 u2 r2
 have HR := r1
 obtain ⟨r0, r1, r2, r3, rf, rs⟩ := r1
 have f0 := rf 0
 have f1 := rf 1
 have f2 := rf 2
 have f3 := rf 3
 clear rf
 go_wp2_with fail
 obtain ⟨z0, z1, z2, z3⟩ := setRun_cells HR (.int .i8 0) (.int .i64 0) (.int .i8 0) (.int .i64 0)
 exact bodyPost_ret (w := setRun w3 w.heap.size (.int .i8 0) (.int .i64 0) (.int .i8 0) (.int .i64 0)) (v := .tuple #[runV 0 0, .int .i64 6]) (by simp [results, Tryz.results22, go_sem, runV, z0, z1, z2, z3]) rfl ⟨rfl, setRun_up u3 (Nat.le_refl _) _ _ _ _⟩
theorem srun_yes (y c : Int) (w : World) (h : IsC c) (hs : IsSY y c) (hE : EnvS w) :
  Calls Tryz.prog 22 #[.int .i64 y, .int .i64 c] w fun e w' => e = .returned (.tuple #[runV (sLo y c) (sHi y c), .int .i64 0]) ∧ Up w w' := by
 have hr := RunAt.new w 30
 have u0 : Up w (w.alloc (.cells #[.int .i8 0, .int .i64 0, .int .i8 0, .int .i64 0] 30)) := (Up.refl _).alloc _
 obtain ⟨b1, b2, b3, b4⟩ := code_bd c h
 obtain ⟨hy, hz⟩ := hs
 have HM : IsM y (fromS c) := ⟨hy, b1, b2⟩
 have HL : IsM (lastS y c / 12) (lastS y c % 12 + 1) := ⟨hz, by omega, by omega⟩
 go_enter Tryz.func22, Tryz.ntmps22
 go_wp2_with fail
 refine (smonths_yes _ _ h (hE.up u0)).mono ?_
 rintro e w1 ⟨rfl, q1⟩
 have r1 := hr.up q1
 have u1 := u0.trans q1
 clear q1 u0 hr
 go_wp2_with fail
 refine (mstart_yes _ _ _ HM (hE.up u1).mo).mono ?_
 rintro e w2 ⟨rfl, q2⟩
 have r2 := r1.up q2
 have u2 := u1.trans q2
 clear q2 u1 r1
 go_wp2_with fail
 refine (madd_yes _ _ _ _ HM ⟨by omega, by omega⟩ hz (hE.up u2).mo).mono ?_
 rintro e w3 ⟨rfl, q3⟩
 have r1 := r2.up q3
 have u3 := u2.trans q3
 clear q3 u2 r2
 go_wp2_with fail
 refine (mend_yes _ _ _ HL (hE.up u3).mo).mono ?_
 rintro e w4 ⟨rfl, q4⟩
 have r2 := r1.up q4
 have u4 := u3.trans q4
 clear q4 u3 r1
 have r1 := r2
 clear r2
 have HR := r1
 obtain ⟨r0, r1, r2, r3, rf, rs⟩ := r1
 have f0 := rf 0
 have f1 := rf 1
 have f2 := rf 2
 have f3 := rf 3
 clear rf
 go_wp2_with fail
 obtain ⟨z0, z1, z2, z3⟩ := setRun_cells HR (.int .i8 0) (.int .i64 (sLo y c)) (.int .i8 0) (.int .i64 (sHi y c))
 exact bodyPost_ret (w := setRun w4 w.heap.size (.int .i8 0) (.int .i64 (sLo y c)) (.int .i8 0) (.int .i64 (sHi y c))) (v := .tuple #[runV (sLo y c) (sHi y c), .int .i64 0]) (by simp [results, Tryz.results22, go_sem, runV, z0, z1, z2, z3]) rfl ⟨rfl, setRun_up u4 (Nat.le_refl _) _ _ _ _⟩
set_option maxHeartbeats 1000000
theorem srun_bad (y c : Int) (w : World) (h : IsC c) (hs : ¬ IsSY y c) (hE : EnvS w) :
   Calls Tryz.prog 22 #[.int .i64 y, .int .i64 c] w fun e w' => e = .returned (.tuple #[runV 0 0, .int .i64 6]) ∧ Up w w' := by
 by_cases hy : IsY y
 · exact srun_no3 y c w h hy (fun hz => hs ⟨hy, hz⟩) hE
 · exact srun_no2 y c w h hy hE
def ofY (d c : Int) : Int := if mo d < fromS c then Cal.yr d - 1 else Cal.yr d
def ofM (d c : Int) : Int := if mo d < fromS c then mo d + 12 else mo d
def IsOf (d c : Int) : Prop := ofM d c < fromS c + manyS c ∧ IsSY (ofY d c) c
instance (d c : Int) : Decidable (IsOf d c) := by unfold IsOf; infer_instance
theorem mo_bd (d : Int) : 1 ≤ mo d ∧ mo d ≤ 12 := by have := mo_spec d; exact ⟨this.1, this.2.1⟩
theorem sof_no3 (d c : Int) (w : World) (hd : I64 d) (h : IsC c) (hy : IsY (Cal.yr d)) (ho : ¬ IsOf d c) (hE : EnvS w) :
   Calls Tryz.prog 89 #[.int .i64 d, .int .i64 c] w fun e w' => e = .returned (.tuple #[.int .i64 0, .bool false, .int .i64 0]) ∧ Up w w' := by
 obtain ⟨b1, b2, b3, b4⟩ := code_bd c h
 obtain ⟨m1, m2⟩ := mo_bd d
 have HY := Lib.hid hy
 obtain ⟨y1, y2⟩ := hy
 by_cases hl : mo d < fromS c
 · have c1 : decide (mo d < fromS c) = true := by simp; omega
   have e1 : ofM d c = mo d + 12 := if_pos hl
   have e2 : ofY d c = Cal.yr d - 1 := if_pos hl
   by_cases hm : fromS c + manyS c ≤ mo d + 12
   · have c2 : decide (fromS c + manyS c ≤ mo d + 12) = true := by simp; omega
     clear e1 e2 ho
     go_enter Tryz.func89, Tryz.ntmps89
     go_wp2_with fail
     refine (smonths_yes _ _ h hE).mono ?_
     rintro e w1 ⟨rfl, u1⟩
     go_wp2_with fail
     refine (mof_yes _ _ hd HY.out (hE.up u1).mo).mono ?_
     rintro e w2 ⟨rfl, q2⟩
     have u2 := u1.trans q2
     clear q2 u1
     go_wp2_with fail
     go_ret3
     exact ⟨rfl, u2⟩
   · have c2 : decide (fromS c + manyS c ≤ mo d + 12) = false := by simp; omega
     have hs : ¬ IsSY (Cal.yr d - 1) c := fun k => ho ⟨by rw [e1]; omega, by rw [e2]; exact k⟩
     clear e1 e2 ho
     go_enter Tryz.func89, Tryz.ntmps89
     go_wp2_with fail
     refine (smonths_yes _ _ h hE).mono ?_
     rintro e w1 ⟨rfl, u1⟩
     go_wp2_with fail
     refine (mof_yes _ _ hd HY.out (hE.up u1).mo).mono ?_
     rintro e w2 ⟨rfl, q2⟩
     have u2 := u1.trans q2
     clear q2 u1
     go_wp2_with fail
     refine (srun_bad _ _ _ h hs (hE.up u2)).mono ?_
     rintro e w3 ⟨rfl, q3⟩
     have u3 := u2.trans q3
     clear q3 u2
     unfold runV
     go_wp2_with fail
     go_ret3
     exact ⟨rfl, u3.alloc _⟩
 · have c1 : decide (mo d < fromS c) = false := by simp; omega
   have e1 : ofM d c = mo d := if_neg hl
   have e2 : ofY d c = Cal.yr d := if_neg hl
   by_cases hm : fromS c + manyS c ≤ mo d
   · have c2 : decide (fromS c + manyS c ≤ mo d) = true := by simp; omega
     clear e1 e2 ho
     go_enter Tryz.func89, Tryz.ntmps89
     go_wp2_with fail
     refine (smonths_yes _ _ h hE).mono ?_
     rintro e w1 ⟨rfl, u1⟩
     go_wp2_with fail
     refine (mof_yes _ _ hd HY.out (hE.up u1).mo).mono ?_
     rintro e w2 ⟨rfl, q2⟩
     have u2 := u1.trans q2
     clear q2 u1
     go_wp2_with fail
     go_ret3
     exact ⟨rfl, u2⟩
   · have c2 : decide (fromS c + manyS c ≤ mo d) = false := by simp; omega
     have hs : ¬ IsSY (Cal.yr d) c := fun k => ho ⟨by rw [e1]; omega, by rw [e2]; exact k⟩
     clear e1 e2 ho
     go_enter Tryz.func89, Tryz.ntmps89
     go_wp2_with fail
     refine (smonths_yes _ _ h hE).mono ?_
     rintro e w1 ⟨rfl, u1⟩
     go_wp2_with fail
     refine (mof_yes _ _ hd HY.out (hE.up u1).mo).mono ?_
     rintro e w2 ⟨rfl, q2⟩
     have u2 := u1.trans q2
     clear q2 u1
     go_wp2_with fail
     refine (srun_bad _ _ _ h hs (hE.up u2)).mono ?_
     rintro e w3 ⟨rfl, q3⟩
     have u3 := u2.trans q3
     clear q3 u2
     unfold runV
     go_wp2_with fail
     go_ret3
     exact ⟨rfl, u3.alloc _⟩
theorem sof_yes (d c : Int) (w : World) (hd : I64 d) (h : IsC c) (hy : IsY (Cal.yr d)) (ho : IsOf d c) (hE : EnvS w) :
   Calls Tryz.prog 89 #[.int .i64 d, .int .i64 c] w fun e w' => e = .returned (.tuple #[.int .i64 (ofY d c), .bool true, .int .i64 0]) ∧ Up w w' := by
 obtain ⟨b1, b2, b3, b4⟩ := code_bd c h
 obtain ⟨m1, m2⟩ := mo_bd d
 have HY := Lib.hid hy
 obtain ⟨y1, y2⟩ := hy
 obtain ⟨ho, hs⟩ := ho
 by_cases hl : mo d < fromS c
 · have c1 : decide (mo d < fromS c) = true := by simp; omega
   have e1 : ofM d c = mo d + 12 := if_pos hl
   have e2 : ofY d c = Cal.yr d - 1 := if_pos hl
   rw [e1] at ho
   rw [e2] at hs ⊢
   have c2 : decide (fromS c + manyS c ≤ mo d + 12) = false := by simp; omega
   clear e1 e2
   go_enter Tryz.func89, Tryz.ntmps89
   go_wp2_with fail
   refine (smonths_yes _ _ h hE).mono ?_
   rintro e w1 ⟨rfl, u1⟩
   go_wp2_with fail
   refine (mof_yes _ _ hd HY.out (hE.up u1).mo).mono ?_
   rintro e w2 ⟨rfl, q2⟩
   have u2 := u1.trans q2
   clear q2 u1
   go_wp2_with fail
   refine (srun_yes _ _ _ h hs (hE.up u2)).mono ?_
   rintro e w3 ⟨rfl, q3⟩
   have u3 := u2.trans q3
   clear q3 u2
   unfold runV
   go_wp2_with fail
   go_ret3
   exact ⟨rfl, u3.alloc _⟩
 · have c1 : decide (mo d < fromS c) = false := by simp; omega
   have e1 : ofM d c = mo d := if_neg hl
   have e2 : ofY d c = Cal.yr d := if_neg hl
   rw [e1] at ho
   rw [e2] at hs ⊢
   have c2 : decide (fromS c + manyS c ≤ mo d) = false := by simp; omega
   clear e1 e2
   go_enter Tryz.func89, Tryz.ntmps89
   go_wp2_with fail
   refine (smonths_yes _ _ h hE).mono ?_
   rintro e w1 ⟨rfl, u1⟩
   go_wp2_with fail
   refine (mof_yes _ _ hd HY.out (hE.up u1).mo).mono ?_
   rintro e w2 ⟨rfl, q2⟩
   have u2 := u1.trans q2
   clear q2 u1
   go_wp2_with fail
   refine (srun_yes _ _ _ h hs (hE.up u2)).mono ?_
   rintro e w3 ⟨rfl, q3⟩
   have u3 := u2.trans q3
   clear q3 u2
   unfold runV
   go_wp2_with fail
   go_ret3
   exact ⟨rfl, u3.alloc _⟩
def mS (t : Int) : Int := Cal.sm (t / 12) (t % 12 + 1)
theorem mS_succ (t : Int) : mS (t + 1) = mS t + Cal.mlen (t / 12) (t % 12 + 1) := by
 have h := sm_succ (t / 12) (t % 12 + 1) (by omega) (by omega)
 unfold mS
 rw [← h]
 by_cases hc : t % 12 = 11
 · have a1 : (t + 1) / 12 = t / 12 + 1 := by omega
   have a2 : (t + 1) % 12 + 1 = 1 := by omega
   have a3 : t % 12 + 1 + 1 = 13 := by omega
   rw [a1, a2, a3, sm_13, sm_one]
 · have a1 : (t + 1) / 12 = t / 12 := by omega
   have a2 : (t + 1) % 12 + 1 = t % 12 + 1 + 1 := by omega
   rw [a1, a2]
theorem mS_le (t : Int) (n : Nat) : mS t ≤ mS (t + n) := by
 induction n with
 | zero => simp
 | succ n ih =>
   have h := mS_succ (t + n)
   have hb := Cal.mlen_bd ((t + n) / 12) ((t + n) % 12 + 1)
   have e : t + ((n + 1 : Nat) : Int) = t + n + 1 := by omega
   rw [e]
   omega
theorem mS_mono {a b : Int} (h : a ≤ b) : mS a ≤ mS b := by
 have := mS_le a (b - a).toNat
 have e : a + ((b - a).toNat : Int) = b := by omega
 rwa [e] at this
def tOf (d : Int) : Int := mi (Cal.yr d) (mo d)
theorem tOf_spec (d : Int) : mS (tOf d) ≤ d ∧ d < mS (tOf d + 1) := by
 obtain ⟨h1, h2, h3, h4⟩ := mo_spec d
 have a1 : tOf d / 12 = Cal.yr d := by unfold tOf mi; omega
 have a2 : tOf d % 12 + 1 = mo d := by unfold tOf mi; omega
 rw [mS_succ]
 unfold mS
 rw [a1, a2]
 have h := sm_succ (Cal.yr d) (mo d) (by omega) (by omega)
 exact ⟨h3, by rw [← h]; exact h4⟩
theorem mS_iff (a d : Int) : mS a ≤ d ↔ a ≤ tOf d := by
 obtain ⟨h1, h2⟩ := tOf_spec d
 constructor
 · intro h
   by_cases hc : a ≤ tOf d
   · exact hc
   · have := mS_mono (show tOf d + 1 ≤ a by omega)
     omega
 · intro h
   have := mS_mono h
   omega
theorem sLo_eq (y c : Int) (h : IsC c) : sLo y c = mS (mi y (fromS c)) := by
 obtain ⟨b1, b2, b3, b4⟩ := code_bd c h
 have a1 : mi y (fromS c) / 12 = y := by unfold mi; omega
 have a2 : mi y (fromS c) % 12 + 1 = fromS c := by unfold mi; omega
 unfold sLo mS
 rw [a1, a2]
theorem sHi_eq (y c : Int) : sHi y c = mS (lastS y c + 1) - 1 := by
 rw [mS_succ]
 unfold sHi mS
 rw [sm_succ _ _ (by omega) (by omega)]
theorem in_iff (z d c : Int) (h : IsC c) : (sLo z c ≤ d ∧ d ≤ sHi z c) ↔ (mi z (fromS c) ≤ tOf d ∧ tOf d ≤ lastS z c) := by
 rw [sLo_eq z c h, sHi_eq, mS_iff]
 have h2 := mS_iff (lastS z c + 1) d
 constructor
 · rintro ⟨a, b⟩
   exact ⟨a, by
    by_cases hc : lastS z c + 1 ≤ tOf d
    · have := h2.2 hc
      omega
    · omega⟩
 · rintro ⟨a, b⟩
   exact ⟨a, by
    by_cases hc : mS (lastS z c + 1) ≤ d
    · have := h2.1 hc
      omega
    · omega⟩
theorem in_this (d c : Int) (h : IsC c) : (IsSY (Cal.yr d) c ∧ sLo (Cal.yr d) c ≤ d ∧ d ≤ sHi (Cal.yr d) c) ↔ (¬ mo d < fromS c ∧ IsOf d c) := by
 obtain ⟨b1, b2, b3, b4⟩ := code_bd c h
 obtain ⟨m1, m2⟩ := mo_bd d
 rw [in_iff _ _ _ h]
 unfold IsOf ofM ofY lastS tOf mi
 by_cases hl : mo d < fromS c
 · constructor
   · rintro ⟨a, b1, b2⟩
     omega
   · rintro ⟨a, b⟩
     exact absurd hl a
 · rw [if_neg hl, if_neg hl]
   constructor
   · rintro ⟨a, b1, b2⟩
     exact ⟨hl, by omega, a⟩
   · rintro ⟨a, b, e⟩
     exact ⟨e, by omega, by omega⟩
theorem clip_nil (w : World) :
  Calls Tryz.prog 90 #[.slice none 0 0] w fun e w' => e = .returned (.slice none 0 0) ∧ w = w' := by
 go_enter Tryz.func90, Tryz.ntmps90
 go_wp2_with fail
 go_ret
 exact ⟨rfl, rfl⟩
theorem clip_at (g n cap : Nat) (w : World) (h : n ≤ cap) (_hc : cap ≤ maxLen) :
  Calls Tryz.prog 90 #[.slice (some ⟨g, 0, none⟩) n cap] w fun e w' => e = .returned (.slice (some ⟨g, 0, none⟩) n n) ∧ w = w' := by
 have hm : maxLen ≤ 9223372036854775807 := by decide +kernel
 go_enter Tryz.func90, Tryz.ntmps90
 go_wp2_with fail
 go_ret
 exact ⟨rfl, rfl⟩
set_option maxHeartbeats 2000000
def codesL (d : Int) : Nat → List Int
 | 0 => []
 | k + 1 => if IsOf d (21 + (k : Int)) then codesL d k ++ [21 + (k : Int)] else codesL d k
theorem codesL_le (d : Int) (k : Nat) : (codesL d k).length ≤ k := by
 induction k with
 | zero => simp [codesL]
 | succ k ih =>
   unfold codesL
   split
   · simp; exact ih
   · omega
def ListC (w : World) (v : Value) (l : List Int) : Prop :=
 (v = .slice none 0 0 ∧ l = []) ∨ ∃ g, v = .slice (some ⟨g, 0, none⟩) l.length l.length ∧ ∀ j x, l[j]? = some x → w.cell? ⟨g, j, none⟩ = some (.int .i64 x)
theorem below_grown {b : Nat} {w w1 w2 : World} {row : Option Nat} (h : Below b w w1) (hb : b ≤ w1.heap.size) (hg : w1.grownBy w2 row) (hr : ∀ k, row = some k → b ≤ k) : Below b w w2 :=
 h.trans ⟨hg.os, hg.tape, hg.output, hg.size, fun i hi => hg.block i (by omega) (fun e => by have := hr i e.symm; omega)⟩
theorem info3 : (Tryz.prog.info? 3).map (fun i => (i.zero, i.size, i.bytes)) = some (some (.int .i64 0), 1, 8) := by kernel_rfl
theorem scodes_yes (d : Int) (w : World) (hd : I64 d) (hy : IsY (Cal.yr d)) (hE : EnvS w) :
  Calls Tryz.prog 36 #[.int .i64 d] w fun e w' => ∃ v, e = .returned (.tuple #[v, .int .i64 0]) ∧ ListC w' v (codesL d 21) ∧ Below w.heap.size w w' := by
 have HY := Lib.hid hy
 obtain ⟨i0, hi, hz0, hz1, hz2⟩ := info_parts info3
 go_enter Tryz.func36, Tryz.ntmps36
 go_wp2_with fail
 refine (mof_yes _ _ hd HY.out hE.mo).mono ?_
 rintro e w1 ⟨rfl, u1⟩
 go_wp2_with fail
 go_loopw [7, 21] (fun v i wr => ∃ k : Nat, k ≤ 21 ∧ i = .int .i64 k ∧ wr.ownsRow w.heap.size 3 1 v (codesL d k).length ((codesL d k).map (Value.int .i64)) ∧ Below w.heap.size w wr) (fun _ i _ => 21 - (intOf i).toNat)
 case atStart => exact ⟨0, by omega, rfl, World.ownsRow_nil _ _ _ _, u1.below⟩
 case round =>
  obtain ⟨k, hk, rfl, hown, hb⟩ := hrel
  by_cases hlt : k < 21
  · have c1 : decide ((k : Int) < 21) = true := by simp; omega
    have HC : IsC (21 + (k : Int)) := ⟨by omega, by omega⟩
    by_cases ho : IsOf d (21 + (k : Int))
    · have hle := codesL_le d k
      have hs : codesL d (k + 1) = codesL d k ++ [21 + (k : Int)] := by rw [codesL, if_pos ho]
      have HS := Lib.hid hs
      clear hs
      go_wp2_with fail
      refine (sof_yes _ _ _ hd HC HY.out ho (hE.below hb)).mono ?_
      rintro e w2 ⟨rfl, q2⟩
      have hb2 : Below w.heap.size w w2 := hb.trans (q2.below.mono hb.size)
      have hown2 := hown.kept (w' := w2) (row := none) ⟨q2.below.os, q2.below.tape, q2.below.output, q2.size, fun i hi _ => q2.below.block i hi⟩ (by cases hv : Value.ownBlock _ <;> simp)
      clear hown hb q2
      go_wp2_with (at_builtin; refine wpList_append_own _ rfl _ _ 75 rfl w.heap.size 3 i0 (.int .i64 0) 1 8 Tryz.underlying75 hi hz0 hz1 hz2 rfl (by decide) _ _ _ rfl (hown2.alloc _) ⟨w2.heap.size, 0, none⟩ 1 1 [.int .i64 (21 + (k : Int))] rfl rfl ?c1 ?c2 ?c3 ?c4 ?c5 ?_)
      case c1 =>
        intro j u hj
        match j, hj with
        | 0, hj => simp at hj; subst hj; simp [Addr.add]
      case c2 => intro u hu; simp at hu; subst hu; rfl
      case c3 => unfold maxLen; omega
      case c4 => omega
      case c5 => have := hb2.size; simp; omega
      · intro v' w3 hown' hgrow _
        have hb3 := below_grown (hb2.alloc hb2.size _) (by have := hb2.size; simp; omega) hgrow (fun g hg => (hown2.lt g hg).1)
        clear hown2 hb2 hgrow
        go_wp2_with fail
        go_roundw
        case rel => exact ⟨k + 1, by omega, by simp, by rw [HS.out]; simpa using hown', by first | exact hb3 | trivial⟩
        case measure => simp [intOf]; omega
    · have hs : codesL d (k + 1) = codesL d k := by rw [codesL, if_neg ho]
      have HS := Lib.hid hs
      clear hs
      go_wp2_with fail
      refine (sof_no3 _ _ _ hd HC HY.out ho (hE.below hb)).mono ?_
      rintro e w2 ⟨rfl, q2⟩
      have hb2 : Below w.heap.size w w2 := hb.trans (q2.below.mono hb.size)
      have hown2 := hown.kept (w' := w2) (row := none) ⟨q2.below.os, q2.below.tape, q2.below.output, q2.size, fun i hi _ => q2.below.block i hi⟩ (by cases hv : Value.ownBlock _ <;> simp)
      clear hown hb q2
      go_wp2_with fail
      go_roundw
      case rel => exact ⟨k + 1, by omega, by simp, by rw [HS.out]; exact hown2, by first | exact hb2 | trivial⟩
      case measure => simp [intOf]; omega
  · obtain rfl : k = 21 := by omega
    rcases hown.2 with ⟨rfl, hn⟩ | ⟨g, cap, cur, rfl, _, hg, h1, h2, h3, h4⟩
    · have hL0 : codesL d 21 = [] := List.length_eq_zero_iff.1 hn
      clear hown
      go_wp2_with fail
      refine (clip_nil _).mono ?_
      rintro e w2 ⟨rfl, rfl⟩
      go_wp2_with fail
      go_ret2
      exact ⟨_, rfl, Or.inl ⟨rfl, hL0⟩, hb⟩
    · have hcs := hown.cells (g := g) rfl
      clear hown hg h3 h4
      go_wp2_with fail
      refine (clip_at g (codesL d 21).length cap _ h1 h2).mono ?_
      rintro e w2 ⟨rfl, rfl⟩
      go_wp2_with fail
      go_ret2
      refine ⟨_, rfl, Or.inr ⟨g, rfl, fun j x hx => ?_⟩, hb⟩
      have := hcs j (.int .i64 x) (by simp [hx])
      have hadd : (⟨g, 0, none⟩ : Addr).add j = ⟨g, j, none⟩ := by unfold Addr.add; split <;> simp_all
      rwa [hadd] at this
end Go.Proofs.YteodjglbpfmikaaGreatDoor
namespace Go.Proofs.YteodjglbpfmikaaGreatDoor.Dg
def p10 : Nat → Int
 | 0 => 1
 | n + 1 => 10 * p10 n
def val : List Int → Int
 | [] => 0
 | d :: l => d + 10 * val l
def Digs (l : List Int) : Prop := ∀ d ∈ l, 0 ≤ d ∧ d ≤ 9
def dig (l : List Int) (i : Nat) : Int := l.getD i 0
theorem p10_pos (n : Nat) : 1 ≤ p10 n := by
 induction n with
 | zero => decide
 | succ n ih => rw [p10]; omega
theorem p10_add (m n : Nat) : p10 (m + n) = p10 m * p10 n := by
 induction m with
 | zero => simp [p10]
 | succ m ih => rw [Nat.succ_add, p10, ih, p10, Int.mul_assoc]
theorem p10_mono {m n : Nat} (h : m ≤ n) : p10 m ≤ p10 n := by
 obtain ⟨k, rfl⟩ : ∃ k, n = m + k := ⟨n - m, by omega⟩
 clear h
 induction k with
 | zero => exact Int.le_refl _
 | succ k ih =>
   have := p10_pos (m + k)
   rw [← Nat.add_assoc, p10]
   omega
theorem val_append (a b : List Int) : val (a ++ b) = val a + p10 a.length * val b := by
 induction a with
 | nil => simp [val, p10]
 | cons d a ih =>
   rw [List.cons_append, val, ih, val, List.length_cons, p10, Int.mul_assoc]
   omega
theorem val_snoc (l : List Int) (d : Int) : val (l ++ [d]) = val l + p10 l.length * d := by
 rw [val_append]; simp [val]
theorem Digs.cons {d : Int} {l : List Int} (h : Digs (d :: l)) : (0 ≤ d ∧ d ≤ 9) ∧ Digs l := ⟨h d (by simp), fun x hx => h x (by simp [hx])⟩
theorem Digs.append {a b : List Int} (h : Digs a) (k : Digs b) : Digs (a ++ b) := by
 intro d hd
 rcases List.mem_append.1 hd with hd | hd
 · exact h d hd
 · exact k d hd
theorem Digs.nil : Digs [] := by intro d hd; simp at hd
theorem Digs.take {l : List Int} (h : Digs l) (n : Nat) : Digs (l.take n) := fun d hd => h d (List.mem_of_mem_take hd)
theorem Digs.drop {l : List Int} (h : Digs l) (n : Nat) : Digs (l.drop n) := fun d hd => h d (List.mem_of_mem_drop hd)
theorem dig_bd {l : List Int} (h : Digs l) (i : Nat) : 0 ≤ dig l i ∧ dig l i ≤ 9 := by
 unfold dig
 by_cases hi : i < l.length
 · have e : l.getD i 0 = l[i] := by simp [List.getD, hi]
   rw [e]; exact h _ (List.getElem_mem hi)
 · rw [show l.getD i 0 = 0 by simp [List.getD, Nat.not_lt.1 hi]]; omega
theorem dig_none {l : List Int} {i : Nat} (h : l.length ≤ i) : dig l i = 0 := by simp [dig, List.getD, h]
theorem dig_some {l : List Int} {i : Nat} (h : i < l.length) : l[i]? = some (dig l i) := by simp [dig, List.getD, h]
theorem val_nonneg {l : List Int} (h : Digs l) : 0 ≤ val l := by
 induction l with
 | nil => simp [val]
 | cons d l ih => have := h.cons; have := ih this.2; rw [val]; omega
theorem val_lt {l : List Int} (h : Digs l) : val l < p10 l.length := by
 induction l with
 | nil => simp [val, p10]
 | cons d l ih => have := h.cons; have := ih this.2; rw [val, List.length_cons, p10]; omega
theorem take_succ (l : List Int) (i : Nat) (h : i < l.length) : l.take (i + 1) = l.take i ++ [dig l i] := by
 rw [List.take_succ_eq_append_getElem h]; simp [dig, List.getD, h]
theorem val_take_succ (l : List Int) (i : Nat) : val (l.take (i + 1)) = val (l.take i) + p10 i * dig l i := by
 by_cases h : i < l.length
 · rw [take_succ l i h, val_snoc, List.length_take, Nat.min_eq_left (by omega)]
 · rw [List.take_of_length_le (by omega), List.take_of_length_le (by omega), dig_none (by omega)]; simp
def Canon (l : List Int) : Prop := Digs l ∧ (l = [] ∨ dig l (l.length - 1) ≠ 0)
theorem Canon.low {l : List Int} (h : Canon l) (hn : l ≠ []) : p10 (l.length - 1) ≤ val l := by
 obtain ⟨hd, h⟩ := h
 have hlen : 0 < l.length := List.length_pos_iff.2 hn
 have h0 : dig l (l.length - 1) ≠ 0 := by rcases h with h | h; exact absurd h hn; exact h
 have e := val_take_succ l (l.length - 1)
 rw [show l.length - 1 + 1 = l.length by omega, List.take_of_length_le (Nat.le_refl _)] at e
 have b := dig_bd hd (l.length - 1)
 have v := val_nonneg (hd.take (l.length - 1))
 have p := p10_pos (l.length - 1)
 have m : p10 (l.length - 1) * 1 ≤ p10 (l.length - 1) * dig l (l.length - 1) := Int.mul_le_mul_of_nonneg_left (by omega) (by omega)
 omega
def dl (n : Nat) : List Int := if h : n = 0 then [] else ((n % 10 : Nat) : Int) :: dl (n / 10)
termination_by n
decreasing_by omega
theorem dl_zero : dl 0 = [] := by rw [dl, dif_pos rfl]
theorem dl_pos {n : Nat} (h : n ≠ 0) : dl n = ((n % 10 : Nat) : Int) :: dl (n / 10) := by rw [dl, dif_neg h]
theorem dl_digs (n : Nat) : Digs (dl n) := by
 induction n using Nat.strongRecOn with
 | _ n ih =>
   by_cases h : n = 0
   · subst h; rw [dl_zero]; exact Digs.nil
   · rw [dl_pos h]
     intro d hd
     rcases List.mem_cons.1 hd with rfl | hd
     · omega
     · exact ih (n / 10) (by omega) d hd
theorem dl_val (n : Nat) : val (dl n) = n := by
 induction n using Nat.strongRecOn with
 | _ n ih =>
   by_cases h : n = 0
   · subst h; rw [dl_zero]; rfl
   · rw [dl_pos h, val, ih (n / 10) (by omega)]; omega
theorem dl_nil {n : Nat} (h : dl n = []) : n = 0 := by
 by_cases hn : n = 0
 · exact hn
 · rw [dl_pos hn] at h; simp at h
theorem dig_succ (d : Int) (l : List Int) (i : Nat) : dig (d :: l) (i + 1) = dig l i := by simp [dig, List.getD]
theorem dig_zero (d : Int) (l : List Int) : dig (d :: l) 0 = d := by simp [dig, List.getD]
theorem dl_canon (n : Nat) : Canon (dl n) := by
 refine ⟨dl_digs n, ?_⟩
 induction n using Nat.strongRecOn with
 | _ n ih =>
   by_cases h : n = 0
   · subst h; exact Or.inl dl_zero
   · right
     rw [dl_pos h]
     rcases ih (n / 10) (by omega) with e | e
     · have := dl_nil e
       rw [e]
       simp [dig, List.getD]
       omega
     · have hne : dl (n / 10) ≠ [] := by
        intro e2; rw [e2] at e; simp [dig, List.getD] at e
       have hl : 0 < (dl (n / 10)).length := List.length_pos_iff.2 hne
       rw [List.length_cons, show (dl (n / 10)).length + 1 - 1 = (dl (n / 10)).length - 1 + 1 by omega, dig_succ]
       exact e
theorem Canon.tail {d : Int} {l : List Int} (h : Canon (d :: l)) : Canon l := by
 obtain ⟨hd, h⟩ := h
 refine ⟨hd.cons.2, ?_⟩
 rcases h with h | h
 · simp at h
 · by_cases hn : l = []
   · exact Or.inl hn
   · right
     have hl : 0 < l.length := List.length_pos_iff.2 hn
     rw [List.length_cons, show l.length + 1 - 1 = l.length - 1 + 1 by omega, dig_succ] at h
     exact h
theorem dl_len {n k : Nat} (h : (n : Int) < p10 k) : (dl n).length ≤ k := by
 by_cases hn : dl n = []
 · rw [hn]; simp
 · have := (dl_canon n).low hn
   rw [dl_val] at this
   by_cases hc : (dl n).length ≤ k
   · exact hc
   · have := p10_mono (show k ≤ (dl n).length - 1 by omega)
     omega
end Go.Proofs.YteodjglbpfmikaaGreatDoor.Dg
namespace Go.Proofs.YteodjglbpfmikaaGreatDoor.Dg
theorem val_set (l : List Int) (i : Nat) (x : Int) (h : i < l.length) : val (l.set i x) = val l + p10 i * (x - dig l i) := by
 induction l generalizing i with
 | nil => simp at h
 | cons d l ih =>
   cases i with
   | zero => simp [val, p10, dig_zero]; omega
   | succ i =>
     rw [List.set_cons_succ, val, ih i (by simpa using h), val, dig_succ, p10, Int.mul_assoc]
     omega
theorem dig_set_other (l : List Int) (i j : Nat) (x : Int) (h : i ≠ j) : dig (l.set i x) j = dig l j := by simp [dig, List.getD, List.getElem?_set_ne h]
theorem Digs.set {l : List Int} (hl : Digs l) (i : Nat) {x : Int} (h : 0 ≤ x ∧ x ≤ 9) : Digs (l.set i x) := by
 intro d hd
 rcases List.mem_or_eq_of_mem_set hd with hd | rfl
 · exact hl d hd
 · exact h
def rowS (O : List Int) (x : Int) (b : List Int) (i : Nat) : Nat → List Int × Int
 | 0 => (O, 0)
 | k + 1 => ((rowS O x b i k).1.set (i + k) ((dig (rowS O x b i k).1 (i + k) + x * dig b k + (rowS O x b i k).2) % 10), (dig (rowS O x b i k).1 (i + k) + x * dig b k + (rowS O x b i k).2) / 10)
theorem mul_bd {x y : Int} (hx : 0 ≤ x ∧ x ≤ 9) (hy : 0 ≤ y ∧ y ≤ 9) : 0 ≤ x * y ∧ x * y ≤ 81 := by
 refine ⟨Int.mul_nonneg hx.1 hy.1, ?_⟩
 have := Int.mul_le_mul hx.2 hy.2 hy.1 (by omega : (0 : Int) ≤ 9)
 omega
theorem rowS_inv {O b : List Int} {x : Int} (hO : Digs O) (hx : 0 ≤ x ∧ x ≤ 9) (hb : Digs b) (i k : Nat) (hk : i + k ≤ O.length) :
   (rowS O x b i k).1.length = O.length ∧ Digs (rowS O x b i k).1 ∧ 0 ≤ (rowS O x b i k).2 ∧ (rowS O x b i k).2 ≤ 9 ∧ (∀ j, i + k ≤ j → dig (rowS O x b i k).1 j = dig O j) ∧
     val (rowS O x b i k).1 + p10 (i + k) * (rowS O x b i k).2 = val O + p10 i * (x * val (b.take k)) := by
 induction k with
 | zero => exact ⟨rfl, hO, by simp [rowS], by simp [rowS], fun _ _ => rfl, by simp [rowS, val]⟩
 | succ k ih =>
   obtain ⟨h1, h2, h3, h4, h5, h6⟩ := ih (by omega)
   have d0 := dig_bd h2 (i + k)
   have xb := mul_bd hx (dig_bd hb k)
   simp only [rowS]
   refine ⟨by simp [h1], h2.set _ (by omega), by omega, by omega, ?_, ?_⟩
   · intro j hj
     rw [dig_set_other _ _ _ _ (by omega)]
     exact h5 j (by omega)
   · rw [val_set _ _ _ (by omega), val_take_succ, ← Nat.add_assoc, p10]
     generalize (rowS O x b i k).2 = c at *
     generalize dig (rowS O x b i k).1 (i + k) = z at *
     have e : z + x * dig b k + c = 10 * ((z + x * dig b k + c) / 10) + (z + x * dig b k + c) % 10 := by omega
     generalize (z + x * dig b k + c) / 10 = q at *
     generalize (z + x * dig b k + c) % 10 = r at *
     have e2 : p10 (i + k) * (z + x * dig b k + c) = p10 (i + k) * (10 * q + r) := by rw [e]
     rw [Int.mul_add, Int.mul_add, Int.mul_add, ← Int.mul_assoc (p10 (i + k)) 10, Int.mul_comm (p10 (i + k)) 10] at e2
     have e3 : p10 i * (x * (val (b.take k) + p10 k * dig b k)) = p10 i * (x * val (b.take k)) + p10 (i + k) * (x * dig b k) := by
      rw [Int.mul_add, Int.mul_add, p10_add, Int.mul_assoc, Int.mul_left_comm x]
     rw [e3, Int.mul_sub]
     omega
theorem rowS_fin {O a b : List Int} (hO : Digs O) (ha : Digs a) (hb : Digs b) (i k : Nat) (hi : i < a.length) (hlen : O.length = a.length + b.length + 1) (hz : ∀ j, i + b.length ≤ j → dig O j = 0) (hv : val O = val (a.take i) * val b)
  (h1 : b.length ≤ k) (h2 : k ≤ b.length + 1) (hc : (rowS O (dig a i) b i k).2 = 0) :
  (∀ j, i + 1 + b.length ≤ j → dig (rowS O (dig a i) b i k).1 j = 0) ∧ val (rowS O (dig a i) b i k).1 = val (a.take (i + 1)) * val b := by
 obtain ⟨g1, g2, g3, g4, g5, g6⟩ := rowS_inv hO (dig_bd ha i) hb i k (by omega)
 refine ⟨fun j hj => by rw [g5 j (by omega)]; exact hz j (by omega), ?_⟩
 rw [hc, List.take_of_length_le h1, hv] at g6
 rw [val_take_succ, Int.add_mul, Int.mul_assoc]
 omega
def ch (d : Int) : UInt8 := UInt8.ofNat (48 + d.toNat)
theorem decDigits_dl (u : Nat) (h : u ≠ 0) : Lib.decDigits u = (dl u).reverse.map ch := by
 induction u using Nat.strongRecOn with
 | _ u ih =>
   by_cases hu : u < 10
   · rw [Lib.decDigits, dif_pos hu, dl_pos h, show u / 10 = 0 by omega, dl_zero]
     simp [ch, Nat.mod_eq_of_lt hu]
   · rw [Lib.decDigits, dif_neg hu, dl_pos h, ih (u / 10) (by omega) (by omega)]
     rw [List.reverse_cons, List.map_append]
     rfl
def nvA (acc : Nat) (l : List UInt8) : Nat := l.foldl (fun a c => a * 10 + (c.toNat - 48)) acc
theorem nvA_nil (acc : Nat) : nvA acc [] = acc := rfl
theorem nvA_cons (acc : Nat) (c : UInt8) (r : List UInt8) : nvA acc (c :: r) = nvA (acc * 10 + (c.toNat - 48)) r := by unfold nvA; rw [List.foldl_cons]
theorem nvA_le (l : List UInt8) : ∀ acc, acc ≤ nvA acc l := by
 induction l with
 | nil => intro acc; exact Nat.le_refl _
 | cons c r ih => intro acc; rw [nvA_cons]; have := ih (acc * 10 + (c.toNat - 48)); omega
def isD (c : UInt8) : Prop := 48 ≤ c.toNat ∧ c.toNat ≤ 57
theorem parse_ok (l : List UInt8) (h : ∀ c ∈ l, isD c) : ∀ acc, nvA acc l ≤ 18446744073709551615 → Lib.parseUintM 18446744073709551615 acc l = .ok (nvA acc l) := by
 induction l with
 | nil => intro acc _; rfl
 | cons c r ih =>
   intro acc hle
   rw [nvA_cons] at hle
   have h1 := nvA_le r (acc * 10 + (c.toNat - 48))
   have hd := h c (by simp)
   unfold isD at hd
   rw [Lib.parseUintM, if_pos hd, if_neg (by omega), if_neg (by omega), ih (fun x hx => h x (by simp [hx])) _ hle, nvA_cons]
theorem parse_range (l : List UInt8) (h : ∀ c ∈ l, isD c) : ∀ acc, acc ≤ 18446744073709551615 → 18446744073709551615 < nvA acc l → Lib.parseUintM 18446744073709551615 acc l = .range := by
 induction l with
 | nil => intro acc h1 h2; rw [nvA_nil] at h2; omega
 | cons c r ih =>
   intro acc h1 hle
   rw [nvA_cons] at hle
   have hd := h c (by simp)
   unfold isD at hd
   rw [Lib.parseUintM, if_pos hd]
   by_cases h2 : 1844674407370955162 ≤ acc
   · rw [if_pos h2]
   · rw [if_neg h2]
     by_cases h3 : 18446744073709551615 < acc * 10 + (c.toNat - 48)
     · rw [if_pos h3]
     · rw [if_neg h3]; exact ih (fun x hx => h x (by simp [hx])) _ (by omega) hle
def dv (c : UInt8) : Int := (c.toNat : Int) - 48
theorem nvA_val (l : List UInt8) (h : ∀ c ∈ l, isD c) : ∀ acc, (nvA acc l : Int) = acc * p10 l.length + val (l.reverse.map dv) := by
 induction l with
 | nil => intro acc; simp [nvA_nil, p10, val]
 | cons c r ih =>
   intro acc
   have hd := h c (by simp)
   unfold isD at hd
   rw [nvA_cons, ih (fun x hx => h x (by simp [hx])), List.reverse_cons, List.map_append, val_append]
   simp only [List.length_map, List.length_reverse, List.length_cons, List.map_cons, List.map_nil, val, p10]
   have e : ((acc * 10 + (c.toNat - 48) : Nat) : Int) = acc * 10 + dv c := by unfold dv; omega
   rw [e, Int.add_mul, Int.mul_assoc, Int.mul_comm (dv c)]
   simp
   omega
theorem dv_digs (l : List UInt8) (h : ∀ c ∈ l, isD c) : Digs (l.reverse.map dv) := by
 intro d hd
 simp only [List.mem_map, List.mem_reverse] at hd
 obtain ⟨c, hc, rfl⟩ := hd
 have := h c hc
 unfold isD at this
 unfold dv; omega
theorem ch_isD (d : Int) (h : 0 ≤ d ∧ d ≤ 9) : isD (ch d) ∧ dv (ch d) = d := by
 unfold isD ch dv
 have : (UInt8.ofNat (48 + d.toNat)).toNat = 48 + d.toNat := by simp; omega
 rw [this]; omega
end Go.Proofs.YteodjglbpfmikaaGreatDoor.Dg
namespace Go.Proofs.YteodjglbpfmikaaGreatDoor
open Go.RowKit
structure Dn (w w' : World) : Prop where
 below : Below w.heap.size w w'
theorem Dn.refl (a : World) : Dn a a := ⟨Below.refl _ _⟩
theorem Dn.size {a b : World} (h : Dn a b) : a.heap.size ≤ b.heap.size := h.below.size
theorem Dn.trans {a b c : World} (h : Dn a b) (k : Dn b c) : Dn a c := ⟨h.below.trans (k.below.mono h.below.size)⟩
theorem Dn.drew {a b : World} (h : Dn a b) : Dn a b.drew := ⟨h.below.drew⟩
theorem Dn.drewN {a b : World} (h : Dn a b) (n : Nat) : Dn a (b.drewN n) := ⟨h.below.trans ⟨rfl, rfl, rfl, Nat.le_refl _, fun _ _ => rfl⟩⟩
theorem Dn.alloc {a b : World} (h : Dn a b) (o : Obj) : Dn a (b.alloc o) := ⟨h.below.alloc h.below.size o⟩
theorem Dn.setCell {a b : World} (h : Dn a b) {p : Addr} (hp : a.heap.size ≤ p.block) (u : Value) : Dn a (b.setCell p u) := ⟨h.below.setCell hp u⟩
theorem Dn.cell {w w' : World} {a : Addr} {v : Value} (hb : Dn w w') (h : w.cell? a = some v) : w'.cell? a = some v := cell_below hb.below h
theorem Dn.frozen {w w' : World} {a : Addr} (hb : Dn w w') (ha : a.block < w.heap.size) : w'.frozen? a = w.frozen? a := hb.below.frozen ha
theorem Up.dn {a b : World} (h : Up a b) : Dn a b := ⟨h.below⟩
theorem Dn.up {a b c : World} (h : Dn a b) (k : Up b c) : Dn a c := h.trans k.dn
theorem Dn.grown {w w1 w2 : World} {row : Option Nat} (h : Dn w w1) (hg : w1.grownBy w2 row) (hr : ∀ k, row = some k → w.heap.size ≤ k) : Dn w w2 :=
 ⟨h.below.trans ⟨hg.os, hg.tape, hg.output, hg.size, fun i hi => hg.block i (by have := h.size; omega) (fun e => by have := hr i e.symm; omega)⟩⟩
theorem max_len : maxLen ≤ 9223372036854775807 := by decide +kernel
def SlD (w : World) (s : Value) (l : List Int) : Prop :=
 ∃ p cap, s = .slice p l.length cap ∧ l.length ≤ cap ∧ cap ≤ maxLen ∧ ∀ (j : Nat) (x : Int), l[j]? = some x → ∃ g, p = some ⟨g, 0, none⟩ ∧ w.cell? ⟨g, j, none⟩ = some (.int .u8 x)
theorem SlD.dn {w w' : World} {s : Value} {l : List Int} (h : SlD w s l) (k : Dn w w') : SlD w' s l := by
 obtain ⟨p, cap, h1, h2, h3, h4⟩ := h
 exact ⟨p, cap, h1, h2, h3, fun j x hx => by obtain ⟨g, hg, hc⟩ := h4 j x hx; exact ⟨g, hg, k.cell hc⟩⟩
theorem SlD.form {w : World} {s : Value} {l : List Int} (h : SlD w s l) : ∃ p n cap, s = .slice p n cap := by
 obtain ⟨p, cap, h1, _⟩ := h
 exact ⟨p, _, cap, h1⟩
theorem SlD.nil (w : World) : SlD w (.slice none 0 0) [] := ⟨none, 0, rfl, by simp, by simp, by simp⟩
theorem SlD.take {w : World} {p : Option Addr} {n cap : Nat} {l : List Int} (h : SlD w (.slice p n cap) l) (k : Nat) (hk : k ≤ l.length) : SlD w (.slice p k cap) (l.take k) := by
 obtain ⟨p', cap', h1, h2, h3, h4⟩ := h
 injection h1 with e1 e2 e3
 subst e1 e3
 refine ⟨p, cap, by rw [List.length_take, Nat.min_eq_left hk], by rw [List.length_take]; omega, h3, fun j x hx => h4 j x ?_⟩
 rw [List.getElem?_take] at hx
 split at hx
 · exact hx
 · cases hx
theorem SlD.of_own {w : World} {base E n : Nat} {v : Value} {l : List Int} (h : w.ownsRow base E 1 v n (l.map (Value.int .u8))) (hn : n = l.length) : SlD w v l := by
 subst hn
 rcases h.2 with ⟨rfl, hn⟩ | ⟨g, cap, cur, rfl, _, hg, h1, h2, h3, h4⟩
 · have := List.length_eq_zero_iff.1 hn
   subst this
   exact SlD.nil w
 · have hcs := h.cells (g := g) rfl
   refine ⟨_, cap, rfl, h1, h2, fun j x hx => ⟨g, rfl, ?_⟩⟩
   have := hcs j (.int .u8 x) (by simp [hx])
   have hadd : (⟨g, 0, none⟩ : Addr).add j = ⟨g, j, none⟩ := by unfold Addr.add; split <;> simp_all
   rwa [hadd] at this
structure NBlk (w : World) (B : Nat) (b : Bool) (s : Value) : Prop where
 c0 : w.cell? ⟨B, 0, none⟩ = some (.bool b)
 c1 : w.cell? ⟨B, 1, none⟩ = some s
 f0 : w.frozen? ⟨B, 0, none⟩ = false
 f1 : w.frozen? ⟨B, 1, none⟩ = false
 lt : B < w.heap.size
theorem NBlk.new (w : World) (b : Bool) (s : Value) (t : TypeId) : NBlk (w.alloc (.cells #[.bool b, s] t)) w.heap.size b s :=
 ⟨by simp, by simp, by simp [go_sem], by simp [go_sem], by simp⟩
theorem NBlk.dn {w w' : World} {B : Nat} {b : Bool} {s : Value} (h : NBlk w B b s) (k : Dn w w') : NBlk w' B b s :=
 ⟨k.cell h.c0, k.cell h.c1, (k.frozen (a := ⟨B, 0, none⟩) h.lt).trans h.f0, (k.frozen (a := ⟨B, 1, none⟩) h.lt).trans h.f1, Nat.lt_of_lt_of_le h.lt k.size⟩
theorem NBlk.set1 {w : World} {B : Nat} {b : Bool} {s : Value} (h : NBlk w B b s) (u : Value) : NBlk (w.setCell ⟨B, 1, none⟩ u) B b u := by
 refine ⟨?_, World.cell?_setCell_same _ _ _ h.c1, by simp [go_sem]; exact h.f0, by simp [go_sem]; exact h.f1, by simpa using h.lt⟩
 rw [World.cell?_setCell_other _ _ _ _ (fun e => by simp at e)]
 exact h.c0
theorem NBlk.set0 {w : World} {B : Nat} {b : Bool} {s : Value} (h : NBlk w B b s) (u : Bool) : NBlk (w.setCell ⟨B, 0, none⟩ (.bool u)) B u s := by
 refine ⟨World.cell?_setCell_same _ _ _ h.c0, ?_, by simp [go_sem]; exact h.f0, by simp [go_sem]; exact h.f1, by simpa using h.lt⟩
 rw [World.cell?_setCell_other _ _ _ _ (fun e => by simp at e)]
 exact h.c1
theorem NBlk.far {w : World} {B : Nat} {b : Bool} {s : Value} (h : NBlk w B b s) {p : Addr} (hp : p.block ≠ B) (u : Value) : NBlk (w.setCell p u) B b s := by
 refine ⟨?_, ?_, by simp [go_sem]; exact h.f0, by simp [go_sem]; exact h.f1, by simpa using h.lt⟩
 · rw [World.cell?_setCell_other _ _ _ _ (fun e => by subst e; simp at hp)]
   exact h.c0
 · rw [World.cell?_setCell_other _ _ _ _ (fun e => by subst e; simp at hp)]
   exact h.c1
theorem NBlk.kept {w w' : World} {B : Nat} {b : Bool} {s : Value} {row : Option Nat} (h : NBlk w B b s) (hg : w.grownBy w' row) (hne : row ≠ some B) : NBlk w' B b s := by
 have hb := hg.block B h.lt (fun e => hne e.symm)
 refine ⟨?_, ?_, ?_, ?_, Nat.lt_of_lt_of_le h.lt hg.size⟩
 · rw [World.cell?_of_block hb]; exact h.c0
 · rw [World.cell?_of_block hb]; exact h.c1
 · have := h.f0; simp only [World.frozen?] at this ⊢; rw [hb]; exact this
 · have := h.f1; simp only [World.frozen?] at this ⊢; rw [hb]; exact this
def sg (b : Bool) (n : Int) : Int := if b then -n else n
def IsN (w : World) (v : Value) (x : Int) : Prop := ∃ s, v = .agg #[.bool (decide (x < 0)), s] ∧ SlD w s (Dg.dl x.natAbs)
theorem IsN.form {w : World} {v : Value} {x : Int} (h : IsN w v x) : ∃ p n cap, v = .agg #[.bool (decide (x < 0)), .slice p n cap] ∧ SlD w (.slice p n cap) (Dg.dl x.natAbs) := by
 obtain ⟨s, h1, h2⟩ := h
 obtain ⟨p, n, cap, rfl⟩ := SlD.form h2
 exact ⟨p, n, cap, h1, h2⟩
theorem IsN.dn {w w' : World} {v : Value} {x : Int} (h : IsN w v x) (k : Dn w w') : IsN w' v x := by
 obtain ⟨s, h1, h2⟩ := h
 exact ⟨s, h1, h2.dn k⟩
def setN (w : World) (B : Nat) (b : Bool) (s : Value) : World := (w.setCell ⟨B, 0, none⟩ (.bool b)).setCell ⟨B, 1, none⟩ s
theorem NBlk.put {w : World} {B : Nat} {b : Bool} {s : Value} (h : NBlk w B b s) (b' : Bool) (s' : Value) : NBlk (setN w B b' s') B b' s' := (h.set0 b').set1 s'
theorem NBlk.new1 (w : World) (o : Obj) (b : Bool) (s : Value) (t : TypeId) : NBlk ((w.alloc o).alloc (.cells #[.bool b, s] t)) (w.heap.size + 1) b s := by
 have h := NBlk.new (w.alloc o) b s t
 simpa using h
theorem SlD.far {w : World} {p : Option Addr} {n cap B i : Nat} {l : List Int} (h : SlD w (.slice p n cap) l) (hp : ∀ g, p = some ⟨g, 0, none⟩ → g ≠ B) (u : Value) : SlD (w.setCell ⟨B, i, none⟩ u) (.slice p n cap) l := by
 obtain ⟨p', cap', he, h1, h2, h3⟩ := h
 refine ⟨p', cap', he, h1, h2, fun j x hx => ?_⟩
 obtain ⟨g, hg, hc⟩ := h3 j x hx
 injection he with e1 e2 e3
 have hne := hp g (e1.trans hg)
 exact ⟨g, hg, by rw [World.cell?_setCell_other _ _ _ _ (fun e => hne (congrArg Addr.block e).symm)]; exact hc⟩
theorem grown_trans {a b c : World} {row : Option Nat} (h : a.grownBy b row) (k : b.grownBy c row) : a.grownBy c row :=
 ⟨k.os.trans h.os, k.tape.trans h.tape, k.output.trans h.output, Nat.le_trans h.size k.size, fun i hi hne => (k.block i (Nat.lt_of_lt_of_le hi h.size) hne).trans (h.block i hi hne)⟩
theorem grown_dn {a b : World} (h : Dn a b) (row : Option Nat) : a.grownBy b row := ⟨h.below.os, h.below.tape, h.below.output, h.size, fun i hi _ => h.below.block i hi⟩
theorem grown_set (w : World) (p : Addr) (u : Value) : w.grownBy (w.setCell p u) (some p.block) :=
 ⟨rfl, rfl, rfl, by simp, fun i _ hne => Below.heap_setCell w p u i (fun e => hne (by rw [e]))⟩
structure OwnD (w : World) (base : Nat) (v : Value) (l : List Int) : Prop where
 own : w.ownsRow base 5 1 v l.length (l.map (Value.int .u8))
theorem OwnD.nil (w : World) (base : Nat) : OwnD w base (.slice none 0 0) [] := ⟨World.ownsRow_nil _ _ _ _⟩
theorem OwnD.kept {w w' : World} {base : Nat} {v : Value} {l : List Int} {row : Option Nat} (h : OwnD w base v l) (hg : w.grownBy w' row) (hr : ∀ k, row = some k → k < base) : OwnD w' base v l :=
 ⟨h.own.kept hg (by
  cases hv : v.ownBlock with
  | none => exact Or.inl rfl
  | some g =>
    right
    intro e
    have := (h.own.lt g hv).1
    have := hr g e.symm
    omega)⟩
theorem OwnD.dn {w w' : World} {base : Nat} {v : Value} {l : List Int} (h : OwnD w base v l) (k : Dn w w') : OwnD w' base v l := h.kept (grown_dn k none) (fun _ e => by cases e)
theorem OwnD.far {w : World} {base : Nat} {v : Value} {l : List Int} (h : OwnD w base v l) {p : Addr} (hp : p.block < base) (u : Value) : OwnD (w.setCell p u) base v l :=
 h.kept (grown_set w p u) (fun k e => by cases e; exact hp)
theorem OwnD.sl {w : World} {base : Nat} {v : Value} {l : List Int} (h : OwnD w base v l) : SlD w v l := SlD.of_own h.own rfl
theorem OwnD.form {w : World} {base : Nat} {v : Value} {l : List Int} (h : OwnD w base v l) : ∃ p cap, v = .slice p l.length cap ∧ ∀ g, p = some ⟨g, 0, none⟩ → base ≤ g := by
 obtain ⟨p, cap, e, _⟩ := h.sl
 refine ⟨p, cap, e, fun g hg => ?_⟩
 subst e hg
 exact (h.own.lt g rfl).1
theorem OwnD.row {w : World} {base : Nat} {v : Value} {l : List Int} (h : OwnD w base v l) : ∀ k, v.ownBlock = some k → base ≤ k := fun k hk => (h.own.lt k hk).1
theorem dl_i64 (n : Nat) (h : n ≤ 9223372036854775808) : (Dg.dl n).length ≤ 19 := by
 refine Dg.dl_len ?_
 have : Dg.p10 19 = 10000000000000000000 := by decide
 omega
structure OfRel (w : World) (n0 : Int) (mv : Value) (wr : World) (m : Int) (L : List Int) (v : Value) : Prop where
 mv : mv = .int .i64 m
 lo : -9223372036854775808 ≤ m
 hi : m ≤ 9223372036854775807
 dg : Dg.dl n0.natAbs = L ++ Dg.dl m.natAbs
 sgn : m ≠ 0 → decide (m < 0) = decide (n0 < 0)
 own : OwnD wr (w.heap.size + 1 + 1) v L
 x : NBlk wr (w.heap.size + 1) (decide (n0 < 0)) v
 r : NBlk wr w.heap.size false (.slice none 0 0)
 dn : Dn w wr
theorem OfRel.len {w : World} {n0 m : Int} {mv v : Value} {wr : World} {L : List Int} (h : OfRel w n0 mv wr m L v) (hn : n0.natAbs ≤ 9223372036854775808) : L.length ≤ 19 := by
 have e := congrArg List.length h.dg
 have := dl_i64 _ hn
 rw [List.length_append] at e
 omega
theorem OfRel.next {w : World} {n0 m m' d : Int} {mv v v' : Value} {wr w' : World} {L : List Int} (h : OfRel w n0 mv wr m L v) (hlo : -9223372036854775808 ≤ m') (hhi : m' ≤ 9223372036854775807) (hs : m' ≠ 0 → decide (m' < 0) = decide (n0 < 0))
   (hd : Dg.dl m.natAbs = d :: Dg.dl m'.natAbs) (hown : OwnD w' (w.heap.size + 1 + 1) v' (L ++ [d])) (hg : wr.grownBy w' v.ownBlock) : OfRel w n0 (.int .i64 m') (w'.setCell ⟨w.heap.size + 1, 1, none⟩ v') m' (L ++ [d]) v' := by
 have hb := h.own.row
 refine ⟨rfl, hlo, hhi, by rw [h.dg, hd]; simp, hs, hown.far (by simp) _, (h.x.kept hg ?_).set1 _, (h.r.kept hg ?_).far (by simp) _, (h.dn.grown hg ?_).setCell (by simp) _⟩
 · intro e; have := hb _ e; omega
 · intro e; have := hb _ e; omega
 · intro k e; have := hb _ e; omega
theorem SlD.drewN {w : World} {s : Value} {l : List Int} (h : SlD w s l) (n : Nat) : SlD (w.drewN n) s l := h.dn ((Dn.refl _).drewN n)
theorem drop_dig (l : List Int) (m : Nat) (h : m < l.length) : l.drop m = Dg.dig l m :: l.drop (m + 1) := by
 rw [List.drop_eq_getElem_cons h]; simp [Dg.dig, List.getD, h]
structure AddRel (w : World) (ba bb : Bool) (sa sb : Value) (wr : World) (v : Value) (L : List Int) : Prop where
 own : OwnD wr (w.heap.size + 1 + 1 + 1 + 1) v L
 a : NBlk wr w.heap.size ba sa
 b : NBlk wr (w.heap.size + 1) bb sb
 r : NBlk wr (w.heap.size + 1 + 1) false (.slice none 0 0)
 o : NBlk wr (w.heap.size + 1 + 1 + 1) ba v
 dn : Dn w wr
theorem AddRel.push {w : World} {ba bb : Bool} {sa sb : Value} {wr w' : World} {v v' : Value} {L L' : List Int} (h : AddRel w ba bb sa sb wr v L) (hown : OwnD w' (w.heap.size + 1 + 1 + 1 + 1) v' L') (hg : wr.grownBy w' v.ownBlock) :
   AddRel w ba bb sa sb (w'.setCell ⟨w.heap.size + 1 + 1 + 1, 1, none⟩ v') v' L' := by
 have hb := h.own.row
 refine ⟨hown.far (by simp) _, (h.a.kept hg ?_).far (by simp; omega) _, (h.b.kept hg ?_).far (by simp; omega) _, (h.r.kept hg ?_).far (by simp) _, (h.o.kept hg ?_).set1 _, (h.dn.grown hg ?_).setCell (by simp; omega) _⟩
 · intro e; have := hb _ e; omega
 · intro e; have := hb _ e; omega
 · intro e; have := hb _ e; omega
 · intro e; have := hb _ e; omega
 · intro k e; have := hb _ e; omega
theorem NBlk.drewN {w : World} {B : Nat} {b : Bool} {s : Value} (h : NBlk w B b s) (n : Nat) : NBlk (w.drewN n) B b s := h.dn ((Dn.refl _).drewN n)
theorem AddRel.drewN {w : World} {ba bb : Bool} {sa sb : Value} {wr : World} {v : Value} {L : List Int} (h : AddRel w ba bb sa sb wr v L) (n : Nat) : AddRel w ba bb sa sb (wr.drewN n) v L :=
 ⟨h.own.dn ((Dn.refl _).drewN n), h.a.drewN n, h.b.drewN n, h.r.drewN n, h.o.drewN n, h.dn.drewN n⟩
theorem NBlk.new2 (w : World) (o o' : Obj) (b : Bool) (s : Value) (t : TypeId) : NBlk (((w.alloc o).alloc o').alloc (.cells #[.bool b, s] t)) (w.heap.size + 1 + 1) b s := by
 have h := NBlk.new1 (w.alloc o) o' b s t
 simpa using h
theorem NBlk.new3 (w : World) (o o' o'' : Obj) (b : Bool) (s : Value) (t : TypeId) : NBlk ((((w.alloc o).alloc o').alloc o'').alloc (.cells #[.bool b, s] t)) (w.heap.size + 1 + 1 + 1) b s := by
 have h := NBlk.new2 (w.alloc o) o' o'' b s t
 simpa using h
theorem NBlk.alloc {w : World} {B : Nat} {b : Bool} {s : Value} (h : NBlk w B b s) (o : Obj) : NBlk (w.alloc o) B b s := h.dn ((Dn.refl _).alloc o)
theorem AddRel.start (w : World) (ba bb : Bool) (sa sb : Value) (t : TypeId) :
  AddRel w ba bb sa sb ((((w.alloc (.cells #[.bool ba, sa] t)).alloc (.cells #[.bool bb, sb] t)).alloc (.cells #[.bool false, .slice none 0 0] t)).alloc (.cells #[.bool ba, .slice none 0 0] t)) (.slice none 0 0) [] :=
 ⟨OwnD.nil _ _, (((NBlk.new _ _ _ _).alloc _).alloc _).alloc _, ((NBlk.new1 _ _ _ _ _).alloc _).alloc _, (NBlk.new2 _ _ _ _ _ _).alloc _, NBlk.new3 _ _ _ _ _ _ _, ((((Dn.refl _).alloc _).alloc _).alloc _).alloc _⟩
theorem SlD.len {w : World} {p : Option Addr} {n cap : Nat} {l : List Int} (h : SlD w (.slice p n cap) l) : n = l.length ∧ n ≤ 9223372036854775807 := by
 obtain ⟨p', cap', e, h1, h2, _⟩ := h
 injection e with e1 e2 e3
 have := max_len
 omega
def sgn (z : Int) : Int := if z < 0 then -1 else if z = 0 then 0 else 1
theorem val_drop_dig (l : List Int) (m : Nat) (h : m < l.length) : Dg.val (l.drop m) = Dg.dig l m + 10 * Dg.val (l.drop (m + 1)) := by
 rw [drop_dig l m h, Dg.val]
structure IntRel (b : Bool) (l : List Int) (k : Nat) (N : Int) : Prop where
 hk : k ≤ l.length
 val : N = sg b (Dg.val (l.drop k))
theorem IntRel.step {b : Bool} {l : List Int} {m : Nat} {N : Int} (h : IntRel b l (m + 1) N) : IntRel b l m (sg b (Dg.dig l m + 10 * sg b N)) := by
 have hk := h.hk
 have hv := h.val
 refine ⟨by omega, ?_⟩
 subst hv
 rw [val_drop_dig l m (by omega)]
 unfold sg
 cases b <;> simp
structure MulRel (w : World) (ba bb nb : Bool) (sa sb : Value) (g Bo N : Nat) (wr : World) (O : List Int) : Prop where
 own : wr.ownsRow 0 5 1 (.slice (some ⟨g, 0, none⟩) N N) N (O.map (Value.int .u8))
 a : NBlk wr w.heap.size ba sa
 b : NBlk wr (w.heap.size + 1) bb sb
 r : NBlk wr (w.heap.size + 1 + 1) false (.slice none 0 0)
 o : NBlk wr Bo nb (.slice (some ⟨g, 0, none⟩) N N)
 dn : Dn w wr
 hg : w.heap.size + 1 + 1 < g
 hne : g ≠ Bo
 ho : w.heap.size + 1 + 1 < Bo
 len : O.length = N
theorem MulRel.set {w : World} {ba bb nb : Bool} {sa sb : Value} {g Bo N : Nat} {wr : World} {O : List Int} (h : MulRel w ba bb nb sa sb g Bo N wr O) (j : Nat) (d : Int) :
  MulRel w ba bb nb sa sb g Bo N (wr.setCell ⟨g, j, none⟩ (.int .u8 d)) (O.set j d) := by
 have h1 := h.hg
 have h2 := h.hne
 refine ⟨?_, h.a.far (by simp; omega) _, h.b.far (by simp; omega) _, h.r.far (by simp; omega) _, h.o.far (by simpa using h2) _, h.dn.setCell (by simp; omega) _, h.hg, h.hne, h.ho, by rw [List.length_set]; exact h.len⟩
 have := (h.own.stored j (.int .u8 d)).1
 rwa [← List.map_set] at this
theorem MulRel.drewN {w : World} {ba bb nb : Bool} {sa sb : Value} {g Bo N : Nat} {wr : World} {O : List Int} (h : MulRel w ba bb nb sa sb g Bo N wr O) (n : Nat) : MulRel w ba bb nb sa sb g Bo N (wr.drewN n) O :=
 ⟨h.own, h.a.drewN n, h.b.drewN n, h.r.drewN n, h.o.drewN n, h.dn.drewN n, h.hg, h.hne, h.ho, h.len⟩
theorem MulRel.cell {w : World} {ba bb nb : Bool} {sa sb : Value} {g Bo N : Nat} {wr : World} {O : List Int} (h : MulRel w ba bb nb sa sb g Bo N wr O) (j : Nat) (hj : j < N) :
  wr.cell? ⟨g, j, none⟩ = some (.int .u8 (Dg.dig O j)) ∧ wr.frozen? ⟨g, j, none⟩ = false := by
 refine ⟨?_, h.own.frozenAt j⟩
 rw [h.own.cellAt j (by omega), List.getElem?_map, Dg.dig_some (by rw [h.len]; exact hj)]
 rfl
theorem MulRel.sl {w : World} {ba bb nb : Bool} {sa sb : Value} {g Bo N : Nat} {wr : World} {O : List Int} (h : MulRel w ba bb nb sa sb g Bo N wr O) : SlD wr (.slice (some ⟨g, 0, none⟩) N N) O :=
 SlD.of_own h.own h.len.symm
theorem val_zeros (n : Nat) : Dg.val (List.replicate n 0) = 0 ∧ Dg.Digs (List.replicate n 0) ∧ ∀ j, Dg.dig (List.replicate n 0) j = 0 := by
 refine ⟨?_, ?_, ?_⟩
 · induction n with
   | zero => rfl
   | succ n ih => rw [List.replicate_succ, Dg.val, ih]; rfl
 · intro d hd
   have := List.eq_of_mem_replicate hd
   omega
 · intro j
   unfold Dg.dig
   simp only [List.getD, List.getElem?_replicate]
   split <;> rfl
structure OutRel (la lb : List Int) (i : Nat) (O : List Int) : Prop where
 dg : Dg.Digs O
 val : Dg.val O = Dg.val (la.take i) * Dg.val lb
 z : ∀ j, i + lb.length ≤ j → Dg.dig O j = 0
 len : O.length = la.length + lb.length + 1
theorem OutRel.start (la lb : List Int) : OutRel la lb 0 (List.replicate (la.length + lb.length + 1) 0) :=
 ⟨(val_zeros _).2.1, by rw [(val_zeros _).1]; simp [Dg.val], fun j _ => (val_zeros _).2.2 j, by simp⟩
theorem OutRel.next {la lb : List Int} {i k : Nat} {O : List Int} (h : OutRel la lb i O) (ha : Dg.Digs la) (hb : Dg.Digs lb) (hi : i < la.length) (h1 : lb.length ≤ k) (h2 : k ≤ lb.length + 1) (hc : (Dg.rowS O (Dg.dig la i) lb i k).2 = 0) : OutRel la lb (i + 1) (Dg.rowS O (Dg.dig la i) lb i k).1 := by
 obtain ⟨g1, g2, _⟩ := Dg.rowS_inv h.dg (Dg.dig_bd ha i) hb i k (by rw [h.len]; omega)
 obtain ⟨f1, f2⟩ := Dg.rowS_fin h.dg ha hb i k hi h.len h.z h.val h1 h2 hc
 exact ⟨g2, f2, f1, by rw [g1]; exact h.len⟩
end Go.Proofs.YteodjglbpfmikaaGreatDoor
