/- Walks and laws that the claim's theorem leans on: part 6. -/
import Derived.Test.YtcdkeiolblifkaaDoorZPr1
import Derived.Test.YtcdkeiolblifkaaDoorZPr2
import Derived.Test.YtcdkeiolblifkaaDoorZPr4
import Derived.Maps.RangeWalk
import Derived.RegionTactic
import Derived.Deep.RegionLaw
import Derived.Deep.AppendLies
namespace Go.Proofs.YtcdkeiolblifkaaDoor
set_option maxHeartbeats 4000000
set_option maxRecDepth 100000
open Go.RowKit
set_option linter.unusedVariables false
set_option linter.unusedSimpArgs false
def Sft (i d k j f r : Int) : Prop := (i ≠ 0 ∧ j = i ∧ f = d ∧ r = 0) ∨ (i = 0 ∧ j = 0 ∧ Fits (d + k) f r)
theorem lt_of_cell {w : World} {b j : Nat} {v : Value} (h : w.cell? ⟨b, j, none⟩ = some v) : b < w.heap.size := by
 rcases Nat.lt_or_ge b w.heap.size with hb | hb
 · exact hb
 · simp [World.cell?, Array.getElem?_eq_none hb] at h
theorem rnS_inf (i d k : Int) (bk : Nat) (h1 : i ≠ 0) (w : World) :
  Calls Tryd.prog 56 #[.agg #[.int .i8 i, .int .i64 d], .pointer (some ⟨bk, 0, none⟩)] w fun ro w' => ro = .returned (.tuple #[.agg #[.int .i8 i, .int .i64 d], .int .i64 0]) ∧ Dn w w' := by
 have t1 : (i != 0) = true := by simpa using h1
 clear h1
 go_enter Tryd.func56, Tryd.ntmps56
 go_wp2_with fail
 exact bodyPost_ret (v := .tuple #[.agg #[.int .i8 i, .int .i64 d], .int .i64 0]) (by simp [results, Tryd.results56, go_sem]) rfl ⟨rfl, ((Dn.refl _).alloc _).alloc _⟩
theorem rnS_day (d k f r : Int) (bk : Nat) (HA : Hid (∀ W, Calls Tryd.prog 54 #[.int .i64 d, .int .i64 k] W fun o w' => o = .returned (.tuple #[.int .i64 f, .int .i64 r]) ∧ Up W w')) (w : World) (hk : w.cell? ⟨bk, 0, none⟩ = some (.int .i64 k)) :
  Calls Tryd.prog 56 #[.agg #[.int .i8 0, .int .i64 d], .pointer (some ⟨bk, 0, none⟩)] w fun ro w' => ro = .returned (.tuple #[.agg #[.int .i8 0, .int .i64 f], .int .i64 r]) ∧ Dn w w' := by
 have hl := lt_of_cell hk
 have hk2 : ((w.alloc (.cells #[.int .i8 0, .int .i64 d] 27)).alloc (.cells #[.int .i8 0, .int .i64 0] 27)).cell? ⟨bk, 0, none⟩ = some (.int .i64 k) := (((Dn.refl _).alloc _).alloc _).cell hk
 go_enter Tryd.func56, Tryd.ntmps56
 go_wp2_with fail
 clear hk2
 obtain ⟨W1, hW1⟩ : ∃ W1, W1 = (w.alloc (.cells #[.int .i8 0, .int .i64 d] 27)).alloc (.cells #[.int .i8 0, .int .i64 0] 27) := ⟨_, rfl⟩
 have uW1 : Dn w W1 := by rw [hW1]; exact ((Dn.refl _).alloc _).alloc _
 have l2 := nlt hl uW1.size
 have c3 := uW1.cell hk
 clear hl hk
 have c4 : W1.cell? ⟨w.heap.size, 0, none⟩ = some (.int .i8 0) := by rw [hW1]; simp [go_sem]
 have c5 : W1.cell? ⟨w.heap.size, 1, none⟩ = some (.int .i64 d) := by rw [hW1]; simp [go_sem]
 have l6 : w.heap.size < W1.heap.size := by rw [hW1]; simp <;> omega
 have c7 : W1.cell? ⟨w.heap.size + 1, 0, none⟩ = some (.int .i8 0) := by rw [hW1]; simp [go_sem]
 have c8 : W1.cell? ⟨w.heap.size + 1, 1, none⟩ = some (.int .i64 0) := by rw [hW1]; simp [go_sem]
 have l9 : w.heap.size + 1 < W1.heap.size := by rw [hW1]; simp <;> omega
 have f10 : W1.frozen? ⟨w.heap.size + 1, 0, none⟩ = false := by rw [hW1]; simp [go_sem]
 have f11 : W1.frozen? ⟨w.heap.size + 1, 1, none⟩ = false := by rw [hW1]; simp [go_sem]
 rw [← hW1]
 clear hW1
 refine (HA.out _).mono ?_
 rintro e w1 ⟨rfl, qw1⟩
 replace qw1 := qw1.dn
 have a1 := nlt l2 qw1.size
 have a3 := nlt l6 qw1.size
 obtain ⟨a2, a4, a5⟩ := mv3 qw1.cell c3 c4 c5
 have f17 := (qw1.frozen (a := ⟨w.heap.size + 1, 0, none⟩) l9).trans f10
 have f18 := (qw1.frozen (a := ⟨w.heap.size + 1, 1, none⟩) l9).trans f11
 have a0 := nlt l9 qw1.size
 have a6 := qw1.cell c7
 have a7 := qw1.cell c8
 clear l2 c3 l6 c4 c5 f10 f11 l9 c7 c8
 have uw1 := uW1.trans qw1
 clear qw1 uW1
 go_wp2_with fail
 refine (eOf f _).mono ?_
 rintro e w2 ⟨rfl, qw2⟩
 replace qw2 := qw2.dn
 have aD := nlt a1 qw2.size
 have aE := nlt a3 qw2.size
 obtain ⟨a8, a9, aA⟩ := mv3 qw2.cell a2 a4 a5
 have f27 := (qw2.frozen (a := ⟨w.heap.size + 1, 0, none⟩) a0).trans f17
 have f28 := (qw2.frozen (a := ⟨w.heap.size + 1, 1, none⟩) a0).trans f18
 have aF := nlt a0 qw2.size
 have aB := qw2.cell a6
 have aC := qw2.cell a7
 clear a1 a2 a3 a4 a5 f17 f18 a0 a6 a7
 have uw2 := uw1.trans qw2
 clear qw2 uw1
 go_wp2_with fail
 exact bodyPost_ret (v := .tuple #[.agg #[.int .i8 0, .int .i64 f], .int .i64 r]) (by simp [results, Tryd.results56, go_sem, a8, a9, aA, aB, aC, f27, f28] <;> omega) rfl ⟨rfl, ((uw2.setCell (by simp <;> omega) _).setCell (by simp <;> omega) _)⟩
theorem rnS (i d k j f r : Int) (bk : Nat) (w : World) (hd : I64 d) (hkk : I64 k) (h : Sft i d k j f r) (hk : w.cell? ⟨bk, 0, none⟩ = some (.int .i64 k)) :
   Calls Tryd.prog 56 #[.agg #[.int .i8 i, .int .i64 d], .pointer (some ⟨bk, 0, none⟩)] w fun ro w' => ro = .returned (.tuple #[.agg #[.int .i8 j, .int .i64 f], .int .i64 r]) ∧ Dn w w' := by
 rcases h with ⟨h0, rfl, rfl, rfl⟩ | ⟨rfl, rfl, hf⟩
 · exact rnS_inf _ _ k bk h0 w
 · exact rnS_day d k f r bk (Lib.hid fun W => add_any d k _ f r W hd hkk rfl hf) w hk
theorem rnB_1 (i1 d1 i2 d2 k j1 f1 j2 f2 r1 r2 : Int) (bk : Nat) (HA : Hid (∀ W, W.cell? ⟨bk, 0, none⟩ = some (.int .i64 k) → Calls Tryd.prog 56 #[.agg #[.int .i8 i1, .int .i64 d1], .pointer (some ⟨bk, 0, none⟩)] W fun o w' => o = .returned (.tuple #[.agg #[.int .i8 j1, .int .i64 f1], .int .i64 r1]) ∧ Dn W w')) (h1 : r1 ≠ 0) (w : World) (hk : w.cell? ⟨bk, 0, none⟩ = some (.int .i64 k)) :
  Calls Tryd.prog 55 #[.agg #[.int .i8 i1, .int .i64 d1], .agg #[.int .i8 i2, .int .i64 d2], .func (.func 56) #[] #[.pointer (some ⟨bk, 0, none⟩)]] w fun ro w' => ro = .returned (.tuple #[.agg #[.int .i8 0, .int .i64 0, .int .i8 0, .int .i64 0], .int .i64 r1]) ∧ Dn w w' := by
 have hl := lt_of_cell hk
 have t1 : (r1 != 0) = true := by simpa using h1
 clear h1
 go_enter Tryd.func55, Tryd.ntmps55
 go_wp2_with fail
 obtain ⟨W1, hW1⟩ : ∃ W1, W1 = ((w.alloc (.cells #[.int .i8 i1, .int .i64 d1] 27)).alloc (.cells #[.int .i8 i2, .int .i64 d2] 27)).alloc (.cells #[.int .i8 0, .int .i64 0, .int .i8 0, .int .i64 0] 75) := ⟨_, rfl⟩
 have uW1 : Dn w W1 := by rw [hW1]; exact (((Dn.refl _).alloc _).alloc _).alloc _
 have l2 := nlt hl uW1.size
 have c3 := uW1.cell hk
 clear hl hk
 have c4 : W1.cell? ⟨w.heap.size, 0, none⟩ = some (.int .i8 i1) := by rw [hW1]; simp [go_sem]
 have c5 : W1.cell? ⟨w.heap.size, 1, none⟩ = some (.int .i64 d1) := by rw [hW1]; simp [go_sem]
 have l6 : w.heap.size < W1.heap.size := by rw [hW1]; simp <;> omega
 have c7 : W1.cell? ⟨w.heap.size + 1, 0, none⟩ = some (.int .i8 i2) := by rw [hW1]; simp [go_sem]
 have c8 : W1.cell? ⟨w.heap.size + 1, 1, none⟩ = some (.int .i64 d2) := by rw [hW1]; simp [go_sem]
 have l9 : w.heap.size + 1 < W1.heap.size := by rw [hW1]; simp <;> omega
 have a1 : W1.cell? ⟨w.heap.size + 1 + 1, 0, none⟩ = some (.int .i8 0) := by rw [hW1]; simp [go_sem]
 have a2 : W1.cell? ⟨w.heap.size + 1 + 1, 1, none⟩ = some (.int .i64 0) := by rw [hW1]; simp [go_sem]
 have a3 : W1.cell? ⟨w.heap.size + 1 + 1, 2, none⟩ = some (.int .i8 0) := by rw [hW1]; simp [go_sem]
 have a4 : W1.cell? ⟨w.heap.size + 1 + 1, 3, none⟩ = some (.int .i64 0) := by rw [hW1]; simp [go_sem]
 have a0 : w.heap.size + 1 + 1 < W1.heap.size := by rw [hW1]; simp <;> omega
 have f15 : W1.frozen? ⟨w.heap.size + 1 + 1, 0, none⟩ = false := by rw [hW1]; simp [go_sem]
 have f16 : W1.frozen? ⟨w.heap.size + 1 + 1, 1, none⟩ = false := by rw [hW1]; simp [go_sem]
 have f17 : W1.frozen? ⟨w.heap.size + 1 + 1, 2, none⟩ = false := by rw [hW1]; simp [go_sem]
 have f18 : W1.frozen? ⟨w.heap.size + 1 + 1, 3, none⟩ = false := by rw [hW1]; simp [go_sem]
 rw [← hW1]
 clear hW1
 refine (HA.out _ c3).mono ?_
 rintro e w1 ⟨rfl, qw1⟩
 have aA := nlt l2 qw1.size
 have aC := nlt l6 qw1.size
 have aF := nlt l9 qw1.size
 obtain ⟨aB, aD, aE, aG, aH⟩ := mv5 qw1.cell c3 c4 c5 c7 c8
 have f27 := (qw1.frozen (a := ⟨w.heap.size + 1 + 1, 0, none⟩) a0).trans f15
 have f28 := (qw1.frozen (a := ⟨w.heap.size + 1 + 1, 1, none⟩) a0).trans f16
 have f29 := (qw1.frozen (a := ⟨w.heap.size + 1 + 1, 2, none⟩) a0).trans f17
 have f30 := (qw1.frozen (a := ⟨w.heap.size + 1 + 1, 3, none⟩) a0).trans f18
 have a9 := nlt a0 qw1.size
 obtain ⟨a5, a6, a7, a8⟩ := mv4 qw1.cell a1 a2 a3 a4
 clear l2 c3 l6 c4 c5 l9 c7 c8 f15 f16 f17 f18 a0 a1 a2 a3 a4
 have uw1 := uW1.trans qw1
 clear qw1 uW1
 go_wp2_with fail
 have hC : C4 w1 (w.heap.size + 1 + 1) (.int .i8 0) (.int .i64 0) (.int .i8 0) (.int .i64 0) := ⟨a5, a6, a7, a8, f27, f28, f29, f30, a9⟩
 have hZ := fun o : Obj => (hC.fill (.int .i8 0) (.int .i64 0) (.int .i8 0) (.int .i64 0)).alloc o
 have z0 := fun o : Obj => (hZ o).c0
 have y0 := fun o : Obj => (hZ o).f0
 have z1 := fun o : Obj => (hZ o).c1
 have y1 := fun o : Obj => (hZ o).f1
 have z2 := fun o : Obj => (hZ o).c2
 have y2 := fun o : Obj => (hZ o).f2
 have z3 := fun o : Obj => (hZ o).c3
 have y3 := fun o : Obj => (hZ o).f3
 exact bodyPost_ret (v := .tuple #[.agg #[.int .i8 0, .int .i64 0, .int .i8 0, .int .i64 0], .int .i64 r1]) (by simp [results, Tryd.results55, go_sem, z0, z1, z2, z3, y0, y1, y2, y3, a5, a6, a7, a8, f27, f28, f29, f30] <;> omega) rfl ⟨rfl, (((((uw1.setCell (by simp <;> omega) _).setCell (by simp <;> omega) _).setCell (by simp <;> omega) _).setCell (by simp <;> omega) _).alloc _)⟩
theorem rnB_2 (i1 d1 i2 d2 k j1 f1 j2 f2 r1 r2 : Int) (bk : Nat) (HA : Hid (∀ W, W.cell? ⟨bk, 0, none⟩ = some (.int .i64 k) → Calls Tryd.prog 56 #[.agg #[.int .i8 i1, .int .i64 d1], .pointer (some ⟨bk, 0, none⟩)] W fun o w' => o = .returned (.tuple #[.agg #[.int .i8 j1, .int .i64 f1], .int .i64 0]) ∧ Dn W w')) (HB : Hid (∀ W, W.cell? ⟨bk, 0, none⟩ = some (.int .i64 k) → Calls Tryd.prog 56 #[.agg #[.int .i8 i2, .int .i64 d2], .pointer (some ⟨bk, 0, none⟩)] W fun o w' => o = .returned (.tuple #[.agg #[.int .i8 j2, .int .i64 f2], .int .i64 r2]) ∧ Dn W w')) (h1 : r2 ≠ 0) (w : World) (hk : w.cell? ⟨bk, 0, none⟩ = some (.int .i64 k)) :
  Calls Tryd.prog 55 #[.agg #[.int .i8 i1, .int .i64 d1], .agg #[.int .i8 i2, .int .i64 d2], .func (.func 56) #[] #[.pointer (some ⟨bk, 0, none⟩)]] w fun ro w' => ro = .returned (.tuple #[.agg #[.int .i8 0, .int .i64 0, .int .i8 0, .int .i64 0], .int .i64 r2]) ∧ Dn w w' := by
 have hl := lt_of_cell hk
 have t1 : (r2 != 0) = true := by simpa using h1
 clear h1
 go_enter Tryd.func55, Tryd.ntmps55
 go_wp2_with fail
 obtain ⟨W1, hW1⟩ : ∃ W1, W1 = ((w.alloc (.cells #[.int .i8 i1, .int .i64 d1] 27)).alloc (.cells #[.int .i8 i2, .int .i64 d2] 27)).alloc (.cells #[.int .i8 0, .int .i64 0, .int .i8 0, .int .i64 0] 75) := ⟨_, rfl⟩
 have uW1 : Dn w W1 := by rw [hW1]; exact (((Dn.refl _).alloc _).alloc _).alloc _
 have l2 := nlt hl uW1.size
 have c3 := uW1.cell hk
 clear hl hk
 have c4 : W1.cell? ⟨w.heap.size, 0, none⟩ = some (.int .i8 i1) := by rw [hW1]; simp [go_sem]
 have c5 : W1.cell? ⟨w.heap.size, 1, none⟩ = some (.int .i64 d1) := by rw [hW1]; simp [go_sem]
 have l6 : w.heap.size < W1.heap.size := by rw [hW1]; simp <;> omega
 have c7 : W1.cell? ⟨w.heap.size + 1, 0, none⟩ = some (.int .i8 i2) := by rw [hW1]; simp [go_sem]
 have c8 : W1.cell? ⟨w.heap.size + 1, 1, none⟩ = some (.int .i64 d2) := by rw [hW1]; simp [go_sem]
 have l9 : w.heap.size + 1 < W1.heap.size := by rw [hW1]; simp <;> omega
 have a4 : W1.cell? ⟨w.heap.size + 1 + 1, 0, none⟩ = some (.int .i8 0) := by rw [hW1]; simp [go_sem]
 have a5 : W1.cell? ⟨w.heap.size + 1 + 1, 1, none⟩ = some (.int .i64 0) := by rw [hW1]; simp [go_sem]
 have a6 : W1.cell? ⟨w.heap.size + 1 + 1, 2, none⟩ = some (.int .i8 0) := by rw [hW1]; simp [go_sem]
 have a7 : W1.cell? ⟨w.heap.size + 1 + 1, 3, none⟩ = some (.int .i64 0) := by rw [hW1]; simp [go_sem]
 have a0 : w.heap.size + 1 + 1 < W1.heap.size := by rw [hW1]; simp <;> omega
 have f15 : W1.frozen? ⟨w.heap.size + 1 + 1, 0, none⟩ = false := by rw [hW1]; simp [go_sem]
 have f16 : W1.frozen? ⟨w.heap.size + 1 + 1, 1, none⟩ = false := by rw [hW1]; simp [go_sem]
 have f17 : W1.frozen? ⟨w.heap.size + 1 + 1, 2, none⟩ = false := by rw [hW1]; simp [go_sem]
 have f18 : W1.frozen? ⟨w.heap.size + 1 + 1, 3, none⟩ = false := by rw [hW1]; simp [go_sem]
 rw [← hW1]
 clear hW1
 refine (HA.out _ c3).mono ?_
 rintro e w1 ⟨rfl, qw1⟩
 have a8 := nlt l2 qw1.size
 have aA := nlt l6 qw1.size
 have aD := nlt l9 qw1.size
 obtain ⟨a9, aB, aC, aE, aF⟩ := mv5 qw1.cell c3 c4 c5 c7 c8
 have f27 := (qw1.frozen (a := ⟨w.heap.size + 1 + 1, 0, none⟩) a0).trans f15
 have f28 := (qw1.frozen (a := ⟨w.heap.size + 1 + 1, 1, none⟩) a0).trans f16
 have f29 := (qw1.frozen (a := ⟨w.heap.size + 1 + 1, 2, none⟩) a0).trans f17
 have f30 := (qw1.frozen (a := ⟨w.heap.size + 1 + 1, 3, none⟩) a0).trans f18
 have a1 := nlt a0 qw1.size
 obtain ⟨aG, aH, aI, aJ⟩ := mv4 qw1.cell a4 a5 a6 a7
 clear l2 c3 l6 c4 c5 l9 c7 c8 f15 f16 f17 f18 a0 a4 a5 a6 a7
 have uw1 := uW1.trans qw1
 clear qw1 uW1
 go_wp2_with fail
 obtain ⟨W36, hW36⟩ : ∃ W36, W36 = w1.alloc (.cells #[.int .i8 j1, .int .i64 f1] 27) := ⟨_, rfl⟩
 have uW36 : Dn w1 W36 := by rw [hW36]; exact (Dn.refl _).alloc _
 have aK := nlt a8 uW36.size
 have aL := nlt aA uW36.size
 have aO := nlt aD uW36.size
 obtain ⟨a3, aM, aN, aP, aQ⟩ := mv5 uW36.cell a9 aB aC aE aF
 have f45 := (uW36.frozen (a := ⟨w.heap.size + 1 + 1, 0, none⟩) a1).trans f27
 have f46 := (uW36.frozen (a := ⟨w.heap.size + 1 + 1, 1, none⟩) a1).trans f28
 have f47 := (uW36.frozen (a := ⟨w.heap.size + 1 + 1, 2, none⟩) a1).trans f29
 have f48 := (uW36.frozen (a := ⟨w.heap.size + 1 + 1, 3, none⟩) a1).trans f30
 have a2 := nlt a1 uW36.size
 obtain ⟨aR, aS, aT, aU⟩ := mv4 uW36.cell aG aH aI aJ
 clear a8 a9 aA aB aC aD aE aF f27 f28 f29 f30 a1 aG aH aI aJ
 have aV : W36.cell? ⟨w1.heap.size, 0, none⟩ = some (.int .i8 j1) := by rw [hW36]; simp [go_sem]
 have aW : W36.cell? ⟨w1.heap.size, 1, none⟩ = some (.int .i64 f1) := by rw [hW36]; simp [go_sem]
 have aX : w1.heap.size < W36.heap.size := by rw [hW36]; simp <;> omega
 rw [← hW36]
 clear hW36
 have vW36 := uw1.trans uW36
 clear uW36 uw1
 refine (HB.out _ a3).mono ?_
 rintro e w2 ⟨rfl, qw2⟩
 have b3 := nlt aK qw2.size
 have b5 := nlt aL qw2.size
 have b8 := nlt aO qw2.size
 obtain ⟨b4, b6, b7, b9, bA⟩ := mv5 qw2.cell a3 aM aN aP aQ
 have f65 := (qw2.frozen (a := ⟨w.heap.size + 1 + 1, 0, none⟩) a2).trans f45
 have f66 := (qw2.frozen (a := ⟨w.heap.size + 1 + 1, 1, none⟩) a2).trans f46
 have f67 := (qw2.frozen (a := ⟨w.heap.size + 1 + 1, 2, none⟩) a2).trans f47
 have f68 := (qw2.frozen (a := ⟨w.heap.size + 1 + 1, 3, none⟩) a2).trans f48
 have b2 := nlt a2 qw2.size
 have bB := nlt aX qw2.size
 obtain ⟨aY, aZ, b0, b1, bC, bD⟩ := mv6 qw2.cell aR aS aT aU aV aW
 clear aK a3 aL aM aN aO aP aQ f45 f46 f47 f48 a2 aR aS aT aU aX aV aW
 have uw2 := vW36.trans qw2
 clear qw2 vW36
 go_wp2_with fail
 have hC : C4 w2 (w.heap.size + 1 + 1) (.int .i8 0) (.int .i64 0) (.int .i8 0) (.int .i64 0) := ⟨aY, aZ, b0, b1, f65, f66, f67, f68, b2⟩
 have hZ := fun o : Obj => (hC.fill (.int .i8 0) (.int .i64 0) (.int .i8 0) (.int .i64 0)).alloc o
 have z0 := fun o : Obj => (hZ o).c0
 have y0 := fun o : Obj => (hZ o).f0
 have z1 := fun o : Obj => (hZ o).c1
 have y1 := fun o : Obj => (hZ o).f1
 have z2 := fun o : Obj => (hZ o).c2
 have y2 := fun o : Obj => (hZ o).f2
 have z3 := fun o : Obj => (hZ o).c3
 have y3 := fun o : Obj => (hZ o).f3
 exact bodyPost_ret (v := .tuple #[.agg #[.int .i8 0, .int .i64 0, .int .i8 0, .int .i64 0], .int .i64 r2]) (by simp [results, Tryd.results55, go_sem, z0, z1, z2, z3, y0, y1, y2, y3, aY, aZ, b0, b1, f65, f66, f67, f68] <;> omega) rfl ⟨rfl, (((((uw2.setCell (by simp <;> omega) _).setCell (by simp <;> omega) _).setCell (by simp <;> omega) _).setCell (by simp <;> omega) _).alloc _)⟩
theorem rnB_3 (i1 d1 i2 d2 k j1 f1 j2 f2 r1 r2 : Int) (bk : Nat) (HA : Hid (∀ W, W.cell? ⟨bk, 0, none⟩ = some (.int .i64 k) → Calls Tryd.prog 56 #[.agg #[.int .i8 i1, .int .i64 d1], .pointer (some ⟨bk, 0, none⟩)] W fun o w' => o = .returned (.tuple #[.agg #[.int .i8 j1, .int .i64 f1], .int .i64 0]) ∧ Dn W w')) (HB : Hid (∀ W, W.cell? ⟨bk, 0, none⟩ = some (.int .i64 k) → Calls Tryd.prog 56 #[.agg #[.int .i8 i2, .int .i64 d2], .pointer (some ⟨bk, 0, none⟩)] W fun o w' => o = .returned (.tuple #[.agg #[.int .i8 j2, .int .i64 f2], .int .i64 0]) ∧ Dn W w')) (w : World) (hk : w.cell? ⟨bk, 0, none⟩ = some (.int .i64 k)) :
  Calls Tryd.prog 55 #[.agg #[.int .i8 i1, .int .i64 d1], .agg #[.int .i8 i2, .int .i64 d2], .func (.func 56) #[] #[.pointer (some ⟨bk, 0, none⟩)]] w fun ro w' => ro = .returned (.tuple #[.agg #[.int .i8 j1, .int .i64 f1, .int .i8 j2, .int .i64 f2], .int .i64 0]) ∧ Dn w w' := by
 have hl := lt_of_cell hk
 go_enter Tryd.func55, Tryd.ntmps55
 go_wp2_with fail
 obtain ⟨W1, hW1⟩ : ∃ W1, W1 = ((w.alloc (.cells #[.int .i8 i1, .int .i64 d1] 27)).alloc (.cells #[.int .i8 i2, .int .i64 d2] 27)).alloc (.cells #[.int .i8 0, .int .i64 0, .int .i8 0, .int .i64 0] 75) := ⟨_, rfl⟩
 have uW1 : Dn w W1 := by rw [hW1]; exact (((Dn.refl _).alloc _).alloc _).alloc _
 have l2 := nlt hl uW1.size
 have c3 := uW1.cell hk
 clear hl hk
 have c4 : W1.cell? ⟨w.heap.size, 0, none⟩ = some (.int .i8 i1) := by rw [hW1]; simp [go_sem]
 have c5 : W1.cell? ⟨w.heap.size, 1, none⟩ = some (.int .i64 d1) := by rw [hW1]; simp [go_sem]
 have l6 : w.heap.size < W1.heap.size := by rw [hW1]; simp <;> omega
 have c7 : W1.cell? ⟨w.heap.size + 1, 0, none⟩ = some (.int .i8 i2) := by rw [hW1]; simp [go_sem]
 have c8 : W1.cell? ⟨w.heap.size + 1, 1, none⟩ = some (.int .i64 d2) := by rw [hW1]; simp [go_sem]
 have l9 : w.heap.size + 1 < W1.heap.size := by rw [hW1]; simp <;> omega
 have a4 : W1.cell? ⟨w.heap.size + 1 + 1, 0, none⟩ = some (.int .i8 0) := by rw [hW1]; simp [go_sem]
 have a5 : W1.cell? ⟨w.heap.size + 1 + 1, 1, none⟩ = some (.int .i64 0) := by rw [hW1]; simp [go_sem]
 have a6 : W1.cell? ⟨w.heap.size + 1 + 1, 2, none⟩ = some (.int .i8 0) := by rw [hW1]; simp [go_sem]
 have a7 : W1.cell? ⟨w.heap.size + 1 + 1, 3, none⟩ = some (.int .i64 0) := by rw [hW1]; simp [go_sem]
 have a0 : w.heap.size + 1 + 1 < W1.heap.size := by rw [hW1]; simp <;> omega
 have f15 : W1.frozen? ⟨w.heap.size + 1 + 1, 0, none⟩ = false := by rw [hW1]; simp [go_sem]
 have f16 : W1.frozen? ⟨w.heap.size + 1 + 1, 1, none⟩ = false := by rw [hW1]; simp [go_sem]
 have f17 : W1.frozen? ⟨w.heap.size + 1 + 1, 2, none⟩ = false := by rw [hW1]; simp [go_sem]
 have f18 : W1.frozen? ⟨w.heap.size + 1 + 1, 3, none⟩ = false := by rw [hW1]; simp [go_sem]
 rw [← hW1]
 clear hW1
 refine (HA.out _ c3).mono ?_
 rintro e w1 ⟨rfl, qw1⟩
 have a8 := nlt l2 qw1.size
 have aA := nlt l6 qw1.size
 have aD := nlt l9 qw1.size
 obtain ⟨a9, aB, aC, aE, aF⟩ := mv5 qw1.cell c3 c4 c5 c7 c8
 have f27 := (qw1.frozen (a := ⟨w.heap.size + 1 + 1, 0, none⟩) a0).trans f15
 have f28 := (qw1.frozen (a := ⟨w.heap.size + 1 + 1, 1, none⟩) a0).trans f16
 have f29 := (qw1.frozen (a := ⟨w.heap.size + 1 + 1, 2, none⟩) a0).trans f17
 have f30 := (qw1.frozen (a := ⟨w.heap.size + 1 + 1, 3, none⟩) a0).trans f18
 have a1 := nlt a0 qw1.size
 obtain ⟨aG, aH, aI, aJ⟩ := mv4 qw1.cell a4 a5 a6 a7
 clear l2 c3 l6 c4 c5 l9 c7 c8 f15 f16 f17 f18 a0 a4 a5 a6 a7
 have uw1 := uW1.trans qw1
 clear qw1 uW1
 go_wp2_with fail
 obtain ⟨W36, hW36⟩ : ∃ W36, W36 = w1.alloc (.cells #[.int .i8 j1, .int .i64 f1] 27) := ⟨_, rfl⟩
 have uW36 : Dn w1 W36 := by rw [hW36]; exact (Dn.refl _).alloc _
 have aK := nlt a8 uW36.size
 have aL := nlt aA uW36.size
 have aO := nlt aD uW36.size
 obtain ⟨a3, aM, aN, aP, aQ⟩ := mv5 uW36.cell a9 aB aC aE aF
 have f45 := (uW36.frozen (a := ⟨w.heap.size + 1 + 1, 0, none⟩) a1).trans f27
 have f46 := (uW36.frozen (a := ⟨w.heap.size + 1 + 1, 1, none⟩) a1).trans f28
 have f47 := (uW36.frozen (a := ⟨w.heap.size + 1 + 1, 2, none⟩) a1).trans f29
 have f48 := (uW36.frozen (a := ⟨w.heap.size + 1 + 1, 3, none⟩) a1).trans f30
 have a2 := nlt a1 uW36.size
 obtain ⟨aR, aS, aT, aU⟩ := mv4 uW36.cell aG aH aI aJ
 clear a8 a9 aA aB aC aD aE aF f27 f28 f29 f30 a1 aG aH aI aJ
 have aV : W36.cell? ⟨w1.heap.size, 0, none⟩ = some (.int .i8 j1) := by rw [hW36]; simp [go_sem]
 have aW : W36.cell? ⟨w1.heap.size, 1, none⟩ = some (.int .i64 f1) := by rw [hW36]; simp [go_sem]
 have aX : w1.heap.size < W36.heap.size := by rw [hW36]; simp <;> omega
 rw [← hW36]
 clear hW36
 have vW36 := uw1.trans uW36
 clear uW36 uw1
 refine (HB.out _ a3).mono ?_
 rintro e w2 ⟨rfl, qw2⟩
 have b3 := nlt aK qw2.size
 have b5 := nlt aL qw2.size
 have b8 := nlt aO qw2.size
 obtain ⟨b4, b6, b7, b9, bA⟩ := mv5 qw2.cell a3 aM aN aP aQ
 have f65 := (qw2.frozen (a := ⟨w.heap.size + 1 + 1, 0, none⟩) a2).trans f45
 have f66 := (qw2.frozen (a := ⟨w.heap.size + 1 + 1, 1, none⟩) a2).trans f46
 have f67 := (qw2.frozen (a := ⟨w.heap.size + 1 + 1, 2, none⟩) a2).trans f47
 have f68 := (qw2.frozen (a := ⟨w.heap.size + 1 + 1, 3, none⟩) a2).trans f48
 have b2 := nlt a2 qw2.size
 have bB := nlt aX qw2.size
 obtain ⟨aY, aZ, b0, b1, bC, bD⟩ := mv6 qw2.cell aR aS aT aU aV aW
 clear aK a3 aL aM aN aO aP aQ f45 f46 f47 f48 a2 aR aS aT aU aX aV aW
 have uw2 := vW36.trans qw2
 clear qw2 vW36
 go_wp2_with fail
 have hC : C4 w2 (w.heap.size + 1 + 1) (.int .i8 0) (.int .i64 0) (.int .i8 0) (.int .i64 0) := ⟨aY, aZ, b0, b1, f65, f66, f67, f68, b2⟩
 have hZ := fun o : Obj => (hC.fill (.int .i8 j1) (.int .i64 f1) (.int .i8 j2) (.int .i64 f2)).alloc o
 have z0 := fun o : Obj => (hZ o).c0
 have y0 := fun o : Obj => (hZ o).f0
 have z1 := fun o : Obj => (hZ o).c1
 have y1 := fun o : Obj => (hZ o).f1
 have z2 := fun o : Obj => (hZ o).c2
 have y2 := fun o : Obj => (hZ o).f2
 have z3 := fun o : Obj => (hZ o).c3
 have y3 := fun o : Obj => (hZ o).f3
 exact bodyPost_ret (v := .tuple #[.agg #[.int .i8 j1, .int .i64 f1, .int .i8 j2, .int .i64 f2], .int .i64 0]) (by simp [results, Tryd.results55, go_sem, z0, z1, z2, z3, y0, y1, y2, y3, aY, aZ, b0, b1, f65, f66, f67, f68] <;> omega) rfl ⟨rfl, (((((uw2.setCell (by simp <;> omega) _).setCell (by simp <;> omega) _).setCell (by simp <;> omega) _).setCell (by simp <;> omega) _).alloc _)⟩
theorem prePr34x1 (w : World) (a b c d k : Int) : ∃ W1, W1 = ((w.alloc (.cells #[.int .i8 a, .int .i64 b, .int .i8 c, .int .i64 d] 29)).alloc (.cells #[.int .i64 k] 2)).alloc (.cells #[.int .i8 0, .int .i64 0, .int .i8 0, .int .i64 0] 29) ∧ (Dn w W1) ∧ (W1.cell? ⟨w.heap.size, 0, none⟩ = some (.int .i8 a)) ∧ (W1.cell? ⟨w.heap.size, 1, none⟩ = some (.int .i64 b)) ∧ (W1.cell? ⟨w.heap.size, 2, none⟩ = some (.int .i8 c)) ∧ (W1.cell? ⟨w.heap.size, 3, none⟩ = some (.int .i64 d)) ∧ (w.heap.size < W1.heap.size) ∧ (W1.cell? ⟨w.heap.size + 1, 0, none⟩ = some (.int .i64 k)) ∧ (w.heap.size + 1 < W1.heap.size) ∧ (W1.cell? ⟨w.heap.size + 1 + 1, 0, none⟩ = some (.int .i8 0)) ∧ (W1.cell? ⟨w.heap.size + 1 + 1, 1, none⟩ = some (.int .i64 0)) ∧ (W1.cell? ⟨w.heap.size + 1 + 1, 2, none⟩ = some (.int .i8 0)) ∧ (W1.cell? ⟨w.heap.size + 1 + 1, 3, none⟩ = some (.int .i64 0)) ∧ (w.heap.size + 1 + 1 < W1.heap.size) ∧ (W1.frozen? ⟨w.heap.size + 1 + 1, 0, none⟩ = false) ∧ (W1.frozen? ⟨w.heap.size + 1 + 1, 1, none⟩ = false) ∧ (W1.frozen? ⟨w.heap.size + 1 + 1, 2, none⟩ = false) ∧ (W1.frozen? ⟨w.heap.size + 1 + 1, 3, none⟩ = false) := by
  obtain ⟨W1, hW1⟩ : ∃ W1, W1 = ((w.alloc (.cells #[.int .i8 a, .int .i64 b, .int .i8 c, .int .i64 d] 29)).alloc (.cells #[.int .i64 k] 2)).alloc (.cells #[.int .i8 0, .int .i64 0, .int .i8 0, .int .i64 0] 29) := ⟨_, rfl⟩
  exact ⟨W1, hW1, (by rw [hW1]; exact (((Dn.refl _).alloc _).alloc _).alloc _), (by rw [hW1]; simp [go_sem]), (by rw [hW1]; simp [go_sem]), (by rw [hW1]; simp [go_sem]), (by rw [hW1]; simp [go_sem]), (by rw [hW1]; simp <;> omega), (by rw [hW1]; simp [go_sem]), (by rw [hW1]; simp <;> omega), (by rw [hW1]; simp [go_sem]), (by rw [hW1]; simp [go_sem]), (by rw [hW1]; simp [go_sem]), (by rw [hW1]; simp [go_sem]), (by rw [hW1]; simp <;> omega), (by rw [hW1]; simp [go_sem]), (by rw [hW1]; simp [go_sem]), (by rw [hW1]; simp [go_sem]), (by rw [hW1]; simp [go_sem])⟩
theorem rnSh_bad (a b c d k m : Int) (HC : Hid (ChkIs a b c d m)) (h1 : m ≠ 0) (w : World) :
  Calls Tryd.prog 30 #[.agg #[.int .i8 a, .int .i64 b, .int .i8 c, .int .i64 d], .int .i64 k] w fun ro w' => ro = .returned (.tuple #[.agg #[.int .i8 0, .int .i64 0, .int .i8 0, .int .i64 0], .int .i64 m]) ∧ Dn w w' := by
 have t1 : (m != 0) = true := by simpa using h1
 clear h1
 have hmf : ∀ (fn : Fn) (first cap : Array Value) (w : World), (Instr.makeFunc fn first cap).run Tryd.prog w = .ok (.func fn first cap) w := fun _ _ _ _ => rfl
 go_enter Tryd.func30, Tryd.ntmps30
 go_wp2_with fail
 obtain ⟨W1, hW1, uW1, c2, c3, c4, c5, l6, c7, l8, c9, a1, a2, a3, a0, f14, f15, f16, f17⟩ := prePr34x1 w a b c d k
 rw [← hW1]
 clear hW1
 refine (HC.out _).mono ?_
 rintro e w1 ⟨rfl, qw1⟩
 have aD := nlt l6 qw1.size
 have aE := nlt l8 qw1.size
 obtain ⟨a4, a5, a6, a7, a8⟩ := mv5 qw1.cell c2 c3 c4 c5 c7
 have f25 := (qw1.frozen (a := ⟨w.heap.size + 1 + 1, 0, none⟩) a0).trans f14
 have f26 := (qw1.frozen (a := ⟨w.heap.size + 1 + 1, 1, none⟩) a0).trans f15
 have f27 := (qw1.frozen (a := ⟨w.heap.size + 1 + 1, 2, none⟩) a0).trans f16
 have f28 := (qw1.frozen (a := ⟨w.heap.size + 1 + 1, 3, none⟩) a0).trans f17
 have aF := nlt a0 qw1.size
 obtain ⟨a9, aA, aB, aC⟩ := mv4 qw1.cell c9 a1 a2 a3
 clear l6 c2 c3 c4 c5 l8 c7 f14 f15 f16 f17 a0 c9 a1 a2 a3
 have uw1 := uW1.trans qw1
 clear qw1 uW1
 go_wp2_with fail
 exact bodyPost_ret (v := .tuple #[.agg #[.int .i8 0, .int .i64 0, .int .i8 0, .int .i64 0], .int .i64 m]) (by simp [results, Tryd.results30, go_sem, a4, a5, a6, a7, a8, a9, aA, aB, aC, f25, f26, f27, f28] <;> omega) rfl ⟨rfl, ((((uw1.setCell (by simp <;> omega) _).setCell (by simp <;> omega) _).setCell (by simp <;> omega) _).setCell (by simp <;> omega) _)⟩
theorem rnSh_any (a b c d k q0 q1 q2 q3 r : Int) (HC : Hid (ChkIs a b c d 0)) (HB : Hid (∀ W B, W.cell? ⟨B, 0, none⟩ = some (.int .i64 k) → Calls Tryd.prog 55 #[.agg #[.int .i8 a, .int .i64 b], .agg #[.int .i8 c, .int .i64 d], .func (.func 56) #[] #[.pointer (some ⟨B, 0, none⟩)]] W fun o w' => o = .returned (.tuple #[.agg #[.int .i8 q0, .int .i64 q1, .int .i8 q2, .int .i64 q3], .int .i64 r]) ∧ Dn W w')) (w : World) :
  Calls Tryd.prog 30 #[.agg #[.int .i8 a, .int .i64 b, .int .i8 c, .int .i64 d], .int .i64 k] w fun ro w' => ro = .returned (.tuple #[.agg #[.int .i8 q0, .int .i64 q1, .int .i8 q2, .int .i64 q3], .int .i64 r]) ∧ Dn w w' := by
 have hmf : ∀ (fn : Fn) (first cap : Array Value) (w : World), (Instr.makeFunc fn first cap).run Tryd.prog w = .ok (.func fn first cap) w := fun _ _ _ _ => rfl
 go_enter Tryd.func30, Tryd.ntmps30
 go_wp2_with fail
 obtain ⟨W1, hW1, uW1, c2, c3, c4, c5, l6, c7, l8, c9, a2, a3, a4, a0, f14, f15, f16, f17⟩ := prePr34x1 w a b c d k
 rw [← hW1]
 clear hW1
 refine (HC.out _).mono ?_
 rintro e w1 ⟨rfl, qw1⟩
 have a5 := nlt l6 qw1.size
 have aA := nlt l8 qw1.size
 obtain ⟨a6, a7, a8, a9, aB⟩ := mv5 qw1.cell c2 c3 c4 c5 c7
 have f25 := (qw1.frozen (a := ⟨w.heap.size + 1 + 1, 0, none⟩) a0).trans f14
 have f26 := (qw1.frozen (a := ⟨w.heap.size + 1 + 1, 1, none⟩) a0).trans f15
 have f27 := (qw1.frozen (a := ⟨w.heap.size + 1 + 1, 2, none⟩) a0).trans f16
 have f28 := (qw1.frozen (a := ⟨w.heap.size + 1 + 1, 3, none⟩) a0).trans f17
 have a1 := nlt a0 qw1.size
 obtain ⟨aC, aD, aE, aF⟩ := mv4 qw1.cell c9 a2 a3 a4
 clear l6 c2 c3 c4 c5 l8 c7 f14 f15 f16 f17 a0 c9 a2 a3 a4
 have uw1 := uW1.trans qw1
 clear qw1 uW1
 go_wp2_with fail
 refine (HB.out _ _ (by assumption)).mono ?_
 rintro e w2 ⟨rfl, qw2⟩
 have aL := nlt a5 qw2.size
 have aQ := nlt aA qw2.size
 obtain ⟨aM, aN, aO, aP, aR⟩ := mv5 qw2.cell a6 a7 a8 a9 aB
 have f41 := (qw2.frozen (a := ⟨w.heap.size + 1 + 1, 0, none⟩) a1).trans f25
 have f42 := (qw2.frozen (a := ⟨w.heap.size + 1 + 1, 1, none⟩) a1).trans f26
 have f43 := (qw2.frozen (a := ⟨w.heap.size + 1 + 1, 2, none⟩) a1).trans f27
 have f44 := (qw2.frozen (a := ⟨w.heap.size + 1 + 1, 3, none⟩) a1).trans f28
 have aK := nlt a1 qw2.size
 obtain ⟨aG, aH, aI, aJ⟩ := mv4 qw2.cell aC aD aE aF
 clear a5 a6 a7 a8 a9 aA aB f25 f26 f27 f28 a1 aC aD aE aF
 have uw2 := uw1.trans qw2
 clear qw2 uw1
 go_wp2_with fail
 have hC : C4 w2 (w.heap.size + 1 + 1) (.int .i8 0) (.int .i64 0) (.int .i8 0) (.int .i64 0) := ⟨aG, aH, aI, aJ, f41, f42, f43, f44, aK⟩
 have hZ := fun o : Obj => (hC.fill (.int .i8 q0) (.int .i64 q1) (.int .i8 q2) (.int .i64 q3)).alloc o
 have z0 := fun o : Obj => (hZ o).c0
 have y0 := fun o : Obj => (hZ o).f0
 have z1 := fun o : Obj => (hZ o).c1
 have y1 := fun o : Obj => (hZ o).f1
 have z2 := fun o : Obj => (hZ o).c2
 have y2 := fun o : Obj => (hZ o).f2
 have z3 := fun o : Obj => (hZ o).c3
 have y3 := fun o : Obj => (hZ o).f3
 exact bodyPost_ret (v := .tuple #[.agg #[.int .i8 q0, .int .i64 q1, .int .i8 q2, .int .i64 q3], .int .i64 r]) (by simp [results, Tryd.results30, go_sem, z0, z1, z2, z3, y0, y1, y2, y3, aG, aH, aI, aJ, f41, f42, f43, f44] <;> omega) rfl ⟨rfl, (((((uw2.setCell (by simp <;> omega) _).setCell (by simp <;> omega) _).setCell (by simp <;> omega) _).setCell (by simp <;> omega) _).alloc _)⟩
def ShR (a b c d k q0 q1 q2 q3 r : Int) : Prop :=
 (rnErr a b c d ≠ 0 ∧ q0 = 0 ∧ q1 = 0 ∧ q2 = 0 ∧ q3 = 0 ∧ r = rnErr a b c d) ∨
 (rnErr a b c d = 0 ∧ ∃ j1 f1 r1 j2 f2 r2, Sft a b k j1 f1 r1 ∧ Sft c d k j2 f2 r2 ∧
  ((r1 ≠ 0 ∧ q0 = 0 ∧ q1 = 0 ∧ q2 = 0 ∧ q3 = 0 ∧ r = r1) ∨ (r1 = 0 ∧ r2 ≠ 0 ∧ q0 = 0 ∧ q1 = 0 ∧ q2 = 0 ∧ q3 = 0 ∧ r = r2) ∨ (r1 = 0 ∧ r2 = 0 ∧ q0 = j1 ∧ q1 = f1 ∧ q2 = j2 ∧ q3 = f2 ∧ r = 0)))
theorem rnShift (a b c d k q0 q1 q2 q3 r : Int) (w : World) (hb : I64 b) (hd : I64 d) (hk : I64 k) (h : ShR a b c d k q0 q1 q2 q3 r) :
   Calls Tryd.prog 30 #[.agg #[.int .i8 a, .int .i64 b, .int .i8 c, .int .i64 d], .int .i64 k] w fun ro w' => ro = .returned (.tuple #[.agg #[.int .i8 q0, .int .i64 q1, .int .i8 q2, .int .i64 q3], .int .i64 r]) ∧ Dn w w' := by
 have HC : Hid (ChkIs a b c d (rnErr a b c d)) := Lib.hid (rnChk a b c d)
 rcases h with ⟨h0, rfl, rfl, rfl, rfl, rfl⟩ | ⟨h0, j1, f1, r1, j2, f2, r2, s1, s2, hx⟩
 · exact rnSh_bad a b c d k _ HC h0 w
 · rw [h0] at HC
   have H1 := fun bk => Lib.hid (fun W hc => rnS a b k j1 f1 r1 bk W hb hk s1 hc)
   have H2 := fun bk => Lib.hid (fun W hc => rnS c d k j2 f2 r2 bk W hd hk s2 hc)
   rcases hx with ⟨h1, rfl, rfl, rfl, rfl, rfl⟩ | ⟨rfl, h1, rfl, rfl, rfl, rfl, rfl⟩ | ⟨rfl, rfl, rfl, rfl, rfl, rfl, rfl⟩
   · exact rnSh_any a b c d k _ _ _ _ _ HC (Lib.hid fun W B hc => rnB_1 a b c d k j1 f1 j2 f2 _ 0 B (H1 B) h1 W hc) w
   · exact rnSh_any a b c d k _ _ _ _ _ HC (Lib.hid fun W B hc => rnB_2 a b c d k j1 f1 j2 f2 0 _ B (H1 B) (H2 B) h1 W hc) w
   · exact rnSh_any a b c d k _ _ _ _ _ HC (Lib.hid fun W B hc => rnB_3 a b c d k _ _ _ _ 0 0 B (H1 B) (H2 B) W hc) w
set_option maxHeartbeats 1000000
open Go.RowKit Go.ChangeMaps Go.MapKept
def kM : Value := .agg #[.int .i8 (-1), .int .i64 0]
def kP : Value := .agg #[.int .i8 1, .int .i64 0]
def sM : ByteArray := ⟨#[45, 105, 110, 102]⟩
def sP : ByteArray := ⟨#[105, 110, 102]⟩
theorem ckE (em : Bool) (i d : Int) (w : World) : (Instr.checkKey em 10000 27 (.agg #[.int .i8 i, .int .i64 d])).run Tryd.prog w = .ok () w := by kernel_rfl
theorem fk0 (x : Value) (w : World) : (Instr.findKey 27 x []).run Tryd.prog w = .ok none w := by kernel_rfl
theorem fkPM (n : Nat) (w : World) : (Instr.findKey 27 kP [⟨kM, .string sM, n⟩]).run Tryd.prog w = .ok none w := by kernel_rfl
theorem fkMP (n : Nat) (w : World) : (Instr.findKey 27 kM [⟨kP, .string sP, n⟩]).run Tryd.prog w = .ok none w := by kernel_rfl
theorem insE (w : World) (b : Nat) (es : Array MapEntry) (c : Nat) (i d : Int) (val : Value) (hb : w.heap[b]? = some (.map es c)) (hf : (Instr.findKey 27 (.agg #[.int .i8 i, .int .i64 d]) es.toList).run Tryd.prog w = .ok none w) :
  (Instr.mapUpdate 104 (.map (some b)) (.agg #[.int .i8 i, .int .i64 d]) val).run Tryd.prog w = .ok () (setBlock w b (.map (es.push ⟨.agg #[.int .i8 i, .int .i64 d], val, c⟩) (c + 1))) := by
 simp [Instr.mapUpdate, run_underlying Tryd.underlying104, MapKept.run_getObj_map hb, ckE, hf, MapKept.run_setObj_map _ hb, Result.andThen, setBlock]
theorem setBlock_new (w : World) (o o' : Obj) : setBlock (w.alloc o) w.heap.size o' = w.alloc o' := by
 have e : (w.heap.push o).setIfInBounds w.heap.size o' = w.heap.push o' := by
  apply Array.ext'
  simp
 show World.mk ((w.heap.push o).setIfInBounds w.heap.size o') w.tape w.drawn w.os w.output = World.mk (w.heap.push o') w.tape w.drawn w.os w.output
 rw [e]
theorem runM0 (w : World) : (Instr.mapUpdate 104 (.map (some w.heap.size)) (.agg #[.int .i8 (-1), .int .i64 0]) (.string ⟨#[45, 105, 110, 102]⟩)).run Tryd.prog (w.alloc (.map #[] 0)) = .ok () (w.alloc (.map #[⟨kM, .string sM, 0⟩] 1)) := by
 rw [insE (w.alloc (.map #[] 0)) w.heap.size #[] 0 _ _ _ (MapKept.heap_alloc w _).1 (fk0 _ _), setBlock_new]; rfl
theorem runP0 (w : World) : (Instr.mapUpdate 104 (.map (some w.heap.size)) (.agg #[.int .i8 1, .int .i64 0]) (.string ⟨#[105, 110, 102]⟩)).run Tryd.prog (w.alloc (.map #[] 0)) = .ok () (w.alloc (.map #[⟨kP, .string sP, 0⟩] 1)) := by
 rw [insE (w.alloc (.map #[] 0)) w.heap.size #[] 0 _ _ _ (MapKept.heap_alloc w _).1 (fk0 _ _), setBlock_new]; rfl
theorem runPM (w : World) : (Instr.mapUpdate 104 (.map (some w.heap.size)) (.agg #[.int .i8 1, .int .i64 0]) (.string ⟨#[105, 110, 102]⟩)).run Tryd.prog (w.alloc (.map #[⟨kM, .string sM, 0⟩] 1)) = .ok () (w.alloc (.map #[⟨kM, .string sM, 0⟩, ⟨kP, .string sP, 1⟩] 2)) := by
 rw [insE (w.alloc (.map #[⟨kM, .string sM, 0⟩] 1)) w.heap.size #[⟨kM, .string sM, 0⟩] 1 _ _ _ (MapKept.heap_alloc w _).1 (fkPM _ _), setBlock_new]; rfl
theorem runMP (w : World) : (Instr.mapUpdate 104 (.map (some w.heap.size)) (.agg #[.int .i8 (-1), .int .i64 0]) (.string ⟨#[45, 105, 110, 102]⟩)).run Tryd.prog (w.alloc (.map #[⟨kP, .string sP, 0⟩] 1)) = .ok () (w.alloc (.map #[⟨kP, .string sP, 0⟩, ⟨kM, .string sM, 1⟩] 2)) := by
 rw [insE (w.alloc (.map #[⟨kP, .string sP, 0⟩] 1)) w.heap.size #[⟨kP, .string sP, 0⟩] 1 _ _ _ (MapKept.heap_alloc w _).1 (fkMP _ _), setBlock_new]; rfl
def eA : Array MapEntry := #[⟨kM, .string sM, 0⟩, ⟨kP, .string sP, 1⟩]
def eB : Array MapEntry := #[⟨kP, .string sP, 0⟩, ⟨kM, .string sM, 1⟩]
def InfM (w : World) (b : Nat) : Prop := ∃ es, (es = eA ∨ es = eB) ∧ w.heap[b]? = some (.map es 2)
theorem InfM.dn {w w' : World} {b : Nat} (h : InfM w b) (k : Dn w w') : InfM w' b := by
 obtain ⟨es, he, hb⟩ := h
 refine ⟨es, he, ?_⟩
 rw [k.below.block b (Array.getElem?_eq_some_iff.1 hb).1]; exact hb
theorem eInf (w : World) : Calls Tryd.prog 69 #[] w fun e w' => e = .returned (.map (some w.heap.size)) ∧ Up w w' ∧ InfM w' w.heap.size := by
 have r1 : (Instr.mapUpdate 104 (.map (some w.heap.size)) (.agg #[.int .i8 (-1), .int .i64 0]) (.string ⟨#[45, 105, 110, 102]⟩)).run Tryd.prog (w.alloc (.map #[] 0)).drew = .ok () (w.alloc (.map #[⟨kM, .string sM, 0⟩] 1)).drew := runM0 w.drew
 have r2 : (Instr.mapUpdate 104 (.map (some w.heap.size)) (.agg #[.int .i8 1, .int .i64 0]) (.string ⟨#[105, 110, 102]⟩)).run Tryd.prog (w.alloc (.map #[] 0)).drew = .ok () (w.alloc (.map #[⟨kP, .string sP, 0⟩] 1)).drew := runP0 w.drew
 have r3 : (Instr.mapUpdate 104 (.map (some w.heap.size)) (.agg #[.int .i8 1, .int .i64 0]) (.string ⟨#[105, 110, 102]⟩)).run Tryd.prog (w.alloc (.map #[⟨kM, .string sM, 0⟩] 1)).drew = .ok () (w.alloc (.map #[⟨kM, .string sM, 0⟩, ⟨kP, .string sP, 1⟩] 2)).drew := runPM w.drew
 have r4 : (Instr.mapUpdate 104 (.map (some w.heap.size)) (.agg #[.int .i8 (-1), .int .i64 0]) (.string ⟨#[45, 105, 110, 102]⟩)).run Tryd.prog (w.alloc (.map #[⟨kP, .string sP, 0⟩] 1)).drew = .ok () (w.alloc (.map #[⟨kP, .string sP, 0⟩, ⟨kM, .string sM, 1⟩] 2)).drew := runMP w.drew
 have hmm := @run_makeMap Tryd.prog
 go_enter Tryd.func69, Tryd.ntmps69
 go_wp2_with fail
 go_region
 · clear r1 r2 r3 r4
   go_wp2_with fail
   go_ret
   exact ⟨rfl, ((Up.refl _).alloc _).drew, eA, Or.inl rfl, (MapKept.heap_alloc w _).1⟩
 · clear r1 r2 r3 r4
   go_wp2_with fail
   go_ret
   exact ⟨rfl, ((Up.refl _).alloc _).drew, eB, Or.inr rfl, (MapKept.heap_alloc w _).1⟩
theorem Len.i64 {x : Int} (h : I64 x) : Len x := Len.of (by have := h.1; have := h.2; omega)
def EP (s : ByteArray) (i d e : Int) : Prop :=
 (s = sP ∧ i = 1 ∧ d = 0 ∧ e = 0) ∨ (s = sM ∧ i = -1 ∧ d = 0 ∧ e = 0) ∨
 (s ≠ sP ∧ s ≠ sM ∧ i = 0 ∧ ((pOk s.data.toList ∧ Fits (pVal s.data.toList) d e) ∨ (¬ pOk s.data.toList ∧ d = 0 ∧ e = 5)))
set_option maxHeartbeats 4000000
set_option maxRecDepth 100000
open Go.RowKit Go.ChangeMaps Go.MapKept
theorem e_mem {es : Array MapEntry} (hE : es = eA ∨ es = eB) {e : MapEntry} (he : e ∈ es.toList) : e.born < 2 ∧ ((e.key = kM ∧ e.val = .string sM) ∨ (e.key = kP ∧ e.val = .string sP)) := by
 rcases hE with rfl | rfl <;> simp [eA, eB] at he <;> rcases he with rfl | rfl <;> simp
theorem e_all {es : Array MapEntry} (hE : es = eA ∨ es = eB) : (∃ e ∈ es.toList, e.val = .string sM) ∧ (∃ e ∈ es.toList, e.val = .string sP) := by
 rcases hE with rfl | rfl
 · exact ⟨⟨⟨kM, .string sM, 0⟩, by simp [eA], rfl⟩, ⟨⟨kP, .string sP, 1⟩, by simp [eA], rfl⟩⟩
 · exact ⟨⟨⟨kM, .string sM, 1⟩, by simp [eB], rfl⟩, ⟨⟨kP, .string sP, 0⟩, by simp [eB], rfl⟩⟩
theorem e_nodup {es : Array MapEntry} (hE : es = eA ∨ es = eB) : (es.toList.map (·.born)).Nodup := by
 rcases hE with rfl | rfl <;> simp [eA, eB]
theorem wpList_next_E {ops : Array Oper} {rest : List Oper} {o : Oper} {a : Act} {Q : Exit → Act → World → Prop} (w : World) (hg : o.guard = none) (it : Operand) (hop : o.op = Op.next it false) (b r : Nat) (seen : Array Nat) (es : Array MapEntry)
   (hit : a.eval it = .pointer (some ⟨r, 0, none⟩)) (hE : es = eA ∨ es = eB) (hb : w.heap[b]? = some (.map es 2)) (hr : w.heap[r]? = some (.mapIter (some b) 2 seen 2))
   (hDone : (leftOf es seen).size = 0 → wpList Tryd.prog ops Q rest (a.put o.dst (.tuple #[.bool false])) w)
   (hMore : ∀ e w', e ∈ es.toList → w'.heap[b]? = some (.map es 2) → w'.heap[r]? = some (.mapIter (some b) 2 (seen.push e.born) 2) → (leftOf es (seen.push e.born)).size < (leftOf es seen).size → w.grownBy w' (some r) →
    (Instr.entry (.pointer (some ⟨r, 0, none⟩))).run Tryd.prog w' = .ok (.tuple #[e.key, e.val]) w' → wpList Tryd.prog ops Q rest (a.put o.dst (.tuple #[.bool true, e.key, e.val])) w') :
   wpList Tryd.prog ops Q (o :: rest) a w := by
 refine wpList_plain hg fun K' hK' => ?_
 unfold Oper.wp
 have hne : r ≠ b := by rintro rfl; rw [hb] at hr; cases hr
 rcases run_next_at (P := Tryd.prog) w o.type r b 2 2 seen es 2 hr hb (fun x hx => (e_mem hE hx).1) (Nat.le_refl _) with ⟨h0, hrun⟩ | ⟨e, he, w1, hal, hrun⟩
 · simp [execOp, hop, hit, hrun, Result.andThen]
   exact hK' _ _ (hDone h0)
 · obtain ⟨hem, _⟩ := mem_left he
   have hr1 : w1.heap[r]? = some (.mapIter (some b) 2 seen 2) := by rcases hal with rfl | rfl <;> exact hr
   have hb1 : w1.heap[b]? = some (.map es 2) := by rcases hal with rfl | rfl <;> exact hb
   have hset := heap_set (o' := .mapIter (some b) 2 (seen.push e.born) 2) hr1
   have hb' : (setBlock w1 r (.mapIter (some b) 2 (seen.push e.born) 2)).heap[b]? = some (.map es 2) := (hset.2 b (fun e1 => hne e1.symm)).trans hb1
   simp [execOp, hop, hit, hrun, Result.andThen]
   refine hK' _ _ (hMore e _ hem hb' hset.1 (left_shrinks es seen e he) ?_ (run_entry_at _ r b 2 seen es 2 e hset.1 hb' hem (e_nodup hE)))
   rcases hal with rfl | rfl <;> exact ⟨rfl, rfl, rfl, by simp [setBlock], fun i _ hi => hset.2 i (fun e1 => hi (by rw [e1]))⟩
theorem CB.kept {w w' : World} {B : Nat} {u v : Value} {row : Option Nat} (h : CB w B u v) (hg : w.grownBy w' row) (hne : row ≠ some B) : CB w' B u v :=
 ⟨by rw [hg.cell_far _ h.lt (Ne.symm hne)]; exact h.c0, by rw [hg.cell_far _ h.lt (Ne.symm hne)]; exact h.c1, by rw [hg.frozen_far _ h.lt (Ne.symm hne)]; exact h.f0, by rw [hg.frozen_far _ h.lt (Ne.symm hne)]; exact h.f1, Nat.lt_of_lt_of_le h.lt hg.size⟩
theorem iparse_any (s : ByteArray) (d e : Int) (w : World) (hs : s.size ≤ 1000) (h : (pOk s.data.toList ∧ Fits (pVal s.data.toList) d e) ∨ (¬ pOk s.data.toList ∧ d = 0 ∧ e = 5)) (hE : EnvI w) :
   Calls Tryd.prog 70 #[.string s] w fun r w' => r = .returned (.tuple #[.int .i64 d, .int .i64 e]) ∧ Dn w w' := by
 rcases h with ⟨hp, ⟨hi, rfl, rfl⟩ | ⟨hi, rfl, rfl⟩⟩ | ⟨hp, rfl, rfl⟩
 · exact iparse_ok s _ w hs hp rfl hi hE
 · exact iparse_over s w hs hp hi hE
 · exact iparse_bad s w hs hp hE
theorem bytes_ne {s t : ByteArray} (h : s ≠ t) : (s.toList == t.toList) = false := by
 rw [beq_eq_false_iff_ne]
 intro e
 rw [ByteArray.toList_eq, ByteArray.toList_eq] at e
 exact h (by cases s; cases t; congr; exact Array.ext' e)
theorem sM_list : sM.toList = [45, 105, 110, 102] := by rw [ByteArray.toList_eq]; rfl
theorem sP_list : sP.toList = [105, 110, 102] := by rw [ByteArray.toList_eq]; rfl
theorem CB.set {w : World} {B : Nat} {u v : Value} (h : CB w B u v) (u' v' : Value) : CB ((w.setCell ⟨B, 0, none⟩ u').setCell ⟨B, 1, none⟩ v') B u' v' := by
 refine ⟨?_, ?_, by simp [h.f0], by simp [h.f1], by simpa using h.lt⟩
 · rw [World.cell?_setCell_other _ _ _ _ (by simp)]
   exact World.cell?_setCell_same _ _ _ h.c0
 · refine World.cell?_setCell_same _ _ _ (u := v) ?_
   rw [World.cell?_setCell_other _ _ _ _ (by simp)]; exact h.c1
def IterR (w : World) (b r : Nat) (s : ByteArray) (wr : World) : Prop :=
 ∃ es seen, (es = eA ∨ es = eB) ∧ wr.heap[b]? = some (.map es 2) ∧ wr.heap[r]? = some (.mapIter (some b) 2 seen 2) ∧ (∀ x ∈ es.toList, seen.contains x.born = true → x.val ≠ .string s) ∧ Dn w wr ∧ CB wr w.heap.size (.int .i8 0) (.int .i64 0)
theorem rangeLeft_at {w : World} {b r c s c0 : Nat} {es : Array MapEntry} {seen : Array Nat} {m : Option Nat} (hb : w.heap[b]? = some (.map es c)) (hr : w.heap[r]? = some (.mapIter m s seen c0)) : w.rangeLeft b r = (leftOf es seen).size := by
 simp only [World.rangeLeft, hb, hr]
theorem eParse (s : ByteArray) (i d r : Int) (w : World) (hs : s.size ≤ 1000) (h : EP s i d r) (hE : EnvI w) :
  Calls Tryd.prog 44 #[.string s] w fun e w' => e = .returned (.tuple #[.agg #[.int .i8 i, .int .i64 d], .int .i64 r]) ∧ Dn w w' := by
 have b0 := CB.new w (.int .i8 0) (.int .i64 0) 27
 have u0 : Up w _ := (Up.refl w).alloc (.cells #[.int .i8 0, .int .i64 0] 27)
 have B0 := Lib.hid b0
 have U0 := Lib.hid u0
 have HP := Lib.hid h
 clear b0 u0 h
 go_enter Tryd.func44, Tryd.ntmps44
 go_wp2_with fail
 refine (eInf _).mono ?_
 rintro e w1 ⟨rfl, q1, hm⟩
 have b1 := B0.out.up q1
 have u1 := (U0.out.trans q1).dn
 obtain ⟨es0, hE0, hb0⟩ := hm
 have e1 : (w.alloc (.cells #[.int .i8 0, .int .i64 0] 27)).heap.size = w.heap.size + 1 := by simp
 rw [e1] at hb0
 have hrg : (Instr.range 104 (.map (some (w.heap.size + 1)))).run Tryd.prog w1 = .ok (.pointer (some ⟨w1.heap.size, 0, none⟩)) (w1.alloc (.mapIter (some (w.heap.size + 1)) 2 #[] 2)) := run_range_map w1 _ _ _ _ _ _ Tryd.underlying104 hb0
 have hl1 : w.heap.size + 1 < w1.heap.size := (Array.getElem?_eq_some_iff.1 hb0).1
 have hI : IterR w (w.heap.size + 1) w1.heap.size s (w1.alloc (.mapIter (some (w.heap.size + 1)) 2 #[] 2)) :=
  ⟨es0, #[], hE0, ((MapKept.heap_alloc w1 _).2 _ hl1).trans hb0, (MapKept.heap_alloc w1 _).1, fun x _ hx => by simp at hx, u1.alloc _, b1.alloc _⟩
 have HI := Lib.hid hI
 clear hI hE0 hb0 b1 u1 q1 e1
 go_wp2_with fail
 go_loopw [5] (fun _ wr => IterR w (w.heap.size + 1) w1.heap.size s wr) (fun _ wr => wr.rangeLeft (w.heap.size + 1) w1.heap.size)
 case atStart => exact HI.out
 case round =>
  obtain ⟨es, seen, hE1, hb, hr, hseen, hd, hB⟩ := hrel
  go_wp2_with (at_next; refine wpList_next_E _ rfl _ rfl (w.heap.size + 1) w1.heap.size seen es rfl hE1 hb hr ?_ ?_)
  · intro h0
    have ha := all_seen es seen (by rw [h0]; rfl)
    obtain ⟨⟨x, hx, hxv⟩, y, hy, hyv⟩ := e_all hE1
    have n1 : s ≠ sM := fun h => hseen x hx (ha x hx) (by rw [hxv, h])
    have n2 : s ≠ sP := fun h => hseen y hy (ha y hy) (by rw [hyv, h])
    obtain ⟨rfl, hpi⟩ : i = 0 ∧ ((pOk s.data.toList ∧ Fits (pVal s.data.toList) d r) ∨ (¬ pOk s.data.toList ∧ d = 0 ∧ r = 5)) := by
      rcases HP.out with ⟨h1, _⟩ | ⟨h1, _⟩ | ⟨_, _, h3, h4⟩
      · exact absurd h1 n2
      · exact absurd h1 n1
      · exact ⟨h3, h4⟩
    have HS := Lib.hid (fun W h => iparse_any s d r W hs hpi h)
    have HB := Lib.hid hB
    clear ha hxv hyv hseen hb hr hx hy n1 n2 hpi h0 hB
    go_wp2_with fail
    refine (HS.out _ (hE.dn hd)).mono ?_
    rintro e w3 ⟨rfl, q3⟩
    go_wp2_with fail
    refine (eOf d _).mono ?_
    rintro e w4 ⟨rfl, q4⟩
    obtain ⟨c0, c1, f0, f1, l0⟩ := (HB.out.dn q3).up q4
    have u4 := (hd.trans q3).trans q4.dn
    clear q3 q4 hd
    go_wp2_with fail
    exact bodyPost_ret (v := .tuple #[.agg #[.int .i8 0, .int .i64 d], .int .i64 r]) (by simp [results, Tryd.results44, go_sem, c0, c1]) rfl ⟨rfl, (u4.setCell (by simp) _).setCell (by simp) _⟩
  · intro e w2 hem0 hb2 hr2 hlt hg hen
    have hem : e ∈ es.toList := by simpa using hem0
    clear hem0
    have hB2 := hB.kept hg (by intro h; have := Option.some.inj h; omega)
    have hd2 : Dn w w2 := hd.grown hg (fun k hk => by cases hk; omega)
    have hn : e.val ≠ .string s → ∀ x ∈ es.toList, (seen.push e.born).contains x.born = true → x.val ≠ .string s := by
      intro hev x hx hc
      rw [contains_push] at hc
      rcases Bool.or_eq_true _ _ ▸ hc with hc | hc
      · exact hseen x hx hc
      · rw [born_inj (e_nodup hE1) hx hem (by simpa using hc)]; exact hev
    rcases (e_mem hE1 hem).2 with ⟨hk, hv⟩ | ⟨hk, hv⟩
    · rw [hk, hv] at hen
      rw [hk, hv]
      unfold kM sM at hen
      unfold kM sM
      by_cases he : s = sM
      · subst he
        obtain ⟨rfl, rfl, rfl⟩ : i = (-1) ∧ d = 0 ∧ r = 0 := by
         rcases HP.out with ⟨h1, h2, h3, h4⟩ | ⟨h1, h2, h3, h4⟩ | ⟨h1, h2, _⟩
         · first | exact ⟨h2, h3, h4⟩ | exact absurd h1 (by decide)
         · first | exact ⟨h2, h3, h4⟩ | exact absurd h1 (by decide)
         · first | exact absurd rfl h1 | exact absurd rfl h2
        unfold sM at *
        obtain ⟨g0, g1, _, _, _⟩ := (hB2.set (.int .i8 (-1)) (.int .i64 0)).alloc (.cells #[.int .i8 (-1), .int .i64 0] 27)
        obtain ⟨c0, c1, f0, f1, l0⟩ := hB2
        have G0 := Lib.hid g0
        have G1 := Lib.hid g1
        clear hseen hd hB HP hn hb hr hb2 hr2 g0 g1
        go_wp2_with fail
        exact bodyPost_ret (v := .tuple #[.agg #[.int .i8 (-1), .int .i64 0], .int .i64 0]) (by simp [results, Tryd.results44, go_sem, G0.out, G1.out]) rfl ⟨rfl, ((hd2.setCell (Nat.le_refl _) _).setCell (Nat.le_refl _) _).alloc _⟩
      · have ht : (s.toList == [45, 105, 110, 102]) = false := by rw [← sM_list]; exact bytes_ne he
        have hI : IterR w (w.heap.size + 1) w1.heap.size s (w2.alloc (.cells #[.int .i8 (-1), .int .i64 0] 27)) :=
         ⟨es, seen.push e.born, hE1, ((MapKept.heap_alloc w2 _).2 _ (Array.getElem?_eq_some_iff.1 hb2).1).trans hb2, ((MapKept.heap_alloc w2 _).2 _ (Array.getElem?_eq_some_iff.1 hr2).1).trans hr2, hn (by rw [hv]; intro h; injection h with h; exact he h.symm), hd2.alloc _, hB2.alloc _⟩
        have hm : (w2.alloc (.cells #[.int .i8 (-1), .int .i64 0] 27)).rangeLeft (w.heap.size + 1) w1.heap.size < wr.rangeLeft (w.heap.size + 1) w1.heap.size := by
         rw [rangeLeft_at hb hr, rangeLeft_at (((MapKept.heap_alloc w2 _).2 _ (Array.getElem?_eq_some_iff.1 hb2).1).trans hb2) (((MapKept.heap_alloc w2 _).2 _ (Array.getElem?_eq_some_iff.1 hr2).1).trans hr2)]; exact hlt
        have HR := Lib.hid hI
        have HM := Lib.hid hm
        have l0 := hB2.lt
        clear hseen hd hB hn hb hr hb2 hr2 hI hm hlt hB2
        go_wp2_with fail
        go_roundw
        case rel => exact HR.out
        case measure => exact HM.out
    · rw [hk, hv] at hen
      rw [hk, hv]
      unfold kP sP at hen
      unfold kP sP
      by_cases he : s = sP
      · subst he
        obtain ⟨rfl, rfl, rfl⟩ : i = 1 ∧ d = 0 ∧ r = 0 := by
         rcases HP.out with ⟨h1, h2, h3, h4⟩ | ⟨h1, h2, h3, h4⟩ | ⟨h1, h2, _⟩
         · first | exact ⟨h2, h3, h4⟩ | exact absurd h1 (by decide)
         · first | exact ⟨h2, h3, h4⟩ | exact absurd h1 (by decide)
         · first | exact absurd rfl h1 | exact absurd rfl h2
        unfold sP at *
        obtain ⟨g0, g1, _, _, _⟩ := (hB2.set (.int .i8 1) (.int .i64 0)).alloc (.cells #[.int .i8 1, .int .i64 0] 27)
        obtain ⟨c0, c1, f0, f1, l0⟩ := hB2
        have G0 := Lib.hid g0
        have G1 := Lib.hid g1
        clear hseen hd hB HP hn hb hr hb2 hr2 g0 g1
        go_wp2_with fail
        exact bodyPost_ret (v := .tuple #[.agg #[.int .i8 1, .int .i64 0], .int .i64 0]) (by simp [results, Tryd.results44, go_sem, G0.out, G1.out]) rfl ⟨rfl, ((hd2.setCell (Nat.le_refl _) _).setCell (Nat.le_refl _) _).alloc _⟩
      · have ht : (s.toList == [105, 110, 102]) = false := by rw [← sP_list]; exact bytes_ne he
        have hI : IterR w (w.heap.size + 1) w1.heap.size s (w2.alloc (.cells #[.int .i8 1, .int .i64 0] 27)) :=
         ⟨es, seen.push e.born, hE1, ((MapKept.heap_alloc w2 _).2 _ (Array.getElem?_eq_some_iff.1 hb2).1).trans hb2, ((MapKept.heap_alloc w2 _).2 _ (Array.getElem?_eq_some_iff.1 hr2).1).trans hr2, hn (by rw [hv]; intro h; injection h with h; exact he h.symm), hd2.alloc _, hB2.alloc _⟩
        have hm : (w2.alloc (.cells #[.int .i8 1, .int .i64 0] 27)).rangeLeft (w.heap.size + 1) w1.heap.size < wr.rangeLeft (w.heap.size + 1) w1.heap.size := by
         rw [rangeLeft_at hb hr, rangeLeft_at (((MapKept.heap_alloc w2 _).2 _ (Array.getElem?_eq_some_iff.1 hb2).1).trans hb2) (((MapKept.heap_alloc w2 _).2 _ (Array.getElem?_eq_some_iff.1 hr2).1).trans hr2)]; exact hlt
        have HR := Lib.hid hI
        have HM := Lib.hid hm
        have l0 := hB2.lt
        clear hseen hd hB hn hb hr hb2 hr2 hI hm hlt hB2
        go_wp2_with fail
        go_roundw
        case rel => exact HR.out
        case measure => exact HM.out
end Go.Proofs.YtcdkeiolblifkaaDoor
