/-
  WALKS OF circalaw06: num, gives, civil, lives. (Printed by wip/gen/civ6.py.)
-/
import Derived.Test.YtopbbcbpanfigaaGreatDoorCivG
import Derived.WalkSmall
import Derived.Deep.DeepCutAuto
namespace Go.Proofs.YtopbbcbpanfigaaGreatDoor
open Go.RowKit
set_option linter.unusedVariables false
set_option linter.unusedSimpArgs false
/-- A block of three cells that may be written. -/
structure C3 (w : World) (B : Nat) (v0 v1 v2 : Value) : Prop where
  c0 : w.cell? ⟨B, 0, none⟩ = some v0
  c1 : w.cell? ⟨B, 1, none⟩ = some v1
  c2 : w.cell? ⟨B, 2, none⟩ = some v2
  f0 : w.frozen? ⟨B, 0, none⟩ = false
  f1 : w.frozen? ⟨B, 1, none⟩ = false
  f2 : w.frozen? ⟨B, 2, none⟩ = false
  lt : B < w.heap.size
theorem C3.fill {w : World} {B : Nat} {z0 z1 z2 : Value} (h : C3 w B z0 z1 z2) (v0 v1 v2 : Value) : C3 (((w.setCell ⟨B, 0, none⟩ v0).setCell ⟨B, 1, none⟩ v1).setCell ⟨B, 2, none⟩ v2) B v0 v1 v2 := by
  have h0 := h.c0; have h1 := h.c1; have h2 := h.c2
  refine ⟨?_, ?_, ?_, by simpa using h.f0, by simpa using h.f1, by simpa using h.f2, by simpa using h.lt⟩ <;> simp [go_sem, h0, h1, h2]
theorem cell_far3 {w : World} {B n i : Nat} {v v0 v1 v2 : Value} (hn : n ≠ B) (h : w.cell? ⟨n, i, none⟩ = some v) : (((w.setCell ⟨B, 0, none⟩ v0).setCell ⟨B, 1, none⟩ v1).setCell ⟨B, 2, none⟩ v2).cell? ⟨n, i, none⟩ = some v := by
  have hx : ∀ (w : World) (j : Nat) (u : Value), w.cell? ⟨n, i, none⟩ = some v → (w.setCell ⟨B, j, none⟩ u).cell? ⟨n, i, none⟩ = some v := fun w j u hu => by
    rw [World.cell?_setCell_other _ _ _ _ (fun e => hn (by simpa using (congrArg Addr.block e).symm))]; exact hu
  exact hx _ _ _ (hx _ _ _ (hx _ _ _ h))
theorem cl6 (y m d : Int) (w : World) : Calls Tryz.prog 25 #[.int .i64 y, .int .i64 m, .int .i64 d] w fun ro w' => ro = .returned (.agg #[.int .i64 y, .int .i64 m, .int .i64 d]) ∧ Dn w w' := by
  go_enter Tryz.func25, Tryz.ntmps25
  go_wp2_with fail
  exact bodyPost_ret (v := .agg #[.int .i64 y, .int .i64 m, .int .i64 d]) (by simp [results, Tryz.results25, go_sem]) rfl ⟨rfl, (Dn.refl _).alloc _⟩
theorem nm6 (n : Int) (w : World) : Calls Tryz.prog 27 #[.int .i64 n, .int .i64 0, .int .i64 n] w fun ro w' => ro = .returned (.bool true) ∧ Dn w w' := by
  go_enter Tryz.func27, Tryz.ntmps27
  go_wp2_with fail
  go_ret
  exact ⟨retb (by simp), Dn.refl _⟩
theorem g6_ok (y m d z n f r : Int) (w : World) :
    Calls Tryz.prog 19 #[.agg #[.int .i64 y, .int .i64 m, .int .i64 d], .int .i64 0, .agg #[.int .i64 y, .int .i64 m, .int .i64 d], .int .i64 0] w fun ro w' => ro = .returned (.bool true) ∧ Dn w w' := by
  go_enter Tryz.func19, Tryz.ntmps19
  go_wp2_with fail
  go_ret
  exact ⟨retb (by simp), ((Dn.refl _).alloc _).alloc _⟩
theorem g6_bad (y m d z n f r : Int) (w : World) (hr : r ≠ 0) :
    Calls Tryz.prog 19 #[.agg #[.int .i64 0, .int .i64 0, .int .i64 0], .int .i64 r, .agg #[.int .i64 z, .int .i64 n, .int .i64 f], .int .i64 r] w fun ro w' => ro = .returned (.bool true) ∧ Dn w w' := by
  have t1 : (r != 0) = true := by simpa using hr
  clear hr
  go_enter Tryz.func19, Tryz.ntmps19
  go_wp2_with fail
  go_ret
  exact ⟨retb (by simp), ((Dn.refl _).alloc _).alloc _⟩
def G6 (y m d r z n f bad : Int) : Prop := (bad = 0 ∧ r = 0 ∧ y = z ∧ m = n ∧ d = f) ∨ (bad ≠ 0 ∧ r = bad ∧ y = 0 ∧ m = 0 ∧ d = 0)
instance decG6 (y m d r z n f bad : Int) : Decidable (G6 y m d r z n f bad) := by unfold G6; infer_instance
theorem g6_any (y m d r z n f bad : Int) (w : World) (k : G6 y m d r z n f bad) :
    Calls Tryz.prog 19 #[.agg #[.int .i64 y, .int .i64 m, .int .i64 d], .int .i64 r, .agg #[.int .i64 z, .int .i64 n, .int .i64 f], .int .i64 bad] w fun ro w' => ro = .returned (.bool true) ∧ Dn w w' := by
  rcases k with ⟨rfl, rfl, rfl, rfl, rfl⟩ | ⟨hb, rfl, rfl, rfl, rfl⟩
  · exact g6_ok y m d 0 0 0 0 w
  · exact g6_bad 0 0 0 z n f _ w hb
theorem cvDay_at (y m d v : Int) (w : World) (hE : EnvC w) (he : cErr y m d = 0) (hv : Cal.sm y m + d - 1 = v) : Calls Tryz.prog 11 #[.agg #[.int .i64 y, .int .i64 m, .int .i64 d]] w fun ro w' => ro = .returned (.tuple #[.int .i64 v, .int .i64 0]) ∧ Dn w w' := by
  subst hv; exact cvDay_ok y m d he w hE
theorem cvOrd_at (y m d v : Int) (w : World) (hE : EnvC w) (he : cErr y m d = 0) (hv : Cal.sm y m + d - 1 - Cal.sy y + 1 = v) : Calls Tryz.prog 12 #[.agg #[.int .i64 y, .int .i64 m, .int .i64 d]] w fun ro w' => ro = .returned (.tuple #[.int .i64 v, .int .i64 0]) ∧ Dn w w' := by
  subst hv; exact cvOrd_ok y m d he w hE
theorem cvWd_at (d v : Int) (w : World) (hd : I64 d) (hv : (d % 7 + 5) % 7 = v) : Calls Tryz.prog 28 #[.int .i64 d] w fun ro w' => ro = .returned (.int .i64 v) ∧ Dn w w' := by
  subst hv; exact cvWd d hd w
/-- Of, from the civil day that has the day. -/
theorem cvOf_at (day y m d : Int) (w : World) (hE : EnvC w) (he : cErr y m d = 0) (hv : Cal.sm y m + d - 1 = day) : Calls Tryz.prog 16 #[.int .i64 day] w fun ro w' => ro = .returned (.tuple #[.agg #[.int .i64 y, .int .i64 m, .int .i64 d], .int .i64 0]) ∧ Dn w w' := by
  obtain ⟨hm, d1, d2⟩ := cErr_ok he
  have hb := sm_bd y m hm
  have hl := Cal.mlen_bd y m
  obtain ⟨e1, e2⟩ := mo_of day y m hm.2.1 hm.2.2 (by omega) (by rw [sm_succ y m hm.2.1 hm.2.2]; omega)
  have h := cvOf_yes day ⟨by omega, by omega⟩ (by rw [e1]; exact hm.1) w hE
  rw [e1, e2, show day - Cal.sm y m + 1 = d by omega] at h
  exact h
theorem cvFo_at (y n m d : Int) (w : World) (hE : EnvC w) (he : cErr y m d = 0) (hn : ¬ n < 1) (hn2 : ¬ Cal.len y < n) (hv : Cal.sm y m + d - 1 = Cal.sy y + n - 1) : Calls Tryz.prog 17 #[.int .i64 y, .int .i64 n] w fun ro w' => ro = .returned (.tuple #[.agg #[.int .i64 y, .int .i64 m, .int .i64 d], .int .i64 0]) ∧ Dn w w' := by
  obtain ⟨hm, d1, d2⟩ := cErr_ok he
  obtain ⟨e1, e2⟩ := mo_of (Cal.sy y + n - 1) y m hm.2.1 hm.2.2 (by omega) (by rw [sm_succ y m hm.2.1 hm.2.2]; omega)
  have h := cvFo_ok y n hm.1 hn hn2 w hE
  rw [e2, show Cal.sy y + n - 1 - Cal.sm y m + 1 = d by omega] at h
  exact h
instance decCF (l : List UInt8) : Decidable (CF l) := decidable_of_iff (Part (sA l) 4 true ∧ rA l ≠ [] ∧ Part (sB l) 2 false ∧ rB l ≠ [] ∧ Part (sC l) 2 false ∧ rC l = [] ∧ ¬ (isNeg l = true ∧ Dg.nvA 0 (sA l) = 0))
  ⟨fun ⟨a, b, c, d, e, f, g⟩ => ⟨a, b, c, d, e, f, g⟩, fun ⟨a, b, c, d, e, f, g⟩ => ⟨a, b, c, d, e, f, g⟩⟩
instance decPRes (l : List UInt8) (y m d e : Int) : Decidable (PRes l y m d e) := by unfold PRes; infer_instance
theorem cvTx_at (y m d : Int) (l : List UInt8) (w : World) (hE : EnvC w) (he : cErr y m d = 0) (hl : CF l) (hy : yV l = y ∧ mV l = m ∧ dV l = d) :
    Calls Tryz.prog 20 #[.agg #[.int .i64 y, .int .i64 m, .int .i64 d]] w fun ro w' => ro = .returned (.tuple #[.string (bA l), .int .i64 0]) ∧ Dn w w' := by
  obtain ⟨rfl, rfl, rfl⟩ := hy
  have h := cvTx_ok _ _ _ w hE he
  rw [cT_of l hl] at h
  exact h
theorem kdVh_3 {W w1 w2 : World} {a0 a1 a2 : Addr} {v0 v1 v2 : Value} (k : Dn w1 w2) (h : Dn W w1 ∧ w1.cell? a0 = some v0 ∧ w1.cell? a1 = some v1 ∧ w1.cell? a2 = some v2) :
    Dn W w2 ∧ w2.cell? a0 = some v0 ∧ w2.cell? a1 = some v1 ∧ w2.cell? a2 = some v2 := by
  obtain ⟨h1, c0, c1, c2⟩ := h
  exact ⟨h1.trans k, k.cell c0, k.cell c1, k.cell c2⟩
theorem kdVh_6 {W w1 w2 : World} {a0 a1 a2 a3 a4 a5 : Addr} {v0 v1 v2 v3 v4 v5 : Value} (k : Dn w1 w2) (h : Dn W w1 ∧ w1.cell? a0 = some v0 ∧ w1.cell? a1 = some v1 ∧ w1.cell? a2 = some v2 ∧ w1.cell? a3 = some v3 ∧ w1.cell? a4 = some v4 ∧ w1.cell? a5 = some v5) :
    Dn W w2 ∧ w2.cell? a0 = some v0 ∧ w2.cell? a1 = some v1 ∧ w2.cell? a2 = some v2 ∧ w2.cell? a3 = some v3 ∧ w2.cell? a4 = some v4 ∧ w2.cell? a5 = some v5 := by
  obtain ⟨h1, c0, c1, c2, c3, c4, c5⟩ := h
  exact ⟨h1.trans k, k.cell c0, k.cell c1, k.cell c2, k.cell c3, k.cell c4, k.cell c5⟩
theorem kdVh_7 {W w1 w2 : World} {a0 a1 a2 a3 a4 a5 a6 : Addr} {v0 v1 v2 v3 v4 v5 v6 : Value} (k : Dn w1 w2) (h : Dn W w1 ∧ w1.cell? a0 = some v0 ∧ w1.cell? a1 = some v1 ∧ w1.cell? a2 = some v2 ∧ w1.cell? a3 = some v3 ∧ w1.cell? a4 = some v4 ∧ w1.cell? a5 = some v5 ∧ w1.cell? a6 = some v6) :
    Dn W w2 ∧ w2.cell? a0 = some v0 ∧ w2.cell? a1 = some v1 ∧ w2.cell? a2 = some v2 ∧ w2.cell? a3 = some v3 ∧ w2.cell? a4 = some v4 ∧ w2.cell? a5 = some v5 ∧ w2.cell? a6 = some v6 := by
  obtain ⟨h1, c0, c1, c2, c3, c4, c5, c6⟩ := h
  exact ⟨h1.trans k, k.cell c0, k.cell c1, k.cell c2, k.cell c3, k.cell c4, k.cell c5, k.cell c6⟩
theorem pr6_0 : PRes [48, 48, 48, 53, 45, 48, 54, 45, 48, 55] 5 6 7 0 := by decide +kernel
theorem pr6_1 : PRes [53, 45, 48, 54, 45, 48, 55] 0 0 0 5 := by decide +kernel
theorem pr6_2 : PRes [45, 48, 48, 48, 48, 45, 48, 49, 45, 48, 49] 0 0 0 5 := by decide +kernel
theorem pr6_3 : PRes [50, 48, 48, 49, 45, 48, 50, 45, 50, 57] 0 0 0 8 := by decide +kernel
theorem pr6_4 : PRes [50, 48, 48, 49, 45, 50, 45, 48, 51] 0 0 0 5 := by decide +kernel
theorem cf6_0 : CF [48, 48, 48, 53, 45, 48, 54, 45, 48, 55] ∧ yV [48, 48, 48, 53, 45, 48, 54, 45, 48, 55] = 5 ∧ mV [48, 48, 48, 53, 45, 48, 54, 45, 48, 55] = 6 ∧ dV [48, 48, 48, 53, 45, 48, 54, 45, 48, 55] = 7 := by decide +kernel
theorem cf6_1 : CF [45, 49, 50, 51, 52, 53, 45, 49, 49, 45, 51, 48] ∧ yV [45, 49, 50, 51, 52, 53, 45, 49, 49, 45, 51, 48] = -12345 ∧ mV [45, 49, 50, 51, 52, 53, 45, 49, 49, 45, 51, 48] = 11 ∧ dV [45, 49, 50, 51, 52, 53, 45, 49, 49, 45, 51, 48] = 30 := by decide +kernel
theorem dy6_0 : cErr 0 1 1 = 0 ∧ Cal.sm 0 1 + 1 - 1 = 0 := by decide +kernel
theorem dy6_1 : cErr 1970 1 1 = 0 ∧ Cal.sm 1970 1 + 1 - 1 = 719528 := by decide +kernel
theorem dy6_2 : cErr (-1) 12 31 = 0 ∧ Cal.sm (-1) 12 + 31 - 1 = (-1) := by decide +kernel
theorem dy6_3 : cErr 2000 2 29 = 0 ∧ Cal.sm 2000 2 + 29 - 1 = 730544 := by decide +kernel
theorem dy6_4 : cErr 2000 3 1 = 0 ∧ Cal.sm 2000 3 + 1 - 1 - Cal.sy 2000 + 1 = 61 := by decide +kernel
theorem dy6_5 : cErr 1900 3 1 = 0 ∧ ¬ (60 : Int) < 1 ∧ ¬ Cal.len 1900 < 60 ∧ Cal.sm 1900 3 + 1 - 1 = Cal.sy 1900 + 60 - 1 := by decide +kernel
theorem dy6_6 : IsY 1900 ∧ ¬ (366 : Int) < 1 ∧ Cal.len 1900 < 366 := by decide +kernel
theorem dy6_7 : cErr 2000 2 30 = 8 ∧ cErr 1 13 1 = 7 ∧ cErr 5 6 7 = 0 ∧ cErr (-12345) 11 30 = 0 := by decide +kernel
set_option maxHeartbeats 16000000 in
set_option maxRecDepth 100000 in
theorem lives6 (w : World) (hE : EnvC w) :
    Calls Tryz.prog 14 #[] w fun e w' => e = .returned (.bool true) ∧ Dn w w' := by
  go_enter Tryz.func14, Tryz.ntmps14
  go_wp2_with fail
  refine (cl6 0 1 1 _).mono ?_
  rintro e w1 ⟨rfl, qw1⟩
  have uw1 := qw1
  clear qw1
  go_wp2_with fail
  refine (cvDay_at 0 1 1 _ _ (hE.dn uw1) dy6_0.1 dy6_0.2).mono ?_
  rintro e w2 ⟨rfl, qw2⟩
  have uw2 := uw1.trans qw2
  clear qw2 uw1
  go_wp2_with fail
  refine (cl6 1970 1 1 _).mono ?_
  rintro e w3 ⟨rfl, qw3⟩
  have uw3 := uw2.trans qw3
  clear qw3 uw2
  go_wp2_with fail
  refine (cvDay_at 1970 1 1 _ _ (hE.dn uw3) dy6_1.1 dy6_1.2).mono ?_
  rintro e w4 ⟨rfl, qw4⟩
  have uw4 := uw3.trans qw4
  clear qw4 uw3
  go_wp2_with fail
  refine (cl6 2000 2 30 _).mono ?_
  rintro e w5 ⟨rfl, qw5⟩
  have uw5 := uw4.trans qw5
  clear qw5 uw4
  go_wp2_with fail
  refine (cvDay_bad 2000 2 30 8 dy6_7.1 (by decide) _ (hE.dn uw5)).mono ?_
  rintro e w6 ⟨rfl, qw6⟩
  have uw6 := uw5.trans qw6
  clear qw6 uw5
  go_wp2_with fail
  refine (cl6 1 13 1 _).mono ?_
  rintro e w7 ⟨rfl, qw7⟩
  have uw7 := uw6.trans qw7
  clear qw7 uw6
  go_wp2_with fail
  refine (cvDay_bad 1 13 1 7 dy6_7.2.1 (by decide) _ (hE.dn uw7)).mono ?_
  rintro e w8 ⟨rfl, qw8⟩
  have uw8 := uw7.trans qw8
  clear qw8 uw7
  go_wp2_with fail
  refine (nm6 0 _).mono ?_
  rintro e w9 ⟨rfl, qw9⟩
  have uw9 := uw8.trans qw9
  clear qw9 uw8
  go_wp2_with fail
  refine (nm6 719528 _).mono ?_
  rintro e w10 ⟨rfl, qw10⟩
  have uw10 := uw9.trans qw10
  clear qw10 uw9
  go_wp2_with fail
  refine (cvOf_at (-1) (-1) 12 31 _ (hE.dn uw10) dy6_2.1 dy6_2.2).mono ?_
  rintro e w11 ⟨rfl, qw11⟩
  have uw11 := uw10.trans qw11
  clear qw11 uw10
  go_wp2_with fail
  obtain ⟨W1, hW1⟩ : ∃ W1, W1 = w11.alloc (.cells #[.int .i64 (-1), .int .i64 12, .int .i64 31] 23) := ⟨_, rfl⟩
  have uW1 : Dn w11 W1 := by rw [hW1]; exact (Dn.refl _).alloc _
  have o2 : w.heap.size ≤ w11.heap.size := by have := uw11.size; omega
  have c3 : W1.cell? ⟨w11.heap.size, 0, none⟩ = some (.int .i64 (-1)) := by rw [hW1]; simp [go_sem]
  have c4 : W1.cell? ⟨w11.heap.size, 1, none⟩ = some (.int .i64 12) := by rw [hW1]; simp [go_sem]
  have c5 : W1.cell? ⟨w11.heap.size, 2, none⟩ = some (.int .i64 31) := by rw [hW1]; simp [go_sem]
  have l6 : w11.heap.size < W1.heap.size := by rw [hW1]; simp <;> omega
  have f7 : W1.frozen? ⟨w11.heap.size, 0, none⟩ = false := by rw [hW1]; simp [go_sem]
  have f8 : W1.frozen? ⟨w11.heap.size, 1, none⟩ = false := by rw [hW1]; simp [go_sem]
  have f9 : W1.frozen? ⟨w11.heap.size, 2, none⟩ = false := by rw [hW1]; simp [go_sem]
  rw [← hW1]
  clear hW1
  have vW1 := uw11.trans uW1
  clear uW1 uw11
  refine (cvOf_at 730544 2000 2 29 _ (hE.dn vW1) dy6_3.1 dy6_3.2).mono ?_
  rintro e w12 ⟨rfl, qw12⟩
  have f10 := (qw12.frozen (a := ⟨w11.heap.size, 0, none⟩) l6).trans f7
  have f11 := (qw12.frozen (a := ⟨w11.heap.size, 1, none⟩) l6).trans f8
  have f12 := (qw12.frozen (a := ⟨w11.heap.size, 2, none⟩) l6).trans f9
  have l13 := Nat.lt_of_lt_of_le l6 qw12.size
  have c14 := qw12.cell c3
  have c15 := qw12.cell c4
  have c16 := qw12.cell c5
  clear f7 f8 f9 l6 c3 c4 c5
  have uw12 := vW1.trans qw12
  clear qw12 vW1
  go_wp2_with fail
  obtain ⟨W17, hW17⟩ : ∃ W17, W17 = w12.alloc (.cells #[.int .i64 2000, .int .i64 2, .int .i64 29] 23) := ⟨_, rfl⟩
  have uW17 : Dn w12 W17 := by rw [hW17]; exact (Dn.refl _).alloc _
  have o18 : w.heap.size ≤ w12.heap.size := by have := uw12.size; omega
  have n19 : w11.heap.size ≠ w12.heap.size := by have := l13; omega
  have f20 := (uW17.frozen (a := ⟨w11.heap.size, 0, none⟩) l13).trans f10
  have f21 := (uW17.frozen (a := ⟨w11.heap.size, 1, none⟩) l13).trans f11
  have f22 := (uW17.frozen (a := ⟨w11.heap.size, 2, none⟩) l13).trans f12
  have l23 := Nat.lt_of_lt_of_le l13 uW17.size
  have c24 := uW17.cell c14
  have c25 := uW17.cell c15
  have c26 := uW17.cell c16
  clear f10 f11 f12 l13 c14 c15 c16
  have c27 : W17.cell? ⟨w12.heap.size, 0, none⟩ = some (.int .i64 2000) := by rw [hW17]; simp [go_sem]
  have c28 : W17.cell? ⟨w12.heap.size, 1, none⟩ = some (.int .i64 2) := by rw [hW17]; simp [go_sem]
  have c29 : W17.cell? ⟨w12.heap.size, 2, none⟩ = some (.int .i64 29) := by rw [hW17]; simp [go_sem]
  have l30 : w12.heap.size < W17.heap.size := by rw [hW17]; simp <;> omega
  have f31 : W17.frozen? ⟨w12.heap.size, 0, none⟩ = false := by rw [hW17]; simp [go_sem]
  have f32 : W17.frozen? ⟨w12.heap.size, 1, none⟩ = false := by rw [hW17]; simp [go_sem]
  have f33 : W17.frozen? ⟨w12.heap.size, 2, none⟩ = false := by rw [hW17]; simp [go_sem]
  rw [← hW17]
  clear hW17
  have vW17 := uw12.trans uW17
  clear uW17 uw12
  have hS34 := kdVh_6 (W := W17) (Dn.refl _) ⟨Dn.refl _, c24, c25, c26, c27, c28, c29⟩
  have HShS34 := Lib.hid hS34
  clear c24 c25 c26 c27 c28 c29
  go_region_held3 (fun w' => Dn W17 w' ∧ w'.cell? ⟨w11.heap.size, 0, none⟩ = some (.int .i64 (-1)) ∧ w'.cell? ⟨w11.heap.size, 1, none⟩ = some (.int .i64 12) ∧ w'.cell? ⟨w11.heap.size, 2, none⟩ = some (.int .i64 31) ∧ w'.cell? ⟨w12.heap.size, 0, none⟩ = some (.int .i64 2000) ∧ w'.cell? ⟨w12.heap.size, 1, none⟩ = some (.int .i64 2) ∧ w'.cell? ⟨w12.heap.size, 2, none⟩ = some (.int .i64 29))
    (first | exact kdVh_6 ((Dn.refl _).drew) hS34 | exact kdVh_6 ‹Dn _ _› ‹_› | exact kdVh_6 (Up.dn ‹Up _ _›) ‹_› | assumption | exact kdVh_6 ((Dn.refl _).alloc _) ‹_›)
    (first
      | (go_at_call 25; refine (cl6 _ _ _ _).mono ?_; rintro e wa ⟨rfl, qa⟩)
      | (go_at_call 19; refine (g6_any _ _ _ _ _ _ _ _ _ ?_).mono ?_; decide; rintro e wa ⟨rfl, qa⟩)
      | (go_at_call 28; (with_reducible refine (cvWd_at 0 5 _ (by decide) (by decide)).mono ?_); rintro e wa ⟨rfl, qa⟩)
      | (go_at_call 28; (with_reducible refine (cvWd_at 719528 3 _ (by decide) (by decide)).mono ?_); rintro e wa ⟨rfl, qa⟩))
  all_goals
    clear hS34
    obtain ⟨uf41, c35, c36, c37, c38, c39, c40⟩ := (‹Dn W17 _ ∧ _› : _ ∧ _)
    obtain ⟨w42, rfl⟩ : ∃ w42 : World, w42 = wa := ⟨_, rfl⟩
    have f43 := (uf41.frozen (a := ⟨w11.heap.size, 0, none⟩) l23).trans f20
    clear f20
    have f44 := (uf41.frozen (a := ⟨w11.heap.size, 1, none⟩) l23).trans f21
    clear f21
    have f45 := (uf41.frozen (a := ⟨w11.heap.size, 2, none⟩) l23).trans f22
    clear f22
    have f46 := (uf41.frozen (a := ⟨w12.heap.size, 0, none⟩) l30).trans f31
    clear f31
    have f47 := (uf41.frozen (a := ⟨w12.heap.size, 1, none⟩) l30).trans f32
    clear f32
    have f48 := (uf41.frozen (a := ⟨w12.heap.size, 2, none⟩) l30).trans f33
    clear f33
    have l49 := Nat.lt_of_lt_of_le l23 uf41.size
    clear l23
    have l50 := Nat.lt_of_lt_of_le l30 uf41.size
    clear l30
    have vuf41 := vW17.trans uf41
    clear uf41 vW17 HShS34
    go_wp2_with fail
    refine (cl6 2000 3 1 _).mono ?_
    rintro e w13 ⟨rfl, qw13⟩
    have f51 := (qw13.frozen (a := ⟨w11.heap.size, 0, none⟩) l49).trans f43
    have f52 := (qw13.frozen (a := ⟨w11.heap.size, 1, none⟩) l49).trans f44
    have f53 := (qw13.frozen (a := ⟨w11.heap.size, 2, none⟩) l49).trans f45
    have l54 := Nat.lt_of_lt_of_le l49 qw13.size
    have c55 := qw13.cell c35
    have c56 := qw13.cell c36
    have c57 := qw13.cell c37
    have f58 := (qw13.frozen (a := ⟨w12.heap.size, 0, none⟩) l50).trans f46
    have f59 := (qw13.frozen (a := ⟨w12.heap.size, 1, none⟩) l50).trans f47
    have f60 := (qw13.frozen (a := ⟨w12.heap.size, 2, none⟩) l50).trans f48
    have l61 := Nat.lt_of_lt_of_le l50 qw13.size
    have c62 := qw13.cell c38
    have c63 := qw13.cell c39
    have c64 := qw13.cell c40
    clear f43 f44 f45 l49 c35 c36 c37 f46 f47 f48 l50 c38 c39 c40
    have uw13 := vuf41.trans qw13
    clear qw13 vuf41
    go_wp2_with fail
    refine (cvOrd_at 2000 3 1 61 _ (hE.dn uw13) dy6_4.1 dy6_4.2).mono ?_
    rintro e w14 ⟨rfl, qw14⟩
    have f65 := (qw14.frozen (a := ⟨w11.heap.size, 0, none⟩) l54).trans f51
    have f66 := (qw14.frozen (a := ⟨w11.heap.size, 1, none⟩) l54).trans f52
    have f67 := (qw14.frozen (a := ⟨w11.heap.size, 2, none⟩) l54).trans f53
    have l68 := Nat.lt_of_lt_of_le l54 qw14.size
    have c69 := qw14.cell c55
    have c70 := qw14.cell c56
    have c71 := qw14.cell c57
    have f72 := (qw14.frozen (a := ⟨w12.heap.size, 0, none⟩) l61).trans f58
    have f73 := (qw14.frozen (a := ⟨w12.heap.size, 1, none⟩) l61).trans f59
    have f74 := (qw14.frozen (a := ⟨w12.heap.size, 2, none⟩) l61).trans f60
    have l75 := Nat.lt_of_lt_of_le l61 qw14.size
    have c76 := qw14.cell c62
    have c77 := qw14.cell c63
    have c78 := qw14.cell c64
    clear f51 f52 f53 l54 c55 c56 c57 f58 f59 f60 l61 c62 c63 c64
    have uw14 := uw13.trans qw14
    clear qw14 uw13
    go_wp2_with fail
    refine (cvFo_at 1900 60 3 1 _ (hE.dn uw14) dy6_5.1 dy6_5.2.1 dy6_5.2.2.1 dy6_5.2.2.2).mono ?_
    rintro e w15 ⟨rfl, qw15⟩
    have f79 := (qw15.frozen (a := ⟨w11.heap.size, 0, none⟩) l68).trans f65
    have f80 := (qw15.frozen (a := ⟨w11.heap.size, 1, none⟩) l68).trans f66
    have f81 := (qw15.frozen (a := ⟨w11.heap.size, 2, none⟩) l68).trans f67
    have l82 := Nat.lt_of_lt_of_le l68 qw15.size
    have c83 := qw15.cell c69
    have c84 := qw15.cell c70
    have c85 := qw15.cell c71
    have f86 := (qw15.frozen (a := ⟨w12.heap.size, 0, none⟩) l75).trans f72
    have f87 := (qw15.frozen (a := ⟨w12.heap.size, 1, none⟩) l75).trans f73
    have f88 := (qw15.frozen (a := ⟨w12.heap.size, 2, none⟩) l75).trans f74
    have l89 := Nat.lt_of_lt_of_le l75 qw15.size
    have c90 := qw15.cell c76
    have c91 := qw15.cell c77
    have c92 := qw15.cell c78
    clear f65 f66 f67 l68 c69 c70 c71 f72 f73 f74 l75 c76 c77 c78
    have uw15 := uw14.trans qw15
    clear qw15 uw14
    go_wp2_with fail
    obtain ⟨W93, hW93⟩ : ∃ W93, W93 = ((w15.setCell ⟨w11.heap.size, 0, none⟩ (.int .i64 1900)).setCell ⟨w11.heap.size, 1, none⟩ (.int .i64 3)).setCell ⟨w11.heap.size, 2, none⟩ (.int .i64 1) := ⟨_, rfl⟩
    have hC : C3 w15 (w11.heap.size) (.int .i64 (-1)) (.int .i64 12) (.int .i64 31) := ⟨c83, c84, c85, f79, f80, f81, l82⟩
    have hN : C3 W93 (w11.heap.size) (.int .i64 1900) (.int .i64 3) (.int .i64 1) := by rw [hW93]; exact hC.fill (.int .i64 1900) (.int .i64 3) (.int .i64 1)
    have uW93 : Dn w W93 := by rw [hW93]; exact (Dn.setCell (Dn.setCell (Dn.setCell uw15 o2 _) o2 _) o2 _)
    have c94 : W93.cell? ⟨w12.heap.size, 0, none⟩ = some (.int .i64 2000) := by rw [hW93]; exact cell_far3 (fun e => n19 e.symm) c90
    have c95 : W93.cell? ⟨w12.heap.size, 1, none⟩ = some (.int .i64 2) := by rw [hW93]; exact cell_far3 (fun e => n19 e.symm) c91
    have c96 : W93.cell? ⟨w12.heap.size, 2, none⟩ = some (.int .i64 29) := by rw [hW93]; exact cell_far3 (fun e => n19 e.symm) c92
    have l97 : w12.heap.size < W93.heap.size := by rw [hW93]; simpa using l89
    have f98 : W93.frozen? ⟨w12.heap.size, 0, none⟩ = false := by rw [hW93]; simpa using f86
    have f99 : W93.frozen? ⟨w12.heap.size, 1, none⟩ = false := by rw [hW93]; simpa using f87
    have f100 : W93.frozen? ⟨w12.heap.size, 2, none⟩ = false := by rw [hW93]; simpa using f88
    obtain ⟨c101, c102, c103, f104, f105, f106, l107⟩ := hN
    rw [← hW93]
    clear hW93
    clear hC uw15 c83 c84 c85 f79 f80 f81 l82 c90 c91 c92 l89 f86 f87 f88
    refine (cvFo_r2 1900 366 dy6_6.1 dy6_6.2.1 dy6_6.2.2 _ (hE.dn uW93)).mono ?_
    rintro e w16 ⟨rfl, qw16⟩
    have f108 := (qw16.frozen (a := ⟨w11.heap.size, 0, none⟩) l107).trans f104
    have f109 := (qw16.frozen (a := ⟨w11.heap.size, 1, none⟩) l107).trans f105
    have f110 := (qw16.frozen (a := ⟨w11.heap.size, 2, none⟩) l107).trans f106
    have l111 := Nat.lt_of_lt_of_le l107 qw16.size
    have c112 := qw16.cell c101
    have c113 := qw16.cell c102
    have c114 := qw16.cell c103
    have f115 := (qw16.frozen (a := ⟨w12.heap.size, 0, none⟩) l97).trans f98
    have f116 := (qw16.frozen (a := ⟨w12.heap.size, 1, none⟩) l97).trans f99
    have f117 := (qw16.frozen (a := ⟨w12.heap.size, 2, none⟩) l97).trans f100
    have l118 := Nat.lt_of_lt_of_le l97 qw16.size
    have c119 := qw16.cell c94
    have c120 := qw16.cell c95
    have c121 := qw16.cell c96
    clear f104 f105 f106 l107 c101 c102 c103 f98 f99 f100 l97 c94 c95 c96
    have uw16 := uW93.trans qw16
    clear qw16 uW93
    go_wp2_with fail
    obtain ⟨W122, hW122⟩ : ∃ W122, W122 = ((w16.setCell ⟨w12.heap.size, 0, none⟩ (.int .i64 0)).setCell ⟨w12.heap.size, 1, none⟩ (.int .i64 0)).setCell ⟨w12.heap.size, 2, none⟩ (.int .i64 0) := ⟨_, rfl⟩
    have hC : C3 w16 (w12.heap.size) (.int .i64 2000) (.int .i64 2) (.int .i64 29) := ⟨c119, c120, c121, f115, f116, f117, l118⟩
    have hN : C3 W122 (w12.heap.size) (.int .i64 0) (.int .i64 0) (.int .i64 0) := by rw [hW122]; exact hC.fill (.int .i64 0) (.int .i64 0) (.int .i64 0)
    have uW122 : Dn w W122 := by rw [hW122]; exact (Dn.setCell (Dn.setCell (Dn.setCell uw16 o18 _) o18 _) o18 _)
    have c123 : W122.cell? ⟨w11.heap.size, 0, none⟩ = some (.int .i64 1900) := by rw [hW122]; exact cell_far3 (n19) c112
    have c124 : W122.cell? ⟨w11.heap.size, 1, none⟩ = some (.int .i64 3) := by rw [hW122]; exact cell_far3 (n19) c113
    have c125 : W122.cell? ⟨w11.heap.size, 2, none⟩ = some (.int .i64 1) := by rw [hW122]; exact cell_far3 (n19) c114
    have l126 : w11.heap.size < W122.heap.size := by rw [hW122]; simpa using l111
    have f127 : W122.frozen? ⟨w11.heap.size, 0, none⟩ = false := by rw [hW122]; simpa using f108
    have f128 : W122.frozen? ⟨w11.heap.size, 1, none⟩ = false := by rw [hW122]; simpa using f109
    have f129 : W122.frozen? ⟨w11.heap.size, 2, none⟩ = false := by rw [hW122]; simpa using f110
    obtain ⟨c130, c131, c132, f133, f134, f135, l136⟩ := hN
    rw [← hW122]
    clear hW122
    clear hC uw16 c119 c120 c121 f115 f116 f117 l118 c112 c113 c114 l111 f108 f109 f110
    have hS137 := kdVh_6 (W := W122) (Dn.refl _) ⟨Dn.refl _, c123, c124, c125, c130, c131, c132⟩
    have HShS137 := Lib.hid hS137
    clear c123 c124 c125 c130 c131 c132
    go_region_held3 (fun w' => Dn W122 w' ∧ w'.cell? ⟨w11.heap.size, 0, none⟩ = some (.int .i64 1900) ∧ w'.cell? ⟨w11.heap.size, 1, none⟩ = some (.int .i64 3) ∧ w'.cell? ⟨w11.heap.size, 2, none⟩ = some (.int .i64 1) ∧ w'.cell? ⟨w12.heap.size, 0, none⟩ = some (.int .i64 0) ∧ w'.cell? ⟨w12.heap.size, 1, none⟩ = some (.int .i64 0) ∧ w'.cell? ⟨w12.heap.size, 2, none⟩ = some (.int .i64 0))
      (first | exact kdVh_6 ((Dn.refl _).drew) hS137 | exact kdVh_6 ‹Dn _ _› ‹_› | exact kdVh_6 (Up.dn ‹Up _ _›) ‹_› | assumption | exact kdVh_6 ((Dn.refl _).alloc _) ‹_›)
      (first
        | (go_at_call 25; refine (cl6 _ _ _ _).mono ?_; rintro e wa ⟨rfl, qa⟩)
        | (go_at_call 19; refine (g6_any _ _ _ _ _ _ _ _ _ ?_).mono ?_; decide; rintro e wa ⟨rfl, qa⟩))
    all_goals
      clear hS137
      obtain ⟨uf144, c138, c139, c140, c141, c142, c143⟩ := (‹Dn W122 _ ∧ _› : _ ∧ _)
      obtain ⟨w145, rfl⟩ : ∃ w145 : World, w145 = wa := ⟨_, rfl⟩
      have f146 := (uf144.frozen (a := ⟨w11.heap.size, 0, none⟩) l126).trans f127
      clear f127
      have f147 := (uf144.frozen (a := ⟨w11.heap.size, 1, none⟩) l126).trans f128
      clear f128
      have f148 := (uf144.frozen (a := ⟨w11.heap.size, 2, none⟩) l126).trans f129
      clear f129
      have f149 := (uf144.frozen (a := ⟨w12.heap.size, 0, none⟩) l136).trans f133
      clear f133
      have f150 := (uf144.frozen (a := ⟨w12.heap.size, 1, none⟩) l136).trans f134
      clear f134
      have f151 := (uf144.frozen (a := ⟨w12.heap.size, 2, none⟩) l136).trans f135
      clear f135
      have l152 := Nat.lt_of_lt_of_le l126 uf144.size
      clear l126
      have l153 := Nat.lt_of_lt_of_le l136 uf144.size
      clear l136
      have vuf144 := uW122.trans uf144
      clear uf144 uW122 HShS137
      go_wp2_with fail
      refine (cl6 5 6 7 _).mono ?_
      rintro e w17 ⟨rfl, qw17⟩
      have f154 := (qw17.frozen (a := ⟨w11.heap.size, 0, none⟩) l152).trans f146
      have f155 := (qw17.frozen (a := ⟨w11.heap.size, 1, none⟩) l152).trans f147
      have f156 := (qw17.frozen (a := ⟨w11.heap.size, 2, none⟩) l152).trans f148
      have l157 := Nat.lt_of_lt_of_le l152 qw17.size
      have c158 := qw17.cell c138
      have c159 := qw17.cell c139
      have c160 := qw17.cell c140
      have f161 := (qw17.frozen (a := ⟨w12.heap.size, 0, none⟩) l153).trans f149
      have f162 := (qw17.frozen (a := ⟨w12.heap.size, 1, none⟩) l153).trans f150
      have f163 := (qw17.frozen (a := ⟨w12.heap.size, 2, none⟩) l153).trans f151
      have l164 := Nat.lt_of_lt_of_le l153 qw17.size
      have c165 := qw17.cell c141
      have c166 := qw17.cell c142
      have c167 := qw17.cell c143
      clear f146 f147 f148 l152 c138 c139 c140 f149 f150 f151 l153 c141 c142 c143
      have uw17 := vuf144.trans qw17
      clear qw17 vuf144
      go_wp2_with fail
      refine (cvTx_at 5 6 7 [48, 48, 48, 53, 45, 48, 54, 45, 48, 55] _ (hE.dn uw17) dy6_7.2.2.1 cf6_0.1 cf6_0.2).mono ?_
      rintro e w18 ⟨rfl, qw18⟩
      have f168 := (qw18.frozen (a := ⟨w11.heap.size, 0, none⟩) l157).trans f154
      have f169 := (qw18.frozen (a := ⟨w11.heap.size, 1, none⟩) l157).trans f155
      have f170 := (qw18.frozen (a := ⟨w11.heap.size, 2, none⟩) l157).trans f156
      have l171 := Nat.lt_of_lt_of_le l157 qw18.size
      have c172 := qw18.cell c158
      have c173 := qw18.cell c159
      have c174 := qw18.cell c160
      have f175 := (qw18.frozen (a := ⟨w12.heap.size, 0, none⟩) l164).trans f161
      have f176 := (qw18.frozen (a := ⟨w12.heap.size, 1, none⟩) l164).trans f162
      have f177 := (qw18.frozen (a := ⟨w12.heap.size, 2, none⟩) l164).trans f163
      have l178 := Nat.lt_of_lt_of_le l164 qw18.size
      have c179 := qw18.cell c165
      have c180 := qw18.cell c166
      have c181 := qw18.cell c167
      clear f154 f155 f156 l157 c158 c159 c160 f161 f162 f163 l164 c165 c166 c167
      have uw18 := uw17.trans qw18
      clear qw18 uw17
      go_wp2_with fail
      refine (cl6 (-12345) 11 30 _).mono ?_
      rintro e w19 ⟨rfl, qw19⟩
      have f182 := (qw19.frozen (a := ⟨w11.heap.size, 0, none⟩) l171).trans f168
      have f183 := (qw19.frozen (a := ⟨w11.heap.size, 1, none⟩) l171).trans f169
      have f184 := (qw19.frozen (a := ⟨w11.heap.size, 2, none⟩) l171).trans f170
      have l185 := Nat.lt_of_lt_of_le l171 qw19.size
      have c186 := qw19.cell c172
      have c187 := qw19.cell c173
      have c188 := qw19.cell c174
      have f189 := (qw19.frozen (a := ⟨w12.heap.size, 0, none⟩) l178).trans f175
      have f190 := (qw19.frozen (a := ⟨w12.heap.size, 1, none⟩) l178).trans f176
      have f191 := (qw19.frozen (a := ⟨w12.heap.size, 2, none⟩) l178).trans f177
      have l192 := Nat.lt_of_lt_of_le l178 qw19.size
      have c193 := qw19.cell c179
      have c194 := qw19.cell c180
      have c195 := qw19.cell c181
      clear f168 f169 f170 l171 c172 c173 c174 f175 f176 f177 l178 c179 c180 c181
      have uw19 := uw18.trans qw19
      clear qw19 uw18
      go_wp2_with fail
      refine (cvTx_at (-12345) 11 30 [45, 49, 50, 51, 52, 53, 45, 49, 49, 45, 51, 48] _ (hE.dn uw19) dy6_7.2.2.2 cf6_1.1 cf6_1.2).mono ?_
      rintro e w20 ⟨rfl, qw20⟩
      have f196 := (qw20.frozen (a := ⟨w11.heap.size, 0, none⟩) l185).trans f182
      have f197 := (qw20.frozen (a := ⟨w11.heap.size, 1, none⟩) l185).trans f183
      have f198 := (qw20.frozen (a := ⟨w11.heap.size, 2, none⟩) l185).trans f184
      have l199 := Nat.lt_of_lt_of_le l185 qw20.size
      have c200 := qw20.cell c186
      have c201 := qw20.cell c187
      have c202 := qw20.cell c188
      have f203 := (qw20.frozen (a := ⟨w12.heap.size, 0, none⟩) l192).trans f189
      have f204 := (qw20.frozen (a := ⟨w12.heap.size, 1, none⟩) l192).trans f190
      have f205 := (qw20.frozen (a := ⟨w12.heap.size, 2, none⟩) l192).trans f191
      have l206 := Nat.lt_of_lt_of_le l192 qw20.size
      have c207 := qw20.cell c193
      have c208 := qw20.cell c194
      have c209 := qw20.cell c195
      clear f182 f183 f184 l185 c186 c187 c188 f189 f190 f191 l192 c193 c194 c195
      have uw20 := uw19.trans qw20
      clear qw20 uw19
      go_wp2_with fail
      refine (cvParse [48, 48, 48, 53, 45, 48, 54, 45, 48, 55] 5 6 7 0 _ (hE.dn uw20) (by decide) pr6_0).mono ?_
      rintro e w21 ⟨rfl, qw21⟩
      have f210 := (qw21.frozen (a := ⟨w11.heap.size, 0, none⟩) l199).trans f196
      have f211 := (qw21.frozen (a := ⟨w11.heap.size, 1, none⟩) l199).trans f197
      have f212 := (qw21.frozen (a := ⟨w11.heap.size, 2, none⟩) l199).trans f198
      have l213 := Nat.lt_of_lt_of_le l199 qw21.size
      have c214 := qw21.cell c200
      have c215 := qw21.cell c201
      have c216 := qw21.cell c202
      have f217 := (qw21.frozen (a := ⟨w12.heap.size, 0, none⟩) l206).trans f203
      have f218 := (qw21.frozen (a := ⟨w12.heap.size, 1, none⟩) l206).trans f204
      have f219 := (qw21.frozen (a := ⟨w12.heap.size, 2, none⟩) l206).trans f205
      have l220 := Nat.lt_of_lt_of_le l206 qw21.size
      have c221 := qw21.cell c207
      have c222 := qw21.cell c208
      have c223 := qw21.cell c209
      clear f196 f197 f198 l199 c200 c201 c202 f203 f204 f205 l206 c207 c208 c209
      have uw21 := uw20.trans qw21
      clear qw21 uw20
      go_wp2_with fail
      obtain ⟨W224, hW224⟩ : ∃ W224, W224 = ((w21.setCell ⟨w11.heap.size, 0, none⟩ (.int .i64 5)).setCell ⟨w11.heap.size, 1, none⟩ (.int .i64 6)).setCell ⟨w11.heap.size, 2, none⟩ (.int .i64 7) := ⟨_, rfl⟩
      have hC : C3 w21 (w11.heap.size) (.int .i64 1900) (.int .i64 3) (.int .i64 1) := ⟨c214, c215, c216, f210, f211, f212, l213⟩
      have hN : C3 W224 (w11.heap.size) (.int .i64 5) (.int .i64 6) (.int .i64 7) := by rw [hW224]; exact hC.fill (.int .i64 5) (.int .i64 6) (.int .i64 7)
      have uW224 : Dn w W224 := by rw [hW224]; exact (Dn.setCell (Dn.setCell (Dn.setCell uw21 o2 _) o2 _) o2 _)
      have c225 : W224.cell? ⟨w12.heap.size, 0, none⟩ = some (.int .i64 0) := by rw [hW224]; exact cell_far3 (fun e => n19 e.symm) c221
      have c226 : W224.cell? ⟨w12.heap.size, 1, none⟩ = some (.int .i64 0) := by rw [hW224]; exact cell_far3 (fun e => n19 e.symm) c222
      have c227 : W224.cell? ⟨w12.heap.size, 2, none⟩ = some (.int .i64 0) := by rw [hW224]; exact cell_far3 (fun e => n19 e.symm) c223
      have l228 : w12.heap.size < W224.heap.size := by rw [hW224]; simpa using l220
      have f229 : W224.frozen? ⟨w12.heap.size, 0, none⟩ = false := by rw [hW224]; simpa using f217
      have f230 : W224.frozen? ⟨w12.heap.size, 1, none⟩ = false := by rw [hW224]; simpa using f218
      have f231 : W224.frozen? ⟨w12.heap.size, 2, none⟩ = false := by rw [hW224]; simpa using f219
      obtain ⟨c232, c233, c234, f235, f236, f237, l238⟩ := hN
      rw [← hW224]
      clear hW224
      clear hC uw21 c214 c215 c216 f210 f211 f212 l213 c221 c222 c223 l220 f217 f218 f219
      have hS239 := kdVh_3 (W := W224) (Dn.refl _) ⟨Dn.refl _, c232, c233, c234⟩
      have k240 := Lib.hid c225
      have k241 := Lib.hid c226
      have k242 := Lib.hid c227
      have HShS239 := Lib.hid hS239
      clear c232 c233 c234 c225 c226 c227
      go_region_held3 (fun w' => Dn W224 w' ∧ w'.cell? ⟨w11.heap.size, 0, none⟩ = some (.int .i64 5) ∧ w'.cell? ⟨w11.heap.size, 1, none⟩ = some (.int .i64 6) ∧ w'.cell? ⟨w11.heap.size, 2, none⟩ = some (.int .i64 7))
        (first | exact kdVh_3 ((Dn.refl _).drew) hS239 | exact kdVh_3 ‹Dn _ _› ‹_› | exact kdVh_3 (Up.dn ‹Up _ _›) ‹_› | assumption | exact kdVh_3 ((Dn.refl _).alloc _) ‹_›)
        (first
          | (go_at_call 25; refine (cl6 _ _ _ _).mono ?_; rintro e wa ⟨rfl, qa⟩)
          | (go_at_call 19; refine (g6_any _ _ _ _ _ _ _ _ _ ?_).mono ?_; decide; rintro e wa ⟨rfl, qa⟩))
      all_goals
        clear hS239
        obtain ⟨uf246, c243, c244, c245⟩ := (‹Dn W224 _ ∧ _› : _ ∧ _)
        obtain ⟨w247, rfl⟩ : ∃ w247 : World, w247 = wa := ⟨_, rfl⟩
        have f248 := (uf246.frozen (a := ⟨w11.heap.size, 0, none⟩) l238).trans f235
        clear f235
        have f249 := (uf246.frozen (a := ⟨w11.heap.size, 1, none⟩) l238).trans f236
        clear f236
        have f250 := (uf246.frozen (a := ⟨w11.heap.size, 2, none⟩) l238).trans f237
        clear f237
        have f251 := (uf246.frozen (a := ⟨w12.heap.size, 0, none⟩) l228).trans f229
        clear f229
        have f252 := (uf246.frozen (a := ⟨w12.heap.size, 1, none⟩) l228).trans f230
        clear f230
        have f253 := (uf246.frozen (a := ⟨w12.heap.size, 2, none⟩) l228).trans f231
        clear f231
        have l254 := Nat.lt_of_lt_of_le l238 uf246.size
        clear l238
        have l255 := Nat.lt_of_lt_of_le l228 uf246.size
        clear l228
        have c256 := uf246.cell k240.out
        have c257 := uf246.cell k241.out
        have c258 := uf246.cell k242.out
        clear k240 k241 k242
        have vuf246 := uW224.trans uf246
        clear uf246 uW224 HShS239
        go_upto_region 22 with fail
        go_cut [14, 15, 16] (fun s14 s15 s16 wx => s14 = .slice (some ⟨w247.heap.size, 0, none⟩) 4 4 ∧ s15 = .slice (some ⟨w247.heap.size + 1, 0, none⟩) 4 4 ∧ s16 = .int .i64 0 ∧ wx = (w247.alloc (.cells #[.string ⟨#[53, 45, 48, 54, 45, 48, 55]⟩, .string ⟨#[45, 48, 48, 48, 48, 45, 48, 49, 45, 48, 49]⟩, .string ⟨#[50, 48, 48, 49, 45, 48, 50, 45, 50, 57]⟩, .string ⟨#[50, 48, 48, 49, 45, 50, 45, 48, 51]⟩] 9)).alloc (.cells #[.int .i64 5, .int .i64 5, .int .i64 8, .int .i64 5] 24))
        case first =>
          go_wp2_with fail
          go_meet
          case rel => exact ⟨rfl, rfl, rfl, rfl⟩
        case rest =>
          obtain ⟨rfl, rfl, rfl, rfl⟩ := hcut
          go_wp2_with fail
          obtain ⟨W259, hW259⟩ : ∃ W259, W259 = (w247.alloc (.cells #[.string ⟨#[53, 45, 48, 54, 45, 48, 55]⟩, .string ⟨#[45, 48, 48, 48, 48, 45, 48, 49, 45, 48, 49]⟩, .string ⟨#[50, 48, 48, 49, 45, 48, 50, 45, 50, 57]⟩, .string ⟨#[50, 48, 48, 49, 45, 50, 45, 48, 51]⟩] 9)).alloc (.cells #[.int .i64 5, .int .i64 5, .int .i64 8, .int .i64 5] 24) := ⟨_, rfl⟩
          have uW259 : Dn w247 W259 := by rw [hW259]; exact ((Dn.refl _).alloc _).alloc _
          have n260 : w11.heap.size ≠ w247.heap.size := by have := l254; omega
          have n261 : w12.heap.size ≠ w247.heap.size := by have := l255; omega
          have n262 : w11.heap.size ≠ w247.heap.size + 1 := by have := l254; omega
          have n263 : w12.heap.size ≠ w247.heap.size + 1 := by have := l255; omega
          have f264 := (uW259.frozen (a := ⟨w11.heap.size, 0, none⟩) l254).trans f248
          have f265 := (uW259.frozen (a := ⟨w11.heap.size, 1, none⟩) l254).trans f249
          have f266 := (uW259.frozen (a := ⟨w11.heap.size, 2, none⟩) l254).trans f250
          have l267 := Nat.lt_of_lt_of_le l254 uW259.size
          have c268 := uW259.cell c243
          have c269 := uW259.cell c244
          have c270 := uW259.cell c245
          have f271 := (uW259.frozen (a := ⟨w12.heap.size, 0, none⟩) l255).trans f251
          have f272 := (uW259.frozen (a := ⟨w12.heap.size, 1, none⟩) l255).trans f252
          have f273 := (uW259.frozen (a := ⟨w12.heap.size, 2, none⟩) l255).trans f253
          have l274 := Nat.lt_of_lt_of_le l255 uW259.size
          have c275 := uW259.cell c256
          have c276 := uW259.cell c257
          have c277 := uW259.cell c258
          clear f248 f249 f250 l254 c243 c244 c245 f251 f252 f253 l255 c256 c257 c258
          have c278 : W259.cell? ⟨w247.heap.size, 0, none⟩ = some (.string ⟨#[53, 45, 48, 54, 45, 48, 55]⟩) := by rw [hW259]; simp [go_sem]
          have c279 : W259.cell? ⟨w247.heap.size, 1, none⟩ = some (.string ⟨#[45, 48, 48, 48, 48, 45, 48, 49, 45, 48, 49]⟩) := by rw [hW259]; simp [go_sem]
          have c280 : W259.cell? ⟨w247.heap.size, 2, none⟩ = some (.string ⟨#[50, 48, 48, 49, 45, 48, 50, 45, 50, 57]⟩) := by rw [hW259]; simp [go_sem]
          have c281 : W259.cell? ⟨w247.heap.size, 3, none⟩ = some (.string ⟨#[50, 48, 48, 49, 45, 50, 45, 48, 51]⟩) := by rw [hW259]; simp [go_sem]
          have l282 : w247.heap.size < W259.heap.size := by rw [hW259]; simp <;> omega
          have c283 : W259.cell? ⟨w247.heap.size + 1, 0, none⟩ = some (.int .i64 5) := by rw [hW259]; simp [go_sem]
          have c284 : W259.cell? ⟨w247.heap.size + 1, 1, none⟩ = some (.int .i64 5) := by rw [hW259]; simp [go_sem]
          have c285 : W259.cell? ⟨w247.heap.size + 1, 2, none⟩ = some (.int .i64 8) := by rw [hW259]; simp [go_sem]
          have c286 : W259.cell? ⟨w247.heap.size + 1, 3, none⟩ = some (.int .i64 5) := by rw [hW259]; simp [go_sem]
          have l287 : w247.heap.size + 1 < W259.heap.size := by rw [hW259]; simp <;> omega
          rw [← hW259]
          clear hW259
          have vW259 := vuf246.trans uW259
          clear uW259 vuf246
          refine wp_loop_rounds 5 ?_
          rw [rounds_succ]
          go_wp2_with fail
          refine (cvParse [53, 45, 48, 54, 45, 48, 55] 0 0 0 5 _ (hE.dn vW259) (by decide) pr6_1).mono ?_
          rintro e w22 ⟨rfl, qw22⟩
          have f288 := (qw22.frozen (a := ⟨w11.heap.size, 0, none⟩) l267).trans f264
          have f289 := (qw22.frozen (a := ⟨w11.heap.size, 1, none⟩) l267).trans f265
          have f290 := (qw22.frozen (a := ⟨w11.heap.size, 2, none⟩) l267).trans f266
          have l291 := Nat.lt_of_lt_of_le l267 qw22.size
          have c292 := qw22.cell c268
          have c293 := qw22.cell c269
          have c294 := qw22.cell c270
          have f295 := (qw22.frozen (a := ⟨w12.heap.size, 0, none⟩) l274).trans f271
          have f296 := (qw22.frozen (a := ⟨w12.heap.size, 1, none⟩) l274).trans f272
          have f297 := (qw22.frozen (a := ⟨w12.heap.size, 2, none⟩) l274).trans f273
          have l298 := Nat.lt_of_lt_of_le l274 qw22.size
          have c299 := qw22.cell c275
          have c300 := qw22.cell c276
          have c301 := qw22.cell c277
          have l302 := Nat.lt_of_lt_of_le l282 qw22.size
          have c303 := qw22.cell c278
          have c304 := qw22.cell c279
          have c305 := qw22.cell c280
          have c306 := qw22.cell c281
          have l307 := Nat.lt_of_lt_of_le l287 qw22.size
          have c308 := qw22.cell c283
          have c309 := qw22.cell c284
          have c310 := qw22.cell c285
          have c311 := qw22.cell c286
          clear f264 f265 f266 l267 c268 c269 c270 f271 f272 f273 l274 c275 c276 c277 l282 c278 c279 c280 c281 l287 c283 c284 c285 c286
          have uw22 := vW259.trans qw22
          clear qw22 vW259
          go_wp2_with fail
          obtain ⟨W312, hW312⟩ : ∃ W312, W312 = ((w22.setCell ⟨w11.heap.size, 0, none⟩ (.int .i64 0)).setCell ⟨w11.heap.size, 1, none⟩ (.int .i64 0)).setCell ⟨w11.heap.size, 2, none⟩ (.int .i64 0) := ⟨_, rfl⟩
          have hC : C3 w22 (w11.heap.size) (.int .i64 5) (.int .i64 6) (.int .i64 7) := ⟨c292, c293, c294, f288, f289, f290, l291⟩
          have hN : C3 W312 (w11.heap.size) (.int .i64 0) (.int .i64 0) (.int .i64 0) := by rw [hW312]; exact hC.fill (.int .i64 0) (.int .i64 0) (.int .i64 0)
          have uW312 : Dn w W312 := by rw [hW312]; exact (Dn.setCell (Dn.setCell (Dn.setCell uw22 o2 _) o2 _) o2 _)
          have c313 : W312.cell? ⟨w12.heap.size, 0, none⟩ = some (.int .i64 0) := by rw [hW312]; exact cell_far3 (fun e => n19 e.symm) c299
          have c314 : W312.cell? ⟨w12.heap.size, 1, none⟩ = some (.int .i64 0) := by rw [hW312]; exact cell_far3 (fun e => n19 e.symm) c300
          have c315 : W312.cell? ⟨w12.heap.size, 2, none⟩ = some (.int .i64 0) := by rw [hW312]; exact cell_far3 (fun e => n19 e.symm) c301
          have l316 : w12.heap.size < W312.heap.size := by rw [hW312]; simpa using l298
          have f317 : W312.frozen? ⟨w12.heap.size, 0, none⟩ = false := by rw [hW312]; simpa using f295
          have f318 : W312.frozen? ⟨w12.heap.size, 1, none⟩ = false := by rw [hW312]; simpa using f296
          have f319 : W312.frozen? ⟨w12.heap.size, 2, none⟩ = false := by rw [hW312]; simpa using f297
          have c320 : W312.cell? ⟨w247.heap.size, 0, none⟩ = some (.string ⟨#[53, 45, 48, 54, 45, 48, 55]⟩) := by rw [hW312]; exact cell_far3 (fun e => n260 e.symm) c303
          have c321 : W312.cell? ⟨w247.heap.size, 1, none⟩ = some (.string ⟨#[45, 48, 48, 48, 48, 45, 48, 49, 45, 48, 49]⟩) := by rw [hW312]; exact cell_far3 (fun e => n260 e.symm) c304
          have c322 : W312.cell? ⟨w247.heap.size, 2, none⟩ = some (.string ⟨#[50, 48, 48, 49, 45, 48, 50, 45, 50, 57]⟩) := by rw [hW312]; exact cell_far3 (fun e => n260 e.symm) c305
          have c323 : W312.cell? ⟨w247.heap.size, 3, none⟩ = some (.string ⟨#[50, 48, 48, 49, 45, 50, 45, 48, 51]⟩) := by rw [hW312]; exact cell_far3 (fun e => n260 e.symm) c306
          have l324 : w247.heap.size < W312.heap.size := by rw [hW312]; simpa using l302
          have c325 : W312.cell? ⟨w247.heap.size + 1, 0, none⟩ = some (.int .i64 5) := by rw [hW312]; exact cell_far3 (fun e => n262 e.symm) c308
          have c326 : W312.cell? ⟨w247.heap.size + 1, 1, none⟩ = some (.int .i64 5) := by rw [hW312]; exact cell_far3 (fun e => n262 e.symm) c309
          have c327 : W312.cell? ⟨w247.heap.size + 1, 2, none⟩ = some (.int .i64 8) := by rw [hW312]; exact cell_far3 (fun e => n262 e.symm) c310
          have c328 : W312.cell? ⟨w247.heap.size + 1, 3, none⟩ = some (.int .i64 5) := by rw [hW312]; exact cell_far3 (fun e => n262 e.symm) c311
          have l329 : w247.heap.size + 1 < W312.heap.size := by rw [hW312]; simpa using l307
          obtain ⟨c330, c331, c332, f333, f334, f335, l336⟩ := hN
          rw [← hW312]
          clear hW312
          clear hC uw22 c292 c293 c294 f288 f289 f290 l291 c299 c300 c301 l298 f295 f296 f297 c303 c304 c305 c306 l302 c308 c309 c310 c311 l307
          have hS337 := kdVh_7 (W := W312) (Dn.refl _) ⟨Dn.refl _, c330, c331, c332, c325, c326, c327, c328⟩
          have k338 := Lib.hid c313
          have k339 := Lib.hid c314
          have k340 := Lib.hid c315
          have k341 := Lib.hid c320
          have k342 := Lib.hid c321
          have k343 := Lib.hid c322
          have k344 := Lib.hid c323
          have HShS337 := Lib.hid hS337
          clear c330 c331 c332 c313 c314 c315 c320 c321 c322 c323 c325 c326 c327 c328
          go_region_held3 (fun w' => Dn W312 w' ∧ w'.cell? ⟨w11.heap.size, 0, none⟩ = some (.int .i64 0) ∧ w'.cell? ⟨w11.heap.size, 1, none⟩ = some (.int .i64 0) ∧ w'.cell? ⟨w11.heap.size, 2, none⟩ = some (.int .i64 0) ∧ w'.cell? ⟨w247.heap.size + 1, 0, none⟩ = some (.int .i64 5) ∧ w'.cell? ⟨w247.heap.size + 1, 1, none⟩ = some (.int .i64 5) ∧ w'.cell? ⟨w247.heap.size + 1, 2, none⟩ = some (.int .i64 8) ∧ w'.cell? ⟨w247.heap.size + 1, 3, none⟩ = some (.int .i64 5))
            (first | exact kdVh_7 ((Dn.refl _).drew) hS337 | exact kdVh_7 ‹Dn _ _› ‹_› | exact kdVh_7 (Up.dn ‹Up _ _›) ‹_› | assumption | exact kdVh_7 ((Dn.refl _).alloc _) ‹_›)
            (first
              | (go_at_call 25; refine (cl6 _ _ _ _).mono ?_; rintro e wa ⟨rfl, qa⟩)
              | (go_at_call 19; refine (g6_any _ _ _ _ _ _ _ _ _ ?_).mono ?_; decide; rintro e wa ⟨rfl, qa⟩))
          all_goals
            clear hS337
            obtain ⟨uf352, c345, c346, c347, c348, c349, c350, c351⟩ := (‹Dn W312 _ ∧ _› : _ ∧ _)
            obtain ⟨w353, rfl⟩ : ∃ w353 : World, w353 = wa := ⟨_, rfl⟩
            have f354 := (uf352.frozen (a := ⟨w11.heap.size, 0, none⟩) l336).trans f333
            clear f333
            have f355 := (uf352.frozen (a := ⟨w11.heap.size, 1, none⟩) l336).trans f334
            clear f334
            have f356 := (uf352.frozen (a := ⟨w11.heap.size, 2, none⟩) l336).trans f335
            clear f335
            have f357 := (uf352.frozen (a := ⟨w12.heap.size, 0, none⟩) l316).trans f317
            clear f317
            have f358 := (uf352.frozen (a := ⟨w12.heap.size, 1, none⟩) l316).trans f318
            clear f318
            have f359 := (uf352.frozen (a := ⟨w12.heap.size, 2, none⟩) l316).trans f319
            clear f319
            have l360 := Nat.lt_of_lt_of_le l336 uf352.size
            clear l336
            have l361 := Nat.lt_of_lt_of_le l316 uf352.size
            clear l316
            have l362 := Nat.lt_of_lt_of_le l324 uf352.size
            clear l324
            have l363 := Nat.lt_of_lt_of_le l329 uf352.size
            clear l329
            have c364 := uf352.cell k338.out
            have c365 := uf352.cell k339.out
            have c366 := uf352.cell k340.out
            clear k338 k339 k340
            have c367 := uf352.cell k341.out
            have c368 := uf352.cell k342.out
            have c369 := uf352.cell k343.out
            have c370 := uf352.cell k344.out
            clear k341 k342 k343 k344
            have vuf352 := uW312.trans uf352
            clear uf352 uW312 HShS337
            go_wp2_with fail
            rw [rounds_succ]
            go_wp2_with fail
            refine (cvParse [45, 48, 48, 48, 48, 45, 48, 49, 45, 48, 49] 0 0 0 5 _ (hE.dn vuf352) (by decide) pr6_2).mono ?_
            rintro e w23 ⟨rfl, qw23⟩
            have f371 := (qw23.frozen (a := ⟨w11.heap.size, 0, none⟩) l360).trans f354
            have f372 := (qw23.frozen (a := ⟨w11.heap.size, 1, none⟩) l360).trans f355
            have f373 := (qw23.frozen (a := ⟨w11.heap.size, 2, none⟩) l360).trans f356
            have l374 := Nat.lt_of_lt_of_le l360 qw23.size
            have c375 := qw23.cell c345
            have c376 := qw23.cell c346
            have c377 := qw23.cell c347
            have f378 := (qw23.frozen (a := ⟨w12.heap.size, 0, none⟩) l361).trans f357
            have f379 := (qw23.frozen (a := ⟨w12.heap.size, 1, none⟩) l361).trans f358
            have f380 := (qw23.frozen (a := ⟨w12.heap.size, 2, none⟩) l361).trans f359
            have l381 := Nat.lt_of_lt_of_le l361 qw23.size
            have c382 := qw23.cell c364
            have c383 := qw23.cell c365
            have c384 := qw23.cell c366
            have l385 := Nat.lt_of_lt_of_le l362 qw23.size
            have c386 := qw23.cell c367
            have c387 := qw23.cell c368
            have c388 := qw23.cell c369
            have c389 := qw23.cell c370
            have l390 := Nat.lt_of_lt_of_le l363 qw23.size
            have c391 := qw23.cell c348
            have c392 := qw23.cell c349
            have c393 := qw23.cell c350
            have c394 := qw23.cell c351
            clear f354 f355 f356 l360 c345 c346 c347 f357 f358 f359 l361 c364 c365 c366 l362 c367 c368 c369 c370 l363 c348 c349 c350 c351
            have uw23 := vuf352.trans qw23
            clear qw23 vuf352
            go_wp2_with fail
            obtain ⟨W395, hW395⟩ : ∃ W395, W395 = ((w23.setCell ⟨w11.heap.size, 0, none⟩ (.int .i64 0)).setCell ⟨w11.heap.size, 1, none⟩ (.int .i64 0)).setCell ⟨w11.heap.size, 2, none⟩ (.int .i64 0) := ⟨_, rfl⟩
            have hC : C3 w23 (w11.heap.size) (.int .i64 0) (.int .i64 0) (.int .i64 0) := ⟨c375, c376, c377, f371, f372, f373, l374⟩
            have hN : C3 W395 (w11.heap.size) (.int .i64 0) (.int .i64 0) (.int .i64 0) := by rw [hW395]; exact hC.fill (.int .i64 0) (.int .i64 0) (.int .i64 0)
            have uW395 : Dn w W395 := by rw [hW395]; exact (Dn.setCell (Dn.setCell (Dn.setCell uw23 o2 _) o2 _) o2 _)
            have c396 : W395.cell? ⟨w12.heap.size, 0, none⟩ = some (.int .i64 0) := by rw [hW395]; exact cell_far3 (fun e => n19 e.symm) c382
            have c397 : W395.cell? ⟨w12.heap.size, 1, none⟩ = some (.int .i64 0) := by rw [hW395]; exact cell_far3 (fun e => n19 e.symm) c383
            have c398 : W395.cell? ⟨w12.heap.size, 2, none⟩ = some (.int .i64 0) := by rw [hW395]; exact cell_far3 (fun e => n19 e.symm) c384
            have l399 : w12.heap.size < W395.heap.size := by rw [hW395]; simpa using l381
            have f400 : W395.frozen? ⟨w12.heap.size, 0, none⟩ = false := by rw [hW395]; simpa using f378
            have f401 : W395.frozen? ⟨w12.heap.size, 1, none⟩ = false := by rw [hW395]; simpa using f379
            have f402 : W395.frozen? ⟨w12.heap.size, 2, none⟩ = false := by rw [hW395]; simpa using f380
            have c403 : W395.cell? ⟨w247.heap.size, 0, none⟩ = some (.string ⟨#[53, 45, 48, 54, 45, 48, 55]⟩) := by rw [hW395]; exact cell_far3 (fun e => n260 e.symm) c386
            have c404 : W395.cell? ⟨w247.heap.size, 1, none⟩ = some (.string ⟨#[45, 48, 48, 48, 48, 45, 48, 49, 45, 48, 49]⟩) := by rw [hW395]; exact cell_far3 (fun e => n260 e.symm) c387
            have c405 : W395.cell? ⟨w247.heap.size, 2, none⟩ = some (.string ⟨#[50, 48, 48, 49, 45, 48, 50, 45, 50, 57]⟩) := by rw [hW395]; exact cell_far3 (fun e => n260 e.symm) c388
            have c406 : W395.cell? ⟨w247.heap.size, 3, none⟩ = some (.string ⟨#[50, 48, 48, 49, 45, 50, 45, 48, 51]⟩) := by rw [hW395]; exact cell_far3 (fun e => n260 e.symm) c389
            have l407 : w247.heap.size < W395.heap.size := by rw [hW395]; simpa using l385
            have c408 : W395.cell? ⟨w247.heap.size + 1, 0, none⟩ = some (.int .i64 5) := by rw [hW395]; exact cell_far3 (fun e => n262 e.symm) c391
            have c409 : W395.cell? ⟨w247.heap.size + 1, 1, none⟩ = some (.int .i64 5) := by rw [hW395]; exact cell_far3 (fun e => n262 e.symm) c392
            have c410 : W395.cell? ⟨w247.heap.size + 1, 2, none⟩ = some (.int .i64 8) := by rw [hW395]; exact cell_far3 (fun e => n262 e.symm) c393
            have c411 : W395.cell? ⟨w247.heap.size + 1, 3, none⟩ = some (.int .i64 5) := by rw [hW395]; exact cell_far3 (fun e => n262 e.symm) c394
            have l412 : w247.heap.size + 1 < W395.heap.size := by rw [hW395]; simpa using l390
            obtain ⟨c413, c414, c415, f416, f417, f418, l419⟩ := hN
            rw [← hW395]
            clear hW395
            clear hC uw23 c375 c376 c377 f371 f372 f373 l374 c382 c383 c384 l381 f378 f379 f380 c386 c387 c388 c389 l385 c391 c392 c393 c394 l390
            have hS420 := kdVh_7 (W := W395) (Dn.refl _) ⟨Dn.refl _, c413, c414, c415, c408, c409, c410, c411⟩
            have k421 := Lib.hid c396
            have k422 := Lib.hid c397
            have k423 := Lib.hid c398
            have k424 := Lib.hid c403
            have k425 := Lib.hid c404
            have k426 := Lib.hid c405
            have k427 := Lib.hid c406
            have HShS420 := Lib.hid hS420
            clear c413 c414 c415 c396 c397 c398 c403 c404 c405 c406 c408 c409 c410 c411
            go_region_held3 (fun w' => Dn W395 w' ∧ w'.cell? ⟨w11.heap.size, 0, none⟩ = some (.int .i64 0) ∧ w'.cell? ⟨w11.heap.size, 1, none⟩ = some (.int .i64 0) ∧ w'.cell? ⟨w11.heap.size, 2, none⟩ = some (.int .i64 0) ∧ w'.cell? ⟨w247.heap.size + 1, 0, none⟩ = some (.int .i64 5) ∧ w'.cell? ⟨w247.heap.size + 1, 1, none⟩ = some (.int .i64 5) ∧ w'.cell? ⟨w247.heap.size + 1, 2, none⟩ = some (.int .i64 8) ∧ w'.cell? ⟨w247.heap.size + 1, 3, none⟩ = some (.int .i64 5))
              (first | exact kdVh_7 ((Dn.refl _).drew) hS420 | exact kdVh_7 ‹Dn _ _› ‹_› | exact kdVh_7 (Up.dn ‹Up _ _›) ‹_› | assumption | exact kdVh_7 ((Dn.refl _).alloc _) ‹_›)
              (first
                | (go_at_call 25; refine (cl6 _ _ _ _).mono ?_; rintro e wa ⟨rfl, qa⟩)
                | (go_at_call 19; refine (g6_any _ _ _ _ _ _ _ _ _ ?_).mono ?_; decide; rintro e wa ⟨rfl, qa⟩))
            all_goals
              clear hS420
              obtain ⟨uf435, c428, c429, c430, c431, c432, c433, c434⟩ := (‹Dn W395 _ ∧ _› : _ ∧ _)
              obtain ⟨w436, rfl⟩ : ∃ w436 : World, w436 = wa := ⟨_, rfl⟩
              have f437 := (uf435.frozen (a := ⟨w11.heap.size, 0, none⟩) l419).trans f416
              clear f416
              have f438 := (uf435.frozen (a := ⟨w11.heap.size, 1, none⟩) l419).trans f417
              clear f417
              have f439 := (uf435.frozen (a := ⟨w11.heap.size, 2, none⟩) l419).trans f418
              clear f418
              have f440 := (uf435.frozen (a := ⟨w12.heap.size, 0, none⟩) l399).trans f400
              clear f400
              have f441 := (uf435.frozen (a := ⟨w12.heap.size, 1, none⟩) l399).trans f401
              clear f401
              have f442 := (uf435.frozen (a := ⟨w12.heap.size, 2, none⟩) l399).trans f402
              clear f402
              have l443 := Nat.lt_of_lt_of_le l419 uf435.size
              clear l419
              have l444 := Nat.lt_of_lt_of_le l399 uf435.size
              clear l399
              have l445 := Nat.lt_of_lt_of_le l407 uf435.size
              clear l407
              have l446 := Nat.lt_of_lt_of_le l412 uf435.size
              clear l412
              have c447 := uf435.cell k421.out
              have c448 := uf435.cell k422.out
              have c449 := uf435.cell k423.out
              clear k421 k422 k423
              have c450 := uf435.cell k424.out
              have c451 := uf435.cell k425.out
              have c452 := uf435.cell k426.out
              have c453 := uf435.cell k427.out
              clear k424 k425 k426 k427
              have vuf435 := uW395.trans uf435
              clear uf435 uW395 HShS420
              go_wp2_with fail
              rw [rounds_succ]
              go_wp2_with fail
              refine (cvParse [50, 48, 48, 49, 45, 48, 50, 45, 50, 57] 0 0 0 8 _ (hE.dn vuf435) (by decide) pr6_3).mono ?_
              rintro e w24 ⟨rfl, qw24⟩
              have f454 := (qw24.frozen (a := ⟨w11.heap.size, 0, none⟩) l443).trans f437
              have f455 := (qw24.frozen (a := ⟨w11.heap.size, 1, none⟩) l443).trans f438
              have f456 := (qw24.frozen (a := ⟨w11.heap.size, 2, none⟩) l443).trans f439
              have l457 := Nat.lt_of_lt_of_le l443 qw24.size
              have c458 := qw24.cell c428
              have c459 := qw24.cell c429
              have c460 := qw24.cell c430
              have f461 := (qw24.frozen (a := ⟨w12.heap.size, 0, none⟩) l444).trans f440
              have f462 := (qw24.frozen (a := ⟨w12.heap.size, 1, none⟩) l444).trans f441
              have f463 := (qw24.frozen (a := ⟨w12.heap.size, 2, none⟩) l444).trans f442
              have l464 := Nat.lt_of_lt_of_le l444 qw24.size
              have c465 := qw24.cell c447
              have c466 := qw24.cell c448
              have c467 := qw24.cell c449
              have l468 := Nat.lt_of_lt_of_le l445 qw24.size
              have c469 := qw24.cell c450
              have c470 := qw24.cell c451
              have c471 := qw24.cell c452
              have c472 := qw24.cell c453
              have l473 := Nat.lt_of_lt_of_le l446 qw24.size
              have c474 := qw24.cell c431
              have c475 := qw24.cell c432
              have c476 := qw24.cell c433
              have c477 := qw24.cell c434
              clear f437 f438 f439 l443 c428 c429 c430 f440 f441 f442 l444 c447 c448 c449 l445 c450 c451 c452 c453 l446 c431 c432 c433 c434
              have uw24 := vuf435.trans qw24
              clear qw24 vuf435
              go_wp2_with fail
              obtain ⟨W478, hW478⟩ : ∃ W478, W478 = ((w24.setCell ⟨w11.heap.size, 0, none⟩ (.int .i64 0)).setCell ⟨w11.heap.size, 1, none⟩ (.int .i64 0)).setCell ⟨w11.heap.size, 2, none⟩ (.int .i64 0) := ⟨_, rfl⟩
              have hC : C3 w24 (w11.heap.size) (.int .i64 0) (.int .i64 0) (.int .i64 0) := ⟨c458, c459, c460, f454, f455, f456, l457⟩
              have hN : C3 W478 (w11.heap.size) (.int .i64 0) (.int .i64 0) (.int .i64 0) := by rw [hW478]; exact hC.fill (.int .i64 0) (.int .i64 0) (.int .i64 0)
              have uW478 : Dn w W478 := by rw [hW478]; exact (Dn.setCell (Dn.setCell (Dn.setCell uw24 o2 _) o2 _) o2 _)
              have c479 : W478.cell? ⟨w12.heap.size, 0, none⟩ = some (.int .i64 0) := by rw [hW478]; exact cell_far3 (fun e => n19 e.symm) c465
              have c480 : W478.cell? ⟨w12.heap.size, 1, none⟩ = some (.int .i64 0) := by rw [hW478]; exact cell_far3 (fun e => n19 e.symm) c466
              have c481 : W478.cell? ⟨w12.heap.size, 2, none⟩ = some (.int .i64 0) := by rw [hW478]; exact cell_far3 (fun e => n19 e.symm) c467
              have l482 : w12.heap.size < W478.heap.size := by rw [hW478]; simpa using l464
              have f483 : W478.frozen? ⟨w12.heap.size, 0, none⟩ = false := by rw [hW478]; simpa using f461
              have f484 : W478.frozen? ⟨w12.heap.size, 1, none⟩ = false := by rw [hW478]; simpa using f462
              have f485 : W478.frozen? ⟨w12.heap.size, 2, none⟩ = false := by rw [hW478]; simpa using f463
              have c486 : W478.cell? ⟨w247.heap.size, 0, none⟩ = some (.string ⟨#[53, 45, 48, 54, 45, 48, 55]⟩) := by rw [hW478]; exact cell_far3 (fun e => n260 e.symm) c469
              have c487 : W478.cell? ⟨w247.heap.size, 1, none⟩ = some (.string ⟨#[45, 48, 48, 48, 48, 45, 48, 49, 45, 48, 49]⟩) := by rw [hW478]; exact cell_far3 (fun e => n260 e.symm) c470
              have c488 : W478.cell? ⟨w247.heap.size, 2, none⟩ = some (.string ⟨#[50, 48, 48, 49, 45, 48, 50, 45, 50, 57]⟩) := by rw [hW478]; exact cell_far3 (fun e => n260 e.symm) c471
              have c489 : W478.cell? ⟨w247.heap.size, 3, none⟩ = some (.string ⟨#[50, 48, 48, 49, 45, 50, 45, 48, 51]⟩) := by rw [hW478]; exact cell_far3 (fun e => n260 e.symm) c472
              have l490 : w247.heap.size < W478.heap.size := by rw [hW478]; simpa using l468
              have c491 : W478.cell? ⟨w247.heap.size + 1, 0, none⟩ = some (.int .i64 5) := by rw [hW478]; exact cell_far3 (fun e => n262 e.symm) c474
              have c492 : W478.cell? ⟨w247.heap.size + 1, 1, none⟩ = some (.int .i64 5) := by rw [hW478]; exact cell_far3 (fun e => n262 e.symm) c475
              have c493 : W478.cell? ⟨w247.heap.size + 1, 2, none⟩ = some (.int .i64 8) := by rw [hW478]; exact cell_far3 (fun e => n262 e.symm) c476
              have c494 : W478.cell? ⟨w247.heap.size + 1, 3, none⟩ = some (.int .i64 5) := by rw [hW478]; exact cell_far3 (fun e => n262 e.symm) c477
              have l495 : w247.heap.size + 1 < W478.heap.size := by rw [hW478]; simpa using l473
              obtain ⟨c496, c497, c498, f499, f500, f501, l502⟩ := hN
              rw [← hW478]
              clear hW478
              clear hC uw24 c458 c459 c460 f454 f455 f456 l457 c465 c466 c467 l464 f461 f462 f463 c469 c470 c471 c472 l468 c474 c475 c476 c477 l473
              have hS503 := kdVh_7 (W := W478) (Dn.refl _) ⟨Dn.refl _, c496, c497, c498, c491, c492, c493, c494⟩
              have k504 := Lib.hid c479
              have k505 := Lib.hid c480
              have k506 := Lib.hid c481
              have k507 := Lib.hid c486
              have k508 := Lib.hid c487
              have k509 := Lib.hid c488
              have k510 := Lib.hid c489
              have HShS503 := Lib.hid hS503
              clear c496 c497 c498 c479 c480 c481 c486 c487 c488 c489 c491 c492 c493 c494
              go_region_held3 (fun w' => Dn W478 w' ∧ w'.cell? ⟨w11.heap.size, 0, none⟩ = some (.int .i64 0) ∧ w'.cell? ⟨w11.heap.size, 1, none⟩ = some (.int .i64 0) ∧ w'.cell? ⟨w11.heap.size, 2, none⟩ = some (.int .i64 0) ∧ w'.cell? ⟨w247.heap.size + 1, 0, none⟩ = some (.int .i64 5) ∧ w'.cell? ⟨w247.heap.size + 1, 1, none⟩ = some (.int .i64 5) ∧ w'.cell? ⟨w247.heap.size + 1, 2, none⟩ = some (.int .i64 8) ∧ w'.cell? ⟨w247.heap.size + 1, 3, none⟩ = some (.int .i64 5))
                (first | exact kdVh_7 ((Dn.refl _).drew) hS503 | exact kdVh_7 ‹Dn _ _› ‹_› | exact kdVh_7 (Up.dn ‹Up _ _›) ‹_› | assumption | exact kdVh_7 ((Dn.refl _).alloc _) ‹_›)
                (first
                  | (go_at_call 25; refine (cl6 _ _ _ _).mono ?_; rintro e wa ⟨rfl, qa⟩)
                  | (go_at_call 19; refine (g6_any _ _ _ _ _ _ _ _ _ ?_).mono ?_; decide; rintro e wa ⟨rfl, qa⟩))
              all_goals
                clear hS503
                obtain ⟨uf518, c511, c512, c513, c514, c515, c516, c517⟩ := (‹Dn W478 _ ∧ _› : _ ∧ _)
                obtain ⟨w519, rfl⟩ : ∃ w519 : World, w519 = wa := ⟨_, rfl⟩
                have f520 := (uf518.frozen (a := ⟨w11.heap.size, 0, none⟩) l502).trans f499
                clear f499
                have f521 := (uf518.frozen (a := ⟨w11.heap.size, 1, none⟩) l502).trans f500
                clear f500
                have f522 := (uf518.frozen (a := ⟨w11.heap.size, 2, none⟩) l502).trans f501
                clear f501
                have f523 := (uf518.frozen (a := ⟨w12.heap.size, 0, none⟩) l482).trans f483
                clear f483
                have f524 := (uf518.frozen (a := ⟨w12.heap.size, 1, none⟩) l482).trans f484
                clear f484
                have f525 := (uf518.frozen (a := ⟨w12.heap.size, 2, none⟩) l482).trans f485
                clear f485
                have l526 := Nat.lt_of_lt_of_le l502 uf518.size
                clear l502
                have l527 := Nat.lt_of_lt_of_le l482 uf518.size
                clear l482
                have l528 := Nat.lt_of_lt_of_le l490 uf518.size
                clear l490
                have l529 := Nat.lt_of_lt_of_le l495 uf518.size
                clear l495
                have c530 := uf518.cell k504.out
                have c531 := uf518.cell k505.out
                have c532 := uf518.cell k506.out
                clear k504 k505 k506
                have c533 := uf518.cell k507.out
                have c534 := uf518.cell k508.out
                have c535 := uf518.cell k509.out
                have c536 := uf518.cell k510.out
                clear k507 k508 k509 k510
                have vuf518 := uW478.trans uf518
                clear uf518 uW478 HShS503
                go_wp2_with fail
                rw [rounds_succ]
                go_wp2_with fail
                refine (cvParse [50, 48, 48, 49, 45, 50, 45, 48, 51] 0 0 0 5 _ (hE.dn vuf518) (by decide) pr6_4).mono ?_
                rintro e w25 ⟨rfl, qw25⟩
                have f537 := (qw25.frozen (a := ⟨w11.heap.size, 0, none⟩) l526).trans f520
                have f538 := (qw25.frozen (a := ⟨w11.heap.size, 1, none⟩) l526).trans f521
                have f539 := (qw25.frozen (a := ⟨w11.heap.size, 2, none⟩) l526).trans f522
                have l540 := Nat.lt_of_lt_of_le l526 qw25.size
                have c541 := qw25.cell c511
                have c542 := qw25.cell c512
                have c543 := qw25.cell c513
                have f544 := (qw25.frozen (a := ⟨w12.heap.size, 0, none⟩) l527).trans f523
                have f545 := (qw25.frozen (a := ⟨w12.heap.size, 1, none⟩) l527).trans f524
                have f546 := (qw25.frozen (a := ⟨w12.heap.size, 2, none⟩) l527).trans f525
                have l547 := Nat.lt_of_lt_of_le l527 qw25.size
                have c548 := qw25.cell c530
                have c549 := qw25.cell c531
                have c550 := qw25.cell c532
                have l551 := Nat.lt_of_lt_of_le l528 qw25.size
                have c552 := qw25.cell c533
                have c553 := qw25.cell c534
                have c554 := qw25.cell c535
                have c555 := qw25.cell c536
                have l556 := Nat.lt_of_lt_of_le l529 qw25.size
                have c557 := qw25.cell c514
                have c558 := qw25.cell c515
                have c559 := qw25.cell c516
                have c560 := qw25.cell c517
                clear f520 f521 f522 l526 c511 c512 c513 f523 f524 f525 l527 c530 c531 c532 l528 c533 c534 c535 c536 l529 c514 c515 c516 c517
                have uw25 := vuf518.trans qw25
                clear qw25 vuf518
                go_wp2_with fail
                obtain ⟨W561, hW561⟩ : ∃ W561, W561 = ((w25.setCell ⟨w11.heap.size, 0, none⟩ (.int .i64 0)).setCell ⟨w11.heap.size, 1, none⟩ (.int .i64 0)).setCell ⟨w11.heap.size, 2, none⟩ (.int .i64 0) := ⟨_, rfl⟩
                have hC : C3 w25 (w11.heap.size) (.int .i64 0) (.int .i64 0) (.int .i64 0) := ⟨c541, c542, c543, f537, f538, f539, l540⟩
                have hN : C3 W561 (w11.heap.size) (.int .i64 0) (.int .i64 0) (.int .i64 0) := by rw [hW561]; exact hC.fill (.int .i64 0) (.int .i64 0) (.int .i64 0)
                have uW561 : Dn w W561 := by rw [hW561]; exact (Dn.setCell (Dn.setCell (Dn.setCell uw25 o2 _) o2 _) o2 _)
                have c562 : W561.cell? ⟨w12.heap.size, 0, none⟩ = some (.int .i64 0) := by rw [hW561]; exact cell_far3 (fun e => n19 e.symm) c548
                have c563 : W561.cell? ⟨w12.heap.size, 1, none⟩ = some (.int .i64 0) := by rw [hW561]; exact cell_far3 (fun e => n19 e.symm) c549
                have c564 : W561.cell? ⟨w12.heap.size, 2, none⟩ = some (.int .i64 0) := by rw [hW561]; exact cell_far3 (fun e => n19 e.symm) c550
                have l565 : w12.heap.size < W561.heap.size := by rw [hW561]; simpa using l547
                have f566 : W561.frozen? ⟨w12.heap.size, 0, none⟩ = false := by rw [hW561]; simpa using f544
                have f567 : W561.frozen? ⟨w12.heap.size, 1, none⟩ = false := by rw [hW561]; simpa using f545
                have f568 : W561.frozen? ⟨w12.heap.size, 2, none⟩ = false := by rw [hW561]; simpa using f546
                have c569 : W561.cell? ⟨w247.heap.size, 0, none⟩ = some (.string ⟨#[53, 45, 48, 54, 45, 48, 55]⟩) := by rw [hW561]; exact cell_far3 (fun e => n260 e.symm) c552
                have c570 : W561.cell? ⟨w247.heap.size, 1, none⟩ = some (.string ⟨#[45, 48, 48, 48, 48, 45, 48, 49, 45, 48, 49]⟩) := by rw [hW561]; exact cell_far3 (fun e => n260 e.symm) c553
                have c571 : W561.cell? ⟨w247.heap.size, 2, none⟩ = some (.string ⟨#[50, 48, 48, 49, 45, 48, 50, 45, 50, 57]⟩) := by rw [hW561]; exact cell_far3 (fun e => n260 e.symm) c554
                have c572 : W561.cell? ⟨w247.heap.size, 3, none⟩ = some (.string ⟨#[50, 48, 48, 49, 45, 50, 45, 48, 51]⟩) := by rw [hW561]; exact cell_far3 (fun e => n260 e.symm) c555
                have l573 : w247.heap.size < W561.heap.size := by rw [hW561]; simpa using l551
                have c574 : W561.cell? ⟨w247.heap.size + 1, 0, none⟩ = some (.int .i64 5) := by rw [hW561]; exact cell_far3 (fun e => n262 e.symm) c557
                have c575 : W561.cell? ⟨w247.heap.size + 1, 1, none⟩ = some (.int .i64 5) := by rw [hW561]; exact cell_far3 (fun e => n262 e.symm) c558
                have c576 : W561.cell? ⟨w247.heap.size + 1, 2, none⟩ = some (.int .i64 8) := by rw [hW561]; exact cell_far3 (fun e => n262 e.symm) c559
                have c577 : W561.cell? ⟨w247.heap.size + 1, 3, none⟩ = some (.int .i64 5) := by rw [hW561]; exact cell_far3 (fun e => n262 e.symm) c560
                have l578 : w247.heap.size + 1 < W561.heap.size := by rw [hW561]; simpa using l556
                obtain ⟨c579, c580, c581, f582, f583, f584, l585⟩ := hN
                rw [← hW561]
                clear hW561
                clear hC uw25 c541 c542 c543 f537 f538 f539 l540 c548 c549 c550 l547 f544 f545 f546 c552 c553 c554 c555 l551 c557 c558 c559 c560 l556
                have hS586 := kdVh_7 (W := W561) (Dn.refl _) ⟨Dn.refl _, c579, c580, c581, c574, c575, c576, c577⟩
                have k587 := Lib.hid c562
                have k588 := Lib.hid c563
                have k589 := Lib.hid c564
                have k590 := Lib.hid c569
                have k591 := Lib.hid c570
                have k592 := Lib.hid c571
                have k593 := Lib.hid c572
                have HShS586 := Lib.hid hS586
                clear c579 c580 c581 c562 c563 c564 c569 c570 c571 c572 c574 c575 c576 c577
                go_region_held3 (fun w' => Dn W561 w' ∧ w'.cell? ⟨w11.heap.size, 0, none⟩ = some (.int .i64 0) ∧ w'.cell? ⟨w11.heap.size, 1, none⟩ = some (.int .i64 0) ∧ w'.cell? ⟨w11.heap.size, 2, none⟩ = some (.int .i64 0) ∧ w'.cell? ⟨w247.heap.size + 1, 0, none⟩ = some (.int .i64 5) ∧ w'.cell? ⟨w247.heap.size + 1, 1, none⟩ = some (.int .i64 5) ∧ w'.cell? ⟨w247.heap.size + 1, 2, none⟩ = some (.int .i64 8) ∧ w'.cell? ⟨w247.heap.size + 1, 3, none⟩ = some (.int .i64 5))
                  (first | exact kdVh_7 ((Dn.refl _).drew) hS586 | exact kdVh_7 ‹Dn _ _› ‹_› | exact kdVh_7 (Up.dn ‹Up _ _›) ‹_› | assumption | exact kdVh_7 ((Dn.refl _).alloc _) ‹_›)
                  (first
                    | (go_at_call 25; refine (cl6 _ _ _ _).mono ?_; rintro e wa ⟨rfl, qa⟩)
                    | (go_at_call 19; refine (g6_any _ _ _ _ _ _ _ _ _ ?_).mono ?_; decide; rintro e wa ⟨rfl, qa⟩))
                all_goals
                  clear hS586
                  obtain ⟨uf601, c594, c595, c596, c597, c598, c599, c600⟩ := (‹Dn W561 _ ∧ _› : _ ∧ _)
                  obtain ⟨w602, rfl⟩ : ∃ w602 : World, w602 = wa := ⟨_, rfl⟩
                  have f603 := (uf601.frozen (a := ⟨w11.heap.size, 0, none⟩) l585).trans f582
                  clear f582
                  have f604 := (uf601.frozen (a := ⟨w11.heap.size, 1, none⟩) l585).trans f583
                  clear f583
                  have f605 := (uf601.frozen (a := ⟨w11.heap.size, 2, none⟩) l585).trans f584
                  clear f584
                  have f606 := (uf601.frozen (a := ⟨w12.heap.size, 0, none⟩) l565).trans f566
                  clear f566
                  have f607 := (uf601.frozen (a := ⟨w12.heap.size, 1, none⟩) l565).trans f567
                  clear f567
                  have f608 := (uf601.frozen (a := ⟨w12.heap.size, 2, none⟩) l565).trans f568
                  clear f568
                  have l609 := Nat.lt_of_lt_of_le l585 uf601.size
                  clear l585
                  have l610 := Nat.lt_of_lt_of_le l565 uf601.size
                  clear l565
                  have l611 := Nat.lt_of_lt_of_le l573 uf601.size
                  clear l573
                  have l612 := Nat.lt_of_lt_of_le l578 uf601.size
                  clear l578
                  have c613 := uf601.cell k587.out
                  have c614 := uf601.cell k588.out
                  have c615 := uf601.cell k589.out
                  clear k587 k588 k589
                  have c616 := uf601.cell k590.out
                  have c617 := uf601.cell k591.out
                  have c618 := uf601.cell k592.out
                  have c619 := uf601.cell k593.out
                  clear k590 k591 k592 k593
                  have vuf601 := uW561.trans uf601
                  clear uf601 uW561 HShS586
                  go_wp2_with fail
                  rw [rounds_succ]
                  go_wp2_with fail
                  go_ret
                  exact ⟨rfl, vuf601⟩
end Go.Proofs.YtopbbcbpanfigaaGreatDoor
