/- Walks and laws that the claim's theorem leans on: part 6. -/
import Derived.Test.YtoghoddjkdoohaaGreatDoorZKn1
import Derived.Test.YtoghoddjkdoohaaGreatDoorZKn4
import Derived.Test.YtoghoddjkdoohaaGreatDoorZKn5
import Derived.WalkSmall
import Derived.Deep.DeepCutAuto
import Derived.Maps.RangeWalk
import Derived.RegionTactic
import Derived.Deep.RegionLaw
namespace Go.Proofs.YtoghoddjkdoohaaGreatDoor
set_option maxHeartbeats 4000000
set_option maxRecDepth 100000
open Go.RowKit
set_option linter.unusedVariables false
set_option linter.unusedSimpArgs false
theorem kdS {W w1 : World} {a0 a1 a2 a3 a4 a5 a6 a7 p : Addr} {v0 v1 v2 v3 v4 v5 v6 v7 : Value} (v : Value) (hp : W.heap.size <= p.block) (hn : ∀ a ∈ [a0, a1, a2, a3, a4, a5, a6, a7], p.block ≠ a.block)
  (h : Dn W w1 /\ w1.cell? a0 = some v0 /\ w1.cell? a1 = some v1 /\ w1.cell? a2 = some v2 /\ w1.cell? a3 = some v3 /\ w1.cell? a4 = some v4 /\ w1.cell? a5 = some v5 /\ w1.cell? a6 = some v6 /\ w1.cell? a7 = some v7) : Dn W (w1.setCell p v) /\ (w1.setCell p v).cell? a0 = some v0 /\ (w1.setCell p v).cell? a1 = some v1 /\ (w1.setCell p v).cell? a2 = some v2 /\ (w1.setCell p v).cell? a3 = some v3 /\ (w1.setCell p v).cell? a4 = some v4 /\ (w1.setCell p v).cell? a5 = some v5 /\ (w1.setCell p v).cell? a6 = some v6 /\ (w1.setCell p v).cell? a7 = some v7 := by
 obtain ⟨h1, c0, c1, c2, c3, c4, c5, c6, c7⟩ := h
 have hx : ∀ a, p.block ≠ a.block -> ∀ u, w1.cell? a = some u -> (w1.setCell p v).cell? a = some u := fun a ha u hu => by
  rw [World.cell?_setCell_other _ _ _ _ (fun e => ha (by rw [e]))]; exact hu
 exact ⟨h1.setCell hp v, hx _ (hn _ (by simp)) _ c0, hx _ (hn _ (by simp)) _ c1, hx _ (hn _ (by simp)) _ c2, hx _ (hn _ (by simp)) _ c3, hx _ (hn _ (by simp)) _ c4, hx _ (hn _ (by simp)) _ c5, hx _ (hn _ (by simp)) _ c6, hx _ (hn _ (by simp)) _ c7⟩
theorem rnJoin_no (a b c d e f g h : Int) (HT : Hid (∀ W, Calls Tryz.prog 47 #[.agg #[.int .i8 a, .int .i64 b, .int .i8 c, .int .i64 d], .agg #[.int .i8 e, .int .i64 f, .int .i8 g, .int .i64 h]] W fun r w' => r = .returned (.bool false) /\ Dn W w')) (w : World) :
  Calls Tryz.prog 84 #[.agg #[.int .i8 a, .int .i64 b, .int .i8 c, .int .i64 d], .agg #[.int .i8 e, .int .i64 f, .int .i8 g, .int .i64 h]] w fun ro w' => ro = .returned (.tuple #[.agg #[.int .i8 0, .int .i64 0, .int .i8 0, .int .i64 0], .bool false]) /\ Dn w w' := by
 go_enter Tryz.func84, Tryz.ntmps84
 go_wp2_with fail
 obtain ⟨W1, hW1⟩ : ∃ W1, W1 = ((w.alloc (.cells #[.int .i8 a, .int .i64 b, .int .i8 c, .int .i64 d] 45)).alloc (.cells #[.int .i8 e, .int .i64 f, .int .i8 g, .int .i64 h] 45)).alloc (.cells #[.int .i8 0, .int .i64 0, .int .i8 0, .int .i64 0] 45) := ⟨_, rfl⟩
 have uW1 : Dn w W1 := by rw [hW1]; exact (((Dn.refl _).alloc _).alloc _).alloc _
 have n2 : w.heap.size ≠ w.heap.size + 1 + 1 := by omega
 have n3 : w.heap.size + 1 ≠ w.heap.size + 1 + 1 := by omega
 have c4 : W1.cell? ⟨w.heap.size, 0, none⟩ = some (.int .i8 a) := by rw [hW1]; simp [go_sem]
 have c5 : W1.cell? ⟨w.heap.size, 1, none⟩ = some (.int .i64 b) := by rw [hW1]; simp [go_sem]
 have c6 : W1.cell? ⟨w.heap.size, 2, none⟩ = some (.int .i8 c) := by rw [hW1]; simp [go_sem]
 have c7 : W1.cell? ⟨w.heap.size, 3, none⟩ = some (.int .i64 d) := by rw [hW1]; simp [go_sem]
 have l8 : w.heap.size < W1.heap.size := by rw [hW1]; simp <;> omega
 have c9 : W1.cell? ⟨w.heap.size + 1, 0, none⟩ = some (.int .i8 e) := by rw [hW1]; simp [go_sem]
 have a1 : W1.cell? ⟨w.heap.size + 1, 1, none⟩ = some (.int .i64 f) := by rw [hW1]; simp [go_sem]
 have a2 : W1.cell? ⟨w.heap.size + 1, 2, none⟩ = some (.int .i8 g) := by rw [hW1]; simp [go_sem]
 have a3 : W1.cell? ⟨w.heap.size + 1, 3, none⟩ = some (.int .i64 h) := by rw [hW1]; simp [go_sem]
 have a4 : w.heap.size + 1 < W1.heap.size := by rw [hW1]; simp <;> omega
 have a5 : W1.cell? ⟨w.heap.size + 1 + 1, 0, none⟩ = some (.int .i8 0) := by rw [hW1]; simp [go_sem]
 have a6 : W1.cell? ⟨w.heap.size + 1 + 1, 1, none⟩ = some (.int .i64 0) := by rw [hW1]; simp [go_sem]
 have a7 : W1.cell? ⟨w.heap.size + 1 + 1, 2, none⟩ = some (.int .i8 0) := by rw [hW1]; simp [go_sem]
 have a8 : W1.cell? ⟨w.heap.size + 1 + 1, 3, none⟩ = some (.int .i64 0) := by rw [hW1]; simp [go_sem]
 have a0 : w.heap.size + 1 + 1 < W1.heap.size := by rw [hW1]; simp <;> omega
 have f19 : W1.frozen? ⟨w.heap.size + 1 + 1, 0, none⟩ = false := by rw [hW1]; simp [go_sem]
 have f20 : W1.frozen? ⟨w.heap.size + 1 + 1, 1, none⟩ = false := by rw [hW1]; simp [go_sem]
 have f21 : W1.frozen? ⟨w.heap.size + 1 + 1, 2, none⟩ = false := by rw [hW1]; simp [go_sem]
 have f22 : W1.frozen? ⟨w.heap.size + 1 + 1, 3, none⟩ = false := by rw [hW1]; simp [go_sem]
 rw [<- hW1]
 clear hW1
 refine (HT.out _).mono ?_
 rintro e w1 ⟨rfl, qw1⟩
 obtain ⟨aL, aM⟩ := nl2 qw1.size l8 a4
 obtain ⟨a9, aA, aB, aC, aD, aE, aF, aG⟩ := mv8 qw1.cell c4 c5 c6 c7 c9 a1 a2 a3
 have f33 := fz qw1 f19 a0
 have f34 := fz qw1 f20 a0
 have f35 := fz qw1 f21 a0
 have f36 := fz qw1 f22 a0
 have aN := nlt a0 qw1.size
 obtain ⟨aH, aI, aJ, aK⟩ := mv4 qw1.cell a5 a6 a7 a8
 clear l8 c4 c5 c6 c7 a4 c9 a1 a2 a3 f19 f20 f21 f22 a0 a5 a6 a7 a8
 have uw1 := uW1.trans qw1
 clear qw1 uW1
 go_wp2_with fail
 exact bodyPost_ret (v := .tuple #[.agg #[.int .i8 0, .int .i64 0, .int .i8 0, .int .i64 0], .bool false]) (by simp [results, Tryz.results84, go_sem, a9, aA, aB, aC, aD, aE, aF, aG, aH, aI, aJ, aK, f33, f34, f35, f36] <;> omega) rfl ⟨rfl, ((((uw1.sC).sC).sC).sC)⟩
theorem rnJoin_yes (a b c d e f g h i1 d1 i2 d2 : Int) (HT : Hid (∀ W, Calls Tryz.prog 47 #[.agg #[.int .i8 a, .int .i64 b, .int .i8 c, .int .i64 d], .agg #[.int .i8 e, .int .i64 f, .int .i8 g, .int .i64 h]] W fun r w' => r = .returned (.bool true) /\ Dn W w')) (HM : Hid (∀ W, Calls Tryz.prog 124 #[.agg #[.int .i8 a, .int .i64 b], .agg #[.int .i8 e, .int .i64 f]] W fun r w' => r = .returned (.agg #[.int .i8 i1, .int .i64 d1]) /\ Up W w')) (HX : Hid (∀ W, Calls Tryz.prog 125 #[.agg #[.int .i8 c, .int .i64 d], .agg #[.int .i8 g, .int .i64 h]] W fun r w' => r = .returned (.agg #[.int .i8 i2, .int .i64 d2]) /\ Up W w')) (w : World) :
  Calls Tryz.prog 84 #[.agg #[.int .i8 a, .int .i64 b, .int .i8 c, .int .i64 d], .agg #[.int .i8 e, .int .i64 f, .int .i8 g, .int .i64 h]] w fun ro w' => ro = .returned (.tuple #[.agg #[.int .i8 i1, .int .i64 d1, .int .i8 i2, .int .i64 d2], .bool true]) /\ Dn w w' := by
 go_enter Tryz.func84, Tryz.ntmps84
 go_wp2_with fail
 obtain ⟨W1, hW1⟩ : ∃ W1, W1 = ((w.alloc (.cells #[.int .i8 a, .int .i64 b, .int .i8 c, .int .i64 d] 45)).alloc (.cells #[.int .i8 e, .int .i64 f, .int .i8 g, .int .i64 h] 45)).alloc (.cells #[.int .i8 0, .int .i64 0, .int .i8 0, .int .i64 0] 45) := ⟨_, rfl⟩
 have uW1 : Dn w W1 := by rw [hW1]; exact (((Dn.refl _).alloc _).alloc _).alloc _
 have n2 : w.heap.size ≠ w.heap.size + 1 + 1 := by omega
 have n3 : w.heap.size + 1 ≠ w.heap.size + 1 + 1 := by omega
 have c4 : W1.cell? ⟨w.heap.size, 0, none⟩ = some (.int .i8 a) := by rw [hW1]; simp [go_sem]
 have c5 : W1.cell? ⟨w.heap.size, 1, none⟩ = some (.int .i64 b) := by rw [hW1]; simp [go_sem]
 have c6 : W1.cell? ⟨w.heap.size, 2, none⟩ = some (.int .i8 c) := by rw [hW1]; simp [go_sem]
 have c7 : W1.cell? ⟨w.heap.size, 3, none⟩ = some (.int .i64 d) := by rw [hW1]; simp [go_sem]
 have l8 : w.heap.size < W1.heap.size := by rw [hW1]; simp <;> omega
 have c9 : W1.cell? ⟨w.heap.size + 1, 0, none⟩ = some (.int .i8 e) := by rw [hW1]; simp [go_sem]
 have a1 : W1.cell? ⟨w.heap.size + 1, 1, none⟩ = some (.int .i64 f) := by rw [hW1]; simp [go_sem]
 have a2 : W1.cell? ⟨w.heap.size + 1, 2, none⟩ = some (.int .i8 g) := by rw [hW1]; simp [go_sem]
 have a3 : W1.cell? ⟨w.heap.size + 1, 3, none⟩ = some (.int .i64 h) := by rw [hW1]; simp [go_sem]
 have a4 : w.heap.size + 1 < W1.heap.size := by rw [hW1]; simp <;> omega
 have a5 : W1.cell? ⟨w.heap.size + 1 + 1, 0, none⟩ = some (.int .i8 0) := by rw [hW1]; simp [go_sem]
 have a6 : W1.cell? ⟨w.heap.size + 1 + 1, 1, none⟩ = some (.int .i64 0) := by rw [hW1]; simp [go_sem]
 have a7 : W1.cell? ⟨w.heap.size + 1 + 1, 2, none⟩ = some (.int .i8 0) := by rw [hW1]; simp [go_sem]
 have a8 : W1.cell? ⟨w.heap.size + 1 + 1, 3, none⟩ = some (.int .i64 0) := by rw [hW1]; simp [go_sem]
 have a0 : w.heap.size + 1 + 1 < W1.heap.size := by rw [hW1]; simp <;> omega
 have f19 : W1.frozen? ⟨w.heap.size + 1 + 1, 0, none⟩ = false := by rw [hW1]; simp [go_sem]
 have f20 : W1.frozen? ⟨w.heap.size + 1 + 1, 1, none⟩ = false := by rw [hW1]; simp [go_sem]
 have f21 : W1.frozen? ⟨w.heap.size + 1 + 1, 2, none⟩ = false := by rw [hW1]; simp [go_sem]
 have f22 : W1.frozen? ⟨w.heap.size + 1 + 1, 3, none⟩ = false := by rw [hW1]; simp [go_sem]
 rw [<- hW1]
 clear hW1
 refine (HT.out _).mono ?_
 rintro e w1 ⟨rfl, qw1⟩
 obtain ⟨aM, aN⟩ := nl2 qw1.size l8 a4
 obtain ⟨a9, aA, aB, aC, aD, aE, aF, aG⟩ := mv8 qw1.cell c4 c5 c6 c7 c9 a1 a2 a3
 have f33 := fz qw1 f19 a0
 have f34 := fz qw1 f20 a0
 have f35 := fz qw1 f21 a0
 have f36 := fz qw1 f22 a0
 have aH := nlt a0 qw1.size
 obtain ⟨aI, aJ, aK, aL⟩ := mv4 qw1.cell a5 a6 a7 a8
 clear l8 c4 c5 c6 c7 a4 c9 a1 a2 a3 f19 f20 f21 f22 a0 a5 a6 a7 a8
 have uw1 := uW1.trans qw1
 clear qw1 uW1
 go_wp2_with fail
 have hS := kd_8 (W := w) (Dn.refl w1) ⟨uw1, a9, aA, aB, aC, aD, aE, aF, aG⟩
 have z0 := aI
 have f0 := f33
 have z1 := aJ
 have f1 := f34
 have z2 := aK
 have f2 := f35
 have z3 := aL
 have f3 := f36
 have lz := aH
 clear a9 aA aB aC aD aE aF aG aI aJ aK aL f33 f34 f35 f36 aH
 go_region_held3 (fun w' => Dn w w' /\ w'.cell? ⟨w.heap.size, 0, none⟩ = some (.int .i8 a) /\ w'.cell? ⟨w.heap.size, 1, none⟩ = some (.int .i64 b) /\ w'.cell? ⟨w.heap.size, 2, none⟩ = some (.int .i8 c) /\ w'.cell? ⟨w.heap.size, 3, none⟩ = some (.int .i64 d) /\ w'.cell? ⟨w.heap.size + 1, 0, none⟩ = some (.int .i8 e) /\ w'.cell? ⟨w.heap.size + 1, 1, none⟩ = some (.int .i64 f) /\ w'.cell? ⟨w.heap.size + 1, 2, none⟩ = some (.int .i8 g) /\ w'.cell? ⟨w.heap.size + 1, 3, none⟩ = some (.int .i64 h))
  (first | exact kd_8 ((Dn.refl _).drew) hS | exact kd_8 ‹Dn _ _› ‹_› | exact kd_8 (Up.dn ‹Up _ _›) ‹_› | exact kdS _ (by simp <;> omega) (by simp <;> omega) (kdS _ (by simp <;> omega) (by simp <;> omega) (kdS _ (by simp <;> omega) (by simp <;> omega) (kdS _ (by simp <;> omega) (by simp <;> omega) ‹Dn w _ /\ _›))) | assumption)
  (first | (go_at_call 124; refine (HM.out _).mono ?_; rintro e wa ⟨rfl, qa⟩; replace qa := Up.dn qa; have z0 := qa.cell (a := ⟨w.heap.size + 1 + 1, 0, none⟩) (by assumption); have z1 := qa.cell (a := ⟨w.heap.size + 1 + 1, 1, none⟩) (by assumption); have z2 := qa.cell (a := ⟨w.heap.size + 1 + 1, 2, none⟩) (by assumption); have z3 := qa.cell (a := ⟨w.heap.size + 1 + 1, 3, none⟩) (by assumption); have f0 := (qa.frozen (a := ⟨w.heap.size + 1 + 1, 0, none⟩) (by assumption)).trans (by assumption); have f1 := (qa.frozen (a := ⟨w.heap.size + 1 + 1, 1, none⟩) (by assumption)).trans (by assumption); have f2 := (qa.frozen (a := ⟨w.heap.size + 1 + 1, 2, none⟩) (by assumption)).trans (by assumption); have f3 := (qa.frozen (a := ⟨w.heap.size + 1 + 1, 3, none⟩) (by assumption)).trans (by assumption); have lz : w.heap.size + 1 + 1 < wa.heap.size := Nat.lt_of_lt_of_le (by assumption) qa.size) | (go_at_call 125; refine (HX.out _).mono ?_; rintro e wa ⟨rfl, qa⟩; replace qa := Up.dn qa; have z0 := qa.cell (a := ⟨w.heap.size + 1 + 1, 0, none⟩) (by assumption); have z1 := qa.cell (a := ⟨w.heap.size + 1 + 1, 1, none⟩) (by assumption); have z2 := qa.cell (a := ⟨w.heap.size + 1 + 1, 2, none⟩) (by assumption); have z3 := qa.cell (a := ⟨w.heap.size + 1 + 1, 3, none⟩) (by assumption); have f0 := (qa.frozen (a := ⟨w.heap.size + 1 + 1, 0, none⟩) (by assumption)).trans (by assumption); have f1 := (qa.frozen (a := ⟨w.heap.size + 1 + 1, 1, none⟩) (by assumption)).trans (by assumption); have f2 := (qa.frozen (a := ⟨w.heap.size + 1 + 1, 2, none⟩) (by assumption)).trans (by assumption); have f3 := (qa.frozen (a := ⟨w.heap.size + 1 + 1, 3, none⟩) (by assumption)).trans (by assumption); have lz : w.heap.size + 1 + 1 < wa.heap.size := Nat.lt_of_lt_of_le (by assumption) qa.size))
 all_goals
  have hf : Dn w _ := (‹Dn w _ /\ _› : _ /\ _).1; go_wp2_with fail; exact bodyPost_ret (v := .tuple #[.agg #[.int .i8 i1, .int .i64 d1, .int .i8 i2, .int .i64 d2], .bool true]) (by simp [results, Tryz.results84, go_sem, z0, z1, z2, z3, f0, f1, f2, f3] <;> omega) rfl ⟨rfl, hf⟩
structure C4 (w : World) (B : Nat) (v0 v1 v2 v3 : Value) : Prop where
 c0 : w.cell? ⟨B, 0, none⟩ = some v0
 c1 : w.cell? ⟨B, 1, none⟩ = some v1
 c2 : w.cell? ⟨B, 2, none⟩ = some v2
 c3 : w.cell? ⟨B, 3, none⟩ = some v3
 f0 : w.frozen? ⟨B, 0, none⟩ = false
 f1 : w.frozen? ⟨B, 1, none⟩ = false
 f2 : w.frozen? ⟨B, 2, none⟩ = false
 f3 : w.frozen? ⟨B, 3, none⟩ = false
 lt : B < w.heap.size
theorem C4.dn {w w' : World} {B : Nat} {v0 v1 v2 v3 : Value} (h : C4 w B v0 v1 v2 v3) (k : Dn w w') : C4 w' B v0 v1 v2 v3 :=
 ⟨k.cell h.c0, k.cell h.c1, k.cell h.c2, k.cell h.c3, by rw [k.frozen h.lt]; exact h.f0, by rw [k.frozen h.lt]; exact h.f1, by rw [k.frozen h.lt]; exact h.f2, by rw [k.frozen h.lt]; exact h.f3, Nat.lt_of_lt_of_le h.lt k.size⟩
theorem C4.alloc {w : World} {B : Nat} {v0 v1 v2 v3 : Value} (h : C4 w B v0 v1 v2 v3) (o : Obj) : C4 (w.alloc o) B v0 v1 v2 v3 := h.dn ((Dn.refl _).alloc o)
theorem C4.drew {w : World} {B : Nat} {v0 v1 v2 v3 : Value} (h : C4 w B v0 v1 v2 v3) : C4 w.drew B v0 v1 v2 v3 := h.dn (Dn.refl _).drew
theorem C4.new (w : World) (v0 v1 v2 v3 : Value) (t : TypeId) : C4 (w.alloc (.cells #[v0, v1, v2, v3] t)) w.heap.size v0 v1 v2 v3 := by
 refine ⟨?_, ?_, ?_, ?_, ?_, ?_, ?_, ?_, ?_⟩ <;> simp [go_sem]
theorem C4.new1 (w : World) (o : Obj) (v0 v1 v2 v3 : Value) (t : TypeId) : C4 ((w.alloc o).alloc (.cells #[v0, v1, v2, v3] t)) (w.heap.size + 1) v0 v1 v2 v3 := by
 have := C4.new (w.alloc o) v0 v1 v2 v3 t
 simpa using this
theorem C4.new2 (w : World) (o o2 : Obj) (v0 v1 v2 v3 : Value) (t : TypeId) : C4 (((w.alloc o).alloc o2).alloc (.cells #[v0, v1, v2, v3] t)) (w.heap.size + 1 + 1) v0 v1 v2 v3 := by
 have := C4.new ((w.alloc o).alloc o2) v0 v1 v2 v3 t
 simpa using this
theorem C4.far {w : World} {B n : Nat} {v0 v1 v2 v3 : Value} (h : C4 w n v0 v1 v2 v3) (hn : n ≠ B) (j : Nat) (v : Value) : C4 (w.setCell ⟨B, j, none⟩ v) n v0 v1 v2 v3 := by
 have hx : ∀ i u, w.cell? ⟨n, i, none⟩ = some u -> (w.setCell ⟨B, j, none⟩ v).cell? ⟨n, i, none⟩ = some u := fun i u hu => by
  rw [World.cell?_setCell_other _ _ _ _ (fun e => hn (by simpa using (congrArg Addr.block e).symm))]; exact hu
 exact ⟨hx _ _ h.c0, hx _ _ h.c1, hx _ _ h.c2, hx _ _ h.c3, by simpa using h.f0, by simpa using h.f1, by simpa using h.f2, by simpa using h.f3, by simpa using h.lt⟩
theorem C4.fill {w : World} {B : Nat} {z0 z1 z2 z3 : Value} (h : C4 w B z0 z1 z2 z3) (v0 v1 v2 v3 : Value) :
  C4 ((((w.setCell ⟨B, 0, none⟩ v0).setCell ⟨B, 1, none⟩ v1).setCell ⟨B, 2, none⟩ v2).setCell ⟨B, 3, none⟩ v3) B v0 v1 v2 v3 := by
 have h0 := h.c0; have h1 := h.c1; have h2 := h.c2; have h3 := h.c3
 refine ⟨?_, ?_, ?_, ?_, by simpa using h.f0, by simpa using h.f1, by simpa using h.f2, by simpa using h.f3, by simpa using h.lt⟩ <;> simp [go_sem, h0, h1, h2, h3]
theorem C4.far4 {w : World} {B n : Nat} {z0 z1 z2 z3 : Value} (h : C4 w n z0 z1 z2 z3) (hn : n ≠ B) (v0 v1 v2 v3 : Value) :
  C4 ((((w.setCell ⟨B, 0, none⟩ v0).setCell ⟨B, 1, none⟩ v1).setCell ⟨B, 2, none⟩ v2).setCell ⟨B, 3, none⟩ v3) n z0 z1 z2 z3 :=
 (((h.far hn _ _).far hn _ _).far hn _ _).far hn _ _
structure NB (w : World) (B L : Nat) : Prop where
 z : C4 w B (.int .i8 0) (.int .i64 0) (.int .i8 0) (.int .i64 0)
 lt : L < B
theorem NB.new {w : World} {L : Nat} (h : L < w.heap.size) (t : TypeId) : NB (w.alloc (.cells #[.int .i8 0, .int .i64 0, .int .i8 0, .int .i64 0] t)) w.heap.size L := ⟨C4.new _ _ _ _ _ _, h⟩
theorem NB.dn {w w' : World} {B L : Nat} (h : NB w B L) (q : Dn w w') : NB w' B L := ⟨h.z.dn q, h.lt⟩
theorem dn_drewN (w : World) (n : Nat) : Dn w (w.drewN n) := ⟨below_drewN (Dn.refl w).below n⟩
set_option maxHeartbeats 4000000
set_option maxRecDepth 100000
theorem rnCom_all (a b c d e f g h i1 d1 i2 d2 : Int) (HM : Hid (∀ W, Calls Tryz.prog 125 #[.agg #[.int .i8 a, .int .i64 b], .agg #[.int .i8 e, .int .i64 f]] W fun r w' => r = .returned (.agg #[.int .i8 i1, .int .i64 d1]) /\ Up W w')) (HX : Hid (∀ W, Calls Tryz.prog 124 #[.agg #[.int .i8 c, .int .i64 d], .agg #[.int .i8 g, .int .i64 h]] W fun r w' => r = .returned (.agg #[.int .i8 i2, .int .i64 d2]) /\ Up W w')) (t0 : Bool) (m : Int) (res : Value) (HR : Hid (∀ W, Calls Tryz.prog 89 #[.agg #[.int .i8 a, .int .i64 b, .int .i8 c, .int .i64 d], .agg #[.int .i8 e, .int .i64 f, .int .i8 g, .int .i64 h]] W fun r w' => r = .returned (.bool t0) /\ Dn W w')) (HCASE : Hid ((t0 = false /\ res = .tuple #[.agg #[.int .i8 0, .int .i64 0, .int .i8 0, .int .i64 0], .bool false]) \/ (t0 = true /\ m ≠ 0 /\ Hid (ChkIs i1 d1 i2 d2 m) /\ res = .tuple #[.agg #[.int .i8 0, .int .i64 0, .int .i8 0, .int .i64 0], .bool false]) \/ (t0 = true /\ Hid (ChkIs i1 d1 i2 d2 0) /\ res = .tuple #[.agg #[.int .i8 i1, .int .i64 d1, .int .i8 i2, .int .i64 d2], .bool true]))) (w : World) :
  Calls Tryz.prog 105 #[.agg #[.int .i8 a, .int .i64 b, .int .i8 c, .int .i64 d], .agg #[.int .i8 e, .int .i64 f, .int .i8 g, .int .i64 h]] w fun ro w' => ro = .returned (res) /\ Dn w w' := by
 obtain ⟨W, hW⟩ : ∃ W, W = ((w.alloc (.cells #[.int .i8 a, .int .i64 b, .int .i8 c, .int .i64 d] 45)).alloc (.cells #[.int .i8 e, .int .i64 f, .int .i8 g, .int .i64 h] 45)).alloc (.cells #[.int .i8 0, .int .i64 0, .int .i8 0, .int .i64 0] 45) := ⟨_, rfl⟩
 have kX : C4 W w.heap.size (.int .i8 a) (.int .i64 b) (.int .i8 c) (.int .i64 d) := by rw [hW]; exact ((C4.new _ _ _ _ _ _).alloc _).alloc _
 have kY : C4 W (w.heap.size + 1) (.int .i8 e) (.int .i64 f) (.int .i8 g) (.int .i64 h) := by rw [hW]; exact (C4.new1 _ _ _ _ _ _ _).alloc _
 have kR : C4 W (w.heap.size + 1 + 1) (.int .i8 0) (.int .i64 0) (.int .i8 0) (.int .i64 0) := by rw [hW]; exact C4.new2 _ _ _ _ _ _ _ _
 have uW : Dn w W := by rw [hW]; exact (((Dn.refl _).alloc _).alloc _).alloc _
 have hX := kX.drew
 have hY := kY.drew
 have hR := kR.drew
 have qW := uW.drew
 have hS := kd_8 (W := w) (Dn.refl W) ⟨uW, kX.c0, kX.c1, kX.c2, kX.c3, kY.c0, kY.c1, kY.c2, kY.c3⟩
 have HW := Lib.hid hW
 clear hW kX kY kR
 go_enter Tryz.func105, Tryz.ntmps105
 go_wp2_with fail
 rw [<- HW.out]
 clear HW
 go_upto_region 1 with fail
 go_cut [6] (fun s6 wx => ∃ B : Nat, s6 = .pointer (some ⟨B, 0, none⟩) /\ Dn w wx /\ C4 wx w.heap.size (.int .i8 a) (.int .i64 b) (.int .i8 c) (.int .i64 d) /\ C4 wx (w.heap.size + 1) (.int .i8 e) (.int .i64 f) (.int .i8 g) (.int .i64 h) /\ C4 wx B (.int .i8 i1) (.int .i64 d1) (.int .i8 i2) (.int .i64 d2) /\ C4 wx (w.heap.size + 1 + 1) (.int .i8 0) (.int .i64 0) (.int .i8 0) (.int .i64 0))
 case first =>
  refine wp_region_held_drew (S := fun w' => Dn w w' /\ w'.cell? ⟨w.heap.size, 0, none⟩ = some (.int .i8 a) /\ w'.cell? ⟨w.heap.size, 1, none⟩ = some (.int .i64 b) /\ w'.cell? ⟨w.heap.size, 2, none⟩ = some (.int .i8 c) /\ w'.cell? ⟨w.heap.size, 3, none⟩ = some (.int .i64 d) /\ w'.cell? ⟨w.heap.size + 1, 0, none⟩ = some (.int .i8 e) /\ w'.cell? ⟨w.heap.size + 1, 1, none⟩ = some (.int .i64 f) /\ w'.cell? ⟨w.heap.size + 1, 2, none⟩ = some (.int .i8 g) /\ w'.cell? ⟨w.heap.size + 1, 3, none⟩ = some (.int .i64 h)) (by kernel_rfl) ?_ (fun hHeld => ?_)
  · (try dsimp only); exact kd_8 ((Dn.refl _).drew) hS
  refine tS 0 rfl ?_; refine tS 1 rfl ?_; refine tS 2 rfl ?_; refine tS 3 rfl ?_; refine tS 5 rfl ?_; refine tS 6 rfl ?_; refine tS 7 rfl ?_; refine tS 8 rfl ?_; refine wpAnyH_ready (rs := [4, 11]) (by kernel_rfl) (by simp) ?_; refine AllReadyH.cons rfl (fun K hK => ?_) (AllReadyH.cons rfl (fun K hK => ?_) AllReadyH.nil)
  ·
    go_simp; go_at_call 125; refine (HM.out _).mono ?_; rintro e wa1 ⟨rfl, qa1⟩; replace qa1 := Up.dn qa1; have hXwa1 := hX.dn qa1; have hYwa1 := hY.dn qa1; have hRwa1 := hR.dn qa1; have qWwa1 := qW.trans qa1
    try go_wp2_with fail
    refine hK.out _ _ ?_ (fun hHeld => ?_)
    · (try dsimp only); exact ⟨qWwa1, hXwa1.c0, hXwa1.c1, hXwa1.c2, hXwa1.c3, hYwa1.c0, hYwa1.c1, hYwa1.c2, hYwa1.c3⟩
    clear hK K
    try simp only [Act.put, pL]
    refine wpAnyH_ready (rs := [9, 11]) (by kernel_rfl) (by simp) ?_; refine AllReadyH.cons rfl (fun K hK => ?_) (AllReadyH.cons rfl (fun K hK => ?_) AllReadyH.nil)
    ·
      go_simp; go_at_call 124; refine (HX.out _).mono ?_; rintro e wa2 ⟨rfl, qa2⟩; replace qa2 := Up.dn qa2; have hXwa2 := hXwa1.dn qa2; have hYwa2 := hYwa1.dn qa2; have hRwa2 := hRwa1.dn qa2; have qWwa2 := qWwa1.trans qa2
      try go_wp2_with fail
      refine hK.out _ _ ?_ (fun hHeld => ?_)
      · (try dsimp only); exact ⟨qWwa2, hXwa2.c0, hXwa2.c1, hXwa2.c2, hXwa2.c3, hYwa2.c0, hYwa2.c1, hYwa2.c2, hYwa2.c3⟩
      clear hK K
      try simp only [Act.put, pL]
      refine tS 10 rfl ?_; refine rD 11 rfl (fun K hK => ?_)
      ·
        go_simp; obtain ⟨wb3, hwb3⟩ : ∃ wb3, wb3 = wa2.alloc (.cells #[.int .i8 0, .int .i64 0, .int .i8 0, .int .i64 0] 45) := ⟨_, rfl⟩; have qb3 : Dn wa2 wb3 := (by rw [hwb3]; exact (Dn.refl wa2).alloc _); have hN3 : NB wb3 wa2.heap.size (w.heap.size + 1 + 1) := (by rw [hwb3]; exact NB.new (w := wa2) hRwa2.lt _); rw [<- hwb3]; clear hwb3; have hXwb3 := hXwa2.dn qb3; have hYwb3 := hYwa2.dn qb3; have hRwb3 := hRwa2.dn qb3; have qWwb3 := qWwa2.trans qb3; have z0 := hN3.z.c0; have f0 := hN3.z.f0; have z1 := hN3.z.c1; have f1 := hN3.z.f1; have z2 := hN3.z.c2; have f2 := hN3.z.f2; have z3 := hN3.z.c3; have f3 := hN3.z.f3; have zl := hN3.z.lt; refine hK.out _ _ ?_ (fun hHeld => ?_)
        · (try dsimp only); exact ⟨qWwb3, hXwb3.c0, hXwb3.c1, hXwb3.c2, hXwb3.c3, hYwb3.c0, hYwb3.c1, hYwb3.c2, hYwb3.c3⟩
        clear hK K
        try simp only [Act.put, pL]
        refine rD 12 rfl (fun K hK => ?_)
        ·
          go_simp; refine hK.out _ _ ?_ (fun hHeld => ?_)
          · (try dsimp only); exact ⟨(Dn.setCell (Dn.setCell (Dn.setCell (Dn.setCell qWwb3 (by have := hN3.lt; simp <;> omega) _) (by have := hN3.lt; simp <;> omega) _) (by have := hN3.lt; simp <;> omega) _) (by have := hN3.lt; simp <;> omega) _), (C4.far4 hXwb3 (by have := hN3.lt; omega) _ _ _ _).c0, (C4.far4 hXwb3 (by have := hN3.lt; omega) _ _ _ _).c1, (C4.far4 hXwb3 (by have := hN3.lt; omega) _ _ _ _).c2, (C4.far4 hXwb3 (by have := hN3.lt; omega) _ _ _ _).c3, (C4.far4 hYwb3 (by have := hN3.lt; omega) _ _ _ _).c0, (C4.far4 hYwb3 (by have := hN3.lt; omega) _ _ _ _).c1, (C4.far4 hYwb3 (by have := hN3.lt; omega) _ _ _ _).c2, (C4.far4 hYwb3 (by have := hN3.lt; omega) _ _ _ _).c3⟩
          clear hK K
          try simp only [Act.put, pL]
          refine wpAnyH_done (by kernel_rfl) ?_ _; go_wp2_with fail; go_meet
          case rel => exact ⟨_, rfl, (Dn.setCell (Dn.setCell (Dn.setCell (Dn.setCell qWwb3 (by have := hN3.lt; simp <;> omega) _) (by have := hN3.lt; simp <;> omega) _) (by have := hN3.lt; simp <;> omega) _) (by have := hN3.lt; simp <;> omega) _), (C4.far4 hXwb3 (by have := hN3.lt; omega) _ _ _ _), (C4.far4 hYwb3 (by have := hN3.lt; omega) _ _ _ _), hN3.z.fill _ _ _ _, (C4.far4 hRwb3 (by have := hN3.lt; omega) _ _ _ _)⟩
    ·
      go_simp; obtain ⟨wb5, hwb5⟩ : ∃ wb5, wb5 = wa1.alloc (.cells #[.int .i8 0, .int .i64 0, .int .i8 0, .int .i64 0] 45) := ⟨_, rfl⟩; have qb5 : Dn wa1 wb5 := (by rw [hwb5]; exact (Dn.refl wa1).alloc _); have hN5 : NB wb5 wa1.heap.size (w.heap.size + 1 + 1) := (by rw [hwb5]; exact NB.new (w := wa1) hRwa1.lt _); rw [<- hwb5]; clear hwb5; have hXwb5 := hXwa1.dn qb5; have hYwb5 := hYwa1.dn qb5; have hRwb5 := hRwa1.dn qb5; have qWwb5 := qWwa1.trans qb5; have z0 := hN5.z.c0; have f0 := hN5.z.f0; have z1 := hN5.z.c1; have f1 := hN5.z.f1; have z2 := hN5.z.c2; have f2 := hN5.z.f2; have z3 := hN5.z.c3; have f3 := hN5.z.f3; have zl := hN5.z.lt; refine hK.out _ _ ?_ (fun hHeld => ?_)
      · (try dsimp only); exact ⟨qWwb5, hXwb5.c0, hXwb5.c1, hXwb5.c2, hXwb5.c3, hYwb5.c0, hYwb5.c1, hYwb5.c2, hYwb5.c3⟩
      clear hK K
      try simp only [Act.put, pL]
      refine rD 9 rfl (fun K hK => ?_)
      ·
        go_simp; go_at_call 124; refine (HX.out _).mono ?_; rintro e wa6 ⟨rfl, qa6⟩; replace qa6 := Up.dn qa6; have hXwa6 := hXwb5.dn qa6; have hYwa6 := hYwb5.dn qa6; have hRwa6 := hRwb5.dn qa6; have qWwa6 := qWwb5.trans qa6; have hBwa6 := hN5.dn qa6
        try go_wp2_with fail
        have z0 := hBwa6.z.c0; have f0 := hBwa6.z.f0; have z1 := hBwa6.z.c1; have f1 := hBwa6.z.f1; have z2 := hBwa6.z.c2; have f2 := hBwa6.z.f2; have z3 := hBwa6.z.c3; have f3 := hBwa6.z.f3; have zl := hBwa6.z.lt; refine hK.out _ _ ?_ (fun hHeld => ?_)
        · (try dsimp only); exact ⟨qWwa6, hXwa6.c0, hXwa6.c1, hXwa6.c2, hXwa6.c3, hYwa6.c0, hYwa6.c1, hYwa6.c2, hYwa6.c3⟩
        clear hK K
        try simp only [Act.put, pL]
        refine tS 10 rfl ?_; refine rD 12 rfl (fun K hK => ?_)
        ·
          go_simp; refine hK.out _ _ ?_ (fun hHeld => ?_)
          · (try dsimp only); exact ⟨(Dn.setCell (Dn.setCell (Dn.setCell (Dn.setCell qWwa6 (by have := hBwa6.lt; simp <;> omega) _) (by have := hBwa6.lt; simp <;> omega) _) (by have := hBwa6.lt; simp <;> omega) _) (by have := hBwa6.lt; simp <;> omega) _), (C4.far4 hXwa6 (by have := hBwa6.lt; omega) _ _ _ _).c0, (C4.far4 hXwa6 (by have := hBwa6.lt; omega) _ _ _ _).c1, (C4.far4 hXwa6 (by have := hBwa6.lt; omega) _ _ _ _).c2, (C4.far4 hXwa6 (by have := hBwa6.lt; omega) _ _ _ _).c3, (C4.far4 hYwa6 (by have := hBwa6.lt; omega) _ _ _ _).c0, (C4.far4 hYwa6 (by have := hBwa6.lt; omega) _ _ _ _).c1, (C4.far4 hYwa6 (by have := hBwa6.lt; omega) _ _ _ _).c2, (C4.far4 hYwa6 (by have := hBwa6.lt; omega) _ _ _ _).c3⟩
          clear hK K
          try simp only [Act.put, pL]
          refine wpAnyH_done (by kernel_rfl) ?_ _; go_wp2_with fail; go_meet
          case rel => exact ⟨_, rfl, (Dn.setCell (Dn.setCell (Dn.setCell (Dn.setCell qWwa6 (by have := hBwa6.lt; simp <;> omega) _) (by have := hBwa6.lt; simp <;> omega) _) (by have := hBwa6.lt; simp <;> omega) _) (by have := hBwa6.lt; simp <;> omega) _), (C4.far4 hXwa6 (by have := hBwa6.lt; omega) _ _ _ _), (C4.far4 hYwa6 (by have := hBwa6.lt; omega) _ _ _ _), hBwa6.z.fill _ _ _ _, (C4.far4 hRwa6 (by have := hBwa6.lt; omega) _ _ _ _)⟩
  ·
    go_simp; obtain ⟨wb8, hwb8⟩ : ∃ wb8, wb8 = (W.alloc (.cells #[.int .i8 0, .int .i64 0, .int .i8 0, .int .i64 0] 45)).drew := ⟨_, rfl⟩; have qb8 : Dn W.drew wb8 := (by rw [hwb8]; exact (Dn.refl W.drew).alloc _); have hN8 : NB wb8 W.heap.size (w.heap.size + 1 + 1) := (by rw [hwb8]; exact NB.new (w := W.drew) hR.lt _); rw [<- hwb8]; clear hwb8; have hXwb8 := hX.dn qb8; have hYwb8 := hY.dn qb8; have hRwb8 := hR.dn qb8; have qWwb8 := qW.trans qb8; have z0 := hN8.z.c0; have f0 := hN8.z.f0; have z1 := hN8.z.c1; have f1 := hN8.z.f1; have z2 := hN8.z.c2; have f2 := hN8.z.f2; have z3 := hN8.z.c3; have f3 := hN8.z.f3; have zl := hN8.z.lt; refine hK.out _ _ ?_ (fun hHeld => ?_)
    · (try dsimp only); exact ⟨qWwb8, hXwb8.c0, hXwb8.c1, hXwb8.c2, hXwb8.c3, hYwb8.c0, hYwb8.c1, hYwb8.c2, hYwb8.c3⟩
    clear hK K
    try simp only [Act.put, pL]
    refine rD 4 rfl (fun K hK => ?_)
    ·
      go_simp; go_at_call 125; refine (HM.out _).mono ?_; rintro e wa9 ⟨rfl, qa9⟩; replace qa9 := Up.dn qa9; have hXwa9 := hXwb8.dn qa9; have hYwa9 := hYwb8.dn qa9; have hRwa9 := hRwb8.dn qa9; have qWwa9 := qWwb8.trans qa9; have hBwa9 := hN8.dn qa9
      try go_wp2_with fail
      have z0 := hBwa9.z.c0; have f0 := hBwa9.z.f0; have z1 := hBwa9.z.c1; have f1 := hBwa9.z.f1; have z2 := hBwa9.z.c2; have f2 := hBwa9.z.f2; have z3 := hBwa9.z.c3; have f3 := hBwa9.z.f3; have zl := hBwa9.z.lt; refine hK.out _ _ ?_ (fun hHeld => ?_)
      · (try dsimp only); exact ⟨qWwa9, hXwa9.c0, hXwa9.c1, hXwa9.c2, hXwa9.c3, hYwa9.c0, hYwa9.c1, hYwa9.c2, hYwa9.c3⟩
      clear hK K
      try simp only [Act.put, pL]
      refine rD 9 rfl (fun K hK => ?_)
      ·
        go_simp; go_at_call 124; refine (HX.out _).mono ?_; rintro e wa10 ⟨rfl, qa10⟩; replace qa10 := Up.dn qa10; have hXwa10 := hXwa9.dn qa10; have hYwa10 := hYwa9.dn qa10; have hRwa10 := hRwa9.dn qa10; have qWwa10 := qWwa9.trans qa10; have hBwa10 := hBwa9.dn qa10
        try go_wp2_with fail
        have z0 := hBwa10.z.c0; have f0 := hBwa10.z.f0; have z1 := hBwa10.z.c1; have f1 := hBwa10.z.f1; have z2 := hBwa10.z.c2; have f2 := hBwa10.z.f2; have z3 := hBwa10.z.c3; have f3 := hBwa10.z.f3; have zl := hBwa10.z.lt; refine hK.out _ _ ?_ (fun hHeld => ?_)
        · (try dsimp only); exact ⟨qWwa10, hXwa10.c0, hXwa10.c1, hXwa10.c2, hXwa10.c3, hYwa10.c0, hYwa10.c1, hYwa10.c2, hYwa10.c3⟩
        clear hK K
        try simp only [Act.put, pL]
        refine tS 10 rfl ?_; refine rD 12 rfl (fun K hK => ?_)
        ·
          go_simp; refine hK.out _ _ ?_ (fun hHeld => ?_)
          · (try dsimp only); exact ⟨(Dn.setCell (Dn.setCell (Dn.setCell (Dn.setCell qWwa10 (by have := hBwa10.lt; simp <;> omega) _) (by have := hBwa10.lt; simp <;> omega) _) (by have := hBwa10.lt; simp <;> omega) _) (by have := hBwa10.lt; simp <;> omega) _), (C4.far4 hXwa10 (by have := hBwa10.lt; omega) _ _ _ _).c0, (C4.far4 hXwa10 (by have := hBwa10.lt; omega) _ _ _ _).c1, (C4.far4 hXwa10 (by have := hBwa10.lt; omega) _ _ _ _).c2, (C4.far4 hXwa10 (by have := hBwa10.lt; omega) _ _ _ _).c3, (C4.far4 hYwa10 (by have := hBwa10.lt; omega) _ _ _ _).c0, (C4.far4 hYwa10 (by have := hBwa10.lt; omega) _ _ _ _).c1, (C4.far4 hYwa10 (by have := hBwa10.lt; omega) _ _ _ _).c2, (C4.far4 hYwa10 (by have := hBwa10.lt; omega) _ _ _ _).c3⟩
          clear hK K
          try simp only [Act.put, pL]
          refine wpAnyH_done (by kernel_rfl) ?_ _; go_wp2_with fail; go_meet
          case rel => exact ⟨_, rfl, (Dn.setCell (Dn.setCell (Dn.setCell (Dn.setCell qWwa10 (by have := hBwa10.lt; simp <;> omega) _) (by have := hBwa10.lt; simp <;> omega) _) (by have := hBwa10.lt; simp <;> omega) _) (by have := hBwa10.lt; simp <;> omega) _), (C4.far4 hXwa10 (by have := hBwa10.lt; omega) _ _ _ _), (C4.far4 hYwa10 (by have := hBwa10.lt; omega) _ _ _ _), hBwa10.z.fill _ _ _ _, (C4.far4 hRwa10 (by have := hBwa10.lt; omega) _ _ _ _)⟩
 case rest =>
  clear hX hY hR qW hS uW; obtain ⟨B, rfl, uc, kX, kY, kB, kR⟩ := hcut; obtain ⟨xc0, xc1, xc2, xc3, _, _, _, _, lx⟩ := kX; obtain ⟨yc0, yc1, yc2, yc3, _, _, _, _, ly⟩ := kY; obtain ⟨mc0, mc1, mc2, mc3, _, _, _, _, lm⟩ := kB; obtain ⟨resc0, resc1, resc2, resc3, resf0, resf1, resf2, resf3, lres⟩ := kR; rcases HCASE.out with ⟨rfl, rfl⟩ | ⟨rfl, h1, hC, rfl⟩ | ⟨rfl, hC, rfl⟩
  all_goals clear HCASE
  ·
    have HR1 := Lib.hid HR.out; clear HR; go_wp2_with fail; refine (HR1.out _).mono ?_; rintro e w1 ⟨rfl, qw1⟩; obtain ⟨l1, l6, aA⟩ := nl3 qw1.size lx ly lm; obtain ⟨c2, c3, c4, c5, c7, c8, c9, a1, a2, a3, a4, a5⟩ := mv12 qw1.cell xc0 xc1 xc2 xc3 yc0 yc1 yc2 yc3 mc0 mc1 mc2 mc3; have f16 := (qw1.frozen (a := ⟨w.heap.size + 1 + 1, 0, none⟩) lres).trans resf0; have f17 := (qw1.frozen (a := ⟨w.heap.size + 1 + 1, 1, none⟩) lres).trans resf1; have f18 := (qw1.frozen (a := ⟨w.heap.size + 1 + 1, 2, none⟩) lres).trans resf2; have f19 := (qw1.frozen (a := ⟨w.heap.size + 1 + 1, 3, none⟩) lres).trans resf3; have a0 := nlt lres qw1.size; obtain ⟨a6, a7, a8, a9⟩ := mv4 qw1.cell resc0 resc1 resc2 resc3; clear lx xc0 xc1 xc2 xc3 ly yc0 yc1 yc2 yc3 lm mc0 mc1 mc2 mc3 resf0 resf1 resf2 resf3 lres resc0 resc1 resc2 resc3; have uw1 := uc.trans qw1; clear qw1 uc; go_wp2_with fail; exact bodyPost_ret (v := .tuple #[.agg #[.int .i8 0, .int .i64 0, .int .i8 0, .int .i64 0], .bool false]) (by simp [results, Tryz.results105, go_sem, c2, c3, c4, c5, c7, c8, c9, a1, a2, a3, a4, a5, a6, a7, a8, a9, f16, f17, f18, f19] <;> omega) rfl ⟨rfl, ((((uw1.sC).sC).sC).sC)⟩
  ·
    have HR1 := Lib.hid HR.out; clear HR; have HC := Lib.hid hC.out; clear hC; have t1 : (m != 0) = true := (by simpa using h1); clear h1; go_wp2_with fail; refine (HR1.out _).mono ?_; rintro e w1 ⟨rfl, qw1⟩; obtain ⟨l1, l6, aA⟩ := nl3 qw1.size lx ly lm; obtain ⟨c2, c3, c4, c5, c7, c8, c9, a1, a2, a3, a4, a5⟩ := mv12 qw1.cell xc0 xc1 xc2 xc3 yc0 yc1 yc2 yc3 mc0 mc1 mc2 mc3; have f16 := (qw1.frozen (a := ⟨w.heap.size + 1 + 1, 0, none⟩) lres).trans resf0; have f17 := (qw1.frozen (a := ⟨w.heap.size + 1 + 1, 1, none⟩) lres).trans resf1; have f18 := (qw1.frozen (a := ⟨w.heap.size + 1 + 1, 2, none⟩) lres).trans resf2; have f19 := (qw1.frozen (a := ⟨w.heap.size + 1 + 1, 3, none⟩) lres).trans resf3; have a0 := nlt lres qw1.size; obtain ⟨a6, a7, a8, a9⟩ := mv4 qw1.cell resc0 resc1 resc2 resc3; clear lx xc0 xc1 xc2 xc3 ly yc0 yc1 yc2 yc3 lm mc0 mc1 mc2 mc3 resf0 resf1 resf2 resf3 lres resc0 resc1 resc2 resc3; have uw1 := uc.trans qw1; clear qw1 uc; go_wp2_with fail; refine (HC.out _).mono ?_; rintro e w2 ⟨rfl, qw2⟩; obtain ⟨aR, aS, aT⟩ := nl3 qw2.size l1 l6 aA; obtain ⟨aB, aC, aD, aE, aF, aG, aH, aI, aJ, aK, aL, aM⟩ := mv12 qw2.cell c2 c3 c4 c5 c7 c8 c9 a1 a2 a3 a4 a5; have f40 := fz qw2 f16 a0; have f41 := fz qw2 f17 a0; have f42 := fz qw2 f18 a0; have f43 := fz qw2 f19 a0; have aU := nlt a0 qw2.size; obtain ⟨aN, aO, aP, aQ⟩ := mv4 qw2.cell a6 a7 a8 a9; clear l1 c2 c3 c4 c5 l6 c7 c8 c9 a1 aA a2 a3 a4 a5 f16 f17 f18 f19 a0 a6 a7 a8 a9; have uw2 := uw1.trans qw2; clear qw2 uw1; go_wp2_with fail; exact bodyPost_ret (v := .tuple #[.agg #[.int .i8 0, .int .i64 0, .int .i8 0, .int .i64 0], .bool false]) (by simp [results, Tryz.results105, go_sem, aB, aC, aD, aE, aF, aG, aH, aI, aJ, aK, aL, aM, aN, aO, aP, aQ, f40, f41, f42, f43] <;> omega) rfl ⟨rfl, ((((uw2.sC).sC).sC).sC)⟩
  ·
    have HR1 := Lib.hid HR.out; clear HR; have HC := Lib.hid hC.out; clear hC; go_wp2_with fail; refine (HR1.out _).mono ?_; rintro e w1 ⟨rfl, qw1⟩; obtain ⟨l1, l6, aA⟩ := nl3 qw1.size lx ly lm; obtain ⟨c2, c3, c4, c5, c7, c8, c9, a1, a2, a3, a4, a5⟩ := mv12 qw1.cell xc0 xc1 xc2 xc3 yc0 yc1 yc2 yc3 mc0 mc1 mc2 mc3; have f16 := (qw1.frozen (a := ⟨w.heap.size + 1 + 1, 0, none⟩) lres).trans resf0; have f17 := (qw1.frozen (a := ⟨w.heap.size + 1 + 1, 1, none⟩) lres).trans resf1; have f18 := (qw1.frozen (a := ⟨w.heap.size + 1 + 1, 2, none⟩) lres).trans resf2; have f19 := (qw1.frozen (a := ⟨w.heap.size + 1 + 1, 3, none⟩) lres).trans resf3; have a0 := nlt lres qw1.size; obtain ⟨a6, a7, a8, a9⟩ := mv4 qw1.cell resc0 resc1 resc2 resc3; clear lx xc0 xc1 xc2 xc3 ly yc0 yc1 yc2 yc3 lm mc0 mc1 mc2 mc3 resf0 resf1 resf2 resf3 lres resc0 resc1 resc2 resc3; have uw1 := uc.trans qw1; clear qw1 uc; go_wp2_with fail; refine (HC.out _).mono ?_; rintro e w2 ⟨rfl, qw2⟩; obtain ⟨aR, aS, aT⟩ := nl3 qw2.size l1 l6 aA; obtain ⟨aB, aC, aD, aE, aF, aG, aH, aI, aJ, aK, aL, aM⟩ := mv12 qw2.cell c2 c3 c4 c5 c7 c8 c9 a1 a2 a3 a4 a5; have f40 := fz qw2 f16 a0; have f41 := fz qw2 f17 a0; have f42 := fz qw2 f18 a0; have f43 := fz qw2 f19 a0; have aU := nlt a0 qw2.size; obtain ⟨aN, aO, aP, aQ⟩ := mv4 qw2.cell a6 a7 a8 a9; clear l1 c2 c3 c4 c5 l6 c7 c8 c9 a1 aA a2 a3 a4 a5 f16 f17 f18 f19 a0 a6 a7 a8 a9; have uw2 := uw1.trans qw2; clear qw2 uw1; go_wp2_with fail; exact bodyPost_ret (v := .tuple #[.agg #[.int .i8 i1, .int .i64 d1, .int .i8 i2, .int .i64 d2], .bool true]) (by simp [results, Tryz.results105, go_sem, aB, aC, aD, aE, aF, aG, aH, aI, aJ, aK, aL, aM, aN, aO, aP, aQ, f40, f41, f42, f43] <;> omega) rfl ⟨rfl, ((((uw2.sC).sC).sC).sC)⟩
theorem rnCom_1 (a b c d e f g h i1 d1 i2 d2 : Int) (HM : Hid (∀ W, Calls Tryz.prog 125 #[.agg #[.int .i8 a, .int .i64 b], .agg #[.int .i8 e, .int .i64 f]] W fun r w' => r = .returned (.agg #[.int .i8 i1, .int .i64 d1]) /\ Up W w')) (HX : Hid (∀ W, Calls Tryz.prog 124 #[.agg #[.int .i8 c, .int .i64 d], .agg #[.int .i8 g, .int .i64 h]] W fun r w' => r = .returned (.agg #[.int .i8 i2, .int .i64 d2]) /\ Up W w')) (HR : Hid (∀ W, Calls Tryz.prog 89 #[.agg #[.int .i8 a, .int .i64 b, .int .i8 c, .int .i64 d], .agg #[.int .i8 e, .int .i64 f, .int .i8 g, .int .i64 h]] W fun r w' => r = .returned (.bool false) /\ Dn W w')) (w : World) :
 Calls Tryz.prog 105 #[.agg #[.int .i8 a, .int .i64 b, .int .i8 c, .int .i64 d], .agg #[.int .i8 e, .int .i64 f, .int .i8 g, .int .i64 h]] w fun ro w' => ro = .returned (.tuple #[.agg #[.int .i8 0, .int .i64 0, .int .i8 0, .int .i64 0], .bool false]) /\ Dn w w' := rnCom_all a b c d e f g h i1 d1 i2 d2 HM HX false 0 _ HR (Lib.hid (.inl ⟨rfl, rfl⟩)) w
theorem rnCom_2 (a b c d e f g h i1 d1 i2 d2 : Int) (HM : Hid (∀ W, Calls Tryz.prog 125 #[.agg #[.int .i8 a, .int .i64 b], .agg #[.int .i8 e, .int .i64 f]] W fun r w' => r = .returned (.agg #[.int .i8 i1, .int .i64 d1]) /\ Up W w')) (HX : Hid (∀ W, Calls Tryz.prog 124 #[.agg #[.int .i8 c, .int .i64 d], .agg #[.int .i8 g, .int .i64 h]] W fun r w' => r = .returned (.agg #[.int .i8 i2, .int .i64 d2]) /\ Up W w')) (HR : Hid (∀ W, Calls Tryz.prog 89 #[.agg #[.int .i8 a, .int .i64 b, .int .i8 c, .int .i64 d], .agg #[.int .i8 e, .int .i64 f, .int .i8 g, .int .i64 h]] W fun r w' => r = .returned (.bool true) /\ Dn W w')) (m : Int) (HC : Hid (ChkIs i1 d1 i2 d2 m)) (h1 : m ≠ 0) (w : World) :
 Calls Tryz.prog 105 #[.agg #[.int .i8 a, .int .i64 b, .int .i8 c, .int .i64 d], .agg #[.int .i8 e, .int .i64 f, .int .i8 g, .int .i64 h]] w fun ro w' => ro = .returned (.tuple #[.agg #[.int .i8 0, .int .i64 0, .int .i8 0, .int .i64 0], .bool false]) /\ Dn w w' := rnCom_all a b c d e f g h i1 d1 i2 d2 HM HX true m _ HR (Lib.hid (.inr (.inl ⟨rfl, h1, HC, rfl⟩))) w
theorem rnCom_3 (a b c d e f g h i1 d1 i2 d2 : Int) (HM : Hid (∀ W, Calls Tryz.prog 125 #[.agg #[.int .i8 a, .int .i64 b], .agg #[.int .i8 e, .int .i64 f]] W fun r w' => r = .returned (.agg #[.int .i8 i1, .int .i64 d1]) /\ Up W w')) (HX : Hid (∀ W, Calls Tryz.prog 124 #[.agg #[.int .i8 c, .int .i64 d], .agg #[.int .i8 g, .int .i64 h]] W fun r w' => r = .returned (.agg #[.int .i8 i2, .int .i64 d2]) /\ Up W w')) (HR : Hid (∀ W, Calls Tryz.prog 89 #[.agg #[.int .i8 a, .int .i64 b, .int .i8 c, .int .i64 d], .agg #[.int .i8 e, .int .i64 f, .int .i8 g, .int .i64 h]] W fun r w' => r = .returned (.bool true) /\ Dn W w')) (HC : Hid (ChkIs i1 d1 i2 d2 0)) (w : World) :
 Calls Tryz.prog 105 #[.agg #[.int .i8 a, .int .i64 b, .int .i8 c, .int .i64 d], .agg #[.int .i8 e, .int .i64 f, .int .i8 g, .int .i64 h]] w fun ro w' => ro = .returned (.tuple #[.agg #[.int .i8 i1, .int .i64 d1, .int .i8 i2, .int .i64 d2], .bool true]) /\ Dn w w' := rnCom_all a b c d e f g h i1 d1 i2 d2 HM HX true 0 _ HR (Lib.hid (.inr (.inr ⟨rfl, HC, rfl⟩))) w
set_option maxHeartbeats 2000000
set_option maxRecDepth 100000
open Go.RowKit Go.ChangeMaps Go.MapKept
def kM : Value := .agg #[.int .i8 (-1), .int .i64 0]
def kP : Value := .agg #[.int .i8 1, .int .i64 0]
def sM : ByteArray := ⟨#[45, 105, 110, 102]⟩
def sP : ByteArray := ⟨#[105, 110, 102]⟩
theorem ckE (em : Bool) (i d : Int) (w : World) : (Instr.checkKey em 10000 41 (.agg #[.int .i8 i, .int .i64 d])).run Tryz.prog w = .ok () w := by kernel_rfl
theorem fk0 (x : Value) (w : World) : (Instr.findKey 41 x []).run Tryz.prog w = .ok none w := by kernel_rfl
theorem fkPM (n : Nat) (w : World) : (Instr.findKey 41 kP [⟨kM, .string sM, n⟩]).run Tryz.prog w = .ok none w := by kernel_rfl
theorem fkMP (n : Nat) (w : World) : (Instr.findKey 41 kM [⟨kP, .string sP, n⟩]).run Tryz.prog w = .ok none w := by kernel_rfl
theorem insE (w : World) (b : Nat) (es : Array MapEntry) (c : Nat) (i d : Int) (val : Value) (hb : w.heap[b]? = some (.map es c)) (hf : (Instr.findKey 41 (.agg #[.int .i8 i, .int .i64 d]) es.toList).run Tryz.prog w = .ok none w) :
  (Instr.mapUpdate 179 (.map (some b)) (.agg #[.int .i8 i, .int .i64 d]) val).run Tryz.prog w = .ok () (setBlock w b (.map (es.push ⟨.agg #[.int .i8 i, .int .i64 d], val, c⟩) (c + 1))) := by
 simp [Instr.mapUpdate, run_underlying Tryz.underlying179, MapKept.run_getObj_map hb, ckE, hf, MapKept.run_setObj_map _ hb, Result.andThen, setBlock]
theorem setBlock_new (w : World) (o o' : Obj) : setBlock (w.alloc o) w.heap.size o' = w.alloc o' := by
 have e : (w.heap.push o).setIfInBounds w.heap.size o' = w.heap.push o' := by
  apply Array.ext'; simp
 show World.mk ((w.heap.push o).setIfInBounds w.heap.size o') w.tape w.drawn w.os w.output = World.mk (w.heap.push o') w.tape w.drawn w.os w.output
 rw [e]
theorem runM0 (w : World) : (Instr.mapUpdate 179 (.map (some w.heap.size)) (.agg #[.int .i8 (-1), .int .i64 0]) (.string ⟨#[45, 105, 110, 102]⟩)).run Tryz.prog (w.alloc (.map #[] 0)) = .ok () (w.alloc (.map #[⟨kM, .string sM, 0⟩] 1)) := by
 rw [insE (w.alloc (.map #[] 0)) w.heap.size #[] 0 _ _ _ (MapKept.heap_alloc w _).1 (fk0 _ _), setBlock_new]; rfl
theorem runP0 (w : World) : (Instr.mapUpdate 179 (.map (some w.heap.size)) (.agg #[.int .i8 1, .int .i64 0]) (.string ⟨#[105, 110, 102]⟩)).run Tryz.prog (w.alloc (.map #[] 0)) = .ok () (w.alloc (.map #[⟨kP, .string sP, 0⟩] 1)) := by
 rw [insE (w.alloc (.map #[] 0)) w.heap.size #[] 0 _ _ _ (MapKept.heap_alloc w _).1 (fk0 _ _), setBlock_new]; rfl
theorem runPM (w : World) : (Instr.mapUpdate 179 (.map (some w.heap.size)) (.agg #[.int .i8 1, .int .i64 0]) (.string ⟨#[105, 110, 102]⟩)).run Tryz.prog (w.alloc (.map #[⟨kM, .string sM, 0⟩] 1)) = .ok () (w.alloc (.map #[⟨kM, .string sM, 0⟩, ⟨kP, .string sP, 1⟩] 2)) := by
 rw [insE (w.alloc (.map #[⟨kM, .string sM, 0⟩] 1)) w.heap.size #[⟨kM, .string sM, 0⟩] 1 _ _ _ (MapKept.heap_alloc w _).1 (fkPM _ _), setBlock_new]; rfl
theorem runMP (w : World) : (Instr.mapUpdate 179 (.map (some w.heap.size)) (.agg #[.int .i8 (-1), .int .i64 0]) (.string ⟨#[45, 105, 110, 102]⟩)).run Tryz.prog (w.alloc (.map #[⟨kP, .string sP, 0⟩] 1)) = .ok () (w.alloc (.map #[⟨kP, .string sP, 0⟩, ⟨kM, .string sM, 1⟩] 2)) := by
 rw [insE (w.alloc (.map #[⟨kP, .string sP, 0⟩] 1)) w.heap.size #[⟨kP, .string sP, 0⟩] 1 _ _ _ (MapKept.heap_alloc w _).1 (fkMP _ _), setBlock_new]; rfl
def eA : Array MapEntry := #[⟨kM, .string sM, 0⟩, ⟨kP, .string sP, 1⟩]
def eB : Array MapEntry := #[⟨kP, .string sP, 0⟩, ⟨kM, .string sM, 1⟩]
def InfM (w : World) (b : Nat) : Prop := ∃ es, (es = eA \/ es = eB) /\ w.heap[b]? = some (.map es 2)
theorem InfM.dn {w w' : World} {b : Nat} (h : InfM w b) (k : Dn w w') : InfM w' b := by
 obtain ⟨es, he, hb⟩ := h
 refine ⟨es, he, ?_⟩
 rw [k.below.block b (Array.getElem?_eq_some_iff.1 hb).1]; exact hb
theorem eInf (w : World) : Calls Tryz.prog 144 #[] w fun e w' => e = .returned (.map (some w.heap.size)) /\ Up w w' /\ InfM w' w.heap.size := by
 have r1 : (Instr.mapUpdate 179 (.map (some w.heap.size)) (.agg #[.int .i8 (-1), .int .i64 0]) (.string ⟨#[45, 105, 110, 102]⟩)).run Tryz.prog (w.alloc (.map #[] 0)).drew = .ok () (w.alloc (.map #[⟨kM, .string sM, 0⟩] 1)).drew := runM0 w.drew
 have r2 : (Instr.mapUpdate 179 (.map (some w.heap.size)) (.agg #[.int .i8 1, .int .i64 0]) (.string ⟨#[105, 110, 102]⟩)).run Tryz.prog (w.alloc (.map #[] 0)).drew = .ok () (w.alloc (.map #[⟨kP, .string sP, 0⟩] 1)).drew := runP0 w.drew
 have r3 : (Instr.mapUpdate 179 (.map (some w.heap.size)) (.agg #[.int .i8 1, .int .i64 0]) (.string ⟨#[105, 110, 102]⟩)).run Tryz.prog (w.alloc (.map #[⟨kM, .string sM, 0⟩] 1)).drew = .ok () (w.alloc (.map #[⟨kM, .string sM, 0⟩, ⟨kP, .string sP, 1⟩] 2)).drew := runPM w.drew
 have r4 : (Instr.mapUpdate 179 (.map (some w.heap.size)) (.agg #[.int .i8 (-1), .int .i64 0]) (.string ⟨#[45, 105, 110, 102]⟩)).run Tryz.prog (w.alloc (.map #[⟨kP, .string sP, 0⟩] 1)).drew = .ok () (w.alloc (.map #[⟨kP, .string sP, 0⟩, ⟨kM, .string sM, 1⟩] 2)).drew := runMP w.drew
 have hmm := @run_makeMap Tryz.prog
 go_enter Tryz.func144, Tryz.ntmps144
 go_wp2_with fail
 go_region
 · clear r1 r2 r3 r4
   go_wp2_with fail; go_ret; exact ⟨rfl, ((Up.refl _).alloc _).drew, eA, Or.inl rfl, (MapKept.heap_alloc w _).1⟩
 · clear r1 r2 r3 r4
   go_wp2_with fail; go_ret; exact ⟨rfl, ((Up.refl _).alloc _).drew, eB, Or.inr rfl, (MapKept.heap_alloc w _).1⟩
def eStr (i d : Int) : ByteArray := if i = 0 then ⟨(Lib.itoa d).toArray⟩ else if i < 0 then sM else sP
theorem fAM (w : World) : (Instr.findKey 41 kM eA.toList).run Tryz.prog w = .ok (some (0, .string sM)) w := by kernel_rfl
theorem fAP (w : World) : (Instr.findKey 41 kP eA.toList).run Tryz.prog w = .ok (some (1, .string sP)) w := by kernel_rfl
theorem fBM (w : World) : (Instr.findKey 41 kM eB.toList).run Tryz.prog w = .ok (some (1, .string sM)) w := by kernel_rfl
theorem fBP (w : World) : (Instr.findKey 41 kP eB.toList).run Tryz.prog w = .ok (some (0, .string sP)) w := by kernel_rfl
theorem fAd (d : Int) (w : World) : (Instr.findKey 41 (.agg #[.int .i8 0, .int .i64 d]) eA.toList).run Tryz.prog w = .ok none w := by kernel_rfl
theorem fBd (d : Int) (w : World) : (Instr.findKey 41 (.agg #[.int .i8 0, .int .i64 d]) eB.toList).run Tryz.prog w = .ok none w := by kernel_rfl
theorem lkS (w : World) (b : Nat) (es : Array MapEntry) (c : Nat) (i d : Int) (j : Nat) (s : ByteArray) (hb : w.heap[b]? = some (.map es c)) (hf : (Instr.findKey 41 (.agg #[.int .i8 i, .int .i64 d]) es.toList).run Tryz.prog w = .ok (some (j, .string s)) w) :
  (Instr.lookup 179 (.map (some b)) (.agg #[.int .i8 i, .int .i64 d]) true).run Tryz.prog w = .ok (.tuple #[.string s, .bool true]) w := by
 simp [Instr.lookup, run_underlying Tryz.underlying179, MapKept.run_getObj_map hb, ckE, hf, Result.andThen]
theorem lkN (w : World) (b : Nat) (es : Array MapEntry) (c : Nat) (i d : Int) (hb : w.heap[b]? = some (.map es c)) (hf : (Instr.findKey 41 (.agg #[.int .i8 i, .int .i64 d]) es.toList).run Tryz.prog w = .ok none w) :
  (Instr.lookup 179 (.map (some b)) (.agg #[.int .i8 i, .int .i64 d]) true).run Tryz.prog w = .ok (.tuple #[.string ⟨#[]⟩, .bool false]) w := by
 simp [Instr.lookup, run_underlying Tryz.underlying179, MapKept.run_getObj_map hb, ckE, hf, Result.andThen]
theorem lk_day (w : World) (b : Nat) (d : Int) (h : InfM w b) : (Instr.lookup 179 (.map (some b)) (.agg #[.int .i8 0, .int .i64 d]) true).run Tryz.prog w = .ok (.tuple #[.string ⟨#[]⟩, .bool false]) w := by
 obtain ⟨es, rfl | rfl, hb⟩ := h
 · exact lkN w b _ _ _ _ hb (fAd d w)
 · exact lkN w b _ _ _ _ hb (fBd d w)
theorem lk_inf (w : World) (b : Nat) (i : Int) (hi : i = 1 \/ i = -1) (h : InfM w b) : (Instr.lookup 179 (.map (some b)) (.agg #[.int .i8 i, .int .i64 0]) true).run Tryz.prog w = .ok (.tuple #[.string (eStr i 0), .bool true]) w := by
 obtain ⟨es, rfl | rfl, hb⟩ := h <;> rcases hi with rfl | rfl
 · exact lkS w b _ _ _ _ _ _ hb (fAP w)
 · exact lkS w b _ _ _ _ _ _ hb (fAM w)
 · exact lkS w b _ _ _ _ _ _ hb (fBP w)
 · exact lkS w b _ _ _ _ _ _ hb (fBM w)
theorem kE1 {W w1 w2 : World} {a0 a1 : Addr} {v0 v1 : Value} (k : Up w1 w2) (h : Up W w1 /\ w1.cell? a0 = some v0 /\ w1.cell? a1 = some v1) : Up W w2 /\ w2.cell? a0 = some v0 /\ w2.cell? a1 = some v1 := by
 obtain ⟨h1, c0, c1⟩ := h
 exact ⟨h1.trans k, k.cell c0, k.cell c1⟩
theorem eText_day (d : Int) (w : World) (hd : I64 d) (hE : EnvI w) :
  Calls Tryz.prog 119 #[.agg #[.int .i8 0, .int .i64 d]] w fun e w' => e = .returned (.tuple #[.string ⟨(Lib.itoa d).toArray⟩, .int .i64 0]) /\ Up w w' := by
 have b0 := CB.new w (.int .i8 0) (.int .i64 d) 41
 have u0 : Up w _ := (Up.refl w).alloc (.cells #[.int .i8 0, .int .i64 d] 41)
 have B0 := Lib.hid b0
 have U0 := Lib.hid u0
 clear b0 u0
 have HE := Lib.hid (fun W => eChk_ok 0 d W (Or.inl rfl))
 have HT := Lib.hid (fun W h => itext d W hd h)
 clear hd
 go_enter Tryz.func119, Tryz.ntmps119
 go_wp2_with fail
 refine (HE.out _).mono ?_
 rintro e w1 ⟨rfl, q1⟩
 obtain ⟨c0, c1, f0, f1, l0⟩ := B0.out.up q1
 have u1 := U0.out.trans q1
 clear q1 f0 f1
 have hS := kE1 (W := w1) (Up.refl w1) ⟨Up.refl _, c0, c1⟩
 clear c0 c1
 go_wp2_with fail
 go_region_held3 (fun w' => Up w1 w' /\ w'.cell? ⟨w.heap.size, 0, none⟩ = some (.int .i8 0) /\ w'.cell? ⟨w.heap.size, 1, none⟩ = some (.int .i64 d))
  (first | exact kE1 ((Up.refl _).drew) hS | exact kE1 ‹Up _ _› ‹_› | assumption)
  (first | (go_at_call 144; refine (eInf _).mono ?_; rintro e wa ⟨rfl, qa, hm⟩; have hl : (Instr.lookup 179 (.map (some w1.heap.size)) (.agg #[.int .i8 0, .int .i64 d]) true).run Tryz.prog wa = .ok (.tuple #[.string ⟨#[]⟩, .bool false]) wa := lk_day _ _ d hm))
 all_goals
  obtain ⟨k1, c0, c1⟩ := (‹Up w1 _ /\ _› : _ /\ _); clear hS; go_wp2_with fail; refine (HT.out _ ((hE.up u1).up k1)).mono ?_; rintro e w3 ⟨rfl, q3⟩; have u3 := (u1.trans k1).trans q3; go_wp2_with fail; go_ret2; exact ⟨rfl, u3⟩
theorem eText_inf (i : Int) (w : World) (hi : i = 1 \/ i = -1) :
  Calls Tryz.prog 119 #[.agg #[.int .i8 i, .int .i64 0]] w fun e w' => e = .returned (.tuple #[.string (eStr i 0), .int .i64 0]) /\ Up w w' := by
 have b0 := CB.new w (.int .i8 i) (.int .i64 0) 41
 have u0 : Up w _ := (Up.refl w).alloc (.cells #[.int .i8 i, .int .i64 0] 41)
 have B0 := Lib.hid b0
 have U0 := Lib.hid u0
 clear b0 u0
 have HE := Lib.hid (fun W => eChk_ok i 0 W (Or.inr ⟨hi, rfl⟩))
 go_enter Tryz.func119, Tryz.ntmps119
 go_wp2_with fail
 refine (HE.out _).mono ?_
 rintro e w1 ⟨rfl, q1⟩
 obtain ⟨c0, c1, f0, f1, l0⟩ := B0.out.up q1
 have u1 := U0.out.trans q1
 clear q1 f0 f1
 have hS := kE1 (W := w1) (Up.refl w1) ⟨Up.refl _, c0, c1⟩
 clear c0 c1
 go_wp2_with fail
 go_region_held3 (fun w' => Up w1 w' /\ w'.cell? ⟨w.heap.size, 0, none⟩ = some (.int .i8 i) /\ w'.cell? ⟨w.heap.size, 1, none⟩ = some (.int .i64 0))
  (first | exact kE1 ((Up.refl _).drew) hS | exact kE1 ‹Up _ _› ‹_› | assumption)
  (first | (go_at_call 144; refine (eInf _).mono ?_; rintro e wa ⟨rfl, qa, hm⟩; have hl : (Instr.lookup 179 (.map (some w1.heap.size)) (.agg #[.int .i8 i, .int .i64 0]) true).run Tryz.prog wa = .ok (.tuple #[.string (eStr i 0), .bool true]) wa := lk_inf _ _ i hi hm))
 all_goals
  obtain ⟨k1, c0, c1⟩ := (‹Up w1 _ /\ _› : _ /\ _); clear hS; go_wp2_with fail; go_ret2; exact ⟨rfl, u1.trans k1⟩
theorem eStr_day (d : Int) : eStr 0 d = ⟨(Lib.itoa d).toArray⟩ := by unfold eStr; rw [if_pos rfl]
theorem eText_ok (i d : Int) (w : World) (h : eOk i d) (hd : I64 d) (hE : EnvI w) :
   Calls Tryz.prog 119 #[.agg #[.int .i8 i, .int .i64 d]] w fun e w' => e = .returned (.tuple #[.string (eStr i d), .int .i64 0]) /\ Up w w' := by
 rcases h with rfl | ⟨hi, rfl⟩
 · rw [eStr_day]; exact eText_day d w hd hE
 · exact eText_inf i w hi
theorem rText_c (v : Value) (x : Int) (w : World) (hv : IsN w v x) (hl : Len x) :
   Calls Tryz.prog 150 #[v] w fun e w' => e = .returned (.string ⟨(Lib.itoa x).toArray⟩) /\ Dn w w' := by
 by_cases h : x = 0
 · subst h; exact rText_zero v w hv
 · exact rText_nz v x w hv h hl
theorem Len.i64 {x : Int} (h : I64 x) : Len x := Len.of (by have := h.1; have := h.2; omega)
theorem rText8 (i d : Int) (w : World) (h : eOk i d) (hd : I64 d) :
   Calls Tryz.prog 123 #[.agg #[.int .i8 i, .int .i64 d]] w fun e w' => e = .returned (.string (eStr i d)) /\ Dn w w' := by
 rcases h with rfl | ⟨rfl | rfl, rfl⟩
 · rw [eStr_day]
   have HD := Lib.hid hd; clear hd; go_enter Tryz.func123, Tryz.ntmps123; go_wp2_with fail; refine (rOf_c d _ HD.out).mono ?_; rintro e w1 ⟨b1, p1, m1, c1, rfl, hx, q1⟩; go_wp2_with fail; refine (rText_c _ d _ hx (Len.i64 HD.out)).mono ?_; rintro e w2 ⟨rfl, q2⟩; go_wp2_with fail; go_ret; exact ⟨rfl, (((Dn.refl _).alloc _).trans q1).trans q2⟩
 · go_enter Tryz.func123, Tryz.ntmps123
   go_wp2_with fail; go_ret; exact ⟨rfl, (Dn.refl _).alloc _⟩
 · go_enter Tryz.func123, Tryz.ntmps123
   go_wp2_with fail; go_ret; exact ⟨rfl, (Dn.refl _).alloc _⟩
def EP (s : ByteArray) (i d e : Int) : Prop :=
 (s = sP /\ i = 1 /\ d = 0 /\ e = 0) \/ (s = sM /\ i = -1 /\ d = 0 /\ e = 0) \/
 (s ≠ sP /\ s ≠ sM /\ i = 0 /\ ((pOk s.data.toList /\ Fits (pVal s.data.toList) d e) \/ (¬ pOk s.data.toList /\ d = 0 /\ e = 5)))
end Go.Proofs.YtoghoddjkdoohaaGreatDoor
