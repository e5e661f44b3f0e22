/- Walks and laws that the claim's theorem leans on: part 5. -/
import Derived.Test.YtoghoddjkdoohaaGreatDoorZOf1
import Derived.Test.YtoghoddjkdoohaaGreatDoorZOf2
import Derived.Test.YtoghoddjkdoohaaGreatDoorZOf4
import Derived.WalkSmall
namespace Go.Proofs.YtoghoddjkdoohaaGreatDoor
set_option maxHeartbeats 4000000
set_option maxRecDepth 100000
open Go.RowKit
set_option linter.unusedVariables false
set_option linter.unusedSimpArgs false
theorem kdJ_8 {W w1 w2 : World} {a0 a1 a2 a3 a4 a5 a6 a7 : Addr} {v0 v1 v2 v3 v4 v5 v6 v7 : Value} (k : Dn w1 w2) (h : Dn W w1 ∧ w1.cell? a0 = some v0 ∧ w1.cell? a1 = some v1 ∧ w1.cell? a2 = some v2 ∧ w1.cell? a3 = some v3 ∧ w1.cell? a4 = some v4 ∧ w1.cell? a5 = some v5 ∧ w1.cell? a6 = some v6 ∧ w1.cell? a7 = some v7) :
  Dn W w2 ∧ w2.cell? a0 = some v0 ∧ w2.cell? a1 = some v1 ∧ w2.cell? a2 = some v2 ∧ w2.cell? a3 = some v3 ∧ w2.cell? a4 = some v4 ∧ w2.cell? a5 = some v5 ∧ w2.cell? a6 = some v6 ∧ w2.cell? a7 = some v7 := by
 obtain ⟨h1, c0, c1, c2, c3, c4, c5, c6, c7⟩ := h
 exact ⟨h1.trans k, k.cell c0, k.cell c1, k.cell c2, k.cell c3, k.cell c4, k.cell c5, k.cell c6, k.cell c7⟩
theorem kdS {W w1 : World} {a0 a1 a2 a3 a4 a5 a6 a7 p : Addr} {v0 v1 v2 v3 v4 v5 v6 v7 : Value} (v : Value) (hp : W.heap.size ≤ p.block) (hn : ∀ a ∈ [a0, a1, a2, a3, a4, a5, a6, a7], p.block ≠ a.block)
  (h : Dn W w1 ∧ w1.cell? a0 = some v0 ∧ w1.cell? a1 = some v1 ∧ w1.cell? a2 = some v2 ∧ w1.cell? a3 = some v3 ∧ w1.cell? a4 = some v4 ∧ w1.cell? a5 = some v5 ∧ w1.cell? a6 = some v6 ∧ w1.cell? a7 = some v7) : Dn W (w1.setCell p v) ∧ (w1.setCell p v).cell? a0 = some v0 ∧ (w1.setCell p v).cell? a1 = some v1 ∧ (w1.setCell p v).cell? a2 = some v2 ∧ (w1.setCell p v).cell? a3 = some v3 ∧ (w1.setCell p v).cell? a4 = some v4 ∧ (w1.setCell p v).cell? a5 = some v5 ∧ (w1.setCell p v).cell? a6 = some v6 ∧ (w1.setCell p v).cell? a7 = some v7 := by
 obtain ⟨h1, c0, c1, c2, c3, c4, c5, c6, c7⟩ := h
 have hx : ∀ a, p.block ≠ a.block → ∀ u, w1.cell? a = some u → (w1.setCell p v).cell? a = some u := fun a ha u hu => by
  rw [World.cell?_setCell_other _ _ _ _ (fun e => ha (by rw [e]))]; exact hu
 exact ⟨h1.setCell hp v, hx _ (hn _ (by simp)) _ c0, hx _ (hn _ (by simp)) _ c1, hx _ (hn _ (by simp)) _ c2, hx _ (hn _ (by simp)) _ c3, hx _ (hn _ (by simp)) _ c4, hx _ (hn _ (by simp)) _ c5, hx _ (hn _ (by simp)) _ c6, hx _ (hn _ (by simp)) _ c7⟩
theorem preOf31x1 (w : World) (a b c d e f g h : Int) : ∃ W1, W1 = ((w.alloc (.cells #[.int .i8 a, .int .i64 b, .int .i8 c, .int .i64 d] 45)).alloc (.cells #[.int .i8 e, .int .i64 f, .int .i8 g, .int .i64 h] 45)).alloc (.cells #[.int .i8 0, .int .i64 0, .int .i8 0, .int .i64 0] 45) ∧ (Dn w W1) ∧ (W1.cell? ⟨w.heap.size, 0, none⟩ = some (.int .i8 a)) ∧ (W1.cell? ⟨w.heap.size, 1, none⟩ = some (.int .i64 b)) ∧ (W1.cell? ⟨w.heap.size, 2, none⟩ = some (.int .i8 c)) ∧ (W1.cell? ⟨w.heap.size, 3, none⟩ = some (.int .i64 d)) ∧ (w.heap.size < W1.heap.size) ∧ (W1.cell? ⟨w.heap.size + 1, 0, none⟩ = some (.int .i8 e)) ∧ (W1.cell? ⟨w.heap.size + 1, 1, none⟩ = some (.int .i64 f)) ∧ (W1.cell? ⟨w.heap.size + 1, 2, none⟩ = some (.int .i8 g)) ∧ (W1.cell? ⟨w.heap.size + 1, 3, none⟩ = some (.int .i64 h)) ∧ (w.heap.size + 1 < W1.heap.size) ∧ (W1.cell? ⟨w.heap.size + 1 + 1, 0, none⟩ = some (.int .i8 0)) ∧ (W1.cell? ⟨w.heap.size + 1 + 1, 1, none⟩ = some (.int .i64 0)) ∧ (W1.cell? ⟨w.heap.size + 1 + 1, 2, none⟩ = some (.int .i8 0)) ∧ (W1.cell? ⟨w.heap.size + 1 + 1, 3, none⟩ = some (.int .i64 0)) ∧ (w.heap.size + 1 + 1 < W1.heap.size) ∧ (W1.frozen? ⟨w.heap.size + 1 + 1, 0, none⟩ = false) ∧ (W1.frozen? ⟨w.heap.size + 1 + 1, 1, none⟩ = false) ∧ (W1.frozen? ⟨w.heap.size + 1 + 1, 2, none⟩ = false) ∧ (W1.frozen? ⟨w.heap.size + 1 + 1, 3, none⟩ = false) := by
  obtain ⟨W1, hW1⟩ : ∃ W1, W1 = ((w.alloc (.cells #[.int .i8 a, .int .i64 b, .int .i8 c, .int .i64 d] 45)).alloc (.cells #[.int .i8 e, .int .i64 f, .int .i8 g, .int .i64 h] 45)).alloc (.cells #[.int .i8 0, .int .i64 0, .int .i8 0, .int .i64 0] 45) := ⟨_, rfl⟩
  exact ⟨W1, hW1, (by rw [hW1]; exact (((Dn.refl _).alloc _).alloc _).alloc _), (by rw [hW1]; simp [go_sem]), (by rw [hW1]; simp [go_sem]), (by rw [hW1]; simp [go_sem]), (by rw [hW1]; simp [go_sem]), (by rw [hW1]; simp <;> omega), (by rw [hW1]; simp [go_sem]), (by rw [hW1]; simp [go_sem]), (by rw [hW1]; simp [go_sem]), (by rw [hW1]; simp [go_sem]), (by rw [hW1]; simp <;> omega), (by rw [hW1]; simp [go_sem]), (by rw [hW1]; simp [go_sem]), (by rw [hW1]; simp [go_sem]), (by rw [hW1]; simp [go_sem]), (by rw [hW1]; simp <;> omega), (by rw [hW1]; simp [go_sem]), (by rw [hW1]; simp [go_sem]), (by rw [hW1]; simp [go_sem]), (by rw [hW1]; simp [go_sem])⟩
theorem rnJoin_no (a b c d e f g h : Int) (HT : Hid (∀ W, Calls Tryz.prog 47 #[.agg #[.int .i8 a, .int .i64 b, .int .i8 c, .int .i64 d], .agg #[.int .i8 e, .int .i64 f, .int .i8 g, .int .i64 h]] W fun r w' => r = .returned (.bool false) ∧ Dn W w')) (w : World) :
  Calls Tryz.prog 84 #[.agg #[.int .i8 a, .int .i64 b, .int .i8 c, .int .i64 d], .agg #[.int .i8 e, .int .i64 f, .int .i8 g, .int .i64 h]] w fun ro w' => ro = .returned (.tuple #[.agg #[.int .i8 0, .int .i64 0, .int .i8 0, .int .i64 0], .bool false]) ∧ Dn w w' := by
 go_enter Tryz.func84, Tryz.ntmps84
 go_wp2_with fail
 obtain ⟨W1, hW1, uW1, c2, c3, c4, c5, l6, c7, c8, c9, a1, a2, a3, a4, a5, a6, a0, f17, f18, f19, f20⟩ := preOf31x1 w a b c d e f g h
 rw [← hW1]
 clear hW1
 refine (HT.out _).mono ?_
 rintro e w1 ⟨rfl, qw1⟩
 have aJ := nlt l6 qw1.size
 have aK := nlt a2 qw1.size
 obtain ⟨a7, a8, a9, aA, aB, aC, aD, aE⟩ := mv8 qw1.cell c2 c3 c4 c5 c7 c8 c9 a1
 have f31 := (qw1.frozen (a := ⟨w.heap.size + 1 + 1, 0, none⟩) a0).trans f17
 have f32 := (qw1.frozen (a := ⟨w.heap.size + 1 + 1, 1, none⟩) a0).trans f18
 have f33 := (qw1.frozen (a := ⟨w.heap.size + 1 + 1, 2, none⟩) a0).trans f19
 have f34 := (qw1.frozen (a := ⟨w.heap.size + 1 + 1, 3, none⟩) a0).trans f20
 have aL := nlt a0 qw1.size
 obtain ⟨aF, aG, aH, aI⟩ := mv4 qw1.cell a3 a4 a5 a6
 clear l6 c2 c3 c4 c5 a2 c7 c8 c9 a1 f17 f18 f19 f20 a0 a3 a4 a5 a6
 have uw1 := uW1.trans qw1
 clear qw1 uW1
 go_wp2_with fail
 exact bodyPost_ret (v := .tuple #[.agg #[.int .i8 0, .int .i64 0, .int .i8 0, .int .i64 0], .bool false]) (by simp [results, Tryz.results84, go_sem, a7, a8, a9, aA, aB, aC, aD, aE, aF, aG, aH, aI, f31, f32, f33, f34] <;> omega) rfl ⟨rfl, ((((uw1.setCell (by simp <;> omega) _).setCell (by simp <;> omega) _).setCell (by simp <;> omega) _).setCell (by simp <;> omega) _)⟩
theorem rnJoin_yes (a b c d e f g h i1 d1 i2 d2 : Int) (HT : Hid (∀ W, Calls Tryz.prog 47 #[.agg #[.int .i8 a, .int .i64 b, .int .i8 c, .int .i64 d], .agg #[.int .i8 e, .int .i64 f, .int .i8 g, .int .i64 h]] W fun r w' => r = .returned (.bool true) ∧ Dn W w')) (HM : Hid (∀ W, Calls Tryz.prog 124 #[.agg #[.int .i8 a, .int .i64 b], .agg #[.int .i8 e, .int .i64 f]] W fun r w' => r = .returned (.agg #[.int .i8 i1, .int .i64 d1]) ∧ Up W w')) (HX : Hid (∀ W, Calls Tryz.prog 125 #[.agg #[.int .i8 c, .int .i64 d], .agg #[.int .i8 g, .int .i64 h]] W fun r w' => r = .returned (.agg #[.int .i8 i2, .int .i64 d2]) ∧ Up W w')) (w : World) :
    Calls Tryz.prog 84 #[.agg #[.int .i8 a, .int .i64 b, .int .i8 c, .int .i64 d], .agg #[.int .i8 e, .int .i64 f, .int .i8 g, .int .i64 h]] w fun ro w' => ro = .returned (.tuple #[.agg #[.int .i8 i1, .int .i64 d1, .int .i8 i2, .int .i64 d2], .bool true]) ∧ Dn w w' := by
  go_enter Tryz.func84, Tryz.ntmps84
  go_wp2_with fail
  obtain ⟨W1, hW1, uW1, c2, c3, c4, c5, l6, c7, c8, c9, a1, a2, a3, a4, a5, a6, a0, f17, f18, f19, f20⟩ := preOf31x1 w a b c d e f g h
  rw [← hW1]
  clear hW1
  refine (HT.out _).mono ?_
  rintro e w1 ⟨rfl, qw1⟩
  have aK := nlt l6 qw1.size
  have aL := nlt a2 qw1.size
  obtain ⟨a7, a8, a9, aA, aB, aC, aD, aE⟩ := mv8 qw1.cell c2 c3 c4 c5 c7 c8 c9 a1
  have f31 := (qw1.frozen (a := ⟨w.heap.size + 1 + 1, 0, none⟩) a0).trans f17
  have f32 := (qw1.frozen (a := ⟨w.heap.size + 1 + 1, 1, none⟩) a0).trans f18
  have f33 := (qw1.frozen (a := ⟨w.heap.size + 1 + 1, 2, none⟩) a0).trans f19
  have f34 := (qw1.frozen (a := ⟨w.heap.size + 1 + 1, 3, none⟩) a0).trans f20
  have aF := nlt a0 qw1.size
  obtain ⟨aG, aH, aI, aJ⟩ := mv4 qw1.cell a3 a4 a5 a6
  clear l6 c2 c3 c4 c5 a2 c7 c8 c9 a1 f17 f18 f19 f20 a0 a3 a4 a5 a6
  have uw1 := uW1.trans qw1
  clear qw1 uW1
  go_wp2_with fail
  have hS := kdJ_8 (W := w) (Dn.refl w1) ⟨uw1, a7, a8, a9, aA, aB, aC, aD, aE⟩
  have z0 := aG
  have f0 := f31
  have z1 := aH
  have f1 := f32
  have z2 := aI
  have f2 := f33
  have z3 := aJ
  have f3 := f34
  have lz := aF
  clear a7 a8 a9 aA aB aC aD aE aG aH aI aJ f31 f32 f33 f34 aF
  go_region_held3 (fun w' => Dn w w' ∧ w'.cell? ⟨w.heap.size, 0, none⟩ = some (.int .i8 a) ∧ w'.cell? ⟨w.heap.size, 1, none⟩ = some (.int .i64 b) ∧ w'.cell? ⟨w.heap.size, 2, none⟩ = some (.int .i8 c) ∧ w'.cell? ⟨w.heap.size, 3, none⟩ = some (.int .i64 d) ∧ w'.cell? ⟨w.heap.size + 1, 0, none⟩ = some (.int .i8 e) ∧ w'.cell? ⟨w.heap.size + 1, 1, none⟩ = some (.int .i64 f) ∧ w'.cell? ⟨w.heap.size + 1, 2, none⟩ = some (.int .i8 g) ∧ w'.cell? ⟨w.heap.size + 1, 3, none⟩ = some (.int .i64 h))
    (first | exact kdJ_8 ((Dn.refl _).drew) hS | exact kdJ_8 ‹Dn _ _› ‹_› | exact kdJ_8 (Up.dn ‹Up _ _›) ‹_› | exact kdS _ (by simp <;> omega) (by simp <;> omega) (kdS _ (by simp <;> omega) (by simp <;> omega) (kdS _ (by simp <;> omega) (by simp <;> omega) (kdS _ (by simp <;> omega) (by simp <;> omega) ‹Dn w _ ∧ _›))) | assumption)
    (first
      | (go_at_call 124; refine (HM.out _).mono ?_; rintro e wa ⟨rfl, qa⟩; replace qa := Up.dn qa; have z0 := qa.cell (a := ⟨w.heap.size + 1 + 1, 0, none⟩) (by assumption); have z1 := qa.cell (a := ⟨w.heap.size + 1 + 1, 1, none⟩) (by assumption); have z2 := qa.cell (a := ⟨w.heap.size + 1 + 1, 2, none⟩) (by assumption); have z3 := qa.cell (a := ⟨w.heap.size + 1 + 1, 3, none⟩) (by assumption); have f0 := (qa.frozen (a := ⟨w.heap.size + 1 + 1, 0, none⟩) (by assumption)).trans (by assumption); have f1 := (qa.frozen (a := ⟨w.heap.size + 1 + 1, 1, none⟩) (by assumption)).trans (by assumption); have f2 := (qa.frozen (a := ⟨w.heap.size + 1 + 1, 2, none⟩) (by assumption)).trans (by assumption); have f3 := (qa.frozen (a := ⟨w.heap.size + 1 + 1, 3, none⟩) (by assumption)).trans (by assumption); have lz : w.heap.size + 1 + 1 < wa.heap.size := Nat.lt_of_lt_of_le (by assumption) qa.size)
      | (go_at_call 125; refine (HX.out _).mono ?_; rintro e wa ⟨rfl, qa⟩; replace qa := Up.dn qa; have z0 := qa.cell (a := ⟨w.heap.size + 1 + 1, 0, none⟩) (by assumption); have z1 := qa.cell (a := ⟨w.heap.size + 1 + 1, 1, none⟩) (by assumption); have z2 := qa.cell (a := ⟨w.heap.size + 1 + 1, 2, none⟩) (by assumption); have z3 := qa.cell (a := ⟨w.heap.size + 1 + 1, 3, none⟩) (by assumption); have f0 := (qa.frozen (a := ⟨w.heap.size + 1 + 1, 0, none⟩) (by assumption)).trans (by assumption); have f1 := (qa.frozen (a := ⟨w.heap.size + 1 + 1, 1, none⟩) (by assumption)).trans (by assumption); have f2 := (qa.frozen (a := ⟨w.heap.size + 1 + 1, 2, none⟩) (by assumption)).trans (by assumption); have f3 := (qa.frozen (a := ⟨w.heap.size + 1 + 1, 3, none⟩) (by assumption)).trans (by assumption); have lz : w.heap.size + 1 + 1 < wa.heap.size := Nat.lt_of_lt_of_le (by assumption) qa.size))
  all_goals
    have hf : Dn w _ := (‹Dn w _ ∧ _› : _ ∧ _).1
    go_wp2_with fail
    exact bodyPost_ret (v := .tuple #[.agg #[.int .i8 i1, .int .i64 d1, .int .i8 i2, .int .i64 d2], .bool true]) (by simp [results, Tryz.results84, go_sem, z0, z1, z2, z3, f0, f1, f2, f3] <;> omega) rfl ⟨rfl, hf⟩
structure C4 (w : World) (B : Nat) (v0 v1 v2 v3 : Value) : Prop where
 c0 : w.cell? ⟨B, 0, none⟩ = some v0
 c1 : w.cell? ⟨B, 1, none⟩ = some v1
 c2 : w.cell? ⟨B, 2, none⟩ = some v2
 c3 : w.cell? ⟨B, 3, none⟩ = some v3
 f0 : w.frozen? ⟨B, 0, none⟩ = false
 f1 : w.frozen? ⟨B, 1, none⟩ = false
 f2 : w.frozen? ⟨B, 2, none⟩ = false
 f3 : w.frozen? ⟨B, 3, none⟩ = false
 lt : B < w.heap.size
theorem C4.dn {w w' : World} {B : Nat} {v0 v1 v2 v3 : Value} (h : C4 w B v0 v1 v2 v3) (k : Dn w w') : C4 w' B v0 v1 v2 v3 :=
 ⟨k.cell h.c0, k.cell h.c1, k.cell h.c2, k.cell h.c3, by rw [k.frozen h.lt]; exact h.f0, by rw [k.frozen h.lt]; exact h.f1, by rw [k.frozen h.lt]; exact h.f2, by rw [k.frozen h.lt]; exact h.f3, Nat.lt_of_lt_of_le h.lt k.size⟩
theorem C4.alloc {w : World} {B : Nat} {v0 v1 v2 v3 : Value} (h : C4 w B v0 v1 v2 v3) (o : Obj) : C4 (w.alloc o) B v0 v1 v2 v3 := h.dn ((Dn.refl _).alloc o)
theorem C4.drew {w : World} {B : Nat} {v0 v1 v2 v3 : Value} (h : C4 w B v0 v1 v2 v3) : C4 w.drew B v0 v1 v2 v3 := h.dn (Dn.refl _).drew
theorem C4.new (w : World) (v0 v1 v2 v3 : Value) (t : TypeId) : C4 (w.alloc (.cells #[v0, v1, v2, v3] t)) w.heap.size v0 v1 v2 v3 := by
 refine ⟨?_, ?_, ?_, ?_, ?_, ?_, ?_, ?_, ?_⟩ <;> simp [go_sem]
theorem C4.new1 (w : World) (o : Obj) (v0 v1 v2 v3 : Value) (t : TypeId) : C4 ((w.alloc o).alloc (.cells #[v0, v1, v2, v3] t)) (w.heap.size + 1) v0 v1 v2 v3 := by
 have := C4.new (w.alloc o) v0 v1 v2 v3 t
 simpa using this
theorem C4.new2 (w : World) (o o2 : Obj) (v0 v1 v2 v3 : Value) (t : TypeId) : C4 (((w.alloc o).alloc o2).alloc (.cells #[v0, v1, v2, v3] t)) (w.heap.size + 1 + 1) v0 v1 v2 v3 := by
 have := C4.new ((w.alloc o).alloc o2) v0 v1 v2 v3 t
 simpa using this
theorem C4.far {w : World} {B n : Nat} {v0 v1 v2 v3 : Value} (h : C4 w n v0 v1 v2 v3) (hn : n ≠ B) (j : Nat) (v : Value) : C4 (w.setCell ⟨B, j, none⟩ v) n v0 v1 v2 v3 := by
 have hx : ∀ i u, w.cell? ⟨n, i, none⟩ = some u → (w.setCell ⟨B, j, none⟩ v).cell? ⟨n, i, none⟩ = some u := fun i u hu => by
  rw [World.cell?_setCell_other _ _ _ _ (fun e => hn (by simpa using (congrArg Addr.block e).symm))]; exact hu
 exact ⟨hx _ _ h.c0, hx _ _ h.c1, hx _ _ h.c2, hx _ _ h.c3, by simpa using h.f0, by simpa using h.f1, by simpa using h.f2, by simpa using h.f3, by simpa using h.lt⟩
theorem C4.fill {w : World} {B : Nat} {z0 z1 z2 z3 : Value} (h : C4 w B z0 z1 z2 z3) (v0 v1 v2 v3 : Value) :
  C4 ((((w.setCell ⟨B, 0, none⟩ v0).setCell ⟨B, 1, none⟩ v1).setCell ⟨B, 2, none⟩ v2).setCell ⟨B, 3, none⟩ v3) B v0 v1 v2 v3 := by
 have h0 := h.c0; have h1 := h.c1; have h2 := h.c2; have h3 := h.c3
 refine ⟨?_, ?_, ?_, ?_, by simpa using h.f0, by simpa using h.f1, by simpa using h.f2, by simpa using h.f3, by simpa using h.lt⟩ <;> simp [go_sem, h0, h1, h2, h3]
theorem C4.far4 {w : World} {B n : Nat} {z0 z1 z2 z3 : Value} (h : C4 w n z0 z1 z2 z3) (hn : n ≠ B) (v0 v1 v2 v3 : Value) :
  C4 ((((w.setCell ⟨B, 0, none⟩ v0).setCell ⟨B, 1, none⟩ v1).setCell ⟨B, 2, none⟩ v2).setCell ⟨B, 3, none⟩ v3) n z0 z1 z2 z3 :=
 (((h.far hn _ _).far hn _ _).far hn _ _).far hn _ _
structure NB (w : World) (B L : Nat) : Prop where
 z : C4 w B (.int .i8 0) (.int .i64 0) (.int .i8 0) (.int .i64 0)
 lt : L < B
theorem NB.new {w : World} {L : Nat} (h : L < w.heap.size) (t : TypeId) : NB (w.alloc (.cells #[.int .i8 0, .int .i64 0, .int .i8 0, .int .i64 0] t)) w.heap.size L := ⟨C4.new _ _ _ _ _ _, h⟩
theorem NB.dn {w w' : World} {B L : Nat} (h : NB w B L) (q : Dn w w') : NB w' B L := ⟨h.z.dn q, h.lt⟩
theorem dn_drewN (w : World) (n : Nat) : Dn w (w.drewN n) := ⟨below_drewN (Dn.refl w).below n⟩
end Go.Proofs.YtoghoddjkdoohaaGreatDoor
