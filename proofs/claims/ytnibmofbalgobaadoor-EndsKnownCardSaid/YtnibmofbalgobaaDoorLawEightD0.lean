/-
  WALKS OF circalaw08: EndsOrder returns true. (Printed by wip/gen/law8d.py.)
-/
import Derived.Test.YtnibmofbalgobaaDoorLawEightB
import Derived.Deep.DeepCutAuto
namespace Go.Proofs.YtnibmofbalgobaaDoor
open Go.RowKit
set_option linter.unusedVariables false
set_option linter.unusedSimpArgs false
theorem eC_anti (i d j f : Int) : eC j f i d = -eC i d j f := by
  unfold eC c3
  repeat' split
  all_goals omega
theorem eC_zero (i d j f : Int) : eC i d j f = 0 ↔ i = j ∧ d = f := by
  unfold eC c3
  repeat' split
  all_goals omega
theorem eC_vals (i d j f : Int) : eC i d j f = -1 ∨ eC i d j f = 0 ∨ eC i d j f = 1 := by
  unfold eC c3
  repeat' split
  all_goals omega
theorem eC_lex (i d j f : Int) : eC i d j f ≤ 0 ↔ i < j ∨ (i = j ∧ d ≤ f) := by
  unfold eC c3
  repeat' split
  all_goals omega
theorem eC_trans (i d j f k g : Int) (h1 : eC i d j f ≤ 0) (h2 : eC j f k g ≤ 0) : eC i d k g ≤ 0 := by
  rw [eC_lex] at *
  omega
/-- Two new ends, in whatever blocks. -/
def Two (W : World) (u0 u1 v0 v1 : Value) (s8 s9 : Value) (wx : World) : Prop :=
  ∃ A B : Nat, s8 = .pointer (some ⟨A, 0, none⟩) ∧ s9 = .pointer (some ⟨B, 0, none⟩) ∧ CB wx A u0 u1 ∧ CB wx B v0 v1 ∧ A ≠ B ∧ W.heap.size ≤ A ∧ W.heap.size ≤ B ∧ Dn W wx
theorem two_1 (W : World) (u0 u1 v0 v1 : Value) (t : TypeId) : Two W u0 u1 v0 v1 (.pointer (some ⟨W.heap.size, 0, none⟩)) (.pointer (some ⟨W.heap.size + 1, 0, none⟩)) (((W.alloc (.cells #[u0, u1] t)).alloc (.cells #[v0, v1] t)).drew) :=
  ⟨_, _, rfl, rfl, ((CB.new W u0 u1 t).alloc _).drew, (CB.new1 W _ v0 v1 t).drew, by omega, Nat.le_refl _, by omega, (((Dn.refl _).alloc _).alloc _).drew⟩
theorem two_2 (W : World) (u0 u1 v0 v1 : Value) (t : TypeId) : Two W u0 u1 v0 v1 (.pointer (some ⟨W.heap.size + 1, 0, none⟩)) (.pointer (some ⟨W.heap.size, 0, none⟩)) (((W.alloc (.cells #[v0, v1] t)).alloc (.cells #[u0, u1] t)).drew) :=
  ⟨_, _, rfl, rfl, (CB.new1 W _ u0 u1 t).drew, ((CB.new W v0 v1 t).alloc _).drew, by omega, by omega, Nat.le_refl _, (((Dn.refl _).alloc _).alloc _).drew⟩
theorem CB.far {w : World} {B : Nat} {u v : Value} (h : CB w B u v) {p : Addr} (hp : p.block ≠ B) (x : Value) : CB (w.setCell p x) B u v :=
  ⟨by rw [World.cell?_setCell_other _ _ _ _ (fun e => hp (by rw [e]))]; exact h.c0, by rw [World.cell?_setCell_other _ _ _ _ (fun e => hp (by rw [e]))]; exact h.c1, by rw [World.frozen?_setCell]; exact h.f0, by rw [World.frozen?_setCell]; exact h.f1, by simpa using h.lt⟩
theorem two_s1 {C wc : World} {A B : Nat} {a0 a1 b0 b1 u0 u1 v0 v1 : Value} (hA : CB wc A a0 a1) (hB : CB wc B b0 b1) (hne : A ≠ B) (sA : C.heap.size ≤ A) (sB : C.heap.size ≤ B) (q : Dn C wc) :
    Two C u0 u1 v0 v1 (.pointer (some ⟨A, 0, none⟩)) (.pointer (some ⟨B, 0, none⟩)) (((((wc.setCell ⟨A, 0, none⟩ u0).setCell ⟨A, 1, none⟩ u1).setCell ⟨B, 0, none⟩ v0).setCell ⟨B, 1, none⟩ v1).drew) :=
  ⟨A, B, rfl, rfl, (((hA.set u0 u1).far (fun e => hne e.symm) _).far (fun e => hne e.symm) _).drew, (((hB.far hne _).far hne _).set v0 v1).drew, hne, sA, sB, ((((q.setCell sA _).setCell sA _).setCell sB _).setCell sB _).drew⟩
theorem two_s2 {C wc : World} {A B : Nat} {a0 a1 b0 b1 u0 u1 v0 v1 : Value} (hA : CB wc A a0 a1) (hB : CB wc B b0 b1) (hne : A ≠ B) (sA : C.heap.size ≤ A) (sB : C.heap.size ≤ B) (q : Dn C wc) :
    Two C u0 u1 v0 v1 (.pointer (some ⟨A, 0, none⟩)) (.pointer (some ⟨B, 0, none⟩)) (((((wc.setCell ⟨B, 0, none⟩ v0).setCell ⟨B, 1, none⟩ v1).setCell ⟨A, 0, none⟩ u0).setCell ⟨A, 1, none⟩ u1).drew) :=
  ⟨A, B, rfl, rfl, (((hA.far (fun e => hne e.symm) _).far (fun e => hne e.symm) _).set u0 u1).drew, (((hB.set v0 v1).far hne _).far hne _).drew, hne, sA, sB, ((((q.setCell sB _).setCell sB _).setCell sA _).setCell sA _).drew⟩
theorem rCmp8_at (i d j f r : Int) (w : World) (h : eC i d j f = r) : Calls Tryd.prog 40 #[.agg #[.int .i8 i, .int .i64 d], .agg #[.int .i8 j, .int .i64 f]] w fun e w' => e = .returned (.int .i64 r) ∧ Up w w' := by
  subst h; exact rCmp8 i d j f w
theorem kdO_10 {W w1 w2 : World} {a0 a1 a2 a3 a4 a5 a6 a7 a8 a9 : Addr} {v0 v1 v2 v3 v4 v5 v6 v7 v8 v9 : Value} (k : Dn w1 w2) (h : Dn W w1 ∧ w1.cell? a0 = some v0 ∧ w1.cell? a1 = some v1 ∧ w1.cell? a2 = some v2 ∧ w1.cell? a3 = some v3 ∧ w1.cell? a4 = some v4 ∧ w1.cell? a5 = some v5 ∧ w1.cell? a6 = some v6 ∧ w1.cell? a7 = some v7 ∧ w1.cell? a8 = some v8 ∧ w1.cell? a9 = some v9) :
    Dn W w2 ∧ w2.cell? a0 = some v0 ∧ w2.cell? a1 = some v1 ∧ w2.cell? a2 = some v2 ∧ w2.cell? a3 = some v3 ∧ w2.cell? a4 = some v4 ∧ w2.cell? a5 = some v5 ∧ w2.cell? a6 = some v6 ∧ w2.cell? a7 = some v7 ∧ w2.cell? a8 = some v8 ∧ w2.cell? a9 = some v9 := by
  obtain ⟨h1, c0, c1, c2, c3, c4, c5, c6, c7, c8, c9⟩ := h
  exact ⟨h1.trans k, k.cell c0, k.cell c1, k.cell c2, k.cell c3, k.cell c4, k.cell c5, k.cell c6, k.cell c7, k.cell c8, k.cell c9⟩
end Go.Proofs.YtnibmofbalgobaaDoor
