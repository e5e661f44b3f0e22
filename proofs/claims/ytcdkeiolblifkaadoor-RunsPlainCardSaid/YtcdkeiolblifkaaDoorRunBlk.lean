/-
  BLOCKS OF FOUR CELLS (a run, a pair of ends) FROM WORLD TO WORLD.
-/
import Derived.Test.YtcdkeiolblifkaaDoorEndC
import Derived.WalkSmall
namespace Go.Proofs.YtcdkeiolblifkaaDoor
open Go.RowKit
set_option linter.unusedVariables false
set_option linter.unusedSimpArgs false
/-- A block of four cells that may be written. -/
structure C4 (w : World) (B : Nat) (v0 v1 v2 v3 : Value) : Prop where
  c0 : w.cell? ⟨B, 0, none⟩ = some v0
  c1 : w.cell? ⟨B, 1, none⟩ = some v1
  c2 : w.cell? ⟨B, 2, none⟩ = some v2
  c3 : w.cell? ⟨B, 3, none⟩ = some v3
  f0 : w.frozen? ⟨B, 0, none⟩ = false
  f1 : w.frozen? ⟨B, 1, none⟩ = false
  f2 : w.frozen? ⟨B, 2, none⟩ = false
  f3 : w.frozen? ⟨B, 3, none⟩ = false
  lt : B < w.heap.size
theorem C4.dn {w w' : World} {B : Nat} {v0 v1 v2 v3 : Value} (h : C4 w B v0 v1 v2 v3) (k : Dn w w') : C4 w' B v0 v1 v2 v3 :=
  ⟨k.cell h.c0, k.cell h.c1, k.cell h.c2, k.cell h.c3, by rw [k.frozen h.lt]; exact h.f0, by rw [k.frozen h.lt]; exact h.f1, by rw [k.frozen h.lt]; exact h.f2, by rw [k.frozen h.lt]; exact h.f3, Nat.lt_of_lt_of_le h.lt k.size⟩
theorem C4.alloc {w : World} {B : Nat} {v0 v1 v2 v3 : Value} (h : C4 w B v0 v1 v2 v3) (o : Obj) : C4 (w.alloc o) B v0 v1 v2 v3 := h.dn ((Dn.refl _).alloc o)
theorem C4.drew {w : World} {B : Nat} {v0 v1 v2 v3 : Value} (h : C4 w B v0 v1 v2 v3) : C4 w.drew B v0 v1 v2 v3 := h.dn (Dn.refl _).drew
theorem C4.new (w : World) (v0 v1 v2 v3 : Value) (t : TypeId) : C4 (w.alloc (.cells #[v0, v1, v2, v3] t)) w.heap.size v0 v1 v2 v3 := by
  refine ⟨?_, ?_, ?_, ?_, ?_, ?_, ?_, ?_, ?_⟩ <;> simp [go_sem]
theorem C4.new1 (w : World) (o : Obj) (v0 v1 v2 v3 : Value) (t : TypeId) : C4 ((w.alloc o).alloc (.cells #[v0, v1, v2, v3] t)) (w.heap.size + 1) v0 v1 v2 v3 := by
  have := C4.new (w.alloc o) v0 v1 v2 v3 t
  simpa using this
theorem C4.new2 (w : World) (o o2 : Obj) (v0 v1 v2 v3 : Value) (t : TypeId) : C4 (((w.alloc o).alloc o2).alloc (.cells #[v0, v1, v2, v3] t)) (w.heap.size + 1 + 1) v0 v1 v2 v3 := by
  have := C4.new ((w.alloc o).alloc o2) v0 v1 v2 v3 t
  simpa using this
theorem C4.far {w : World} {B n : Nat} {v0 v1 v2 v3 : Value} (h : C4 w n v0 v1 v2 v3) (hn : n ≠ B) (j : Nat) (v : Value) : C4 (w.setCell ⟨B, j, none⟩ v) n v0 v1 v2 v3 := by
  have hx : ∀ i u, w.cell? ⟨n, i, none⟩ = some u → (w.setCell ⟨B, j, none⟩ v).cell? ⟨n, i, none⟩ = some u := fun i u hu => by
    rw [World.cell?_setCell_other _ _ _ _ (fun e => hn (by simpa using (congrArg Addr.block e).symm))]; exact hu
  exact ⟨hx _ _ h.c0, hx _ _ h.c1, hx _ _ h.c2, hx _ _ h.c3, by simpa using h.f0, by simpa using h.f1, by simpa using h.f2, by simpa using h.f3, by simpa using h.lt⟩
/-- Four cells of a new block are written. -/
theorem C4.fill {w : World} {B : Nat} {z0 z1 z2 z3 : Value} (h : C4 w B z0 z1 z2 z3) (v0 v1 v2 v3 : Value) :
    C4 ((((w.setCell ⟨B, 0, none⟩ v0).setCell ⟨B, 1, none⟩ v1).setCell ⟨B, 2, none⟩ v2).setCell ⟨B, 3, none⟩ v3) B v0 v1 v2 v3 := by
  have h0 := h.c0; have h1 := h.c1; have h2 := h.c2; have h3 := h.c3
  refine ⟨?_, ?_, ?_, ?_, by simpa using h.f0, by simpa using h.f1, by simpa using h.f2, by simpa using h.f3, by simpa using h.lt⟩ <;> simp [go_sem, h0, h1, h2, h3]
theorem C4.far4 {w : World} {B n : Nat} {z0 z1 z2 z3 : Value} (h : C4 w n z0 z1 z2 z3) (hn : n ≠ B) (v0 v1 v2 v3 : Value) :
    C4 ((((w.setCell ⟨B, 0, none⟩ v0).setCell ⟨B, 1, none⟩ v1).setCell ⟨B, 2, none⟩ v2).setCell ⟨B, 3, none⟩ v3) n z0 z1 z2 z3 :=
  (((h.far hn _ _).far hn _ _).far hn _ _).far hn _ _
/-- A new block of zeros beyond the number L. -/
structure NB (w : World) (B L : Nat) : Prop where
  z : C4 w B (.int .i8 0) (.int .i64 0) (.int .i8 0) (.int .i64 0)
  lt : L < B
theorem NB.new {w : World} {L : Nat} (h : L < w.heap.size) (t : TypeId) : NB (w.alloc (.cells #[.int .i8 0, .int .i64 0, .int .i8 0, .int .i64 0] t)) w.heap.size L := ⟨C4.new _ _ _ _ _ _, h⟩
theorem NB.dn {w w' : World} {B L : Nat} (h : NB w B L) (q : Dn w w') : NB w' B L := ⟨h.z.dn q, h.lt⟩
theorem dn_drewN (w : World) (n : Nat) : Dn w (w.drewN n) := ⟨below_drewN (Dn.refl w).below n⟩
end Go.Proofs.YtcdkeiolblifkaaDoor
