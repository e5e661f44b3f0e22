/-
  SMALL WORDS THAT ALL OTHER TEXTS USE: results, worlds.
-/
import Derived.Test.YtopbbcbpanfigaaGreatDoorRows
import Derived.WalkKit
import Derived.WalkSpells
import Derived.WalkLawsBesides
import Derived.LoopN
import Derived.Deep.RegionHeld3
import Derived.Deep.LoopGhost
import Derived.Sort.Grow
import Derived.Lib.Hide
import Derived.Deep.QuietTactic
import Derived.BigQuiet
import Derived.Deep.DeepFit
import Derived.Deep.DeepMust
namespace Go.Proofs.YtopbbcbpanfigaaGreatDoor
open Go.RowKit

def I64 (a : Int) : Prop := -9223372036854775808 ≤ a ∧ a ≤ 9223372036854775807
instance decI64 (a : Int) : Decidable (I64 a) := by unfold I64; infer_instance

theorem ret1_i {k : IntKind} {a b : Int} (h : a = b) : Ending.returned (.int k a) = .returned (.int k b) := by rw [h]
theorem ret2_i {k l : IntKind} {a b c d : Int} (h : a = b) (h' : c = d) : Ending.returned (.tuple #[.int k a, .int l c]) = .returned (.tuple #[.int k b, .int l d]) := by rw [h, h']
theorem retb {a b : Bool} (h : a = b) : Ending.returned (.bool a) = .returned (.bool b) := by rw [h]


theorem i64_of_wf {a : Int} (h : (Lit.int .i64 a).wf = true) : I64 a := by
  simp [Lit.wf, IntKind.min, IntKind.max, IntKind.signed, IntKind.bits] at h
  exact ⟨by omega, by omega⟩

/-- Nothing that was there has turned; the tape has moved on. -/
structure Up (w w' : World) : Prop where
  below : Below w.heap.size w w'
  drawn : w.drawn ≤ w'.drawn
theorem Up.refl (w : World) : Up w w := ⟨Below.refl _ _, Nat.le_refl _⟩
theorem Up.trans {a b c : World} (h : Up a b) (k : Up b c) : Up a c := ⟨h.below.trans (k.below.mono h.below.size), Nat.le_trans h.drawn k.drawn⟩
theorem Up.alloc {a w : World} (h : Up a w) (o : Obj) : Up a (w.alloc o) := ⟨h.below.alloc h.below.size o, h.drawn⟩
theorem Up.drew {a w : World} (h : Up a w) : Up a w.drew := ⟨h.below.drew, Nat.le_trans h.drawn (Nat.le_succ _)⟩
theorem Up.setCell {a w : World} (h : Up a w) {p : Addr} (hp : a.heap.size ≤ p.block) (u : Value) : Up a (w.setCell p u) := ⟨h.below.setCell hp u, h.drawn⟩
theorem Up.size {a w : World} (h : Up a w) : a.heap.size ≤ w.heap.size := h.below.size
theorem Up.drewN {a w : World} (h : Up a w) (n : Nat) : Up a (w.drewN n) := ⟨h.below.trans ⟨rfl, rfl, rfl, Nat.le_refl _, fun _ _ => rfl⟩, Nat.le_trans h.drawn (Nat.le_add_right _ _)⟩
theorem Up.ofBelow {a w w' : World} (h : Below a.heap.size a w) (k : Up w w') : Below a.heap.size a w' := h.trans (k.below.mono h.size)
theorem Below.step {a w w' : World} (h : Below a.heap.size a w) (k : Below w.heap.size w w') : Below a.heap.size a w' := h.trans (k.mono h.size)
theorem cell_below {w w' : World} {a : Addr} {v : Value} (hb : Below w.heap.size w w') (h : w.cell? a = some v) : w'.cell? a = some v := by
  rw [hb.cell (World.block_lt_of_cell? _ _ h)]; exact h
theorem Up.cell {w w' : World} {a : Addr} {v : Value} (hb : Up w w') (h : w.cell? a = some v) : w'.cell? a = some v := cell_below hb.below h
/-- What a region of a function that only reads and calls keeps: the world's growth, and one or two cells. -/
theorem k1_start {w : World} {a : Addr} {v : Value} (h : w.cell? a = some v) : Up w w.drew ∧ w.drew.cell? a = some v := ⟨(Up.refl _).drew, h⟩
theorem k1_step {w w1 w2 : World} {a : Addr} {v : Value} (h : Up w w1 ∧ w1.cell? a = some v) (k : Up w1 w2) : Up w w2 ∧ w2.cell? a = some v := ⟨h.1.trans k, k.cell h.2⟩
theorem k2_start {w : World} {a b : Addr} {u v : Value} (h : w.cell? a = some u) (h' : w.cell? b = some v) : Up w w.drew ∧ w.drew.cell? a = some u ∧ w.drew.cell? b = some v := ⟨(Up.refl _).drew, h, h'⟩
theorem k2_step {w w1 w2 : World} {a b : Addr} {u v : Value} (h : Up w w1 ∧ w1.cell? a = some u ∧ w1.cell? b = some v) (k : Up w1 w2) : Up w w2 ∧ w2.cell? a = some u ∧ w2.cell? b = some v := ⟨h.1.trans k, k.cell h.2.1, k.cell h.2.2⟩
theorem k0_start (w : World) : Up w w.drew := (Up.refl _).drew
theorem ret3_i {k l j : IntKind} {a b c d x y : Int} (h : a = b) (h' : c = d) (h'' : x = y) : Ending.returned (.tuple #[.int k a, .int l c, .int j x]) = .returned (.tuple #[.int k b, .int l d, .int j y]) := by rw [h, h', h'']
theorem Calls.qs {P : Program} {f : FuncId} {args : Array Value} {w : World} {n : Nat} {v : Value} (h : Calls P f args (w.drewN n) fun e w' => e = .returned v ∧ w.drewN n = w') :
    Calls P f args (w.drewN n) fun e w'' => e = .returned v ∧ ∃ m, w'' = w.drewN m := h.mono fun _ _ ⟨he, hm⟩ => ⟨he, n, hm.symm⟩
/-- As the shelf's contracts say it: draws, and new blocks behind. -/
theorem Up.grow {w w' : World} (h : Up w w') : ∃ q os, w' = Go.Sort.grow (w.drewN q) os := by
  refine ⟨w'.drawn - w.drawn, w'.heap.extract w.heap.size w'.heap.size, ?_⟩
  have hd := h.drawn
  obtain ⟨⟨h1, h2, h3, h4, h5⟩, _⟩ := h
  have e : w'.heap = w.heap ++ w'.heap.extract w.heap.size w'.heap.size := by
    apply Array.ext_getElem?
    intro i
    by_cases hi : i < w.heap.size
    · rw [h5 i hi, Array.getElem?_append_left hi]
    · rw [Array.getElem?_append_right (by omega), Array.getElem?_extract]
      by_cases hj : i < w'.heap.size
      · rw [if_pos (by omega)]; congr 1; omega
      · rw [if_neg (by omega), Array.getElem?_eq_none (by omega)]
  have e2 : w'.drawn = w.drawn + (w'.drawn - w.drawn) := by omega
  obtain ⟨hp, tp, dr, o, ou⟩ := w'
  simp only at h1 h2 h3 e e2
  subst h1 h2 h3
  show _ = World.mk (w.heap ++ hp.extract w.heap.size hp.size) w.tape (w.drawn + (dr - w.drawn)) w.os w.output
  rw [← e, ← e2]
theorem Up.of_grow {w : World} (q : Nat) (os : Array Obj) : Up w (Go.Sort.grow (w.drewN q) os) :=
  ⟨⟨rfl, rfl, rfl, by simp [Go.Sort.grow], fun i hi => by
    show ((w.drewN q).heap ++ os)[i]? = _
    rw [Array.getElem?_append_left (by show i < w.heap.size; omega)]
    rfl⟩, Nat.le_add_right _ _⟩
end Go.Proofs.YtopbbcbpanfigaaGreatDoor
