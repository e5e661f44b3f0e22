/-
  A REGION THAT DRAWS ITS ORDER, BY WHAT HOLDS BETWEEN ITS OPERATIONS: each operation is looked at once, whatever has come up ahead of it.
-/
import Derived.OrdersHeld
import Derived.Deep.RegionHeld
import Derived.Test.YtcdkeiolblifkaaDoorRunBlk
namespace Go.Proofs.YtcdkeiolblifkaaDoor
open Go.RowKit
def cntF (l : List Bool) : Nat := l.count false
theorem cntF_set : ∀ (l : List Bool) (i : Nat), l[i]? = some false → cntF (l.set i true) + 1 = cntF l
  | [], i, h => by simp at h
  | x :: l, 0, h => by
    simp at h
    subst h
    simp [cntF]
  | x :: l, i + 1, h => by
    have := cntF_set l i (by simpa using h)
    simp only [cntF, List.set_cons_succ, List.count_cons] at this ⊢
    omega
theorem getD_false {l : Array Bool} {i : Nat} (h : l.getD i true = false) : l.toList[i]? = some false := by
  rcases Nat.lt_or_ge i l.size with h' | h'
  · simp [h'] at h ⊢; exact h
  · simp [h'] at h
theorem cntF_pos {l : List Bool} {i : Nat} (h : l[i]? = some false) : 0 < cntF l := by
  have := cntF_set l i h
  omega
theorem region_inv_any {P : Program} {ops : Array Oper} {Q : Exit → Act → World → Prop} (J : Array Bool → Act → World → Prop)
    (hs : ∀ l a w i, J l a w → l.getD i true = false → (∀ o, ops[i]? = some o → ∀ e ∈ o.after, Region.binds .any e = true → l.getD e.on false = true) → i < ops.size → wpOp P ops Q i (fun a' w' => J (l.setIfInBounds i true) a' w') a w)
    (hq : ∀ l a w, J l a w → (∀ i o, ops[i]? = some o → l.getD i true = false → ¬ ∀ e ∈ o.after, Region.binds .any e = true → l.getD e.on false = true) → Q .normal a w) :
    ∀ (fuel : Nat) (l : Array Bool) (a : Act) (w : World), J l a w → cntF l.toList ≤ fuel → wpAny P .any ops Q fuel l a w := by
  have fin : ∀ l a w, J l a w → Region.ready .any ops l = [] → Q .normal a w := fun l a w hJ hr =>
    hq l a w hJ fun i o ho hf hall => by
      have := mem_ready (md := .any) (ops := ops) (listed := l) (j := i) |>.2 ⟨hf, o, ho, hall⟩
      rw [hr] at this
      cases this
  intro fuel
  induction fuel with
  | zero =>
    intro l a w hJ hc
    have hr : Region.ready .any ops l = [] := List.eq_nil_iff_forall_not_mem.2 fun i hi => by
      have := cntF_pos (getD_false (mem_ready.1 hi).1)
      omega
    exact ⟨hr, fin l a w hJ hr⟩
  | succ fuel ih =>
    intro l a w hJ hc
    refine ⟨fin l a w hJ, fun i hi => ?_⟩
    obtain ⟨h0, o, ho, hall⟩ := mem_ready.1 hi
    refine wpOp_mono (fun a' w' hJ' => ih _ a' w' hJ' ?_) (hs l a w i hJ h0 (fun o' ho' => ?_) (Array.getElem?_eq_some_iff.1 ho).1)
    · have := cntF_set l.toList i (getD_false h0)
      simp only [Array.toList_setIfInBounds]
      omega
    · obtain rfl := Option.some.inj (ho.symm.trans ho')
      exact hall
theorem region_inv {P : Program} {ops : Array Oper} {Q : Exit → Act → World → Prop} {id : Nat} {a : Act} {w : World} (J : Act → Array Bool → Act → World → Prop)
    (hm : P.follows .mixedOrders = true) (h0 : J a (Array.replicate ops.size false) a w.drew)
    (hs : ∀ l a' w i, J a l a' w → l.getD i true = false → (∀ o, ops[i]? = some o → ∀ e ∈ o.after, Region.binds .any e = true → l.getD e.on false = true) → i < ops.size → wpOp P ops Q i (fun a'' w' => J a (l.setIfInBounds i true) a'' w') a' w)
    (hq : ∀ l a' w, J a l a' w → (∀ i o, ops[i]? = some o → l.getD i true = false → ¬ ∀ e ∈ o.after, Region.binds .any e = true → l.getD e.on false = true) → Q .normal a' w) :
    (Code.region id ops true).wp P Q a w := by
  refine wp_region_any hm (region_inv_any (J a) hs hq ops.size _ a _ h0 ?_)
  have : ∀ n, cntF (List.replicate n false) ≤ n := fun n => by simp [cntF]
  simpa using this ops.size
theorem cell_far2 {w : World} {B n j i1 i2 : Nat} {u v0 v1 : Value} (hn : n ≠ B) (h : w.cell? ⟨n, j, none⟩ = some u) :
    ((w.setCell ⟨B, i1, none⟩ v0).setCell ⟨B, i2, none⟩ v1).cell? ⟨n, j, none⟩ = some u := by
  have hx : ∀ (w : World) i v, w.cell? ⟨n, j, none⟩ = some u → (w.setCell ⟨B, i, none⟩ v).cell? ⟨n, j, none⟩ = some u := fun w i v hu => by
    rw [World.cell?_setCell_other _ _ _ _ (fun e => hn (by simpa using (congrArg Addr.block e).symm))]; exact hu
  exact hx _ _ _ (hx _ _ _ h)
theorem C4.fill01 {w : World} {B : Nat} {z0 z1 z2 z3 : Value} (h : C4 w B z0 z1 z2 z3) (v0 v1 : Value) : C4 ((w.setCell ⟨B, 0, none⟩ v0).setCell ⟨B, 1, none⟩ v1) B v0 v1 z2 z3 := by
  have h0 := h.c0; have h1 := h.c1; have h2 := h.c2; have h3 := h.c3
  refine ⟨?_, ?_, ?_, ?_, by simpa using h.f0, by simpa using h.f1, by simpa using h.f2, by simpa using h.f3, by simpa using h.lt⟩ <;> simp [go_sem, h0, h1, h2, h3]
theorem C4.fill23 {w : World} {B : Nat} {z0 z1 z2 z3 : Value} (h : C4 w B z0 z1 z2 z3) (v2 v3 : Value) : C4 ((w.setCell ⟨B, 2, none⟩ v2).setCell ⟨B, 3, none⟩ v3) B z0 z1 v2 v3 := by
  have h0 := h.c0; have h1 := h.c1; have h2 := h.c2; have h3 := h.c3
  refine ⟨?_, ?_, ?_, ?_, by simpa using h.f0, by simpa using h.f1, by simpa using h.f2, by simpa using h.f3, by simpa using h.lt⟩ <;> simp [go_sem, h0, h1, h2, h3]
theorem cell_far4 {w : World} {B n j : Nat} {u v0 v1 v2 v3 : Value} (hn : n ≠ B) (h : w.cell? ⟨n, j, none⟩ = some u) :
    ((((w.setCell ⟨B, 0, none⟩ v0).setCell ⟨B, 1, none⟩ v1).setCell ⟨B, 2, none⟩ v2).setCell ⟨B, 3, none⟩ v3).cell? ⟨n, j, none⟩ = some u := by
  have hx : ∀ (w : World) i v, w.cell? ⟨n, j, none⟩ = some u → (w.setCell ⟨B, i, none⟩ v).cell? ⟨n, j, none⟩ = some u := fun w i v hu => by
    rw [World.cell?_setCell_other _ _ _ _ (fun e => hn (by simpa using (congrArg Addr.block e).symm))]; exact hu
  exact hx _ _ _ (hx _ _ _ (hx _ _ _ (hx _ _ _ h)))
/-- A block of a region's own: made ('al'), written ('st'). -/
def Bl (L : Nat) (w : World) (al st : Bool) (x v0 v1 v2 v3 : Value) : Prop :=
  al = true → ∃ B, x = .pointer (some ⟨B, 0, none⟩) ∧ L ≤ B ∧ (st = false → C4 w B (.int .i8 0) (.int .i64 0) (.int .i8 0) (.int .i64 0)) ∧ (st = true → C4 w B v0 v1 v2 v3)
theorem Bl.no {L : Nat} {w : World} {st : Bool} {x v0 v1 v2 v3 : Value} : Bl L w false st x v0 v1 v2 v3 := fun h => by cases h
theorem Bl.dn {L : Nat} {w w' : World} {al st : Bool} {x v0 v1 v2 v3 : Value} (h : Bl L w al st x v0 v1 v2 v3) (q : Dn w w') : Bl L w' al st x v0 v1 v2 v3 := fun ha => by
  obtain ⟨B, h1, h2, h3, h4⟩ := h ha
  exact ⟨B, h1, h2, fun k => (h3 k).dn q, fun k => (h4 k).dn q⟩
theorem Bl.new {L : Nat} {w : World} {v0 v1 v2 v3 : Value} (h : L ≤ w.heap.size) (t : TypeId) :
    Bl L (w.alloc (.cells #[.int .i8 0, .int .i64 0, .int .i8 0, .int .i64 0] t)) true false (.pointer (some ⟨w.heap.size, 0, none⟩)) v0 v1 v2 v3 :=
  fun _ => ⟨_, rfl, h, fun _ => C4.new _ _ _ _ _ _, fun k => by cases k⟩
def Ap (al bl : Bool) (x y : Value) : Prop := al = true → bl = true → x ≠ y
theorem Ap.nol {bl : Bool} {x y : Value} : Ap false bl x y := fun h => by cases h
theorem Ap.nor {al : Bool} {x y : Value} : Ap al false x y := fun _ h => by cases h
/-- A new block is another than those that are there. -/
theorem Bl.ap {L : Nat} {w : World} {al st bl : Bool} {x v0 v1 v2 v3 : Value} (h : Bl L w al st x v0 v1 v2 v3) : Ap al bl x (.pointer (some ⟨w.heap.size, 0, none⟩)) := fun ha _ e => by
  obtain ⟨B, rfl, h2, h3, h4⟩ := h ha
  have : B = w.heap.size := by simpa using e
  cases st
  · have := (h3 rfl).lt; omega
  · have := (h4 rfl).lt; omega
theorem Ap.symm {al bl : Bool} {x y : Value} (h : Ap al bl x y) : Ap bl al y x := fun ha hb e => h hb ha e.symm
/-- Another block's four cells are written. -/
theorem Bl.far {L : Nat} {w : World} {al st : Bool} {x v0 v1 v2 v3 : Value} (h : Bl L w al st x v0 v1 v2 v3) {B : Nat} (ha : Ap true al (.pointer (some ⟨B, 0, none⟩)) x) (u0 u1 u2 u3 : Value) :
    Bl L ((((w.setCell ⟨B, 0, none⟩ u0).setCell ⟨B, 1, none⟩ u1).setCell ⟨B, 2, none⟩ u2).setCell ⟨B, 3, none⟩ u3) al st x v0 v1 v2 v3 := fun k => by
  obtain ⟨B', rfl, h2, h3, h4⟩ := h k
  have hn : B' ≠ B := fun e => ha rfl k (by rw [e])
  exact ⟨B', rfl, h2, fun k => (h3 k).far4 hn _ _ _ _, fun k => (h4 k).far4 hn _ _ _ _⟩
end Go.Proofs.YtcdkeiolblifkaaDoor
