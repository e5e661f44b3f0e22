/- Walks and laws that the claim's theorem leans on: part 2. -/
import Derived.Test.YteodjglbpfmikaaGreatDoorZUn1
import Derived.OwnWalk
import Derived.Laws.OwnMore
import Derived.Outline
import Derived.Deep.QuietTactic
import Derived.BigQuiet
import Derived.Deep.RegionWith
import Derived.Laws.MakeOwn
import Derived.IntWalk
import Derived.Test.YteodjglbpfmikaaGreatDoorShInts
import Derived.Laws.BytesArg
import Derived.Deep.DeepCutAuto
import Derived.Deep.RegionLaw
import Derived.Lib.Strings
import Derived.Lib.SmallJoins
import Derived.Lib.ItoaLen
import Derived.Defers
import Derived.Recover
namespace Go.Proofs.YteodjglbpfmikaaGreatDoor
open Go.RowKit
structure Dn (w w' : World) : Prop where
 below : Below w.heap.size w w'
theorem Dn.refl (a : World) : Dn a a := ⟨Below.refl _ _⟩
theorem Dn.size {a b : World} (h : Dn a b) : a.heap.size ≤ b.heap.size := h.below.size
theorem Dn.trans {a b c : World} (h : Dn a b) (k : Dn b c) : Dn a c := ⟨h.below.trans (k.below.mono h.below.size)⟩
theorem Dn.drew {a b : World} (h : Dn a b) : Dn a b.drew := ⟨h.below.drew⟩
theorem Dn.drewN {a b : World} (h : Dn a b) (n : Nat) : Dn a (b.drewN n) := ⟨h.below.trans ⟨rfl, rfl, rfl, Nat.le_refl _, fun _ _ => rfl⟩⟩
theorem Dn.alloc {a b : World} (h : Dn a b) (o : Obj) : Dn a (b.alloc o) := ⟨h.below.alloc h.below.size o⟩
theorem Dn.setCell {a b : World} (h : Dn a b) {p : Addr} (hp : a.heap.size ≤ p.block) (u : Value) : Dn a (b.setCell p u) := ⟨h.below.setCell hp u⟩
theorem Dn.cell {w w' : World} {a : Addr} {v : Value} (hb : Dn w w') (h : w.cell? a = some v) : w'.cell? a = some v := cell_below hb.below h
theorem Dn.frozen {w w' : World} {a : Addr} (hb : Dn w w') (ha : a.block < w.heap.size) : w'.frozen? a = w.frozen? a := hb.below.frozen ha
theorem Up.dn {a b : World} (h : Up a b) : Dn a b := ⟨h.below⟩
theorem Dn.up {a b c : World} (h : Dn a b) (k : Up b c) : Dn a c := h.trans k.dn
theorem Dn.grown {w w1 w2 : World} {row : Option Nat} (h : Dn w w1) (hg : w1.grownBy w2 row) (hr : ∀ k, row = some k → w.heap.size ≤ k) : Dn w w2 :=
 ⟨h.below.trans ⟨hg.os, hg.tape, hg.output, hg.size, fun i hi => hg.block i (by have := h.size; omega) (fun e => by have := hr i e.symm; omega)⟩⟩
theorem max_len : maxLen ≤ 9223372036854775807 := by decide +kernel
def SlD (w : World) (s : Value) (l : List Int) : Prop :=
 ∃ p cap, s = .slice p l.length cap ∧ l.length ≤ cap ∧ cap ≤ maxLen ∧ ∀ (j : Nat) (x : Int), l[j]? = some x → ∃ g, p = some ⟨g, 0, none⟩ ∧ w.cell? ⟨g, j, none⟩ = some (.int .u8 x)
theorem SlD.dn {w w' : World} {s : Value} {l : List Int} (h : SlD w s l) (k : Dn w w') : SlD w' s l := by
 obtain ⟨p, cap, h1, h2, h3, h4⟩ := h
 exact ⟨p, cap, h1, h2, h3, fun j x hx => by obtain ⟨g, hg, hc⟩ := h4 j x hx; exact ⟨g, hg, k.cell hc⟩⟩
theorem SlD.form {w : World} {s : Value} {l : List Int} (h : SlD w s l) : ∃ p n cap, s = .slice p n cap := by
 obtain ⟨p, cap, h1, _⟩ := h
 exact ⟨p, _, cap, h1⟩
theorem SlD.nil (w : World) : SlD w (.slice none 0 0) [] := ⟨none, 0, rfl, by simp, by simp, by simp⟩
theorem SlD.take {w : World} {p : Option Addr} {n cap : Nat} {l : List Int} (h : SlD w (.slice p n cap) l) (k : Nat) (hk : k ≤ l.length) : SlD w (.slice p k cap) (l.take k) := by
 obtain ⟨p', cap', h1, h2, h3, h4⟩ := h
 injection h1 with e1 e2 e3
 subst e1 e3
 refine ⟨p, cap, by rw [List.length_take, Nat.min_eq_left hk], by rw [List.length_take]; omega, h3, fun j x hx => h4 j x ?_⟩
 rw [List.getElem?_take] at hx
 split at hx
 · exact hx
 · cases hx
theorem SlD.of_own {w : World} {base E n : Nat} {v : Value} {l : List Int} (h : w.ownsRow base E 1 v n (l.map (Value.int .u8))) (hn : n = l.length) : SlD w v l := by
 subst hn
 rcases h.2 with ⟨rfl, hn⟩ | ⟨g, cap, cur, rfl, _, hg, h1, h2, h3, h4⟩
 · have := List.length_eq_zero_iff.1 hn
   subst this
   exact SlD.nil w
 · have hcs := h.cells (g := g) rfl
   refine ⟨_, cap, rfl, h1, h2, fun j x hx => ⟨g, rfl, ?_⟩⟩
   have := hcs j (.int .u8 x) (by simp [hx])
   have hadd : (⟨g, 0, none⟩ : Addr).add j = ⟨g, j, none⟩ := by unfold Addr.add; split <;> simp_all
   rwa [hadd] at this
structure NBlk (w : World) (B : Nat) (b : Bool) (s : Value) : Prop where
 c0 : w.cell? ⟨B, 0, none⟩ = some (.bool b)
 c1 : w.cell? ⟨B, 1, none⟩ = some s
 f0 : w.frozen? ⟨B, 0, none⟩ = false
 f1 : w.frozen? ⟨B, 1, none⟩ = false
 lt : B < w.heap.size
theorem NBlk.new (w : World) (b : Bool) (s : Value) (t : TypeId) : NBlk (w.alloc (.cells #[.bool b, s] t)) w.heap.size b s :=
 ⟨by simp, by simp, by simp [go_sem], by simp [go_sem], by simp⟩
theorem NBlk.dn {w w' : World} {B : Nat} {b : Bool} {s : Value} (h : NBlk w B b s) (k : Dn w w') : NBlk w' B b s :=
 ⟨k.cell h.c0, k.cell h.c1, (k.frozen (a := ⟨B, 0, none⟩) h.lt).trans h.f0, (k.frozen (a := ⟨B, 1, none⟩) h.lt).trans h.f1, Nat.lt_of_lt_of_le h.lt k.size⟩
theorem NBlk.set1 {w : World} {B : Nat} {b : Bool} {s : Value} (h : NBlk w B b s) (u : Value) : NBlk (w.setCell ⟨B, 1, none⟩ u) B b u := by
 refine ⟨?_, World.cell?_setCell_same _ _ _ h.c1, by simp [go_sem]; exact h.f0, by simp [go_sem]; exact h.f1, by simpa using h.lt⟩
 rw [World.cell?_setCell_other _ _ _ _ (fun e => by simp at e)]
 exact h.c0
theorem NBlk.set0 {w : World} {B : Nat} {b : Bool} {s : Value} (h : NBlk w B b s) (u : Bool) : NBlk (w.setCell ⟨B, 0, none⟩ (.bool u)) B u s := by
 refine ⟨World.cell?_setCell_same _ _ _ h.c0, ?_, by simp [go_sem]; exact h.f0, by simp [go_sem]; exact h.f1, by simpa using h.lt⟩
 rw [World.cell?_setCell_other _ _ _ _ (fun e => by simp at e)]
 exact h.c1
theorem NBlk.far {w : World} {B : Nat} {b : Bool} {s : Value} (h : NBlk w B b s) {p : Addr} (hp : p.block ≠ B) (u : Value) : NBlk (w.setCell p u) B b s := by
 refine ⟨?_, ?_, by simp [go_sem]; exact h.f0, by simp [go_sem]; exact h.f1, by simpa using h.lt⟩
 · rw [World.cell?_setCell_other _ _ _ _ (fun e => by subst e; simp at hp)]
   exact h.c0
 · rw [World.cell?_setCell_other _ _ _ _ (fun e => by subst e; simp at hp)]
   exact h.c1
theorem NBlk.kept {w w' : World} {B : Nat} {b : Bool} {s : Value} {row : Option Nat} (h : NBlk w B b s) (hg : w.grownBy w' row) (hne : row ≠ some B) : NBlk w' B b s := by
 have hb := hg.block B h.lt (fun e => hne e.symm)
 refine ⟨?_, ?_, ?_, ?_, Nat.lt_of_lt_of_le h.lt hg.size⟩
 · rw [World.cell?_of_block hb]; exact h.c0
 · rw [World.cell?_of_block hb]; exact h.c1
 · have := h.f0; simp only [World.frozen?] at this ⊢; rw [hb]; exact this
 · have := h.f1; simp only [World.frozen?] at this ⊢; rw [hb]; exact this
def sg (b : Bool) (n : Int) : Int := if b then -n else n
def IsN (w : World) (v : Value) (x : Int) : Prop := ∃ s, v = .agg #[.bool (decide (x < 0)), s] ∧ SlD w s (Dg.dl x.natAbs)
theorem IsN.form {w : World} {v : Value} {x : Int} (h : IsN w v x) : ∃ p n cap, v = .agg #[.bool (decide (x < 0)), .slice p n cap] ∧ SlD w (.slice p n cap) (Dg.dl x.natAbs) := by
 obtain ⟨s, h1, h2⟩ := h
 obtain ⟨p, n, cap, rfl⟩ := SlD.form h2
 exact ⟨p, n, cap, h1, h2⟩
theorem IsN.dn {w w' : World} {v : Value} {x : Int} (h : IsN w v x) (k : Dn w w') : IsN w' v x := by
 obtain ⟨s, h1, h2⟩ := h
 exact ⟨s, h1, h2.dn k⟩
def setN (w : World) (B : Nat) (b : Bool) (s : Value) : World := (w.setCell ⟨B, 0, none⟩ (.bool b)).setCell ⟨B, 1, none⟩ s
theorem NBlk.put {w : World} {B : Nat} {b : Bool} {s : Value} (h : NBlk w B b s) (b' : Bool) (s' : Value) : NBlk (setN w B b' s') B b' s' := (h.set0 b').set1 s'
theorem NBlk.new1 (w : World) (o : Obj) (b : Bool) (s : Value) (t : TypeId) : NBlk ((w.alloc o).alloc (.cells #[.bool b, s] t)) (w.heap.size + 1) b s := by
 have h := NBlk.new (w.alloc o) b s t
 simpa using h
theorem SlD.far {w : World} {p : Option Addr} {n cap B i : Nat} {l : List Int} (h : SlD w (.slice p n cap) l) (hp : ∀ g, p = some ⟨g, 0, none⟩ → g ≠ B) (u : Value) : SlD (w.setCell ⟨B, i, none⟩ u) (.slice p n cap) l := by
 obtain ⟨p', cap', he, h1, h2, h3⟩ := h
 refine ⟨p', cap', he, h1, h2, fun j x hx => ?_⟩
 obtain ⟨g, hg, hc⟩ := h3 j x hx
 injection he with e1 e2 e3
 have hne := hp g (e1.trans hg)
 exact ⟨g, hg, by rw [World.cell?_setCell_other _ _ _ _ (fun e => hne (congrArg Addr.block e).symm)]; exact hc⟩
theorem grown_trans {a b c : World} {row : Option Nat} (h : a.grownBy b row) (k : b.grownBy c row) : a.grownBy c row :=
 ⟨k.os.trans h.os, k.tape.trans h.tape, k.output.trans h.output, Nat.le_trans h.size k.size, fun i hi hne => (k.block i (Nat.lt_of_lt_of_le hi h.size) hne).trans (h.block i hi hne)⟩
theorem grown_dn {a b : World} (h : Dn a b) (row : Option Nat) : a.grownBy b row := ⟨h.below.os, h.below.tape, h.below.output, h.size, fun i hi _ => h.below.block i hi⟩
theorem grown_set (w : World) (p : Addr) (u : Value) : w.grownBy (w.setCell p u) (some p.block) :=
 ⟨rfl, rfl, rfl, by simp, fun i _ hne => Below.heap_setCell w p u i (fun e => hne (by rw [e]))⟩
structure OwnD (w : World) (base : Nat) (v : Value) (l : List Int) : Prop where
 own : w.ownsRow base 5 1 v l.length (l.map (Value.int .u8))
theorem OwnD.nil (w : World) (base : Nat) : OwnD w base (.slice none 0 0) [] := ⟨World.ownsRow_nil _ _ _ _⟩
theorem OwnD.kept {w w' : World} {base : Nat} {v : Value} {l : List Int} {row : Option Nat} (h : OwnD w base v l) (hg : w.grownBy w' row) (hr : ∀ k, row = some k → k < base) : OwnD w' base v l :=
 ⟨h.own.kept hg (by
  cases hv : v.ownBlock with
  | none => exact Or.inl rfl
  | some g =>
    right
    intro e
    have := (h.own.lt g hv).1
    have := hr g e.symm
    omega)⟩
theorem OwnD.dn {w w' : World} {base : Nat} {v : Value} {l : List Int} (h : OwnD w base v l) (k : Dn w w') : OwnD w' base v l := h.kept (grown_dn k none) (fun _ e => by cases e)
theorem OwnD.far {w : World} {base : Nat} {v : Value} {l : List Int} (h : OwnD w base v l) {p : Addr} (hp : p.block < base) (u : Value) : OwnD (w.setCell p u) base v l :=
 h.kept (grown_set w p u) (fun k e => by cases e; exact hp)
theorem OwnD.sl {w : World} {base : Nat} {v : Value} {l : List Int} (h : OwnD w base v l) : SlD w v l := SlD.of_own h.own rfl
theorem OwnD.form {w : World} {base : Nat} {v : Value} {l : List Int} (h : OwnD w base v l) : ∃ p cap, v = .slice p l.length cap ∧ ∀ g, p = some ⟨g, 0, none⟩ → base ≤ g := by
 obtain ⟨p, cap, e, _⟩ := h.sl
 refine ⟨p, cap, e, fun g hg => ?_⟩
 subst e hg
 exact (h.own.lt g rfl).1
theorem OwnD.row {w : World} {base : Nat} {v : Value} {l : List Int} (h : OwnD w base v l) : ∀ k, v.ownBlock = some k → base ≤ k := fun k hk => (h.own.lt k hk).1
theorem dl_i64 (n : Nat) (h : n ≤ 9223372036854775808) : (Dg.dl n).length ≤ 19 := by
 refine Dg.dl_len ?_
 have : Dg.p10 19 = 10000000000000000000 := by decide
 omega
structure OfRel (w : World) (n0 : Int) (mv : Value) (wr : World) (m : Int) (L : List Int) (v : Value) : Prop where
 mv : mv = .int .i64 m
 lo : -9223372036854775808 ≤ m
 hi : m ≤ 9223372036854775807
 dg : Dg.dl n0.natAbs = L ++ Dg.dl m.natAbs
 sgn : m ≠ 0 → decide (m < 0) = decide (n0 < 0)
 own : OwnD wr (w.heap.size + 1 + 1) v L
 x : NBlk wr (w.heap.size + 1) (decide (n0 < 0)) v
 r : NBlk wr w.heap.size false (.slice none 0 0)
 dn : Dn w wr
theorem OfRel.len {w : World} {n0 m : Int} {mv v : Value} {wr : World} {L : List Int} (h : OfRel w n0 mv wr m L v) (hn : n0.natAbs ≤ 9223372036854775808) : L.length ≤ 19 := by
 have e := congrArg List.length h.dg
 have := dl_i64 _ hn
 rw [List.length_append] at e
 omega
theorem OfRel.next {w : World} {n0 m m' d : Int} {mv v v' : Value} {wr w' : World} {L : List Int} (h : OfRel w n0 mv wr m L v) (hlo : -9223372036854775808 ≤ m') (hhi : m' ≤ 9223372036854775807) (hs : m' ≠ 0 → decide (m' < 0) = decide (n0 < 0))
   (hd : Dg.dl m.natAbs = d :: Dg.dl m'.natAbs) (hown : OwnD w' (w.heap.size + 1 + 1) v' (L ++ [d])) (hg : wr.grownBy w' v.ownBlock) : OfRel w n0 (.int .i64 m') (w'.setCell ⟨w.heap.size + 1, 1, none⟩ v') m' (L ++ [d]) v' := by
 have hb := h.own.row
 refine ⟨rfl, hlo, hhi, by rw [h.dg, hd]; simp, hs, hown.far (by simp) _, (h.x.kept hg ?_).set1 _, (h.r.kept hg ?_).far (by simp) _, (h.dn.grown hg ?_).setCell (by simp) _⟩
 · intro e; have := hb _ e; omega
 · intro e; have := hb _ e; omega
 · intro k e; have := hb _ e; omega
theorem SlD.drewN {w : World} {s : Value} {l : List Int} (h : SlD w s l) (n : Nat) : SlD (w.drewN n) s l := h.dn ((Dn.refl _).drewN n)
theorem drop_dig (l : List Int) (m : Nat) (h : m < l.length) : l.drop m = Dg.dig l m :: l.drop (m + 1) := by
 rw [List.drop_eq_getElem_cons h]; simp [Dg.dig, List.getD, h]
structure AddRel (w : World) (ba bb : Bool) (sa sb : Value) (wr : World) (v : Value) (L : List Int) : Prop where
 own : OwnD wr (w.heap.size + 1 + 1 + 1 + 1) v L
 a : NBlk wr w.heap.size ba sa
 b : NBlk wr (w.heap.size + 1) bb sb
 r : NBlk wr (w.heap.size + 1 + 1) false (.slice none 0 0)
 o : NBlk wr (w.heap.size + 1 + 1 + 1) ba v
 dn : Dn w wr
theorem AddRel.push {w : World} {ba bb : Bool} {sa sb : Value} {wr w' : World} {v v' : Value} {L L' : List Int} (h : AddRel w ba bb sa sb wr v L) (hown : OwnD w' (w.heap.size + 1 + 1 + 1 + 1) v' L') (hg : wr.grownBy w' v.ownBlock) :
   AddRel w ba bb sa sb (w'.setCell ⟨w.heap.size + 1 + 1 + 1, 1, none⟩ v') v' L' := by
 have hb := h.own.row
 refine ⟨hown.far (by simp) _, (h.a.kept hg ?_).far (by simp; omega) _, (h.b.kept hg ?_).far (by simp; omega) _, (h.r.kept hg ?_).far (by simp) _, (h.o.kept hg ?_).set1 _, (h.dn.grown hg ?_).setCell (by simp; omega) _⟩
 · intro e; have := hb _ e; omega
 · intro e; have := hb _ e; omega
 · intro e; have := hb _ e; omega
 · intro e; have := hb _ e; omega
 · intro k e; have := hb _ e; omega
theorem NBlk.drewN {w : World} {B : Nat} {b : Bool} {s : Value} (h : NBlk w B b s) (n : Nat) : NBlk (w.drewN n) B b s := h.dn ((Dn.refl _).drewN n)
theorem AddRel.drewN {w : World} {ba bb : Bool} {sa sb : Value} {wr : World} {v : Value} {L : List Int} (h : AddRel w ba bb sa sb wr v L) (n : Nat) : AddRel w ba bb sa sb (wr.drewN n) v L :=
 ⟨h.own.dn ((Dn.refl _).drewN n), h.a.drewN n, h.b.drewN n, h.r.drewN n, h.o.drewN n, h.dn.drewN n⟩
theorem NBlk.new2 (w : World) (o o' : Obj) (b : Bool) (s : Value) (t : TypeId) : NBlk (((w.alloc o).alloc o').alloc (.cells #[.bool b, s] t)) (w.heap.size + 1 + 1) b s := by
 have h := NBlk.new1 (w.alloc o) o' b s t
 simpa using h
theorem NBlk.alloc {w : World} {B : Nat} {b : Bool} {s : Value} (h : NBlk w B b s) (o : Obj) : NBlk (w.alloc o) B b s := h.dn ((Dn.refl _).alloc o)
theorem SlD.len {w : World} {p : Option Addr} {n cap : Nat} {l : List Int} (h : SlD w (.slice p n cap) l) : n = l.length ∧ n ≤ 9223372036854775807 := by
 obtain ⟨p', cap', e, h1, h2, _⟩ := h
 injection e with e1 e2 e3
 have := max_len
 omega
def sgn (z : Int) : Int := if z < 0 then -1 else if z = 0 then 0 else 1
theorem val_drop_dig (l : List Int) (m : Nat) (h : m < l.length) : Dg.val (l.drop m) = Dg.dig l m + 10 * Dg.val (l.drop (m + 1)) := by
 rw [drop_dig l m h, Dg.val]
structure IntRel (b : Bool) (l : List Int) (k : Nat) (N : Int) : Prop where
 hk : k ≤ l.length
 val : N = sg b (Dg.val (l.drop k))
theorem IntRel.step {b : Bool} {l : List Int} {m : Nat} {N : Int} (h : IntRel b l (m + 1) N) : IntRel b l m (sg b (Dg.dig l m + 10 * sg b N)) := by
 have hk := h.hk
 have hv := h.val
 refine ⟨by omega, ?_⟩
 subst hv
 rw [val_drop_dig l m (by omega)]
 unfold sg
 cases b <;> simp
structure MulRel (w : World) (ba bb nb : Bool) (sa sb : Value) (g Bo N : Nat) (wr : World) (O : List Int) : Prop where
 own : wr.ownsRow 0 5 1 (.slice (some ⟨g, 0, none⟩) N N) N (O.map (Value.int .u8))
 a : NBlk wr w.heap.size ba sa
 b : NBlk wr (w.heap.size + 1) bb sb
 r : NBlk wr (w.heap.size + 1 + 1) false (.slice none 0 0)
 o : NBlk wr Bo nb (.slice (some ⟨g, 0, none⟩) N N)
 dn : Dn w wr
 hg : w.heap.size + 1 + 1 < g
 hne : g ≠ Bo
 ho : w.heap.size + 1 + 1 < Bo
 len : O.length = N
theorem MulRel.set {w : World} {ba bb nb : Bool} {sa sb : Value} {g Bo N : Nat} {wr : World} {O : List Int} (h : MulRel w ba bb nb sa sb g Bo N wr O) (j : Nat) (d : Int) :
  MulRel w ba bb nb sa sb g Bo N (wr.setCell ⟨g, j, none⟩ (.int .u8 d)) (O.set j d) := by
 have h1 := h.hg
 have h2 := h.hne
 refine ⟨?_, h.a.far (by simp; omega) _, h.b.far (by simp; omega) _, h.r.far (by simp; omega) _, h.o.far (by simpa using h2) _, h.dn.setCell (by simp; omega) _, h.hg, h.hne, h.ho, by rw [List.length_set]; exact h.len⟩
 have := (h.own.stored j (.int .u8 d)).1
 rwa [← List.map_set] at this
theorem MulRel.drewN {w : World} {ba bb nb : Bool} {sa sb : Value} {g Bo N : Nat} {wr : World} {O : List Int} (h : MulRel w ba bb nb sa sb g Bo N wr O) (n : Nat) : MulRel w ba bb nb sa sb g Bo N (wr.drewN n) O :=
 ⟨h.own, h.a.drewN n, h.b.drewN n, h.r.drewN n, h.o.drewN n, h.dn.drewN n, h.hg, h.hne, h.ho, h.len⟩
theorem MulRel.cell {w : World} {ba bb nb : Bool} {sa sb : Value} {g Bo N : Nat} {wr : World} {O : List Int} (h : MulRel w ba bb nb sa sb g Bo N wr O) (j : Nat) (hj : j < N) :
  wr.cell? ⟨g, j, none⟩ = some (.int .u8 (Dg.dig O j)) ∧ wr.frozen? ⟨g, j, none⟩ = false := by
 refine ⟨?_, h.own.frozenAt j⟩
 rw [h.own.cellAt j (by omega), List.getElem?_map, Dg.dig_some (by rw [h.len]; exact hj)]
 rfl
theorem MulRel.sl {w : World} {ba bb nb : Bool} {sa sb : Value} {g Bo N : Nat} {wr : World} {O : List Int} (h : MulRel w ba bb nb sa sb g Bo N wr O) : SlD wr (.slice (some ⟨g, 0, none⟩) N N) O :=
 SlD.of_own h.own h.len.symm
structure OutRel (la lb : List Int) (i : Nat) (O : List Int) : Prop where
 dg : Dg.Digs O
 val : Dg.val O = Dg.val (la.take i) * Dg.val lb
 z : ∀ j, i + lb.length ≤ j → Dg.dig O j = 0
 len : O.length = la.length + lb.length + 1
theorem OutRel.next {la lb : List Int} {i k : Nat} {O : List Int} (h : OutRel la lb i O) (ha : Dg.Digs la) (hb : Dg.Digs lb) (hi : i < la.length) (h1 : lb.length ≤ k) (h2 : k ≤ lb.length + 1) (hc : (Dg.rowS O (Dg.dig la i) lb i k).2 = 0) : OutRel la lb (i + 1) (Dg.rowS O (Dg.dig la i) lb i k).1 := by
 obtain ⟨g1, g2, _⟩ := Dg.rowS_inv h.dg (Dg.dig_bd ha i) hb i k (by rw [h.len]; omega)
 obtain ⟨f1, f2⟩ := Dg.rowS_fin h.dg ha hb i k hi h.len h.z h.val h1 h2 hc
 exact ⟨g2, f2, f1, by rw [g1]; exact h.len⟩
theorem sub_cmp (a b : Int) (ha : I64 a) (hb : I64 b) :
   (I64 (a - b) → wrap64 (a - b) = a - b ∧ decide (a - b < a) = decide (0 < b)) ∧ (¬ I64 (a - b) → decide (wrap64 (a - b) < a) = !decide (0 < b)) := by
 obtain ⟨a1, a2⟩ := ha
 obtain ⟨b1, b2⟩ := hb
 constructor
 · rintro ⟨h1, h2⟩
   refine ⟨by unfold wrap64; omega, ?_⟩
   rw [Bool.eq_iff_iff]; simp only [decide_eq_true_eq]; omega
 · intro h
   unfold I64 at h
   rw [Bool.eq_iff_iff]; simp only [decide_eq_true_eq, Bool.not_eq_true', decide_eq_false_iff_not]
   unfold wrap64
   omega
theorem isub_fits (a b : Int) (w : World) (ha : I64 a) (hb : I64 b) (h : I64 (a - b)) :
   Calls Tryz.prog 72 #[.int .i64 a, .int .i64 b] w fun e w' => e = .returned (.tuple #[.int .i64 (a - b), .int .i64 0]) ∧ w = w' := by
 obtain ⟨h1, h2⟩ := (sub_cmp a b ha hb).1 h
 obtain ⟨k1, k2⟩ := h
 clear h1
 by_cases hb0 : 0 < b
 · have c1 : decide (0 < b) = true := by simpa using hb0
   have c2 : decide (a - b < a) = true := by simp; omega
   clear h2
   go_enter Tryz.func72, Tryz.ntmps72
   go_wp2_with fail
   go_ret2
   exact ⟨rfl, rfl⟩
 · have c1 : decide (0 < b) = false := by simpa using hb0
   have c2 : decide (a - b < a) = false := by simp; omega
   clear h2
   go_enter Tryz.func72, Tryz.ntmps72
   go_wp2_with fail
   go_ret2
   exact ⟨rfl, rfl⟩
theorem isub_over (a b : Int) (w : World) (ha : I64 a) (hb : I64 b) (h : ¬ I64 (a - b)) :
   Calls Tryz.prog 72 #[.int .i64 a, .int .i64 b] w fun e w' => e = .returned (.tuple #[.int .i64 0, .int .i64 15]) ∧ w = w' := by
 have h2 := (sub_cmp a b ha hb).2 h
 generalize hn : wrap64 (a - b) = n at *
 by_cases hb0 : 0 < b
 · have c1 : decide (0 < b) = true := by simpa using hb0
   have c2 : decide (n < a) = false := by rw [h2, c1]; rfl
   clear h2
   go_enter Tryz.func72, Tryz.ntmps72
   go_wp2_with fail
   go_ret2
   exact ⟨rfl, rfl⟩
 · have c1 : decide (0 < b) = false := by simpa using hb0
   have c2 : decide (n < a) = true := by rw [h2, c1]; rfl
   clear h2
   go_enter Tryz.func72, Tryz.ntmps72
   go_wp2_with fail
   go_ret2
   exact ⟨rfl, rfl⟩
set_option maxHeartbeats 1000000
structure DivM (a b q m : Int) : Prop where
 e : q * b + m = a
 p : 0 < b → 0 ≤ m ∧ m < b
 n : b < 0 → b < m ∧ m ≤ 0
theorem DivM.mono {a c b q m q' m' : Int} (h : DivM a b q m) (h' : DivM c b q' m') (hb : 0 < b) (hac : a ≤ c) : q ≤ q' := by
 have p1 := h.p hb
 have p2 := h'.p hb
 have e1 := h.e
 have e2 := h'.e
 by_cases hc : q ≤ q'
 · exact hc
 · have : (q' + 1) * b ≤ q * b := Int.mul_le_mul_of_nonneg_right (by omega) (by omega)
   rw [Int.add_mul] at this
   omega
theorem p10_18 (k : Nat) (h : k ≤ 18) : 1 ≤ Dg.p10 k ∧ Dg.p10 k ≤ 1000000000000000000 := by
 have h1 := Dg.p10_pos k
 have h2 := Dg.p10_mono h
 have h3 : Dg.p10 18 = 1000000000000000000 := by decide
 omega
theorem ipow_yes (n : Nat) (w : World) (h : n ≤ 18) :
  Calls Tryz.prog 168 #[.int .i64 (n : Int)] w fun e w' => e = .returned (.tuple #[.int .i64 (Dg.p10 n), .int .i64 0]) ∧ w = w' := by
 have c1 : decide ((n : Int) < 0) = false := by simp
 have c2 : decide (18 < (n : Int)) = false := by simp; omega
 go_enter Tryz.func168, Tryz.ntmps168
 go_wp2_with fail
 go_loop [4, 10] (fun pv kv => ∃ k : Nat, k ≤ n ∧ kv = .int .i64 k ∧ pv = .int .i64 (Dg.p10 k)) (fun _ kv => n - (intOf kv).toNat)
 case atStart => exact ⟨0, by omega, rfl, rfl⟩
 case round =>
  obtain ⟨k, hk, rfl, rfl⟩ := hrel
  by_cases hlt : k < n
  · have q1 : decide ((k : Int) < n) = true := by simp; omega
    obtain ⟨b1, b2⟩ := p10_18 (k + 1) (by omega)
    have hs : Dg.p10 (k + 1) = 10 * Dg.p10 k := rfl
    rw [hs] at b1 b2
    have HS := Lib.hid hs
    clear hs
    go_wp2
    go_round
    case rel => exact ⟨k + 1, by omega, by go_num, by rw [HS.out]; congr 1; omega⟩
    case measure => simp [intOf]; omega
  · obtain rfl : k = n := by omega
    have t1 : ¬ k < k := by omega
    go_wp2
    go_ret2
    exact ⟨rfl, rfl⟩
theorem SlD.at {w : World} {p : Option Addr} {n cap : Nat} {l : List Int} (h : SlD w (.slice p n cap) l) : ∀ (j : Nat) (x : Int), l[j]? = some x → ∃ g, p = some ⟨g, 0, none⟩ ∧ w.cell? ⟨g, j, none⟩ = some (.int .u8 x) := by
 obtain ⟨p', cap', he, h1, h2, h3⟩ := h
 simp only [Value.slice.injEq] at he
 obtain ⟨rfl, rfl, rfl⟩ := he
 exact h3
def isNeg (l : List UInt8) : Bool := l.head? == some 45
def dsOf (l : List UInt8) : List UInt8 := if isNeg l then l.drop 1 else l
def pOk (l : List UInt8) : Prop := dsOf l ≠ [] ∧ ¬ ((dsOf l).head? = some 48 ∧ 1 < l.length) ∧ ∀ c ∈ dsOf l, Dg.isD c
def rv (s : ByteArray) (k : Nat) : List Int := (s.data.toList.drop k).reverse.map Dg.dv
structure EnvI (w : World) : Prop where
 tab : Lib.TabIs Tryz.prog w "internal/strconv.uint64pow10" .u64 Lib.pow10Tab
theorem var_dn {w w' : World} {n : String} {cs : Array Value} (h : w.var? Tryz.prog n = some cs) (k : Dn w w') : w'.var? Tryz.prog n = some cs := by
 unfold World.var? at h ⊢
 cases hg : Tryz.prog.globalNamed n with
 | none => rw [hg] at h; simp at h
 | some g =>
   rw [hg] at h
   simp only [Option.bind_some] at h ⊢
   have hlt : g < w.heap.size := by
    rcases Nat.lt_or_ge g w.heap.size with hl | hl
    · exact hl
    · rw [Array.getElem?_eq_none hl] at h; simp at h
   rw [k.below.block g hlt]
   exact h
theorem EnvI.dn {w w' : World} (h : EnvI w) (k : Dn w w') : EnvI w' := ⟨var_dn h.tab k⟩
theorem EnvI.up {w w' : World} (h : EnvI w) (k : Up w w') : EnvI w' := h.dn k.dn
structure EnvJ (w : World) : Prop where
 tab : Lib.TabIs Tryz.prog w "internal/strconv.uint64pow10" .u64 Lib.pow10Tab
 er : ∃ tp p, w.var? Tryz.prog "strconv.ErrRange" = some #[.iface tp p]
theorem EnvJ.dn {w w' : World} (h : EnvJ w) (k : Dn w w') : EnvJ w' := by
 obtain ⟨tp, p, he⟩ := h.er
 exact ⟨var_dn h.tab k, tp, p, var_dn he k⟩
theorem EnvJ.up {w w' : World} (h : EnvJ w) (k : Up w w') : EnvJ w' := h.dn k.dn
theorem itext (n : Int) (w : World) (hn : I64 n) (hE : EnvI w) :
  Calls Tryz.prog 83 #[.int .i64 n] w fun e w' => e = .returned (.string ⟨(Lib.itoa n).toArray⟩) ∧ Up w w' := by
 have HF := Lib.hid (Tryz.strconv_FormatInt_10 n hn.1 hn.2 w hE.tab)
 clear hn hE
 go_enter Tryz.func83, Tryz.ntmps83
 go_wp2_with fail
 refine HF.out.mono ?_
 rintro e w1 ⟨rfl, k, os, rfl⟩
 go_wp2_with fail
 go_ret
 exact ⟨rfl, Up.of_grow k os⟩
instance decOk (l : List UInt8) : Decidable (pOk l) := by unfold pOk Dg.isD; infer_instance
theorem size_itoa (n : Int) (h : I64 n) : (⟨(Lib.itoa n).toArray⟩ : ByteArray).size ≤ 1000 := by
 have := Lib.itoa_length_le n h.1 h.2
 simp [ByteArray.size]; omega
def Fits (z s e : Int) : Prop := (I64 z ∧ s = z ∧ e = 0) ∨ (¬ I64 z ∧ s = 0 ∧ e = 15)
theorem Fits.i64 {z s e : Int} (h : Fits z s e) : I64 s := by
 rcases h with ⟨h, rfl, _⟩ | ⟨_, rfl, _⟩
 · exact h
 · decide
def Len (z : Int) : Prop := (Dg.dl z.natAbs).length ≤ 1000
theorem Len.of {z : Int} (h : z.natAbs ≤ 85070591730234615865843651857942052864) : Len z := by
 unfold Len
 refine Nat.le_trans (Dg.dl_len (k := 39) ?_) (by decide)
 have e : Dg.p10 39 = 1000000000000000000000000000000000000000 := by decide +kernel
 rw [e]; omega
theorem add_any (a b z s e : Int) (w : World) (ha : I64 a) (hb : I64 b) (hz : a + b = z) (hf : Fits z s e) :
   Calls Tryz.prog 41 #[.int .i64 a, .int .i64 b] w fun r w' => r = .returned (.tuple #[.int .i64 s, .int .i64 e]) ∧ Up w w' := by
 subst hz
 rcases hf with ⟨h, rfl, rfl⟩ | ⟨h, rfl, rfl⟩
 · exact add_fits a b w ha hb h
 · exact add_over a b w ha hb h
set_option maxHeartbeats 400000
def c3 (a b : Int) : Int := if a < b then -1 else if b < a then 1 else 0
def eC (i d j f : Int) : Int := if c3 i j ≠ 0 then c3 i j else c3 d f
def eOk (i d : Int) : Prop := i = 0 ∨ (i = 1 ∨ i = -1) ∧ d = 0
instance decEOk (i d : Int) : Decidable (eOk i d) := by unfold eOk; infer_instance
def eErr (i d : Int) : Int := if eOk i d then 0 else 5
theorem c3_lt {a b : Int} (h : a < b) : c3 a b = -1 := by unfold c3; rw [if_pos h]
theorem c3_gt {a b : Int} (h : b < a) : c3 a b = 1 := by unfold c3; rw [if_neg (by omega), if_pos h]
theorem c3_eq (a : Int) : c3 a a = 0 := by unfold c3; simp
theorem isNaN8 (a : Int) (w : World) : Calls Tryz.prog 112 #[.int .i8 a] w fun e w' => e = .returned (.bool false) ∧ w = w' := by
 go_enter Tryz.func112, Tryz.ntmps112
 go_wp2_with fail
 go_ret
 exact ⟨retb (by simp), rfl⟩
theorem isNaN64 (a : Int) (w : World) : Calls Tryz.prog 113 #[.int .i64 a] w fun e w' => e = .returned (.bool false) ∧ w = w' := by
 go_enter Tryz.func113, Tryz.ntmps113
 go_wp2_with fail
 go_ret
 exact ⟨retb (by simp), rfl⟩
theorem cmp8 (a b : Int) (w : World) : Calls Tryz.prog 55 #[.int .i8 a, .int .i8 b] w fun e w' => e = .returned (.int .i64 (c3 a b)) ∧ w = w' := by
 rcases Int.lt_trichotomy a b with h | h | h
 · have d1 : decide (a < b) = true := by simpa using h
   have HC := Lib.hid (c3_lt h)
   go_enter Tryz.func55, Tryz.ntmps55
   go_wp2_with fail
   refine (isNaN8 a _).mono ?_
   rintro e w1 ⟨rfl, rfl⟩
   go_wp2_with fail
   refine (isNaN8 b _).mono ?_
   rintro e w2 ⟨rfl, rfl⟩
   go_wp2_with fail
   go_ret
   exact ⟨ret1_i HC.out.symm, rfl⟩
 · subst h
   have HC := Lib.hid (c3_eq a)
   have d1 : decide (a < a) = false := by simp
   go_enter Tryz.func55, Tryz.ntmps55
   go_wp2_with fail
   refine (isNaN8 a _).mono ?_
   rintro e w1 ⟨rfl, rfl⟩
   go_wp2_with fail
   refine (isNaN8 a _).mono ?_
   rintro e w2 ⟨rfl, rfl⟩
   go_wp2_with fail
   go_ret
   exact ⟨ret1_i HC.out.symm, rfl⟩
 · have d1 : decide (a < b) = false := by simp; omega
   have d2 : decide (b < a) = true := by simpa using h
   have HC := Lib.hid (c3_gt h)
   go_enter Tryz.func55, Tryz.ntmps55
   go_wp2_with fail
   refine (isNaN8 a _).mono ?_
   rintro e w1 ⟨rfl, rfl⟩
   go_wp2_with fail
   refine (isNaN8 b _).mono ?_
   rintro e w2 ⟨rfl, rfl⟩
   go_wp2_with fail
   go_ret
   exact ⟨ret1_i HC.out.symm, rfl⟩
theorem cmp64 (a b : Int) (w : World) : Calls Tryz.prog 56 #[.int .i64 a, .int .i64 b] w fun e w' => e = .returned (.int .i64 (c3 a b)) ∧ w = w' := by
 rcases Int.lt_trichotomy a b with h | h | h
 · have d1 : decide (a < b) = true := by simpa using h
   have HC := Lib.hid (c3_lt h)
   go_enter Tryz.func56, Tryz.ntmps56
   go_wp2_with fail
   refine (isNaN64 a _).mono ?_
   rintro e w1 ⟨rfl, rfl⟩
   go_wp2_with fail
   refine (isNaN64 b _).mono ?_
   rintro e w2 ⟨rfl, rfl⟩
   go_wp2_with fail
   go_ret
   exact ⟨ret1_i HC.out.symm, rfl⟩
 · subst h
   have HC := Lib.hid (c3_eq a)
   have d1 : decide (a < a) = false := by simp
   go_enter Tryz.func56, Tryz.ntmps56
   go_wp2_with fail
   refine (isNaN64 a _).mono ?_
   rintro e w1 ⟨rfl, rfl⟩
   go_wp2_with fail
   refine (isNaN64 a _).mono ?_
   rintro e w2 ⟨rfl, rfl⟩
   go_wp2_with fail
   go_ret
   exact ⟨ret1_i HC.out.symm, rfl⟩
 · have d1 : decide (a < b) = false := by simp; omega
   have d2 : decide (b < a) = true := by simpa using h
   have HC := Lib.hid (c3_gt h)
   go_enter Tryz.func56, Tryz.ntmps56
   go_wp2_with fail
   refine (isNaN64 a _).mono ?_
   rintro e w1 ⟨rfl, rfl⟩
   go_wp2_with fail
   refine (isNaN64 b _).mono ?_
   rintro e w2 ⟨rfl, rfl⟩
   go_wp2_with fail
   go_ret
   exact ⟨ret1_i HC.out.symm, rfl⟩
def or2 (x y : Int) : Int := if x ≠ 0 then x else y
theorem cmpOr (B : Nat) (x y : Int) (w : World) (h0 : w.cell? ⟨B, 0, none⟩ = some (.int .i64 x)) (h1 : w.cell? ⟨B, 1, none⟩ = some (.int .i64 y)) :
  Calls Tryz.prog 54 #[.slice (some ⟨B, 0, none⟩) 2 2] w fun e w' => e = .returned (.int .i64 (or2 x y)) ∧ w = w' := by
 go_enter Tryz.func54, Tryz.ntmps54
 go_wp2_with fail
 go_loop [8] (fun kv => ∃ k : Int, 0 ≤ k ∧ k ≤ 2 ∧ kv = .int .i64 k ∧ (1 ≤ k → x = 0) ∧ (2 ≤ k → y = 0)) (fun kv => (2 - intOf kv).toNat)
 case atStart => exact ⟨0, by omega, by omega, rfl, by omega, by omega⟩
 case round =>
  obtain ⟨k, k0, k2, rfl, hx, hy⟩ := hrel
  have hk : k = 0 ∨ k = 1 ∨ k = 2 := by omega
  clear k0 k2
  rcases hk with rfl | rfl | rfl
  · clear hx hy
    by_cases hx : x = 0
    · subst hx
      go_wp2_with fail
      go_round
      case rel => exact ⟨1, by omega, by omega, rfl, by intros; trivial, by omega⟩
      case measure => simp [intOf]
    · have d : (x != 0) = true := by simpa using hx
      have HC := Lib.hid (show or2 x y = x by unfold or2; rw [if_pos hx])
      go_wp2_with fail
      go_ret
      exact ⟨ret1_i HC.out.symm, rfl⟩
  · obtain rfl := hx (by omega)
    clear hx hy
    by_cases hy : y = 0
    · subst hy
      go_wp2_with fail
      go_round
      case rel => exact ⟨2, by omega, by omega, rfl, by intros; trivial, by intros; trivial⟩
      case measure => simp [intOf]
    · have d : (y != 0) = true := by simpa using hy
      have HC := Lib.hid (show or2 0 y = y by unfold or2; rw [if_neg (by simp)])
      go_wp2_with fail
      go_ret
      exact ⟨ret1_i HC.out.symm, rfl⟩
  · obtain rfl := hx (by omega)
    obtain rfl := hy (by omega)
    clear hx hy
    have HC := Lib.hid (show or2 0 0 = 0 by decide)
    go_wp2_with fail
    go_ret
    exact ⟨ret1_i HC.out.symm, rfl⟩
set_option maxHeartbeats 1000000
theorem eErr_ok {i d : Int} (h : eOk i d) : eErr i d = 0 := by unfold eErr; rw [if_pos h]
theorem eErr_bad {i d : Int} (h : ¬ eOk i d) : eErr i d = 5 := by unfold eErr; rw [if_neg h]
theorem eChk (i d : Int) (w : World) : Calls Tryz.prog 91 #[.agg #[.int .i8 i, .int .i64 d]] w fun e w' => e = .returned (.int .i64 (eErr i d)) ∧ Up w w' := by
 by_cases h0 : i = 0
 · subst h0
   have HE := Lib.hid (eErr_ok (i := 0) (d := d) (Or.inl rfl))
   go_enter Tryz.func91, Tryz.ntmps91
   go_wp2_with fail
   go_ret
   exact ⟨ret1_i HE.out.symm, (Up.refl _).alloc _⟩
 · have c0 : (i == 0) = false := by simpa using h0
   by_cases h1 : i = 1
   · subst h1
     by_cases hd : d = 0
     · subst hd
       have HE := Lib.hid (eErr_ok (i := 1) (d := 0) (Or.inr ⟨Or.inl rfl, rfl⟩))
       go_enter Tryz.func91, Tryz.ntmps91
       go_wp2_with fail
       go_ret
       exact ⟨ret1_i HE.out.symm, (Up.refl _).alloc _⟩
     · have c1 : (d == 0) = false := by simpa using hd
       have HE := Lib.hid (eErr_bad (i := 1) (d := d) (by unfold eOk; omega))
       go_enter Tryz.func91, Tryz.ntmps91
       go_wp2_with fail
       go_ret
       exact ⟨ret1_i HE.out.symm, (Up.refl _).alloc _⟩
   · have c1 : (i == 1) = false := by simpa using h1
     by_cases h2 : i = -1
     · subst h2
       by_cases hd : d = 0
       · subst hd
         have HE := Lib.hid (eErr_ok (i := -1) (d := 0) (Or.inr ⟨Or.inr rfl, rfl⟩))
         go_enter Tryz.func91, Tryz.ntmps91
         go_wp2_with fail
         go_ret
         exact ⟨ret1_i HE.out.symm, (Up.refl _).alloc _⟩
       · have c2 : (d == 0) = false := by simpa using hd
         have HE := Lib.hid (eErr_bad (i := -1) (d := d) (by unfold eOk; omega))
         go_enter Tryz.func91, Tryz.ntmps91
         go_wp2_with fail
         go_ret
         exact ⟨ret1_i HE.out.symm, (Up.refl _).alloc _⟩
     · have c2 : (i == -1) = false := by simpa using h2
       have HE := Lib.hid (eErr_bad (i := i) (d := d) (by unfold eOk; omega))
       go_enter Tryz.func91, Tryz.ntmps91
       go_wp2_with fail
       go_ret
       exact ⟨ret1_i HE.out.symm, (Up.refl _).alloc _⟩
theorem eOf (d : Int) (w : World) : Calls Tryz.prog 16 #[.int .i64 d] w fun e w' => e = .returned (.agg #[.int .i8 0, .int .i64 d]) ∧ Up w w' := by
 go_enter Tryz.func16, Tryz.ntmps16
 go_wp2_with fail
 exact bodyPost_ret (v := .agg #[.int .i8 0, .int .i64 d]) (by simp [results, Tryz.results16, go_sem]) rfl ⟨rfl, (Up.refl _).alloc _⟩
theorem kE2 {W w1 w2 : World} {a0 a1 a2 a3 : Addr} {v0 v1 v2 v3 : Value} (k : Up w1 w2) (h : Up W w1 ∧ w1.cell? a0 = some v0 ∧ w1.cell? a1 = some v1 ∧ w1.cell? a2 = some v2 ∧ w1.cell? a3 = some v3) :
  Up W w2 ∧ w2.cell? a0 = some v0 ∧ w2.cell? a1 = some v1 ∧ w2.cell? a2 = some v2 ∧ w2.cell? a3 = some v3 := by
 obtain ⟨h1, c0, c1, c2, c3⟩ := h
 exact ⟨h1.trans k, k.cell c0, k.cell c1, k.cell c2, k.cell c3⟩
theorem eCmp (i d j f : Int) (w : World) : Calls Tryz.prog 15 #[.agg #[.int .i8 i, .int .i64 d], .agg #[.int .i8 j, .int .i64 f]] w fun e w' => e = .returned (.int .i64 (eC i d j f)) ∧ Up w w' := by
  obtain ⟨W, hW⟩ : ∃ W, W = (w.alloc (.cells #[.int .i8 i, .int .i64 d] 28)).alloc (.cells #[.int .i8 j, .int .i64 f] 28) := ⟨_, rfl⟩
  have u : Up w W := by rw [hW]; exact ((Up.refl _).alloc _).alloc _
  have c0 : W.cell? ⟨w.heap.size, 0, none⟩ = some (.int .i8 i) := by rw [hW]; simp [go_sem]
  have c1 : W.cell? ⟨w.heap.size, 1, none⟩ = some (.int .i64 d) := by rw [hW]; simp [go_sem]
  have c2 : W.cell? ⟨w.heap.size + 1, 0, none⟩ = some (.int .i8 j) := by rw [hW]; simp [go_sem]
  have c3' : W.cell? ⟨w.heap.size + 1, 1, none⟩ = some (.int .i64 f) := by rw [hW]; simp [go_sem]
  have hS := kE2 (W := W) (Up.refl W) ⟨Up.refl _, c0, c1, c2, c3'⟩
  have HW := Lib.hid hW
  have HC := Lib.hid (show or2 (c3 i j) (c3 d f) = eC i d j f from rfl)
  clear hW c0 c1 c2 c3'
  go_enter Tryz.func15, Tryz.ntmps15
  go_wp2_with fail
  rw [← HW.out]
  clear HW
  go_region_held3 (fun w' => Up W w' ∧ w'.cell? ⟨w.heap.size, 0, none⟩ = some (.int .i8 i) ∧ w'.cell? ⟨w.heap.size, 1, none⟩ = some (.int .i64 d) ∧ w'.cell? ⟨w.heap.size + 1, 0, none⟩ = some (.int .i8 j) ∧ w'.cell? ⟨w.heap.size + 1, 1, none⟩ = some (.int .i64 f))
    (first | exact kE2 ((Up.refl _).drew) hS | exact kE2 (((Up.refl _).alloc _).drew) hS | assumption)
    (first
      | (go_at_call 55; refine (cmp8 _ _ _).mono ?_; rintro e wa ⟨rfl, rfl⟩)
      | (go_at_call 56; refine (cmp64 _ _ _).mono ?_; rintro e wa ⟨rfl, rfl⟩)
      | (go_at_call 54; refine (cmpOr _ (c3 i j) (c3 d f) _ ?_ ?_).mono ?_; (simp [go_sem]); (simp [go_sem]); rintro e wa ⟨rfl, rfl⟩))
  all_goals
    clear hS
    go_wp2_with fail
    go_ret
    exact ⟨ret1_i HC.out, u.trans (((Up.refl _).alloc _).drew)⟩
def key (i d : Int) : Int := 36893488147419103232 * i + d
theorem eC_key {i d j f : Int} (hd : I64 d) (hf : I64 f) : eC i d j f = c3 (key i d) (key j f) := by
 unfold I64 at *
 unfold eC c3 key
 repeat' split
 all_goals omega
theorem eC_le {i d j f : Int} (hd : I64 d) (hf : I64 f) : eC i d j f ≤ 0 ↔ key i d ≤ key j f := by
 rw [eC_key hd hf]; unfold c3; repeat' split
 all_goals omega
theorem eC_lt {i d j f : Int} (hd : I64 d) (hf : I64 f) : eC i d j f < 0 ↔ key i d < key j f := by
 rw [eC_key hd hf]; unfold c3; repeat' split
 all_goals omega
theorem eC_gt {i d j f : Int} (hd : I64 d) (hf : I64 f) : 0 < eC i d j f ↔ key j f < key i d := by
 rw [eC_key hd hf]; unfold c3; repeat' split
 all_goals omega
theorem key_inj {i d j f : Int} (hd : I64 d) (hf : I64 f) : key i d = key j f ↔ i = j ∧ d = f := by
 unfold I64 at *
 unfold key
 omega
def rnErr (a b c d : Int) : Int := if ¬ (eOk a b ∧ eOk c d) then 5 else if 0 < a ∨ c < 0 then 4 else if 0 < eC a b c d then 12 else 0
def RnOk (a b c d : Int) : Prop := eOk a b ∧ eOk c d ∧ a ≤ 0 ∧ 0 ≤ c ∧ key a b ≤ key c d
instance decRnOk (a b c d : Int) : Decidable (RnOk a b c d) := by unfold RnOk; infer_instance
theorem rnErr_ok {a b c d : Int} (hb : I64 b) (hd : I64 d) : rnErr a b c d = 0 ↔ RnOk a b c d := by
 have h := eC_gt (i := a) (j := c) hb hd
 unfold rnErr RnOk
 by_cases h1 : eOk a b ∧ eOk c d
 · rw [if_neg (by simpa using h1)]
   by_cases h2 : 0 < a ∨ c < 0
   · rw [if_pos h2]; constructor
     · intro h; cases h
     · rintro ⟨_, _, _, _, _⟩; omega
   · rw [if_neg h2]
     by_cases h3 : 0 < eC a b c d
     · rw [if_pos h3]; constructor
       · intro h; cases h
       · rintro ⟨_, _, _, _, _⟩; omega
     · rw [if_neg h3]; simp only [true_iff]; exact ⟨h1.1, h1.2, by omega, by omega, by omega⟩
 · rw [if_pos h1]; constructor
   · intro h; cases h
   · rintro ⟨h2, h3, _⟩; exact absurd ⟨h2, h3⟩ h1
def mnI (i d j f : Int) : Int := if eC j f i d < 0 then j else i
def mnD (i d j f : Int) : Int := if eC j f i d < 0 then f else d
def mxI (i d j f : Int) : Int := if 0 < eC j f i d then j else i
def mxD (i d j f : Int) : Int := if 0 < eC j f i d then f else d
theorem mn_i64 {i d j f : Int} (hd : I64 d) (hf : I64 f) : I64 (mnD i d j f) := by unfold mnD; split <;> assumption
theorem mx_i64 {i d j f : Int} (hd : I64 d) (hf : I64 f) : I64 (mxD i d j f) := by unfold mxD; split <;> assumption
theorem mn_key {i d j f : Int} (hd : I64 d) (hf : I64 f) : key (mnI i d j f) (mnD i d j f) = min (key i d) (key j f) := by
 have h := eC_lt (i := j) (j := i) hf hd
 unfold mnI mnD
 by_cases hc : eC j f i d < 0
 · rw [if_pos hc, if_pos hc]; omega
 · rw [if_neg hc, if_neg hc]; omega
theorem mx_key {i d j f : Int} (hd : I64 d) (hf : I64 f) : key (mxI i d j f) (mxD i d j f) = max (key i d) (key j f) := by
 have h := eC_gt (i := j) (j := i) hf hd
 unfold mxI mxD
 by_cases hc : 0 < eC j f i d
 · rw [if_pos hc, if_pos hc]; omega
 · rw [if_neg hc, if_neg hc]; omega
def Wi (a b c d e f g h : Int) : Prop := RnOk a b c d ∧ RnOk e f g h ∧ key e f ≤ key a b ∧ key c d ≤ key g h
def Tch (a b c d e f g h : Int) : Prop := RnOk a b c d ∧ RnOk e f g h ∧ key e f ≤ key c d + 1 ∧ key a b ≤ key g h + 1
def Meet (a b c d e f g h : Int) : Prop := RnOk a b c d ∧ RnOk e f g h ∧ key e f ≤ key c d ∧ key a b ≤ key g h
instance decWi (a b c d e f g h : Int) : Decidable (Wi a b c d e f g h) := by unfold Wi; infer_instance
instance decTch (a b c d e f g h : Int) : Decidable (Tch a b c d e f g h) := by unfold Tch; infer_instance
instance decMeet (a b c d e f g h : Int) : Decidable (Meet a b c d e f g h) := by unfold Meet; infer_instance
theorem mn_ok {i d j f : Int} (h : eOk i d) (k : eOk j f) : eOk (mnI i d j f) (mnD i d j f) := by unfold mnI mnD; split <;> assumption
theorem mx_ok {i d j f : Int} (h : eOk i d) (k : eOk j f) : eOk (mxI i d j f) (mxD i d j f) := by unfold mxI mxD; split <;> assumption
theorem common_ok {a b c d e f g h : Int} (hb : I64 b) (hd : I64 d) (hf : I64 f) (hh : I64 h) (h1 : RnOk a b c d) (h2 : RnOk e f g h) :
   RnOk (mxI a b e f) (mxD a b e f) (mnI c d g h) (mnD c d g h) ↔ Meet a b c d e f g h := by
 have k1 := mx_key (i := a) (j := e) hb hf
 have k2 := mn_key (i := c) (j := g) hd hh
 unfold Meet
 constructor
 · rintro ⟨_, _, _, _, hk⟩
   rw [k1, k2] at hk
   have := h1.2.2.2.2
   have := h2.2.2.2.2
   exact ⟨h1, h2, by omega, by omega⟩
 · rintro ⟨_, _, _, _⟩
   refine ⟨mx_ok h1.1 h2.1, mn_ok h1.2.1 h2.2.1, ?_, ?_, ?_⟩
   · have := h1.2.2.1; have := h2.2.2.1; unfold mxI; split <;> assumption
   · have := h1.2.2.2.1; have := h2.2.2.2.1; unfold mnI; split <;> assumption
   · rw [k1, k2]
     have := h1.2.2.2.2
     have := h2.2.2.2.2
     omega
set_option maxHeartbeats 2000000
set_option maxRecDepth 100000
set_option linter.unusedVariables false
set_option linter.unusedSimpArgs false
structure EnvC (w : World) : Prop where
 i : EnvI w
 m : EnvM w
 ml : ∃ n, w.cell? ⟨5, 0, none⟩ = some (.int .i64 n)
theorem EnvC.dn {w w' : World} (h : EnvC w) (k : Dn w w') : EnvC w' := by
 obtain ⟨n, hn⟩ := h.ml
 exact ⟨h.i.dn k, h.m.below k.below, n, k.cell hn⟩
def cErr (y m d : Int) : Int := if ¬ IsY y then 6 else if ¬ (1 ≤ m ∧ m ≤ 12) then 7 else if ¬ (1 ≤ d ∧ d ≤ Cal.mlen y m) then 8 else 0
theorem cErr_ok {y m d : Int} (h : cErr y m d = 0) : IsM y m ∧ 1 ≤ d ∧ d ≤ Cal.mlen y m := by
 unfold cErr at h
 split at h
 · omega
 · split at h
   · omega
   · split at h
     · omega
     · rename_i h1 h2 h3
       exact ⟨⟨Decidable.not_not.1 h1, Decidable.not_not.1 h2⟩, Decidable.not_not.1 h3⟩
theorem preUn39x1 (w : World) (y m d : Int) : ∃ W1, W1 = w.alloc (.cells #[.int .i64 y, .int .i64 m, .int .i64 d] 64) ∧ (Dn w W1) ∧ (W1.cell? ⟨w.heap.size, 0, none⟩ = some (.int .i64 y)) ∧ (W1.cell? ⟨w.heap.size, 1, none⟩ = some (.int .i64 m)) ∧ (W1.cell? ⟨w.heap.size, 2, none⟩ = some (.int .i64 d)) ∧ (w.heap.size < W1.heap.size) := by
  obtain ⟨W1, hW1⟩ : ∃ W1, W1 = w.alloc (.cells #[.int .i64 y, .int .i64 m, .int .i64 d] 64) := ⟨_, rfl⟩
  exact ⟨W1, hW1, (by rw [hW1]; exact (Dn.refl _).alloc _), (by rw [hW1]; simp [go_sem]), (by rw [hW1]; simp [go_sem]), (by rw [hW1]; simp [go_sem]), (by rw [hW1]; simp <;> omega)⟩
theorem cvChk_y (y m d : Int) (h : ¬ IsY y) (w : World) (hE : EnvC w) :
  Calls Tryz.prog 81 #[.agg #[.int .i64 y, .int .i64 m, .int .i64 d]] w fun ro w' => ro = .returned (.int .i64 6) ∧ Dn w w' := by
 have H := Lib.hid h
 clear h
 go_enter Tryz.func81, Tryz.ntmps81
 go_wp2_with fail
 obtain ⟨W1, hW1, uW1, c2, c3, c4, l5⟩ := preUn39x1 w y m d
 rw [← hW1]
 clear hW1
 refine (mlen_no y m 6 _ (Or.inl ⟨H.out, rfl⟩)).mono ?_
 rintro e w1 ⟨rfl, rfl⟩
 go_wp2_with fail
 go_ret
 exact ⟨rfl, uW1⟩
theorem cvChk_m (y m d : Int) (h : IsY y) (h2 : ¬ (1 ≤ m ∧ m ≤ 12)) (w : World) (hE : EnvC w) :
  Calls Tryz.prog 81 #[.agg #[.int .i64 y, .int .i64 m, .int .i64 d]] w fun ro w' => ro = .returned (.int .i64 7) ∧ Dn w w' := by
 have H := Lib.hid h
 have H2 := Lib.hid h2
 clear h h2
 go_enter Tryz.func81, Tryz.ntmps81
 go_wp2_with fail
 obtain ⟨W1, hW1, uW1, c2, c3, c4, l5⟩ := preUn39x1 w y m d
 rw [← hW1]
 clear hW1
 refine (mlen_no y m 7 _ (Or.inr ⟨H.out, H2.out, rfl⟩)).mono ?_
 rintro e w1 ⟨rfl, rfl⟩
 go_wp2_with fail
 go_ret
 exact ⟨rfl, uW1⟩
theorem cvChk_d1 (y m d : Int) (h : IsM y m) (h2 : d < 1) (w : World) (hE : EnvC w) :
  Calls Tryz.prog 81 #[.agg #[.int .i64 y, .int .i64 m, .int .i64 d]] w fun ro w' => ro = .returned (.int .i64 8) ∧ Dn w w' := by
 have H := Lib.hid h
 have c1 : decide (d < 1) = true := by simpa using h2
 clear h h2
 go_enter Tryz.func81, Tryz.ntmps81
 go_wp2_with fail
 obtain ⟨W1, hW1, uW1, c2, c3, c4, l5⟩ := preUn39x1 w y m d
 rw [← hW1]
 clear hW1
 refine (mlen_yes y m _ H.out (hE.dn uW1).m).mono ?_
 rintro e w1 ⟨rfl, qw1⟩
 replace qw1 := qw1.dn
 have l6 := nlt l5 qw1.size
 obtain ⟨c7, c8, c9⟩ := mv3 qw1.cell c2 c3 c4
 clear l5 c2 c3 c4
 have uw1 := uW1.trans qw1
 clear qw1 uW1
 go_wp2_with fail
 go_ret
 exact ⟨rfl, uw1⟩
theorem cvChk_d2 (y m d : Int) (h : IsM y m) (h2 : ¬ d < 1) (h3 : Cal.mlen y m < d) (w : World) (hE : EnvC w) :
  Calls Tryz.prog 81 #[.agg #[.int .i64 y, .int .i64 m, .int .i64 d]] w fun ro w' => ro = .returned (.int .i64 8) ∧ Dn w w' := by
 have H := Lib.hid h
 have c1 : decide (d < 1) = false := by simpa using h2
 have c2 : decide (Cal.mlen y m < d) = true := by simpa using h3
 clear h h2 h3
 go_enter Tryz.func81, Tryz.ntmps81
 go_wp2_with fail
 obtain ⟨W1, hW1, uW1, c2, c3, c4, l5⟩ := preUn39x1 w y m d
 rw [← hW1]
 clear hW1
 refine (mlen_yes y m _ H.out (hE.dn uW1).m).mono ?_
 rintro e w1 ⟨rfl, qw1⟩
 replace qw1 := qw1.dn
 have l6 := nlt l5 qw1.size
 obtain ⟨c7, c8, c9⟩ := mv3 qw1.cell c2 c3 c4
 clear l5 c2 c3 c4
 have uw1 := uW1.trans qw1
 clear qw1 uW1
 go_wp2_with fail
 go_ret
 exact ⟨rfl, uw1⟩
theorem cvChk_ok (y m d : Int) (h : IsM y m) (h2 : ¬ d < 1) (h3 : ¬ Cal.mlen y m < d) (w : World) (hE : EnvC w) :
  Calls Tryz.prog 81 #[.agg #[.int .i64 y, .int .i64 m, .int .i64 d]] w fun ro w' => ro = .returned (.int .i64 0) ∧ Dn w w' := by
 have H := Lib.hid h
 have c1 : decide (d < 1) = false := by simpa using h2
 have c2 : decide (Cal.mlen y m < d) = false := by simpa using h3
 clear h h2 h3
 go_enter Tryz.func81, Tryz.ntmps81
 go_wp2_with fail
 obtain ⟨W1, hW1, uW1, c2, c3, c4, l5⟩ := preUn39x1 w y m d
 rw [← hW1]
 clear hW1
 refine (mlen_yes y m _ H.out (hE.dn uW1).m).mono ?_
 rintro e w1 ⟨rfl, qw1⟩
 replace qw1 := qw1.dn
 have l6 := nlt l5 qw1.size
 obtain ⟨c7, c8, c9⟩ := mv3 qw1.cell c2 c3 c4
 clear l5 c2 c3 c4
 have uw1 := uW1.trans qw1
 clear qw1 uW1
 go_wp2_with fail
 go_ret
 exact ⟨rfl, uw1⟩
theorem cvChk (y m d e : Int) (w : World) (hE : EnvC w) (he : cErr y m d = e) :
   Calls Tryz.prog 81 #[.agg #[.int .i64 y, .int .i64 m, .int .i64 d]] w fun ro w' => ro = .returned (.int .i64 e) ∧ Dn w w' := by
 subst he
 unfold cErr
 by_cases h1 : IsY y
 · rw [if_neg (fun h => h h1)]
   by_cases h2 : 1 ≤ m ∧ m ≤ 12
   · rw [if_neg (fun h => h h2)]
     by_cases h3 : d < 1
     · rw [if_pos (by omega)]; exact cvChk_d1 y m d ⟨h1, h2⟩ h3 w hE
     · by_cases h4 : Cal.mlen y m < d
       · rw [if_pos (by omega)]; exact cvChk_d2 y m d ⟨h1, h2⟩ h3 h4 w hE
       · rw [if_neg (by omega)]; exact cvChk_ok y m d ⟨h1, h2⟩ h3 h4 w hE
   · rw [if_pos h2]; exact cvChk_m y m d h1 h2 w hE
 · rw [if_pos h1]; exact cvChk_y y m d h1 w hE
theorem cvDay_ok (y m d : Int) (he : cErr y m d = 0) (w : World) (hE : EnvC w) :
  Calls Tryz.prog 42 #[.agg #[.int .i64 y, .int .i64 m, .int .i64 d]] w fun ro w' => ro = .returned (.tuple #[.int .i64 (Cal.sm y m + d - 1), .int .i64 0]) ∧ Dn w w' := by
 obtain ⟨hm, d1, d2⟩ := cErr_ok he
 have hb := sm_bd y m hm
 have hl := Cal.mlen_bd y m
 have H := Lib.hid he
 have HM := Lib.hid hm
 clear he hm
 go_enter Tryz.func42, Tryz.ntmps42
 go_wp2_with fail
 obtain ⟨W1, hW1, uW1, c2, c3, c4, l5⟩ := preUn39x1 w y m d
 rw [← hW1]
 clear hW1
 refine (cvChk y m d 0 _ (hE.dn uW1) H.out).mono ?_
 rintro e w1 ⟨rfl, qw1⟩
 have l6 := nlt l5 qw1.size
 obtain ⟨c7, c8, c9⟩ := mv3 qw1.cell c2 c3 c4
 clear l5 c2 c3 c4
 have uw1 := uW1.trans qw1
 clear qw1 uW1
 go_wp2_with fail
 refine (mstart_yes y m _ HM.out (hE.dn uw1).m).mono ?_
 rintro e w2 ⟨rfl, qw2⟩
 replace qw2 := qw2.dn
 have l10 := nlt l6 qw2.size
 obtain ⟨c11, c12, c13⟩ := mv3 qw2.cell c7 c8 c9
 clear l6 c7 c8 c9
 have uw2 := uw1.trans qw2
 clear qw2 uw1
 go_wp2_with fail
 go_ret2
 exact ⟨rfl, uw2⟩
set_option linter.unusedSimpArgs false
def nd (c : UInt8) : Bool := c != 45
def sA (l : List UInt8) : List UInt8 := (dsOf l).takeWhile nd
def rA (l : List UInt8) : List UInt8 := (dsOf l).dropWhile nd
def sB (l : List UInt8) : List UInt8 := ((rA l).drop 1).takeWhile nd
def rB (l : List UInt8) : List UInt8 := ((rA l).drop 1).dropWhile nd
def sC (l : List UInt8) : List UInt8 := ((rB l).drop 1).takeWhile nd
def rC (l : List UInt8) : List UInt8 := ((rB l).drop 1).dropWhile nd
def AllD (l : List UInt8) : Prop := ∀ c ∈ l, Dg.isD c
instance decAllD (l : List UInt8) : Decidable (AllD l) := by unfold AllD Dg.isD; infer_instance
def Part (p : List UInt8) (n : Nat) (more : Bool) : Prop := n ≤ p.length ∧ ¬ (n < p.length ∧ (more = false ∨ p.head? = some 48)) ∧ AllD p
instance decPart (p : List UInt8) (n : Nat) (more : Bool) : Decidable (Part p n more) := by unfold Part; infer_instance
def yV (l : List UInt8) : Int := sg (isNeg l) (Dg.nvA 0 (sA l))
def mV (l : List UInt8) : Int := Dg.nvA 0 (sB l)
def dV (l : List UInt8) : Int := Dg.nvA 0 (sC l)
structure CF (l : List UInt8) : Prop where
 a : Part (sA l) 4 true
 ra : rA l ≠ []
 b : Part (sB l) 2 false
 rb : rB l ≠ []
 c : Part (sC l) 2 false
 rc : rC l = []
 nz : ¬ (isNeg l = true ∧ Dg.nvA 0 (sA l) = 0)
theorem tw_split (p : UInt8 → Bool) (l : List UInt8) : l = l.takeWhile p ++ l.dropWhile p := List.takeWhile_append_dropWhile.symm
theorem dw_head (l : List UInt8) (h : l.dropWhile nd ≠ []) : l.dropWhile nd = 45 :: (l.dropWhile nd).drop 1 := by
 induction l with
 | nil => simp at h
 | cons x l ih =>
   by_cases hx : nd x = true
   · simp only [List.dropWhile_cons, hx, if_true] at h ⊢; exact ih h
   · have e : x = 45 := by
      unfold nd at hx
      simpa using hx
     subst e
     simp [List.dropWhile_cons, nd]
theorem ds_sign (l : List UInt8) : l = (if isNeg l = true then [45] else []) ++ dsOf l := by
 unfold dsOf
 cases l with
 | nil => rfl
 | cons x l =>
   by_cases hx : isNeg (x :: l) = true
   · have e : x = 45 := by unfold isNeg at hx; simpa using hx
     subst e
     simp [hx]
   · simp [hx]
theorem CF.eq {l : List UInt8} (h : CF l) : l = (if isNeg l = true then [45] else []) ++ (sA l ++ 45 :: (sB l ++ 45 :: sC l)) := by
 have e1 := ds_sign l
 have e2 : dsOf l = sA l ++ rA l := tw_split nd _
 have e3 : rA l = 45 :: (rA l).drop 1 := dw_head _ h.ra
 have e4 : (rA l).drop 1 = sB l ++ rB l := tw_split nd _
 have e5 : rB l = 45 :: (rB l).drop 1 := dw_head _ h.rb
 have e6 : (rB l).drop 1 = sC l ++ rC l := tw_split nd _
 have e7 : dsOf l = sA l ++ 45 :: (sB l ++ 45 :: sC l) := by
  rw [e2]
  congr 1
  rw [e3]
  congr 1
  rw [e4]
  congr 1
  rw [e5]
  congr 1
  rw [e6, h.rc, List.append_nil]
 rw [← e7]; exact e1
set_option linter.unusedVariables false
set_option linter.unusedSimpArgs false
abbrev bA (l : List UInt8) : ByteArray := ⟨l.toArray⟩
set_option linter.unusedVariables false
set_option linter.unusedSimpArgs false
structure EnvK (w : World) : Prop where
 c : EnvC w
 i : EnvJ w
theorem EnvK.dn {w w' : World} (h : EnvK w) (k : Dn w w') : EnvK w' := ⟨h.c.dn k, h.i.dn k⟩
theorem EnvK.ml {w : World} (h : EnvK w) : ∃ n, w.cell? ⟨5, 0, none⟩ = some (.int .i64 n) := h.c.ml
theorem EnvK.m {w : World} (h : EnvK w) : EnvM w := h.c.m
instance (w : World) : Coe (EnvK w) (EnvC w) := ⟨EnvK.c⟩
set_option linter.unusedVariables false
set_option linter.unusedSimpArgs false
structure PB (w0 w : World) (x : List UInt8) (y m d e : Int) : Prop where
 dn : Dn w0 w
 c0 : w.cell? ⟨w0.heap.size, 0, none⟩ = some (.int .i64 y)
 c1 : w.cell? ⟨w0.heap.size, 1, none⟩ = some (.int .i64 m)
 c2 : w.cell? ⟨w0.heap.size, 2, none⟩ = some (.int .i64 d)
 z0 : w.frozen? ⟨w0.heap.size, 0, none⟩ = false
 z1 : w.frozen? ⟨w0.heap.size, 1, none⟩ = false
 z2 : w.frozen? ⟨w0.heap.size, 2, none⟩ = false
 ce : w.cell? ⟨w0.heap.size + 1, 0, none⟩ = some (.int .i64 e)
 ze : w.frozen? ⟨w0.heap.size + 1, 0, none⟩ = false
 cr : w.cell? ⟨w0.heap.size + 1 + 1, 0, none⟩ = some (.string (bA x))
 zr : w.frozen? ⟨w0.heap.size + 1 + 1, 0, none⟩ = false
 lt : w0.heap.size + 1 + 1 < w.heap.size
theorem PB.go {w0 w w' : World} {x : List UInt8} {y m d e : Int} (h : PB w0 w x y m d e) (k : Dn w w') : PB w0 w' x y m d e :=
 have l := h.lt
 ⟨h.dn.trans k, k.cell h.c0, k.cell h.c1, k.cell h.c2, (k.frozen (a := ⟨w0.heap.size, 0, none⟩) (by show w0.heap.size < _; omega)).trans h.z0, (k.frozen (a := ⟨w0.heap.size, 1, none⟩) (by show w0.heap.size < _; omega)).trans h.z1, (k.frozen (a := ⟨w0.heap.size, 2, none⟩) (by show w0.heap.size < _; omega)).trans h.z2,
  k.cell h.ce, (k.frozen (a := ⟨w0.heap.size + 1, 0, none⟩) (by show w0.heap.size + 1 < _; omega)).trans h.ze, k.cell h.cr, (k.frozen (a := ⟨w0.heap.size + 1 + 1, 0, none⟩) h.lt).trans h.zr, Nat.lt_of_lt_of_le h.lt k.size⟩
theorem PB.set0 {w0 w : World} {x : List UInt8} {y m d e : Int} (h : PB w0 w x y m d e) (v : Int) : PB w0 (w.setCell ⟨w0.heap.size, 0, none⟩ (.int .i64 v)) x v m d e := by
 have l := h.lt
 obtain ⟨dn, c0, c1, c2, z0, z1, z2, ce, ze, cr, zr, lt⟩ := h
 refine ⟨dn.setCell (Nat.le_refl _) _, ?_, ?_, ?_, ?_, ?_, ?_, ?_, ?_, ?_, ?_, ?_⟩ <;> simp [go_sem, c0, c1, c2, z0, z1, z2, ce, ze, cr, zr] <;> omega
theorem PB.set1 {w0 w : World} {x : List UInt8} {y m d e : Int} (h : PB w0 w x y m d e) (v : Int) : PB w0 (w.setCell ⟨w0.heap.size, 1, none⟩ (.int .i64 v)) x y v d e := by
 have l := h.lt
 obtain ⟨dn, c0, c1, c2, z0, z1, z2, ce, ze, cr, zr, lt⟩ := h
 refine ⟨dn.setCell (Nat.le_refl _) _, ?_, ?_, ?_, ?_, ?_, ?_, ?_, ?_, ?_, ?_, ?_⟩ <;> simp [go_sem, c0, c1, c2, z0, z1, z2, ce, ze, cr, zr] <;> omega
set_option linter.unusedVariables false
set_option linter.unusedSimpArgs false
def PRes (l : List UInt8) (y m d e : Int) : Prop :=
 (¬ CF l ∧ y = 0 ∧ m = 0 ∧ d = 0 ∧ e = 5) ∨ (CF l ∧ cErr (yV l) (mV l) (dV l) = e ∧ e ≠ 0 ∧ y = 0 ∧ m = 0 ∧ d = 0) ∨ (CF l ∧ cErr (yV l) (mV l) (dV l) = 0 ∧ y = yV l ∧ m = mV l ∧ d = dV l ∧ e = 0)
theorem PRes.bad {l : List UInt8} {y m d e : Int} (h : PRes l y m d e) (hn : ¬ CF l) : y = 0 ∧ m = 0 ∧ d = 0 ∧ e = 5 := by
 rcases h with ⟨_, h⟩ | ⟨hc, _⟩ | ⟨hc, _⟩
 · exact h
 · exact absurd hc hn
 · exact absurd hc hn
set_option linter.unusedVariables false
set_option linter.unusedSimpArgs false
def cn (a b : Int) (l : List Int) : Nat := (l.filter (fun x => decide (a ≤ x) && decide (x < b))).length
theorem big_code (c : Int) (h : 33 ≤ c) (hc : c ≤ 41) : 1 ≤ fromS c ∧ 3 ≤ manyS c ∧ fromS c + manyS c ≤ 13 := by
 have : c = 33 ∨ c = 34 ∨ c = 35 ∨ c = 36 ∨ c = 37 ∨ c = 38 ∨ c = 39 ∨ c = 40 ∨ c = 41 := by omega
 rcases this with rfl | rfl | rfl | rfl | rfl | rfl | rfl | rfl | rfl <;> decide
theorem big_last (y c : Int) (h : 33 ≤ c) (hc : c ≤ 41) : lastS y c / 12 = y := by
 have := big_code c h hc
 unfold lastS mi
 omega
end Go.Proofs.YteodjglbpfmikaaGreatDoor
