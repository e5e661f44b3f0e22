/-
  WALKS OF circaref01: digit, trim, Neg. How a whole number lies in memory.
-/
import Derived.Test.YtopbbcbpanfigaaGreatDoorBase
import Derived.Test.YtopbbcbpanfigaaGreatDoorDigB
import Derived.OwnWalk
import Derived.Laws.OwnMore
import Derived.Outline
namespace Go.Proofs.YtopbbcbpanfigaaGreatDoor
open Go.RowKit
/-- What was there stands. -/
structure Dn (w w' : World) : Prop where
  below : Below w.heap.size w w'
theorem Dn.refl (a : World) : Dn a a := ⟨Below.refl _ _⟩
theorem Dn.size {a b : World} (h : Dn a b) : a.heap.size ≤ b.heap.size := h.below.size
theorem Dn.trans {a b c : World} (h : Dn a b) (k : Dn b c) : Dn a c := ⟨h.below.trans (k.below.mono h.below.size)⟩
theorem Dn.drew {a b : World} (h : Dn a b) : Dn a b.drew := ⟨h.below.drew⟩
theorem Dn.drewN {a b : World} (h : Dn a b) (n : Nat) : Dn a (b.drewN n) := ⟨h.below.trans ⟨rfl, rfl, rfl, Nat.le_refl _, fun _ _ => rfl⟩⟩
theorem Dn.alloc {a b : World} (h : Dn a b) (o : Obj) : Dn a (b.alloc o) := ⟨h.below.alloc h.below.size o⟩
theorem Dn.setCell {a b : World} (h : Dn a b) {p : Addr} (hp : a.heap.size ≤ p.block) (u : Value) : Dn a (b.setCell p u) := ⟨h.below.setCell hp u⟩
theorem Dn.cell {w w' : World} {a : Addr} {v : Value} (hb : Dn w w') (h : w.cell? a = some v) : w'.cell? a = some v := cell_below hb.below h
theorem Dn.frozen {w w' : World} {a : Addr} (hb : Dn w w') (ha : a.block < w.heap.size) : w'.frozen? a = w.frozen? a := hb.below.frozen ha
theorem Up.dn {a b : World} (h : Up a b) : Dn a b := ⟨h.below⟩
theorem Dn.up {a b c : World} (h : Dn a b) (k : Up b c) : Dn a c := h.trans k.dn
theorem Dn.grown {w w1 w2 : World} {row : Option Nat} (h : Dn w w1) (hg : w1.grownBy w2 row) (hr : ∀ k, row = some k → w.heap.size ≤ k) : Dn w w2 :=
  ⟨h.below.trans ⟨hg.os, hg.tape, hg.output, hg.size, fun i hi => hg.block i (by have := h.size; omega) (fun e => by have := hr i e.symm; omega)⟩⟩
theorem max_len : maxLen ≤ 9223372036854775807 := by decide +kernel

/-- A slice value of bytes that holds these digits. -/
def SlD (w : World) (s : Value) (l : List Int) : Prop :=
  ∃ p cap, s = .slice p l.length cap ∧ l.length ≤ cap ∧ cap ≤ maxLen ∧ ∀ (j : Nat) (x : Int), l[j]? = some x → ∃ g, p = some ⟨g, 0, none⟩ ∧ w.cell? ⟨g, j, none⟩ = some (.int .u8 x)
theorem SlD.dn {w w' : World} {s : Value} {l : List Int} (h : SlD w s l) (k : Dn w w') : SlD w' s l := by
  obtain ⟨p, cap, h1, h2, h3, h4⟩ := h
  exact ⟨p, cap, h1, h2, h3, fun j x hx => by obtain ⟨g, hg, hc⟩ := h4 j x hx; exact ⟨g, hg, k.cell hc⟩⟩
theorem SlD.form {w : World} {s : Value} {l : List Int} (h : SlD w s l) : ∃ p n cap, s = .slice p n cap := by
  obtain ⟨p, cap, h1, _⟩ := h
  exact ⟨p, _, cap, h1⟩
theorem SlD.nil (w : World) : SlD w (.slice none 0 0) [] := ⟨none, 0, rfl, by simp, by simp, by simp⟩
theorem SlD.take {w : World} {p : Option Addr} {n cap : Nat} {l : List Int} (h : SlD w (.slice p n cap) l) (k : Nat) (hk : k ≤ l.length) : SlD w (.slice p k cap) (l.take k) := by
  obtain ⟨p', cap', h1, h2, h3, h4⟩ := h
  injection h1 with e1 e2 e3
  subst e1 e3
  refine ⟨p, cap, by rw [List.length_take, Nat.min_eq_left hk], by rw [List.length_take]; omega, h3, fun j x hx => h4 j x ?_⟩
  rw [List.getElem?_take] at hx
  split at hx
  · exact hx
  · cases hx
theorem SlD.of_own {w : World} {base E n : Nat} {v : Value} {l : List Int} (h : w.ownsRow base E 1 v n (l.map (Value.int .u8))) (hn : n = l.length) : SlD w v l := by
  subst hn
  rcases h.2 with ⟨rfl, hn⟩ | ⟨g, cap, cur, rfl, _, hg, h1, h2, h3, h4⟩
  · have := List.length_eq_zero_iff.1 hn
    subst this
    exact SlD.nil w
  · have hcs := h.cells (g := g) rfl
    refine ⟨_, cap, rfl, h1, h2, fun j x hx => ⟨g, rfl, ?_⟩⟩
    have := hcs j (.int .u8 x) (by simp [hx])
    have hadd : (⟨g, 0, none⟩ : Addr).add j = ⟨g, j, none⟩ := by unfold Addr.add; split <;> simp_all
    rwa [hadd] at this

set_option maxHeartbeats 400000 in
theorem rDigit (s : Value) (l : List Int) (k : Nat) (w : World) (hs : SlD w s l) (hd : Dg.Digs l) :
    Calls Tryz.prog 113 #[s, .int .i64 (k : Int)] w fun e w' => e = .returned (.int .i64 (Dg.dig l k)) ∧ w = w' := by
  obtain ⟨p, cap, rfl, h1, h2, h3⟩ := hs
  have hm := max_len
  by_cases hlt : k < l.length
  · have c1 : decide ((k : Int) < l.length) = true := by simp; omega
    obtain ⟨g, rfl, hc⟩ := h3 k _ (Dg.dig_some hlt)
    obtain ⟨d1, d2⟩ := Dg.dig_bd hd k
    clear h3 hd
    go_enter Tryz.func113, Tryz.ntmps113
    go_wp2_with fail
    go_ret
    exact ⟨rfl, rfl⟩
  · have c1 : decide ((k : Int) < l.length) = false := by simp; omega
    have HD := Lib.hid (Dg.dig_none (l := l) (i := k) (by omega))
    clear h3 hd
    go_enter Tryz.func113, Tryz.ntmps113
    go_wp2_with fail
    go_ret
    exact ⟨ret1_i HD.out.symm, rfl⟩

/-- A number's two cells, in a block that may be written. -/
structure NBlk (w : World) (B : Nat) (b : Bool) (s : Value) : Prop where
  c0 : w.cell? ⟨B, 0, none⟩ = some (.bool b)
  c1 : w.cell? ⟨B, 1, none⟩ = some s
  f0 : w.frozen? ⟨B, 0, none⟩ = false
  f1 : w.frozen? ⟨B, 1, none⟩ = false
  lt : B < w.heap.size
theorem NBlk.new (w : World) (b : Bool) (s : Value) (t : TypeId) : NBlk (w.alloc (.cells #[.bool b, s] t)) w.heap.size b s :=
  ⟨by simp, by simp, by simp [go_sem], by simp [go_sem], by simp⟩
theorem NBlk.dn {w w' : World} {B : Nat} {b : Bool} {s : Value} (h : NBlk w B b s) (k : Dn w w') : NBlk w' B b s :=
  ⟨k.cell h.c0, k.cell h.c1, (k.frozen (a := ⟨B, 0, none⟩) h.lt).trans h.f0, (k.frozen (a := ⟨B, 1, none⟩) h.lt).trans h.f1, Nat.lt_of_lt_of_le h.lt k.size⟩
theorem NBlk.set1 {w : World} {B : Nat} {b : Bool} {s : Value} (h : NBlk w B b s) (u : Value) : NBlk (w.setCell ⟨B, 1, none⟩ u) B b u := by
  refine ⟨?_, World.cell?_setCell_same _ _ _ h.c1, by simp [go_sem]; exact h.f0, by simp [go_sem]; exact h.f1, by simpa using h.lt⟩
  rw [World.cell?_setCell_other _ _ _ _ (fun e => by simp at e)]
  exact h.c0
theorem NBlk.set0 {w : World} {B : Nat} {b : Bool} {s : Value} (h : NBlk w B b s) (u : Bool) : NBlk (w.setCell ⟨B, 0, none⟩ (.bool u)) B u s := by
  refine ⟨World.cell?_setCell_same _ _ _ h.c0, ?_, by simp [go_sem]; exact h.f0, by simp [go_sem]; exact h.f1, by simpa using h.lt⟩
  rw [World.cell?_setCell_other _ _ _ _ (fun e => by simp at e)]
  exact h.c1
theorem NBlk.far {w : World} {B : Nat} {b : Bool} {s : Value} (h : NBlk w B b s) {p : Addr} (hp : p.block ≠ B) (u : Value) : NBlk (w.setCell p u) B b s := by
  refine ⟨?_, ?_, by simp [go_sem]; exact h.f0, by simp [go_sem]; exact h.f1, by simpa using h.lt⟩
  · rw [World.cell?_setCell_other _ _ _ _ (fun e => by subst e; simp at hp)]
    exact h.c0
  · rw [World.cell?_setCell_other _ _ _ _ (fun e => by subst e; simp at hp)]
    exact h.c1
theorem NBlk.kept {w w' : World} {B : Nat} {b : Bool} {s : Value} {row : Option Nat} (h : NBlk w B b s) (hg : w.grownBy w' row) (hne : row ≠ some B) : NBlk w' B b s := by
  have hb := hg.block B h.lt (fun e => hne e.symm)
  refine ⟨?_, ?_, ?_, ?_, Nat.lt_of_lt_of_le h.lt hg.size⟩
  · rw [World.cell?_of_block hb]; exact h.c0
  · rw [World.cell?_of_block hb]; exact h.c1
  · have := h.f0; simp only [World.frozen?] at this ⊢; rw [hb]; exact this
  · have := h.f1; simp only [World.frozen?] at this ⊢; rw [hb]; exact this
/-- The whole number with a sign and a size. -/
def sg (b : Bool) (n : Int) : Int := if b then -n else n
/-- A value that is this whole number. -/
def IsN (w : World) (v : Value) (x : Int) : Prop := ∃ s, v = .agg #[.bool (decide (x < 0)), s] ∧ SlD w s (Dg.dl x.natAbs)
theorem IsN.form {w : World} {v : Value} {x : Int} (h : IsN w v x) : ∃ p n cap, v = .agg #[.bool (decide (x < 0)), .slice p n cap] ∧ SlD w (.slice p n cap) (Dg.dl x.natAbs) := by
  obtain ⟨s, h1, h2⟩ := h
  obtain ⟨p, n, cap, rfl⟩ := SlD.form h2
  exact ⟨p, n, cap, h1, h2⟩
theorem IsN.dn {w w' : World} {v : Value} {x : Int} (h : IsN w v x) (k : Dn w w') : IsN w' v x := by
  obtain ⟨s, h1, h2⟩ := h
  exact ⟨s, h1, h2.dn k⟩
theorem IsN.of_canon {w : World} {b : Bool} {s : Value} {l : List Int} (hc : Dg.Canon l) (hs : SlD w s l) (hb : b = decide (sg b (Dg.val l) < 0)) : IsN w (.agg #[.bool b, s]) (sg b (Dg.val l)) := by
  refine ⟨s, by rw [← hb], ?_⟩
  have hv := Dg.val_nonneg hc.1
  have e : Dg.dl (sg b (Dg.val l)).natAbs = l := by
    refine (hc.eq_of ?_).symm
    unfold sg; split <;> omega
  rw [e]
  exact hs
end Go.Proofs.YtopbbcbpanfigaaGreatDoor
