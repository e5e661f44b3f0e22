/-
  WALKS OF circaref01: Mul. (Printed by wip/gen/natI.py.)
-/
import Derived.Test.YtopbbcbpanfigaaGreatDoorNatH
import Derived.Laws.MakeOwn
import Derived.IntWalk
namespace Go.Proofs.YtopbbcbpanfigaaGreatDoor
open Go.RowKit
/-- What holds at the head of Mul's loops: the row at g, the variable 'out' at Bo. -/
structure MulRel (w : World) (ba bb nb : Bool) (sa sb : Value) (g Bo N : Nat) (wr : World) (O : List Int) : Prop where
  own : wr.ownsRow 0 5 1 (.slice (some ⟨g, 0, none⟩) N N) N (O.map (Value.int .u8))
  a : NBlk wr w.heap.size ba sa
  b : NBlk wr (w.heap.size + 1) bb sb
  r : NBlk wr (w.heap.size + 1 + 1) false (.slice none 0 0)
  o : NBlk wr Bo nb (.slice (some ⟨g, 0, none⟩) N N)
  dn : Dn w wr
  hg : w.heap.size + 1 + 1 < g
  hne : g ≠ Bo
  ho : w.heap.size + 1 + 1 < Bo
  len : O.length = N
theorem MulRel.set {w : World} {ba bb nb : Bool} {sa sb : Value} {g Bo N : Nat} {wr : World} {O : List Int} (h : MulRel w ba bb nb sa sb g Bo N wr O) (j : Nat) (d : Int) :
    MulRel w ba bb nb sa sb g Bo N (wr.setCell ⟨g, j, none⟩ (.int .u8 d)) (O.set j d) := by
  have h1 := h.hg
  have h2 := h.hne
  refine ⟨?_, h.a.far (by simp; omega) _, h.b.far (by simp; omega) _, h.r.far (by simp; omega) _, h.o.far (by simpa using h2) _, h.dn.setCell (by simp; omega) _, h.hg, h.hne, h.ho, by rw [List.length_set]; exact h.len⟩
  have := (h.own.stored j (.int .u8 d)).1
  rwa [← List.map_set] at this
theorem MulRel.drewN {w : World} {ba bb nb : Bool} {sa sb : Value} {g Bo N : Nat} {wr : World} {O : List Int} (h : MulRel w ba bb nb sa sb g Bo N wr O) (n : Nat) : MulRel w ba bb nb sa sb g Bo N (wr.drewN n) O :=
  ⟨h.own, h.a.drewN n, h.b.drewN n, h.r.drewN n, h.o.drewN n, h.dn.drewN n, h.hg, h.hne, h.ho, h.len⟩
theorem MulRel.cell {w : World} {ba bb nb : Bool} {sa sb : Value} {g Bo N : Nat} {wr : World} {O : List Int} (h : MulRel w ba bb nb sa sb g Bo N wr O) (j : Nat) (hj : j < N) :
    wr.cell? ⟨g, j, none⟩ = some (.int .u8 (Dg.dig O j)) ∧ wr.frozen? ⟨g, j, none⟩ = false := by
  refine ⟨?_, h.own.frozenAt j⟩
  rw [h.own.cellAt j (by omega), List.getElem?_map, Dg.dig_some (by rw [h.len]; exact hj)]
  rfl
theorem MulRel.sl {w : World} {ba bb nb : Bool} {sa sb : Value} {g Bo N : Nat} {wr : World} {O : List Int} (h : MulRel w ba bb nb sa sb g Bo N wr O) : SlD wr (.slice (some ⟨g, 0, none⟩) N N) O :=
  SlD.of_own h.own h.len.symm
theorem val_zeros (n : Nat) : Dg.val (List.replicate n 0) = 0 ∧ Dg.Digs (List.replicate n 0) ∧ ∀ j, Dg.dig (List.replicate n 0) j = 0 := by
  refine ⟨?_, ?_, ?_⟩
  · induction n with
    | zero => rfl
    | succ n ih => rw [List.replicate_succ, Dg.val, ih]; rfl
  · intro d hd
    have := List.eq_of_mem_replicate hd
    omega
  · intro j
    unfold Dg.dig
    simp only [List.getD, List.getElem?_replicate]
    split <;> rfl
theorem run_mk (N : Nat) (hN : N ≤ 1000000) (w : World) : (Instr.makeSlice 78 (.int .i64 (N : Int)) (.int .i64 (N : Int))).run Tryz.prog w = .ok (.slice (some ⟨w.heap.size, 0, none⟩) N N) (w.alloc (.cells (madeCells #[.int .u8 0] N) 5)) := by
  obtain ⟨i0, hi, hz0, hz1, hz2⟩ := info_parts infoU8
  have h := run_make (P := Tryz.prog) w 78 5 i0 (.int .u8 0) Tryz.underlying78 hi hz0 .i64 .i64 N N (by omega) (by omega) (by rw [hz2]; omega) (by omega)
  rw [hz1] at h
  simpa [Value.cells] using h
theorem own_made (w : World) (N : Nat) (hN : N ≤ 1000000) : (w.alloc (.cells (madeCells #[.int .u8 0] N) 5)).ownsRow 0 5 1 (.slice (some ⟨w.heap.size, 0, none⟩) N N) N ((List.replicate N (0 : Int)).map (Value.int .u8)) := by
  have h := World.ownsRow_lit (base := 0) (e := 5) (size := 1) w (madeCells #[.int .u8 0] N) N (Nat.zero_le _) (by unfold maxLen; omega) (by rw [size_madeCells]; omega)
  rw [toList_madeCells_one] at h
  simpa using h
/-- What Mul's loop over the first number's digits knows. -/
structure OutRel (la lb : List Int) (i : Nat) (O : List Int) : Prop where
  dg : Dg.Digs O
  val : Dg.val O = Dg.val (la.take i) * Dg.val lb
  z : ∀ j, i + lb.length ≤ j → Dg.dig O j = 0
  len : O.length = la.length + lb.length + 1
theorem OutRel.start (la lb : List Int) : OutRel la lb 0 (List.replicate (la.length + lb.length + 1) 0) :=
  ⟨(val_zeros _).2.1, by rw [(val_zeros _).1]; simp [Dg.val], fun j _ => (val_zeros _).2.2 j, by simp⟩
theorem OutRel.next {la lb : List Int} {i k : Nat} {O : List Int} (h : OutRel la lb i O) (ha : Dg.Digs la) (hb : Dg.Digs lb) (hi : i < la.length) (h1 : lb.length ≤ k) (h2 : k ≤ lb.length + 1) (hc : (Dg.rowS O (Dg.dig la i) lb i k).2 = 0) : OutRel la lb (i + 1) (Dg.rowS O (Dg.dig la i) lb i k).1 := by
  obtain ⟨g1, g2, _⟩ := Dg.rowS_inv h.dg (Dg.dig_bd ha i) hb i k (by rw [h.len]; omega)
  obtain ⟨f1, f2⟩ := Dg.rowS_fin h.dg ha hb i k hi h.len h.z h.val h1 h2 hc
  exact ⟨g2, f2, f1, by rw [g1]; exact h.len⟩
theorem sg_mul (x y : Int) : sg (decide (x < 0) != decide (y < 0)) (Dg.val (Dg.dl x.natAbs) * Dg.val (Dg.dl y.natAbs)) = x * y := by
  rw [Dg.dl_val, Dg.dl_val]
  have e : ∀ z : Int, z = (if z < 0 then -(z.natAbs : Int) else (z.natAbs : Int)) := fun z => by split <;> omega
  unfold sg
  by_cases h1 : x < 0 <;> by_cases h2 : y < 0
  all_goals
    have ex := e x
    have ey := e y
    simp only [h1, h2, if_true, if_false] at ex ey
    simp [h1, h2]
    rw [ex, ey]
    simp [Int.neg_mul, Int.mul_neg]
theorem MulRel.start1 {w W : World} {ba bb nb : Bool} {sa sb : Value} {N : Nat} (n0 : NBlk W w.heap.size ba sa) (n1 : NBlk W (w.heap.size + 1) bb sb) (n2 : NBlk W (w.heap.size + 1 + 1) false (.slice none 0 0)) (hz : W.heap.size = w.heap.size + 1 + 1 + 1) (u : Dn w W) (hN : N ≤ 1000000) :
    MulRel w ba bb nb sa sb W.heap.size (W.heap.size + 1) N (((W.alloc (.cells (madeCells #[.int .u8 0] N) 5)).alloc (.cells #[.bool nb, .slice (some ⟨W.heap.size, 0, none⟩) N N] 80)).drew) (List.replicate N 0) :=
  ⟨((own_made W N hN).alloc _), (((n0.alloc _).alloc _).drewN 1), (((n1.alloc _).alloc _).drewN 1), (((n2.alloc _).alloc _).drewN 1), ((NBlk.new1 _ _ _ _ _).drewN 1), (((u.alloc _).alloc _).drewN 1), by omega, by omega, by omega, by simp⟩
theorem MulRel.start2 {w W : World} {ba bb nb : Bool} {sa sb : Value} {N : Nat} (n0 : NBlk W w.heap.size ba sa) (n1 : NBlk W (w.heap.size + 1) bb sb) (n2 : NBlk W (w.heap.size + 1 + 1) false (.slice none 0 0)) (hz : W.heap.size = w.heap.size + 1 + 1 + 1) (u : Dn w W) (hN : N ≤ 1000000) :
    MulRel w ba bb nb sa sb (W.heap.size + 1) W.heap.size N (((W.alloc (.cells #[.bool nb, .slice (some ⟨W.heap.size + 1, 0, none⟩) N N] 80)).alloc (.cells (madeCells #[.int .u8 0] N) 5)).drew) (List.replicate N 0) := by
  have h := own_made (W.alloc (.cells #[.bool nb, .slice (some ⟨W.heap.size + 1, 0, none⟩) N N] 80)) N hN
  rw [show (W.alloc (.cells #[.bool nb, .slice (some ⟨W.heap.size + 1, 0, none⟩) N N] 80)).heap.size = W.heap.size + 1 by simp] at h
  exact ⟨h, (((n0.alloc _).alloc _).drewN 1), (((n1.alloc _).alloc _).drewN 1), (((n2.alloc _).alloc _).drewN 1), (((NBlk.new _ _ _ _).alloc _).drewN 1), (((u.alloc _).alloc _).drewN 1), by omega, by omega, by omega, by simp⟩
end Go.Proofs.YtopbbcbpanfigaaGreatDoor
