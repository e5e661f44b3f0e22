/-
  A SLICE OF BYTES THAT THE CALL ITSELF FILLS BY append.
-/
import Derived.Test.YtopbbcbpanfigaaGreatDoorNatB
namespace Go.Proofs.YtopbbcbpanfigaaGreatDoor
open Go.RowKit
theorem infoU8 : (Tryz.prog.info? 5).map (fun i => (i.zero, i.size, i.bytes)) = some (some (.int .u8 0), 1, 1) := by kernel_rfl
theorem grown_trans {a b c : World} {row : Option Nat} (h : a.grownBy b row) (k : b.grownBy c row) : a.grownBy c row :=
  ⟨k.os.trans h.os, k.tape.trans h.tape, k.output.trans h.output, Nat.le_trans h.size k.size, fun i hi hne => (k.block i (Nat.lt_of_lt_of_le hi h.size) hne).trans (h.block i hi hne)⟩
theorem grown_dn {a b : World} (h : Dn a b) (row : Option Nat) : a.grownBy b row := ⟨h.below.os, h.below.tape, h.below.output, h.size, fun i hi _ => h.below.block i hi⟩
theorem grown_set (w : World) (p : Addr) (u : Value) : w.grownBy (w.setCell p u) (some p.block) :=
  ⟨rfl, rfl, rfl, by simp, fun i _ hne => Below.heap_setCell w p u i (fun e => hne (by rw [e]))⟩
/-- The slice value v owns a row from block 'base' on, with these digits. -/
structure OwnD (w : World) (base : Nat) (v : Value) (l : List Int) : Prop where
  own : w.ownsRow base 5 1 v l.length (l.map (Value.int .u8))
theorem OwnD.nil (w : World) (base : Nat) : OwnD w base (.slice none 0 0) [] := ⟨World.ownsRow_nil _ _ _ _⟩
theorem OwnD.kept {w w' : World} {base : Nat} {v : Value} {l : List Int} {row : Option Nat} (h : OwnD w base v l) (hg : w.grownBy w' row) (hr : ∀ k, row = some k → k < base) : OwnD w' base v l :=
  ⟨h.own.kept hg (by
    cases hv : v.ownBlock with
    | none => exact Or.inl rfl
    | some g =>
      right
      intro e
      have := (h.own.lt g hv).1
      have := hr g e.symm
      omega)⟩
theorem OwnD.dn {w w' : World} {base : Nat} {v : Value} {l : List Int} (h : OwnD w base v l) (k : Dn w w') : OwnD w' base v l := h.kept (grown_dn k none) (fun _ e => by cases e)
theorem OwnD.far {w : World} {base : Nat} {v : Value} {l : List Int} (h : OwnD w base v l) {p : Addr} (hp : p.block < base) (u : Value) : OwnD (w.setCell p u) base v l :=
  h.kept (grown_set w p u) (fun k e => by cases e; exact hp)
theorem OwnD.sl {w : World} {base : Nat} {v : Value} {l : List Int} (h : OwnD w base v l) : SlD w v l := SlD.of_own h.own rfl
theorem OwnD.form {w : World} {base : Nat} {v : Value} {l : List Int} (h : OwnD w base v l) : ∃ p cap, v = .slice p l.length cap ∧ ∀ g, p = some ⟨g, 0, none⟩ → base ≤ g := by
  obtain ⟨p, cap, e, _⟩ := h.sl
  refine ⟨p, cap, e, fun g hg => ?_⟩
  subst e hg
  exact (h.own.lt g rfl).1
theorem OwnD.row {w : World} {base : Nat} {v : Value} {l : List Int} (h : OwnD w base v l) : ∀ k, v.ownBlock = some k → base ≤ k := fun k hk => (h.own.lt k hk).1
/-- append(v, d), behind the one-cell block of d. -/
theorem append_digit {ops : Array Oper} {rest : List Oper} {o : Oper} {a : Act} {Q : Exit → Act → World → Prop} (hgd : o.guard = none) (s x : Operand)
    (ho : o.op = .call { callee := .builtin .append, args := #[s, x], argTypes := #[78, 78] }) (w : World) (base : Nat) (v : Value) (l : List Int) (d : Int) (hs : a.eval s = v) (hown : OwnD w base v l)
    (hx : a.eval x = .slice (some ⟨w.heap.size, 0, none⟩) 1 1) (hl : l.length ≤ 1000000) (hb : base ≤ w.heap.size)
    (h : ∀ p' cap' w', OwnD w' base (.slice p' (l.length + 1) cap') (l ++ [d]) → w.grownBy w' v.ownBlock → wpList Tryz.prog ops Q rest (a.put o.dst (.slice p' (l.length + 1) cap')) w') : wpList Tryz.prog ops Q (o :: rest) a (w.alloc (.cells #[.int .u8 d] 5)) := by
  obtain ⟨i0, hi, hz0, hz1, hz2⟩ := info_parts infoU8
  refine wpList_append_own _ hgd s x 78 ho base 5 i0 (.int .u8 0) 1 1 Tryz.underlying78 hi hz0 hz1 hz2 rfl (by decide) v _ _ hs (hown.own.alloc _) ⟨w.heap.size, 0, none⟩ 1 1 [.int .u8 d] hx rfl ?_ ?_ ?_ ?_ ?_ ?_
  · intro j u hj
    match j, hj with
    | 0, hj => simp at hj; subst hj; simp [Addr.add]
  · intro u hu; simp at hu; subst hu; rfl
  · unfold maxLen; omega
  · omega
  · simp; omega
  · intro v' w' h1 h2 _
    have h3 : OwnD w' base v' (l ++ [d]) := ⟨by simpa using h1⟩
    obtain ⟨p', cap', e, _⟩ := h3.form
    rw [List.length_append] at e
    subst e
    exact h p' cap' w' h3 (grown_trans (World.grownBy_alloc _ _ _) h2)
end Go.Proofs.YtopbbcbpanfigaaGreatDoor
