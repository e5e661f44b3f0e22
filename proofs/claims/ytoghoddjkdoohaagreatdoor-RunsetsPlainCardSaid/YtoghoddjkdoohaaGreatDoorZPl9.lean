/- Walks and laws that the claim's theorem leans on: part 9. -/
import Derived.Test.YtoghoddjkdoohaaGreatDoorZPl1
import Derived.Test.YtoghoddjkdoohaaGreatDoorZPl8
namespace Go.Proofs.YtoghoddjkdoohaaGreatDoor
open Go.RowKit
set_option linter.unusedVariables false
abbrev Rn := Int × Int × Int × Int
def rc (r : Rn) : List Value := [.int .i8 r.1, .int .i64 r.2.1, .int .i8 r.2.2.1, .int .i64 r.2.2.2]
theorem infoRun : (Tryz.prog.info? 45).map (fun i => (i.zero, i.size, i.bytes)) = some (some (.agg #[.int .i8 0, .int .i64 0, .int .i8 0, .int .i64 0]), 4, 32) := by kernel_rfl
structure OwnR (w : World) (base : Nat) (v : Value) (rs : List Rn) : Prop where
 own : w.ownsRow base 45 4 v rs.length (rs.flatMap rc)
 ok : ∀ r ∈ rs, I64 r.2.1 ∧ I64 r.2.2.2
theorem OwnR.nil (w : World) (base : Nat) : OwnR w base (.slice none 0 0) [] := ⟨World.ownsRow_nil _ _ _ _, fun _ h => by cases h⟩
theorem OwnR.kept {w w' : World} {base : Nat} {v : Value} {rs : List Rn} {row : Option Nat} (h : OwnR w base v rs) (hg : w.grownBy w' row) (hr : ∀ k, row = some k → k < base) : OwnR w' base v rs :=
 ⟨h.own.kept hg (by
  cases hv : v.ownBlock with
  | none => exact Or.inl rfl
  | some g =>
    right
    intro e
    have := (h.own.lt g hv).1
    have := hr g e.symm
    omega), h.ok⟩
theorem OwnR.dn {w w' : World} {base : Nat} {v : Value} {rs : List Rn} (h : OwnR w base v rs) (k : Dn w w') : OwnR w' base v rs := h.kept (grown_dn k none) (fun _ e => by cases e)
theorem OwnR.row {w : World} {base : Nat} {v : Value} {rs : List Rn} (h : OwnR w base v rs) : ∀ k, v.ownBlock = some k → base ≤ k := fun k hk => (h.own.lt k hk).1
theorem rc_get : ∀ (rs : List Rn) (i j : Nat) (r : Rn), rs[i]? = some r → j < 4 → (rs.flatMap rc)[i * 4 + j]? = (rc r)[j]?
 | [], i, j, r, h, _ => by simp at h
 | x :: rs, 0, j, r, h, hj => by
   simp at h
   subst h
   simp only [List.flatMap_cons]
   rw [List.getElem?_append_left (by simp [rc]; omega)]
   simp
 | x :: rs, i + 1, j, r, h, hj => by
   have := rc_get rs i j r (by simpa using h) hj
   simp only [List.flatMap_cons]
   rw [List.getElem?_append_right (by simp [rc]; omega)]
   have e : (i + 1) * 4 + j - (rc x).length = i * 4 + j := by simp [rc]; omega
   rw [e]; exact this
theorem OwnR.form {w : World} {base : Nat} {v : Value} {rs : List Rn} (h : OwnR w base v rs) (hn : rs ≠ []) : ∃ g cap, v = .slice (some ⟨g, 0, none⟩) rs.length cap ∧ base ≤ g ∧ rs.length ≤ cap ∧
   ∀ (i : Nat) (r : Rn), rs[i]? = some r → ∀ j u, (rc r)[j]? = some u → w.cell? ⟨g, i * 4 + j, none⟩ = some u := by
 rcases h.own.2 with ⟨rfl, h0⟩ | ⟨g, cap, cur, rfl, hb, hg, h1, h2, h3, h4⟩
 · exact absurd (List.length_eq_zero_iff.1 h0) hn
 · refine ⟨g, cap, rfl, hb, h1, fun i r hi j u hu => ?_⟩
   have hj : j < 4 := by
    rcases Nat.lt_or_ge j 4 with h | h
    · exact h
    · rw [List.getElem?_eq_none (by simp [rc]; omega)] at hu; cases hu
   have := h.own.cells (g := g) rfl (i * 4 + j) u (by rw [rc_get rs i j r hi hj]; exact hu)
   have hadd : (⟨g, 0, none⟩ : Addr).add (i * 4 + j) = ⟨g, i * 4 + j, none⟩ := by unfold Addr.add; split <;> simp_all
   rwa [hadd] at this
end Go.Proofs.YtoghoddjkdoohaaGreatDoor
