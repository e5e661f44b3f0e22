/- Walks and laws that the claim's theorem leans on: part 1. -/
import Derived.Test.YteodjglbpfmikaaGreatDoorRows
import Derived.WalkKit
import Derived.WalkSpells
import Derived.WalkLawsBesides
import Derived.LoopN
import Derived.Deep.RegionHeld3
import Derived.Deep.LoopGhost
import Derived.Sort.Grow
import Derived.Lib.Hide
import Derived.Deep.QuietTactic
import Derived.BigQuiet
import Derived.Deep.DeepFit
import Derived.Deep.DeepMust
import Derived.Test.YteodjglbpfmikaaGreatDoorShSearch
import Derived.Defers
import Derived.OrdersHeld
namespace Go.Proofs.YteodjglbpfmikaaGreatDoor
open Go.RowKit
set_option linter.unusedVariables false
theorem nlt {a b c : Nat} (h : a < b) (k : b ≤ c) : a < c := Nat.lt_of_lt_of_le h k
theorem pL {α : Type} : type_of% (And.intro (@List.getElem_toArray α) (And.intro (@List.getElem_cons_succ α) (And.intro (@List.getElem_cons_zero α) (And.intro (@List.setIfInBounds_toArray α) (And.intro (@List.set_cons_zero α) (@List.set_cons_succ α)))))) := And.intro (@List.getElem_toArray α) (And.intro (@List.getElem_cons_succ α) (And.intro (@List.getElem_cons_zero α) (And.intro (@List.setIfInBounds_toArray α) (And.intro (@List.set_cons_zero α) (@List.set_cons_succ α)))))
theorem tk {P : Program} {md : Region.Mode} {ops : Array Oper} {Q : Exit → Act → World → Prop} {S : World → Prop} (i : Nat) {oi : Oper} (v : Value) {fuel : Nat} {listed : Array Bool} {a : Act} {w : World} (hi : ops[i]? = some oi) (hr : (Region.noSelect ops && (Region.free md ops listed i && (Region.ready md ops listed).contains i)) = true) (hQ : ∀ c a w, Q (.panic c) (a.put oi.dst v) w → Q (.panic c) a w) (hg : Region.wanted oi (yielded ops a.tmps) = true) (hS : S w) (hy : ∀ w, S w → (execOp a.eval oi).run P w = .ok (.value v) w) (h : wpAnyH P md ops Q S fuel (listed.setIfInBounds i true) (a.put oi.dst v) w) : wpAnyH P md ops Q S (fuel + 1) listed a w := by
  rw [Bool.and_eq_true, Bool.and_eq_true] at hr
  exact wpAnyH_take hi hr.1 hr.2.1 hr.2.2 hQ (Or.inl ⟨hg, hy⟩) hS h
theorem tu {P : Program} {md : Region.Mode} {ops : Array Oper} {Q : Exit → Act → World → Prop} {S : World → Prop} (i : Nat) {oi : Oper} {fuel : Nat} {listed : Array Bool} {a : Act} {w : World} (hi : ops[i]? = some oi) (hr : (Region.noSelect ops && (Region.free md ops listed i && (Region.ready md ops listed).contains i)) = true) (hQ : ∀ c a w, Q (.panic c) (a.put oi.dst undef) w → Q (.panic c) a w) (hg : Region.wanted oi (yielded ops a.tmps) = false) (hS : S w) (h : wpAnyH P md ops Q S fuel (listed.setIfInBounds i true) (a.put oi.dst undef) w) : wpAnyH P md ops Q S (fuel + 1) listed a w := by
  rw [Bool.and_eq_true, Bool.and_eq_true] at hr
  exact wpAnyH_take hi hr.1 hr.2.1 hr.2.2 hQ (Or.inr ⟨hg, rfl⟩) hS h
theorem mv3 {w w' : World} (q : ∀ {a : Addr} {v : Value}, w.cell? a = some v → w'.cell? a = some v) {a0 a1 a2 : Addr} {v0 v1 v2 : Value} (h0 : w.cell? a0 = some v0) (h1 : w.cell? a1 = some v1) (h2 : w.cell? a2 = some v2) : w'.cell? a0 = some v0 ∧ w'.cell? a1 = some v1 ∧ w'.cell? a2 = some v2 := ⟨q h0, q h1, q h2⟩
theorem mv4 {w w' : World} (q : ∀ {a : Addr} {v : Value}, w.cell? a = some v → w'.cell? a = some v) {a0 a1 a2 a3 : Addr} {v0 v1 v2 v3 : Value} (h0 : w.cell? a0 = some v0) (h1 : w.cell? a1 = some v1) (h2 : w.cell? a2 = some v2) (h3 : w.cell? a3 = some v3) : w'.cell? a0 = some v0 ∧ w'.cell? a1 = some v1 ∧ w'.cell? a2 = some v2 ∧ w'.cell? a3 = some v3 := ⟨q h0, q h1, q h2, q h3⟩
theorem mv5 {w w' : World} (q : ∀ {a : Addr} {v : Value}, w.cell? a = some v → w'.cell? a = some v) {a0 a1 a2 a3 a4 : Addr} {v0 v1 v2 v3 v4 : Value} (h0 : w.cell? a0 = some v0) (h1 : w.cell? a1 = some v1) (h2 : w.cell? a2 = some v2) (h3 : w.cell? a3 = some v3) (h4 : w.cell? a4 = some v4) : w'.cell? a0 = some v0 ∧ w'.cell? a1 = some v1 ∧ w'.cell? a2 = some v2 ∧ w'.cell? a3 = some v3 ∧ w'.cell? a4 = some v4 := ⟨q h0, q h1, q h2, q h3, q h4⟩
theorem mv6 {w w' : World} (q : ∀ {a : Addr} {v : Value}, w.cell? a = some v → w'.cell? a = some v) {a0 a1 a2 a3 a4 a5 : Addr} {v0 v1 v2 v3 v4 v5 : Value} (h0 : w.cell? a0 = some v0) (h1 : w.cell? a1 = some v1) (h2 : w.cell? a2 = some v2) (h3 : w.cell? a3 = some v3) (h4 : w.cell? a4 = some v4) (h5 : w.cell? a5 = some v5) : w'.cell? a0 = some v0 ∧ w'.cell? a1 = some v1 ∧ w'.cell? a2 = some v2 ∧ w'.cell? a3 = some v3 ∧ w'.cell? a4 = some v4 ∧ w'.cell? a5 = some v5 := ⟨q h0, q h1, q h2, q h3, q h4, q h5⟩
theorem mv7 {w w' : World} (q : ∀ {a : Addr} {v : Value}, w.cell? a = some v → w'.cell? a = some v) {a0 a1 a2 a3 a4 a5 a6 : Addr} {v0 v1 v2 v3 v4 v5 v6 : Value} (h0 : w.cell? a0 = some v0) (h1 : w.cell? a1 = some v1) (h2 : w.cell? a2 = some v2) (h3 : w.cell? a3 = some v3) (h4 : w.cell? a4 = some v4) (h5 : w.cell? a5 = some v5) (h6 : w.cell? a6 = some v6) : w'.cell? a0 = some v0 ∧ w'.cell? a1 = some v1 ∧ w'.cell? a2 = some v2 ∧ w'.cell? a3 = some v3 ∧ w'.cell? a4 = some v4 ∧ w'.cell? a5 = some v5 ∧ w'.cell? a6 = some v6 := ⟨q h0, q h1, q h2, q h3, q h4, q h5, q h6⟩
theorem mv8 {w w' : World} (q : ∀ {a : Addr} {v : Value}, w.cell? a = some v → w'.cell? a = some v) {a0 a1 a2 a3 a4 a5 a6 a7 : Addr} {v0 v1 v2 v3 v4 v5 v6 v7 : Value} (h0 : w.cell? a0 = some v0) (h1 : w.cell? a1 = some v1) (h2 : w.cell? a2 = some v2) (h3 : w.cell? a3 = some v3) (h4 : w.cell? a4 = some v4) (h5 : w.cell? a5 = some v5) (h6 : w.cell? a6 = some v6) (h7 : w.cell? a7 = some v7) : w'.cell? a0 = some v0 ∧ w'.cell? a1 = some v1 ∧ w'.cell? a2 = some v2 ∧ w'.cell? a3 = some v3 ∧ w'.cell? a4 = some v4 ∧ w'.cell? a5 = some v5 ∧ w'.cell? a6 = some v6 ∧ w'.cell? a7 = some v7 := ⟨q h0, q h1, q h2, q h3, q h4, q h5, q h6, q h7⟩
theorem mv9 {w w' : World} (q : ∀ {a : Addr} {v : Value}, w.cell? a = some v → w'.cell? a = some v) {a0 a1 a2 a3 a4 a5 a6 a7 a8 : Addr} {v0 v1 v2 v3 v4 v5 v6 v7 v8 : Value} (h0 : w.cell? a0 = some v0) (h1 : w.cell? a1 = some v1) (h2 : w.cell? a2 = some v2) (h3 : w.cell? a3 = some v3) (h4 : w.cell? a4 = some v4) (h5 : w.cell? a5 = some v5) (h6 : w.cell? a6 = some v6) (h7 : w.cell? a7 = some v7) (h8 : w.cell? a8 = some v8) : w'.cell? a0 = some v0 ∧ w'.cell? a1 = some v1 ∧ w'.cell? a2 = some v2 ∧ w'.cell? a3 = some v3 ∧ w'.cell? a4 = some v4 ∧ w'.cell? a5 = some v5 ∧ w'.cell? a6 = some v6 ∧ w'.cell? a7 = some v7 ∧ w'.cell? a8 = some v8 := ⟨q h0, q h1, q h2, q h3, q h4, q h5, q h6, q h7, q h8⟩
theorem mv10 {w w' : World} (q : ∀ {a : Addr} {v : Value}, w.cell? a = some v → w'.cell? a = some v) {a0 a1 a2 a3 a4 a5 a6 a7 a8 a9 : Addr} {v0 v1 v2 v3 v4 v5 v6 v7 v8 v9 : Value} (h0 : w.cell? a0 = some v0) (h1 : w.cell? a1 = some v1) (h2 : w.cell? a2 = some v2) (h3 : w.cell? a3 = some v3) (h4 : w.cell? a4 = some v4) (h5 : w.cell? a5 = some v5) (h6 : w.cell? a6 = some v6) (h7 : w.cell? a7 = some v7) (h8 : w.cell? a8 = some v8) (h9 : w.cell? a9 = some v9) : w'.cell? a0 = some v0 ∧ w'.cell? a1 = some v1 ∧ w'.cell? a2 = some v2 ∧ w'.cell? a3 = some v3 ∧ w'.cell? a4 = some v4 ∧ w'.cell? a5 = some v5 ∧ w'.cell? a6 = some v6 ∧ w'.cell? a7 = some v7 ∧ w'.cell? a8 = some v8 ∧ w'.cell? a9 = some v9 := ⟨q h0, q h1, q h2, q h3, q h4, q h5, q h6, q h7, q h8, q h9⟩
theorem mv11 {w w' : World} (q : ∀ {a : Addr} {v : Value}, w.cell? a = some v → w'.cell? a = some v) {a0 a1 a2 a3 a4 a5 a6 a7 a8 a9 a10 : Addr} {v0 v1 v2 v3 v4 v5 v6 v7 v8 v9 v10 : Value} (h0 : w.cell? a0 = some v0) (h1 : w.cell? a1 = some v1) (h2 : w.cell? a2 = some v2) (h3 : w.cell? a3 = some v3) (h4 : w.cell? a4 = some v4) (h5 : w.cell? a5 = some v5) (h6 : w.cell? a6 = some v6) (h7 : w.cell? a7 = some v7) (h8 : w.cell? a8 = some v8) (h9 : w.cell? a9 = some v9) (h10 : w.cell? a10 = some v10) : w'.cell? a0 = some v0 ∧ w'.cell? a1 = some v1 ∧ w'.cell? a2 = some v2 ∧ w'.cell? a3 = some v3 ∧ w'.cell? a4 = some v4 ∧ w'.cell? a5 = some v5 ∧ w'.cell? a6 = some v6 ∧ w'.cell? a7 = some v7 ∧ w'.cell? a8 = some v8 ∧ w'.cell? a9 = some v9 ∧ w'.cell? a10 = some v10 := ⟨q h0, q h1, q h2, q h3, q h4, q h5, q h6, q h7, q h8, q h9, q h10⟩
theorem mv12 {w w' : World} (q : ∀ {a : Addr} {v : Value}, w.cell? a = some v → w'.cell? a = some v) {a0 a1 a2 a3 a4 a5 a6 a7 a8 a9 a10 a11 : Addr} {v0 v1 v2 v3 v4 v5 v6 v7 v8 v9 v10 v11 : Value} (h0 : w.cell? a0 = some v0) (h1 : w.cell? a1 = some v1) (h2 : w.cell? a2 = some v2) (h3 : w.cell? a3 = some v3) (h4 : w.cell? a4 = some v4) (h5 : w.cell? a5 = some v5) (h6 : w.cell? a6 = some v6) (h7 : w.cell? a7 = some v7) (h8 : w.cell? a8 = some v8) (h9 : w.cell? a9 = some v9) (h10 : w.cell? a10 = some v10) (h11 : w.cell? a11 = some v11) : w'.cell? a0 = some v0 ∧ w'.cell? a1 = some v1 ∧ w'.cell? a2 = some v2 ∧ w'.cell? a3 = some v3 ∧ w'.cell? a4 = some v4 ∧ w'.cell? a5 = some v5 ∧ w'.cell? a6 = some v6 ∧ w'.cell? a7 = some v7 ∧ w'.cell? a8 = some v8 ∧ w'.cell? a9 = some v9 ∧ w'.cell? a10 = some v10 ∧ w'.cell? a11 = some v11 := ⟨q h0, q h1, q h2, q h3, q h4, q h5, q h6, q h7, q h8, q h9, q h10, q h11⟩
theorem mv13 {w w' : World} (q : ∀ {a : Addr} {v : Value}, w.cell? a = some v → w'.cell? a = some v) {a0 a1 a2 a3 a4 a5 a6 a7 a8 a9 a10 a11 a12 : Addr} {v0 v1 v2 v3 v4 v5 v6 v7 v8 v9 v10 v11 v12 : Value} (h0 : w.cell? a0 = some v0) (h1 : w.cell? a1 = some v1) (h2 : w.cell? a2 = some v2) (h3 : w.cell? a3 = some v3) (h4 : w.cell? a4 = some v4) (h5 : w.cell? a5 = some v5) (h6 : w.cell? a6 = some v6) (h7 : w.cell? a7 = some v7) (h8 : w.cell? a8 = some v8) (h9 : w.cell? a9 = some v9) (h10 : w.cell? a10 = some v10) (h11 : w.cell? a11 = some v11) (h12 : w.cell? a12 = some v12) : w'.cell? a0 = some v0 ∧ w'.cell? a1 = some v1 ∧ w'.cell? a2 = some v2 ∧ w'.cell? a3 = some v3 ∧ w'.cell? a4 = some v4 ∧ w'.cell? a5 = some v5 ∧ w'.cell? a6 = some v6 ∧ w'.cell? a7 = some v7 ∧ w'.cell? a8 = some v8 ∧ w'.cell? a9 = some v9 ∧ w'.cell? a10 = some v10 ∧ w'.cell? a11 = some v11 ∧ w'.cell? a12 = some v12 := ⟨q h0, q h1, q h2, q h3, q h4, q h5, q h6, q h7, q h8, q h9, q h10, q h11, q h12⟩
theorem mv14 {w w' : World} (q : ∀ {a : Addr} {v : Value}, w.cell? a = some v → w'.cell? a = some v) {a0 a1 a2 a3 a4 a5 a6 a7 a8 a9 a10 a11 a12 a13 : Addr} {v0 v1 v2 v3 v4 v5 v6 v7 v8 v9 v10 v11 v12 v13 : Value} (h0 : w.cell? a0 = some v0) (h1 : w.cell? a1 = some v1) (h2 : w.cell? a2 = some v2) (h3 : w.cell? a3 = some v3) (h4 : w.cell? a4 = some v4) (h5 : w.cell? a5 = some v5) (h6 : w.cell? a6 = some v6) (h7 : w.cell? a7 = some v7) (h8 : w.cell? a8 = some v8) (h9 : w.cell? a9 = some v9) (h10 : w.cell? a10 = some v10) (h11 : w.cell? a11 = some v11) (h12 : w.cell? a12 = some v12) (h13 : w.cell? a13 = some v13) : w'.cell? a0 = some v0 ∧ w'.cell? a1 = some v1 ∧ w'.cell? a2 = some v2 ∧ w'.cell? a3 = some v3 ∧ w'.cell? a4 = some v4 ∧ w'.cell? a5 = some v5 ∧ w'.cell? a6 = some v6 ∧ w'.cell? a7 = some v7 ∧ w'.cell? a8 = some v8 ∧ w'.cell? a9 = some v9 ∧ w'.cell? a10 = some v10 ∧ w'.cell? a11 = some v11 ∧ w'.cell? a12 = some v12 ∧ w'.cell? a13 = some v13 := ⟨q h0, q h1, q h2, q h3, q h4, q h5, q h6, q h7, q h8, q h9, q h10, q h11, q h12, q h13⟩
theorem mv15 {w w' : World} (q : ∀ {a : Addr} {v : Value}, w.cell? a = some v → w'.cell? a = some v) {a0 a1 a2 a3 a4 a5 a6 a7 a8 a9 a10 a11 a12 a13 a14 : Addr} {v0 v1 v2 v3 v4 v5 v6 v7 v8 v9 v10 v11 v12 v13 v14 : Value} (h0 : w.cell? a0 = some v0) (h1 : w.cell? a1 = some v1) (h2 : w.cell? a2 = some v2) (h3 : w.cell? a3 = some v3) (h4 : w.cell? a4 = some v4) (h5 : w.cell? a5 = some v5) (h6 : w.cell? a6 = some v6) (h7 : w.cell? a7 = some v7) (h8 : w.cell? a8 = some v8) (h9 : w.cell? a9 = some v9) (h10 : w.cell? a10 = some v10) (h11 : w.cell? a11 = some v11) (h12 : w.cell? a12 = some v12) (h13 : w.cell? a13 = some v13) (h14 : w.cell? a14 = some v14) : w'.cell? a0 = some v0 ∧ w'.cell? a1 = some v1 ∧ w'.cell? a2 = some v2 ∧ w'.cell? a3 = some v3 ∧ w'.cell? a4 = some v4 ∧ w'.cell? a5 = some v5 ∧ w'.cell? a6 = some v6 ∧ w'.cell? a7 = some v7 ∧ w'.cell? a8 = some v8 ∧ w'.cell? a9 = some v9 ∧ w'.cell? a10 = some v10 ∧ w'.cell? a11 = some v11 ∧ w'.cell? a12 = some v12 ∧ w'.cell? a13 = some v13 ∧ w'.cell? a14 = some v14 := ⟨q h0, q h1, q h2, q h3, q h4, q h5, q h6, q h7, q h8, q h9, q h10, q h11, q h12, q h13, q h14⟩
theorem mv16 {w w' : World} (q : ∀ {a : Addr} {v : Value}, w.cell? a = some v → w'.cell? a = some v) {a0 a1 a2 a3 a4 a5 a6 a7 a8 a9 a10 a11 a12 a13 a14 a15 : Addr} {v0 v1 v2 v3 v4 v5 v6 v7 v8 v9 v10 v11 v12 v13 v14 v15 : Value} (h0 : w.cell? a0 = some v0) (h1 : w.cell? a1 = some v1) (h2 : w.cell? a2 = some v2) (h3 : w.cell? a3 = some v3) (h4 : w.cell? a4 = some v4) (h5 : w.cell? a5 = some v5) (h6 : w.cell? a6 = some v6) (h7 : w.cell? a7 = some v7) (h8 : w.cell? a8 = some v8) (h9 : w.cell? a9 = some v9) (h10 : w.cell? a10 = some v10) (h11 : w.cell? a11 = some v11) (h12 : w.cell? a12 = some v12) (h13 : w.cell? a13 = some v13) (h14 : w.cell? a14 = some v14) (h15 : w.cell? a15 = some v15) : w'.cell? a0 = some v0 ∧ w'.cell? a1 = some v1 ∧ w'.cell? a2 = some v2 ∧ w'.cell? a3 = some v3 ∧ w'.cell? a4 = some v4 ∧ w'.cell? a5 = some v5 ∧ w'.cell? a6 = some v6 ∧ w'.cell? a7 = some v7 ∧ w'.cell? a8 = some v8 ∧ w'.cell? a9 = some v9 ∧ w'.cell? a10 = some v10 ∧ w'.cell? a11 = some v11 ∧ w'.cell? a12 = some v12 ∧ w'.cell? a13 = some v13 ∧ w'.cell? a14 = some v14 ∧ w'.cell? a15 = some v15 := ⟨q h0, q h1, q h2, q h3, q h4, q h5, q h6, q h7, q h8, q h9, q h10, q h11, q h12, q h13, q h14, q h15⟩
end Go.Proofs.YteodjglbpfmikaaGreatDoor
namespace Go.Proofs.YteodjglbpfmikaaGreatDoor
open Go.RowKit
def I64 (a : Int) : Prop := -9223372036854775808 ≤ a ∧ a ≤ 9223372036854775807
instance decI64 (a : Int) : Decidable (I64 a) := by unfold I64; infer_instance
theorem ret1_i {k : IntKind} {a b : Int} (h : a = b) : Ending.returned (.int k a) = .returned (.int k b) := by rw [h]
theorem ret2_i {k l : IntKind} {a b c d : Int} (h : a = b) (h' : c = d) : Ending.returned (.tuple #[.int k a, .int l c]) = .returned (.tuple #[.int k b, .int l d]) := by rw [h, h']
theorem retb {a b : Bool} (h : a = b) : Ending.returned (.bool a) = .returned (.bool b) := by rw [h]
theorem i64_of_wf {a : Int} (h : (Lit.int .i64 a).wf = true) : I64 a := by
 simp [Lit.wf, IntKind.min, IntKind.max, IntKind.signed, IntKind.bits] at h
 exact ⟨by omega, by omega⟩
structure Up (w w' : World) : Prop where
 below : Below w.heap.size w w'
 drawn : w.drawn ≤ w'.drawn
theorem Up.refl (w : World) : Up w w := ⟨Below.refl _ _, Nat.le_refl _⟩
theorem Up.trans {a b c : World} (h : Up a b) (k : Up b c) : Up a c := ⟨h.below.trans (k.below.mono h.below.size), Nat.le_trans h.drawn k.drawn⟩
theorem Up.alloc {a w : World} (h : Up a w) (o : Obj) : Up a (w.alloc o) := ⟨h.below.alloc h.below.size o, h.drawn⟩
theorem Up.drew {a w : World} (h : Up a w) : Up a w.drew := ⟨h.below.drew, Nat.le_trans h.drawn (Nat.le_succ _)⟩
theorem Up.setCell {a w : World} (h : Up a w) {p : Addr} (hp : a.heap.size ≤ p.block) (u : Value) : Up a (w.setCell p u) := ⟨h.below.setCell hp u, h.drawn⟩
theorem Up.size {a w : World} (h : Up a w) : a.heap.size ≤ w.heap.size := h.below.size
theorem Up.drewN {a w : World} (h : Up a w) (n : Nat) : Up a (w.drewN n) := ⟨h.below.trans ⟨rfl, rfl, rfl, Nat.le_refl _, fun _ _ => rfl⟩, Nat.le_trans h.drawn (Nat.le_add_right _ _)⟩
theorem Below.step {a w w' : World} (h : Below a.heap.size a w) (k : Below w.heap.size w w') : Below a.heap.size a w' := h.trans (k.mono h.size)
theorem cell_below {w w' : World} {a : Addr} {v : Value} (hb : Below w.heap.size w w') (h : w.cell? a = some v) : w'.cell? a = some v := by
 rw [hb.cell (World.block_lt_of_cell? _ _ h)]; exact h
theorem Up.cell {w w' : World} {a : Addr} {v : Value} (hb : Up w w') (h : w.cell? a = some v) : w'.cell? a = some v := cell_below hb.below h
theorem ret3_i {k l j : IntKind} {a b c d x y : Int} (h : a = b) (h' : c = d) (h'' : x = y) : Ending.returned (.tuple #[.int k a, .int l c, .int j x]) = .returned (.tuple #[.int k b, .int l d, .int j y]) := by rw [h, h', h'']
theorem Up.grow {w w' : World} (h : Up w w') : ∃ q os, w' = Go.Sort.grow (w.drewN q) os := by
 refine ⟨w'.drawn - w.drawn, w'.heap.extract w.heap.size w'.heap.size, ?_⟩
 have hd := h.drawn
 obtain ⟨⟨h1, h2, h3, h4, h5⟩, _⟩ := h
 have e : w'.heap = w.heap ++ w'.heap.extract w.heap.size w'.heap.size := by
  apply Array.ext_getElem?
  intro i
  by_cases hi : i < w.heap.size
  · rw [h5 i hi, Array.getElem?_append_left hi]
  · rw [Array.getElem?_append_right (by omega), Array.getElem?_extract]
    by_cases hj : i < w'.heap.size
    · rw [if_pos (by omega)]; congr 1; omega
    · rw [if_neg (by omega), Array.getElem?_eq_none (by omega)]
 have e2 : w'.drawn = w.drawn + (w'.drawn - w.drawn) := by omega
 obtain ⟨hp, tp, dr, o, ou⟩ := w'
 simp only at h1 h2 h3 e e2
 subst h1 h2 h3
 show _ = World.mk (w.heap ++ hp.extract w.heap.size hp.size) w.tape (w.drawn + (dr - w.drawn)) w.os w.output
 rw [← e, ← e2]
theorem Up.of_grow {w : World} (q : Nat) (os : Array Obj) : Up w (Go.Sort.grow (w.drewN q) os) :=
 ⟨⟨rfl, rfl, rfl, by simp [Go.Sort.grow], fun i hi => by
  show ((w.drewN q).heap ++ os)[i]? = _
  rw [Array.getElem?_append_left (by show i < w.heap.size; omega)]
  rfl⟩, Nat.le_add_right _ _⟩
set_option maxHeartbeats 400000
theorem tdiv_neg (a b : Int) (h : a < 0) : a.tdiv b = -((-a) / b) := by
 have := Int.neg_tdiv (a := -a) (b := b)
 rw [Int.neg_neg] at this
 rw [this, Int.tdiv_eq_ediv_of_nonneg (by omega)]
theorem tmod_neg (a b : Int) (h : a < 0) : a.tmod b = -((-a) % b) := by
 have := Int.neg_tmod (a := -a) (b := b)
 rw [Int.neg_neg] at this
 rw [this, Int.tmod_eq_emod_of_nonneg (by omega)]
theorem fdiv_neg1 (a b : Int) (hb : 0 < b) (h : (-a) % b = 0) : -((-a) / b) = a / b ∧ a % b = 0 := by
 have e := Int.mul_ediv_add_emod (-a) b
 rw [h, Int.add_zero] at e
 generalize (-a) / b = q at *
 have e2 : a = b * (-q) + 0 := by rw [Int.mul_neg, e]; omega
 have := (Int.ediv_emod_unique (a := a) (b := b) (r := 0) (q := -q) hb).2 ⟨by omega, by omega, by omega⟩
 exact ⟨this.1.symm, this.2⟩
theorem fdiv_neg2 (a b : Int) (hb : 0 < b) (h : ¬ (-a) % b = 0) : -((-a) / b) - 1 = a / b ∧ b - (-a) % b = a % b := by
 have e := Int.mul_ediv_add_emod (-a) b
 have h1 := Int.emod_nonneg (-a) (show b ≠ 0 by omega)
 have h2 := Int.emod_lt_of_pos (-a) hb
 generalize (-a) / b = q at *
 generalize (-a) % b = r at *
 have e2 : a = b * (-q - 1) + (b - r) := by rw [Int.mul_sub, Int.mul_neg]; omega
 have := (Int.ediv_emod_unique (a := a) (b := b) (r := b - r) (q := -q - 1) hb).2 ⟨by omega, by omega, by omega⟩
 exact ⟨this.1.symm, this.2.symm⟩
theorem fdiv_half (a b : Int) (hb : 1 < b) : (0 ≤ a → 0 ≤ a / b ∧ 2 * (a / b) ≤ a) ∧ (a < 0 → a / b < 0 ∧ a - 1 ≤ 2 * (a / b)) := by
 have e := Int.mul_ediv_add_emod a b
 have h1 := Int.emod_nonneg a (show b ≠ 0 by omega)
 have h2 := Int.emod_lt_of_pos a (show 0 < b by omega)
 generalize hq : a / b = q at *
 generalize a % b = r at *
 constructor
 · intro h
   have hq0 : 0 ≤ q := by rw [← hq]; exact Int.ediv_nonneg h (by omega)
   have := Int.mul_le_mul_of_nonneg_right (show 2 ≤ b by omega) hq0
   omega
 · intro h
   have hq0 : q < 0 := by rw [← hq]; exact Int.ediv_neg_of_neg_of_pos h (by omega)
   have h3 := Int.mul_le_mul_of_nonneg_right (show 2 ≤ b by omega) (show 0 ≤ -q - 1 by omega)
   rw [Int.mul_sub b, Int.mul_neg] at h3
   omega
theorem divp1 (a b : Int) (h : a < 0) (hb : 1 < b) (h3 : a.tmod b = 0) : a.tdiv b = a / b := by
 rw [tmod_neg a b h] at h3
 rw [tdiv_neg a b h]
 exact (fdiv_neg1 a b (by omega) (by omega)).1
theorem divp2 (a b : Int) (ha : I64 a) (h : a < 0) (hb : 1 < b) (h3 : ¬ a.tmod b = 0) : wrap64 (a.tdiv b - 1) = a / b := by
 rw [tmod_neg a b h] at h3
 have e := (fdiv_neg2 a b (by omega) (by omega)).1
 have := (fdiv_half a b hb).2 h
 obtain ⟨_, _⟩ := ha
 rw [tdiv_neg a b h, e]
 exact IntWalk.wrap64_in _ ⟨by omega, by omega⟩
theorem modp1 (a b : Int) (h : a < 0) (hb : 1 < b) (h3 : a.tmod b = 0) : 0 = a % b := by
 rw [tmod_neg a b h] at h3
 exact (fdiv_neg1 a b (by omega) (by omega)).2.symm
theorem modp2 (a b : Int) (hb2 : b ≤ 9223372036854775807) (h : a < 0) (hb : 1 < b) (h3 : ¬ a.tmod b = 0) : wrap64 (a.tmod b + b) = a % b := by
 have h4 := tmod_neg a b h
 rw [h4] at h3
 have e := (fdiv_neg2 a b (by omega) (by omega)).2
 have h1 := Int.emod_nonneg a (show b ≠ 0 by omega)
 have h2 := Int.emod_lt_of_pos a (show 0 < b by omega)
 rw [h4, show -(-a % b) + b = a % b by omega]
 exact IntWalk.wrap64_in _ ⟨by omega, by omega⟩
theorem div_pos (a b : Int) (w : World) (ha : I64 a) (hb : 1 < b) (hb2 : b ≤ 9223372036854775807) :
   Calls Tryz.prog 76 #[.int .i64 a, .int .i64 b] w fun e w' => e = .returned (.tuple #[.int .i64 (a / b), .int .i64 0]) ∧ w = w' := by
 have HA := ha
 obtain ⟨h1, h2⟩ := ha
 have c1 : (b == 0) = false := by rw [beq_eq_false_iff_ne]; omega
 have c2 : (b == -1) = false := by rw [beq_eq_false_iff_ne]; omega
 by_cases h0 : 0 ≤ a
 · have c3 : decide (a < 0) = false := by simp; omega
   have c4 : decide (b < 0) = false := by simp; omega
   by_cases h3 : a % b = 0
   all_goals
     go_enter Tryz.func76, Tryz.ntmps76
     go_wp2_with fail
     go_ret2
     exact ⟨rfl, rfl⟩
 · have c3 : decide (a < 0) = true := by simp; omega
   have c4 : decide (b < 0) = false := by simp; omega
   go_enter Tryz.func76, Tryz.ntmps76
   go_wp2_with fail
   · go_ret2
     exact ⟨ret2_i (divp1 a b (by omega) hb ‹_›) rfl, rfl⟩
   · go_ret2
     exact ⟨ret2_i (divp2 a b HA (by omega) hb ‹_›) rfl, rfl⟩
theorem mod_pos (a b : Int) (w : World) (ha : I64 a) (hb : 1 < b) (hb2 : b ≤ 9223372036854775807) :
   Calls Tryz.prog 77 #[.int .i64 a, .int .i64 b] w fun e w' => e = .returned (.tuple #[.int .i64 (a % b), .int .i64 0]) ∧ w = w' := by
 obtain ⟨h1, h2⟩ := ha
 have c1 : (b == 0) = false := by rw [beq_eq_false_iff_ne]; omega
 have c2 : (b == -1) = false := by rw [beq_eq_false_iff_ne]; omega
 by_cases h0 : 0 ≤ a
 · have c3 : decide (a % b < 0) = false := by have := Int.emod_nonneg a (show b ≠ 0 by omega); simp; omega
   have c4 : decide (b < 0) = false := by simp; omega
   by_cases h3 : a % b = 0
   all_goals
     go_enter Tryz.func77, Tryz.ntmps77
     go_wp2_with fail
     go_ret2
     exact ⟨by first | rfl | (rw [h3]), rfl⟩
 · have c4 : decide (b < 0) = false := by simp; omega
   have e5 := tmod_neg a b (by omega)
   have h6 := Int.emod_nonneg (-a) (show b ≠ 0 by omega)
   by_cases h3 : a.tmod b = 0
   · have e6 : a.tmod b = 0 := h3
     have c5 : (a.tmod b != 0) = false := by simp [h3]
     clear e5
     go_enter Tryz.func77, Tryz.ntmps77
     go_wp2_with fail
     go_ret2
     exact ⟨ret2_i (modp1 a b (by omega) hb h3) rfl, rfl⟩
   · have c3 : decide (a.tmod b < 0) = true := by simp; omega
     have c5 : (a.tmod b != 0) = true := by simp [h3]
     clear e5
     go_enter Tryz.func77, Tryz.ntmps77
     go_wp2_with fail
     go_ret2
     exact ⟨ret2_i (modp2 a b hb2 (by omega) hb h3) rfl, rfl⟩
end Go.Proofs.YteodjglbpfmikaaGreatDoor
namespace Go.Proofs.YteodjglbpfmikaaGreatDoor
namespace Cal
def bf (y : Int) : Int := 1 + (y - 1) / 4 - (y - 1) / 100 + (y - 1) / 400
def sy (y : Int) : Int := 365 * y + bf y
def lp (y : Int) : Bool := decide (y % 400 = 0 ∨ (y % 4 = 0 ∧ y % 100 ≠ 0))
def lpN (y : Int) : Int := if lp y = true then 1 else 0
def len (y : Int) : Int := 365 + lpN y
theorem lpN_eq (y : Int) : lpN y = if y % 400 = 0 ∨ (y % 4 = 0 ∧ y % 100 ≠ 0) then 1 else 0 := by
 unfold lpN lp; simp only [decide_eq_true_eq]
theorem lpN_bd (y : Int) : 0 ≤ lpN y ∧ lpN y ≤ 1 := by unfold lpN; split <;> omega
theorem bf_succ (y : Int) : bf (y + 1) = bf y + lpN y := by
 rw [lpN_eq]; unfold bf; split <;> omega
theorem sy_succ (y : Int) : sy (y + 1) = sy y + len y := by
 unfold sy len; rw [bf_succ]; omega
theorem sy_cycle (q n : Int) : sy (400 * q + n) = 146097 * q + sy n := by unfold sy bf; omega
theorem lpN_cycle (q n : Int) : lpN (400 * q + n) = lpN n := by
 rw [lpN_eq, lpN_eq]; split <;> split <;> omega
theorem sy_mono (a b : Int) (h : a ≤ b) : sy a ≤ sy b := by unfold sy bf; omega
theorem sy_lt (a b : Int) (h : a < b) : sy a + 365 ≤ sy b := by unfold sy bf; omega
theorem sy_zero : sy 0 = 0 := by decide
theorem sy_400 : sy 400 = 146097 := by decide
theorem sy_uniq (d y z : Int) (h1 : sy y ≤ d) (h2 : d < sy (y + 1)) (h3 : sy z ≤ d) (h4 : d < sy (z + 1)) : y = z := by
 rcases Int.lt_trichotomy y z with h | h | h
 · have := sy_mono (y + 1) z (by omega); omega
 · exact h
 · have := sy_mono (z + 1) y (by omega); omega
def cnt (r : Int) : Nat := (List.range 400).countP (fun i : Nat => !(decide (r < sy ((i : Int) + 1))))
theorem cnt_aux (r : Int) (k : Nat) (h1 : ∀ i : Nat, i < k → sy (i + 1) ≤ r) (h2 : ∀ i : Nat, k ≤ i → r < sy (i + 1)) :
   ∀ n, (List.range n).countP (fun i : Nat => !(decide (r < sy ((i : Int) + 1)))) = min n k := by
 intro n
 induction n with
 | zero => simp
 | succ n ih =>
   rw [List.range_succ, List.countP_append, ih]
   by_cases h : n < k
   · have h3 := h1 n h
     have h4 : ¬ r < sy ((n : Int) + 1) := by omega
     simp only [List.countP_cons, List.countP_nil, h4, decide_false, Bool.not_false, if_true]
     omega
   · have h3 := h2 n (by omega)
     simp only [List.countP_cons, List.countP_nil, h3, decide_true, Bool.not_true, Bool.false_eq_true, if_false]
     omega
theorem year_ex (r : Int) (h0 : 0 ≤ r) : ∀ k : Nat, r < sy (k + 1) → ∃ y : Nat, y ≤ k ∧ sy y ≤ r ∧ r < sy (y + 1) := by
 intro k
 induction k with
 | zero => intro h; exact ⟨0, by omega, by simpa [sy_zero] using h0, h⟩
 | succ k ih =>
   intro h
   by_cases h' : r < sy (k + 1)
   · obtain ⟨y, a, b, c⟩ := ih h'; exact ⟨y, by omega, b, c⟩
   · exact ⟨k + 1, by omega, by simp; omega, h⟩
theorem cnt_spec (r : Int) (h0 : 0 ≤ r) (h1 : r < 146097) : cnt r ≤ 399 ∧ sy (cnt r) ≤ r ∧ r < sy (cnt r + 1) := by
 obtain ⟨y, a, b, c⟩ := year_ex r h0 399 (by simpa [sy_400] using h1)
 have e : cnt r = min 400 y := cnt_aux r y (fun i hi => by have := sy_mono (i + 1) y (by omega); omega) (fun i hi => by have := sy_mono (y + 1) (i + 1) (by omega); omega) 400
 have e' : cnt r = y := by omega
 rw [e']; exact ⟨a, b, c⟩
def yr (d : Int) : Int := 400 * (d / 146097) + cnt (d % 146097)
theorem yr_spec (d : Int) : sy (yr d) ≤ d ∧ d < sy (yr d + 1) := by
 have h := cnt_spec (d % 146097) (by omega) (by omega)
 unfold yr
 rw [sy_cycle, Int.add_assoc, sy_cycle]
 omega
theorem yr_of (d y : Int) (h1 : sy y ≤ d) (h2 : d < sy (y + 1)) : yr d = y := sy_uniq d _ _ (yr_spec d).1 (yr_spec d).2 h1 h2
def mlen (y m : Int) : Int := if m = 2 then 28 + lpN y else if m = 4 ∨ m = 6 ∨ m = 9 ∨ m = 11 then 30 else 31
def cum (y m : Int) : Int := if m ≤ 2 then 31 * (m - 1) else (367 * m - 362) / 12 - 2 + lpN y
def sm (y m : Int) : Int := sy y + cum y m
theorem mlen_bd (y m : Int) : 28 ≤ mlen y m ∧ mlen y m ≤ 31 := by
 have := lpN_bd y; unfold mlen; split <;> (try split) <;> omega
theorem cum_succ (y m : Int) (h1 : 1 ≤ m) (h2 : m ≤ 12) : cum y (m + 1) = cum y m + mlen y m := by
 have := lpN_bd y
 have h : m = 1 ∨ m = 2 ∨ m = 3 ∨ m = 4 ∨ m = 5 ∨ m = 6 ∨ m = 7 ∨ m = 8 ∨ m = 9 ∨ m = 10 ∨ m = 11 ∨ m = 12 := by omega
 rcases h with rfl | rfl | rfl | rfl | rfl | rfl | rfl | rfl | rfl | rfl | rfl | rfl <;> simp [cum, mlen] <;> omega
theorem cum_one (y : Int) : cum y 1 = 0 := by simp [cum]
theorem cum_13 (y : Int) : cum y 13 = len y := by simp [cum, len]
theorem cum_bd (y m : Int) (h1 : 1 ≤ m) (h2 : m ≤ 13) : 0 ≤ cum y m ∧ cum y m ≤ 366 := by
 have := lpN_bd y
 unfold cum; split <;> omega
theorem cum_mono (y a b : Int) (h1 : 1 ≤ a) (h2 : a ≤ b) (h3 : b ≤ 13) : cum y a ≤ cum y b := by
 have := lpN_bd y
 unfold cum; split <;> split <;> omega
end Cal
end Go.Proofs.YteodjglbpfmikaaGreatDoor
namespace Go.Proofs.YteodjglbpfmikaaGreatDoor
set_option maxHeartbeats 1000000
open Go.RowKit
def Steps (w : World) : Prop := ∃ b off cap : Nat, w.cell? ⟨3, 0, none⟩ = some (.slice (some ⟨b, off, none⟩) 3 cap) ∧
 w.cell? ⟨b, off, none⟩ = some (.int .i64 4) ∧ w.cell? ⟨b, off + 1, none⟩ = some (.int .i64 1) ∧
 w.cell? ⟨b, off + 2, none⟩ = some (.int .i64 100) ∧ w.cell? ⟨b, off + 3, none⟩ = some (.int .i64 (-1)) ∧
 w.cell? ⟨b, off + 4, none⟩ = some (.int .i64 400) ∧ w.cell? ⟨b, off + 5, none⟩ = some (.int .i64 1)
theorem Steps.below {w w' : World} (h : Steps w) (hb : Below w.heap.size w w') : Steps w' := by
 obtain ⟨b, off, cap, h0, h1, h2, h3, h4, h5, h6⟩ := h
 exact ⟨b, off, cap, cell_below hb h0, cell_below hb h1, cell_below hb h2, cell_below hb h3, cell_below hb h4, cell_below hb h5, cell_below hb h6⟩
theorem Steps.up {w w' : World} (h : Steps w) (hb : Up w w') : Steps w' := h.below hb.below
def YrB (y : Int) : Prop := -20000000000000000 ≤ y ∧ y ≤ 20000000000000000
theorem before_any (y : Int) (w : World) (hy : YrB y) (hE : Steps w) :
   Calls Tryz.prog 116 #[.int .i64 y] w fun e w' => e = .returned (.int .i64 (Cal.bf y)) ∧ Up w w' := by
 obtain ⟨b, off, cap, h0, h1, h2, h3, h4, h5, h6⟩ := hE
 obtain ⟨hy1, hy2⟩ := hy
 have hb0 := World.block_lt_of_cell? _ _ h1
 have hb1 : b < w.heap.size := hb0
 have hb2 : b < w.heap.size + 1 := by omega
 have hb3 : b < w.heap.size + 1 + 1 := by omega
 clear hb0
 go_enter Tryz.func116, Tryz.ntmps116
 go_wp2_with fail
 refine wp_loop_rounds 4 ?_
 rw [rounds_succ]
 go_wp2_with fail
 refine (div_pos _ _ _ (by unfold I64; omega) (by omega) (by omega)).mono ?_
 rintro e w1 ⟨rfl, rfl⟩
 go_wp2_with fail
 rw [rounds_succ]
 go_wp2_with fail
 refine (div_pos _ _ _ (by unfold I64; omega) (by omega) (by omega)).mono ?_
 rintro e w1 ⟨rfl, rfl⟩
 go_wp2_with fail
 rw [rounds_succ]
 go_wp2_with fail
 refine (div_pos _ _ _ (by unfold I64; omega) (by omega) (by omega)).mono ?_
 rintro e w1 ⟨rfl, rfl⟩
 go_wp2_with fail
 rw [rounds_succ]
 go_wp2_with fail
 go_ret
 refine ⟨ret1_i ?_, ?_⟩
 · unfold Cal.bf; omega
 · exact (((Up.refl _).alloc _).alloc _).alloc _
theorem bf_bd (y : Int) (hy : YrB y) : -10000000000000000 ≤ Cal.bf y ∧ Cal.bf y ≤ 10000000000000000 := by
 obtain ⟨h1, h2⟩ := hy
 unfold Cal.bf; omega
theorem start_any (y : Int) (w : World) (hy : YrB y) (hE : Steps w) :
  Calls Tryz.prog 63 #[.int .i64 y] w fun e w' => e = .returned (.int .i64 (Cal.sy y)) ∧ Up w w' := by
 have hb := bf_bd y hy
 have HY := hy
 obtain ⟨hy1, hy2⟩ := hy
 go_enter Tryz.func63, Tryz.ntmps63
 go_wp2_with (go_at_call 116; refine (before_any _ _ HY hE).mono ?_; rintro e w1 ⟨rfl, hu⟩)
 go_ret
 exact ⟨rfl, hu⟩
def IsY (y : Int) : Prop := -10000000000000000 ≤ y ∧ y ≤ 10000000000000000
instance (y : Int) : Decidable (IsY y) := by unfold IsY; infer_instance
theorem IsY.b {y : Int} (h : IsY y) : YrB y := by obtain ⟨_, _⟩ := h; exact ⟨by omega, by omega⟩
theorem IsY.b1 {y : Int} (h : IsY y) : YrB (y + 1) := by obtain ⟨_, _⟩ := h; exact ⟨by omega, by omega⟩
theorem check_yes (y : Int) (w : World) (hy : IsY y) :
  Calls Tryz.prog 18 #[.int .i64 y] w fun e w' => e = .returned (.int .i64 0) ∧ w = w' := by
 obtain ⟨hy1, hy2⟩ := hy
 have c1 : decide (y < -10000000000000000) = false := by simp; omega
 have c2 : decide (10000000000000000 < y) = false := by simp; omega
 go_enter Tryz.func18, Tryz.ntmps18
 go_wp2_with fail
 go_ret
 exact ⟨rfl, rfl⟩
theorem check_no (y : Int) (w : World) (hy : ¬ IsY y) :
   Calls Tryz.prog 18 #[.int .i64 y] w fun e w' => e = .returned (.int .i64 6) ∧ w = w' := by
 unfold IsY at hy
 by_cases h : y < -10000000000000000
 · have c1 : decide (y < -10000000000000000) = true := by simp; omega
   go_enter Tryz.func18, Tryz.ntmps18
   go_wp2_with fail
   go_ret
   exact ⟨rfl, rfl⟩
 · have c1 : decide (y < -10000000000000000) = false := by simp; omega
   have c2 : decide (10000000000000000 < y) = true := by simp; omega
   go_enter Tryz.func18, Tryz.ntmps18
   go_wp2_with fail
   go_ret
   exact ⟨rfl, rfl⟩
theorem ret2_b {l : IntKind} {a b : Bool} {c d : Int} (h : a = b) (h' : c = d) : Ending.returned (.tuple #[.bool a, .int l c]) = .returned (.tuple #[.bool b, .int l d]) := by rw [h, h']
theorem bf_lp (y : Int) : decide (Cal.bf y < Cal.bf (y + 1)) = Cal.lp y := by
 rw [Cal.bf_succ]; unfold Cal.lpN
 cases Cal.lp y
 · simp
 · simp; omega
theorem leap_yes (y : Int) (w : World) (hy : IsY y) (hE : Steps w) :
  Calls Tryz.prog 114 #[.int .i64 y] w fun e w' => e = .returned (.tuple #[.bool (Cal.lp y), .int .i64 0]) ∧ Up w w' := by
 have HY := hy
 obtain ⟨hy1, hy2⟩ := hy
 go_enter Tryz.func114, Tryz.ntmps114
 go_wp2_with (go_at_call 18; refine (check_yes _ _ HY).mono ?_; rintro e w1 ⟨rfl, rfl⟩)
 refine (before_any _ _ HY.b1 hE).mono ?_
 rintro e w1 ⟨rfl, hu⟩
 go_wp2_with fail
 refine (before_any _ _ HY.b (hE.up hu)).mono ?_
 rintro e w2 ⟨rfl, hu2⟩
 go_wp2_with fail
 go_ret2
 exact ⟨ret2_b (bf_lp y) rfl, hu.trans hu2⟩
theorem sy_bd (y : Int) (hy : YrB y) : -7400000000000000000 ≤ Cal.sy y ∧ Cal.sy y ≤ 7400000000000000000 := by
 obtain ⟨h1, h2⟩ := hy
 unfold Cal.sy Cal.bf; omega
theorem sy_bdY (y : Int) (hy : IsY y) : -3652425000000000000 ≤ Cal.sy y ∧ Cal.sy y ≤ 3652425000000000000 ∧ Cal.sy (y + 1) ≤ 3652425000000000366 := by
 obtain ⟨h1, h2⟩ := hy
 unfold Cal.sy Cal.bf; omega
theorem ystart_yes (y : Int) (w : World) (hy : IsY y) (hE : Steps w) :
  Calls Tryz.prog 57 #[.int .i64 y] w fun e w' => e = .returned (.tuple #[.int .i64 (Cal.sy y), .int .i64 0]) ∧ Up w w' := by
 go_enter Tryz.func57, Tryz.ntmps57
 go_wp2_with (first | (go_at_call 18; refine (check_yes _ _ hy).mono ?_; rintro e w1 ⟨rfl, rfl⟩) | (go_at_call 63; refine (start_any _ _ hy.b hE).mono ?_; rintro e w1 ⟨rfl, hu⟩))
 go_ret2
 exact ⟨rfl, hu⟩
theorem yend_yes (y : Int) (w : World) (hy : IsY y) (hE : Steps w) :
  Calls Tryz.prog 58 #[.int .i64 y] w fun e w' => e = .returned (.tuple #[.int .i64 (Cal.sy (y + 1) - 1), .int .i64 0]) ∧ Up w w' := by
 have HY := hy
 have hs := sy_bd (y + 1) hy.b1
 obtain ⟨hy1, hy2⟩ := hy
 go_enter Tryz.func58, Tryz.ntmps58
 go_wp2_with (first | (go_at_call 18; refine (check_yes _ _ HY).mono ?_; rintro e w1 ⟨rfl, rfl⟩) | (go_at_call 63; refine (start_any _ _ HY.b1 hE).mono ?_; rintro e w1 ⟨rfl, hu⟩))
 go_ret2
 exact ⟨rfl, hu⟩
set_option maxHeartbeats 400000
def KU (w : World) (a : Addr) (v : Value) (w' : World) : Prop := Up w w' ∧ w'.cell? a = some v
theorem KU.start {w : World} {a : Addr} {v : Value} (h : w.cell? a = some v) : KU w a v w.drew := ⟨(Up.refl _).drew, h⟩
theorem KU.step {w w1 w2 : World} {a : Addr} {v : Value} (h : KU w a v w1) (k : Up w1 w2) : KU w a v w2 := ⟨h.1.trans k, k.cell h.2⟩
theorem of_closure (i : Nat) (hi : i < 400) (bx : Nat) (r : Int) (w : World) (hE : Steps w) (hr : w.cell? ⟨bx, 0, none⟩ = some (.int .i64 r)) :
  Calls Tryz.prog 79 #[.int .i64 i, .pointer (some ⟨bx, 0, none⟩)] w fun e w' => e = .returned (.bool (decide (r < Cal.sy (i + 1)))) ∧ Up w w' := by
 have hy : YrB ((i : Int) + 1) := ⟨by omega, by omega⟩
 have hi1 : IntKind.i64.wrap ((i : Int) + 1) = (i : Int) + 1 := IntWalk.i64_in _ (by omega)
 go_enter Tryz.func79, Tryz.ntmps79
 go_wp2_with fail
 go_region_held3 (fun w' => Up w w' ∧ w'.cell? ⟨bx, 0, none⟩ = some (.int .i64 r)) (first | exact KU.start hr | exact KU.step ‹_› ‹_›)
  (first | (go_at_call 63; refine (start_any _ _ hy (hE.up ?_)).mono ?_; (simp [*]); rintro e w' ⟨rfl, hu⟩))
 go_wp2
 go_ret
 exact ⟨rfl, (‹Up w _ ∧ _› : _ ∧ _).1⟩
theorem search_cnt (d : Int) (w : World) (bx : Nat) (hE : Steps w) (hr : w.cell? ⟨bx, 0, none⟩ = some (.int .i64 d)) :
  Calls Tryz.prog 78 #[.int .i64 400, .func (.func 79) #[] #[.pointer (some ⟨bx, 0, none⟩)]] w fun e w' => e = .returned (.int .i64 (Cal.cnt d)) ∧ Up w w' := by
 have eg : ∀ args w, (callFunc 79 args).run Tryz.prog w = .ok (.enter 79 args) w := Go.Proofs.enters_of Tryz.func79 (by kernel_rfl) rfl
 have hS := Any.sort_Search Tryz.search 79 #[.pointer (some ⟨bx, 0, none⟩)] 400 (fun i => decide (d < Cal.sy (i + 1))) w eg (by decide)
  (fun m os i hi => (of_closure i hi bx d _ (hE.up (Up.of_grow _ _)) ((Up.of_grow _ _).cell hr)).mono fun _ _ ⟨he, hu⟩ => ⟨he, hu.grow⟩)
  (fun a b hab hb h => by
   have := Cal.sy_mono ((a : Int) + 1) ((b : Int) + 1) (by omega)
   simp at h ⊢; omega)
 refine hS.mono ?_
 rintro e w' ⟨he, q, os, rfl⟩
 exact ⟨he, Up.of_grow _ _⟩
theorem cnt_bd (d : Int) : (Cal.cnt (d % 146097) : Int) ≤ 399 := by
 have := (Cal.cnt_spec (d % 146097) (by omega) (by omega)).1
 omega
theorem yr_eq (d : Int) : 400 * (d / 146097) + (Cal.cnt (d % 146097) : Int) = Cal.yr d := rfl
theorem of_yes (d : Int) (w : World) (hd : I64 d) (h : IsY (Cal.yr d)) (hE : Steps w) :
  Calls Tryz.prog 31 #[.int .i64 d] w fun e w' => e = .returned (.tuple #[.int .i64 (Cal.yr d), .int .i64 0]) ∧ Up w w' := by
 have HD := hd
 have hc := cnt_bd d
 have hr : (w.alloc (Obj.cells #[Value.int IntKind.i64 (d % 146097)] 2)).cell? ⟨w.heap.size, 0, none⟩ = some (.int .i64 (d % 146097)) := by simp
 have hu0 : Up w (w.alloc (Obj.cells #[Value.int IntKind.i64 (d % 146097)] 2)) := (Up.refl _).alloc _
 obtain ⟨h1, h2⟩ := hd
 go_enter Tryz.func31, Tryz.ntmps31
 go_wp2_with fail
 refine (div_pos _ _ _ HD (by omega) (by omega)).mono ?_
 rintro e w1 ⟨rfl, rfl⟩
 go_wp2_with fail
 refine (mod_pos _ _ _ HD (by omega) (by omega)).mono ?_
 rintro e w1 ⟨rfl, rfl⟩
 go_wp2_with fail
 refine (search_cnt (d % 146097) _ _ (hE.up hu0) hr).mono ?_
 rintro e w1 ⟨rfl, hu⟩
 go_wp2_with fail
 rw [yr_eq]
 refine (check_yes _ _ h).mono ?_
 rintro e w2 ⟨rfl, rfl⟩
 go_wp2_with fail
 go_ret2
 exact ⟨rfl, hu0.trans hu⟩
theorem of_no (d : Int) (w : World) (hd : I64 d) (h : ¬ IsY (Cal.yr d)) (hE : Steps w) :
  Calls Tryz.prog 31 #[.int .i64 d] w fun e w' => e = .returned (.tuple #[.int .i64 0, .int .i64 6]) ∧ Up w w' := by
 have HD := hd
 have hc := cnt_bd d
 have hr : (w.alloc (Obj.cells #[Value.int IntKind.i64 (d % 146097)] 2)).cell? ⟨w.heap.size, 0, none⟩ = some (.int .i64 (d % 146097)) := by simp
 have hu0 : Up w (w.alloc (Obj.cells #[Value.int IntKind.i64 (d % 146097)] 2)) := (Up.refl _).alloc _
 obtain ⟨h1, h2⟩ := hd
 go_enter Tryz.func31, Tryz.ntmps31
 go_wp2_with fail
 refine (div_pos _ _ _ HD (by omega) (by omega)).mono ?_
 rintro e w1 ⟨rfl, rfl⟩
 go_wp2_with fail
 refine (mod_pos _ _ _ HD (by omega) (by omega)).mono ?_
 rintro e w1 ⟨rfl, rfl⟩
 go_wp2_with fail
 refine (search_cnt (d % 146097) _ _ (hE.up hu0) hr).mono ?_
 rintro e w1 ⟨rfl, hu⟩
 go_wp2_with fail
 rw [yr_eq]
 refine (check_no _ _ h).mono ?_
 rintro e w2 ⟨rfl, rfl⟩
 go_wp2_with fail
 go_ret2
 exact ⟨rfl, hu0.trans hu⟩
theorem leap_is (y : Int) (b : Bool) (w : World) (hb : Cal.lp y = b) (hy : IsY y) (hE : Steps w) :
  Calls Tryz.prog 114 #[.int .i64 y] w fun e w' => e = .returned (.tuple #[.bool b, .int .i64 0]) ∧ Up w w' := by
 rw [← hb]; exact leap_yes y w hy hE
theorem of_is (d y : Int) (w : World) (hb : Cal.yr d = y) (hd : I64 d) (hy : IsY y) (hE : Steps w) :
  Calls Tryz.prog 31 #[.int .i64 d] w fun e w' => e = .returned (.tuple #[.int .i64 y, .int .i64 0]) ∧ Up w w' := by
 subst hb; exact of_yes d w hd hy hE
set_option maxHeartbeats 1000000
theorem addD_same (pn pa pb pe : Addr) (n a b : Int) (x : Bool) (u : FrameMode) (w : World) (cn : w.cell? pn = some (.int .i64 n)) (ca : w.cell? pa = some (.int .i64 a)) (cb : w.cell? pb = some (.int .i64 b))
  (h1 : decide (a < n) = x) (h2 : decide (0 < b) = x) :
  CallsD Tryz.prog 92 #[.pointer (some pn), .pointer (some pa), .pointer (some pb), .pointer (some pe)] u w fun e u' w' => u' = u ∧ (e = .returned (.tuple #[]) ∧ w' = w) := by
 go_enter_d Tryz.func92, Tryz.ntmps92
 cases x
 all_goals
  go_wp2
  go_end0
  exact ⟨rfl, rfl⟩
theorem addD_over (pn pa pb pe : Addr) (n a b : Int) (x : Bool) (u : FrameMode) (w : World) (cn : w.cell? pn = some (.int .i64 n)) (ca : w.cell? pa = some (.int .i64 a)) (cb : w.cell? pb = some (.int .i64 b))
  (ce : w.cell? pe = some (.int .i64 0)) (fn : w.frozen? pn = false) (fe : w.frozen? pe = false) (hne : pe.block ≠ pn.block)
  (h1 : decide (a < n) = x) (h2 : decide (0 < b) = !x) :
  CallsD Tryz.prog 92 #[.pointer (some pn), .pointer (some pa), .pointer (some pb), .pointer (some pe)] u w fun e u' w' => u' = u ∧ (e = .returned (.tuple #[]) ∧ w' = (w.setCell pn (.int .i64 0)).setCell pe (.int .i64 15)) := by
 have ce' : (w.setCell pn (.int .i64 0)).cell? pe = some (.int .i64 0) := by exact (World.cell?_setCell_other (w := w) (a := pn) (b := pe) (v := .int .i64 0) (fun h => hne (by rw [h]))).trans ce
 have fe' : (w.setCell pn (.int .i64 0)).frozen? pe = false := by rw [World.frozen?_setCell]; exact fe
 go_enter_d Tryz.func92, Tryz.ntmps92
 cases x
 all_goals
  go_wp2
  go_end0
  exact ⟨rfl, rfl⟩
theorem add_cmp (a b : Int) (ha : I64 a) (hb : I64 b) :
   (I64 (a + b) → wrap64 (a + b) = a + b ∧ decide (a < a + b) = decide (0 < b)) ∧ (¬ I64 (a + b) → decide (a < wrap64 (a + b)) = !decide (0 < b)) := by
 obtain ⟨a1, a2⟩ := ha
 obtain ⟨b1, b2⟩ := hb
 constructor
 · intro h
   exact ⟨IntWalk.wrap64_in _ h, by rw [decide_eq_decide]; omega⟩
 · intro h
   unfold I64 at h
   by_cases h0 : 0 < b
   · rw [decide_eq_true h0]
     simp only [Bool.not_true, decide_eq_false_iff_not]
     unfold wrap64; omega
   · rw [decide_eq_false h0]
     simp only [Bool.not_false, decide_eq_true_eq]
     unfold wrap64; omega
def addW (w : World) (a b n : Int) : World :=
 ((((w.alloc (.cells #[.int .i64 a] 2)).alloc (.cells #[.int .i64 b] 2)).alloc (.cells #[.int .i64 n] 2)).alloc (.cells #[.int .i64 0] 31))
theorem addW_up (w : World) (a b n : Int) : Up w (addW w a b n) := ((((Up.refl _).alloc _).alloc _).alloc _).alloc _
theorem addW_cells (w : World) (a b n : Int) : (addW w a b n).cell? ⟨w.heap.size, 0, none⟩ = some (.int .i64 a) ∧ (addW w a b n).cell? ⟨w.heap.size + 1, 0, none⟩ = some (.int .i64 b) ∧
  (addW w a b n).cell? ⟨w.heap.size + 1 + 1, 0, none⟩ = some (.int .i64 n) ∧ (addW w a b n).cell? ⟨w.heap.size + 1 + 1 + 1, 0, none⟩ = some (.int .i64 0) ∧
  (addW w a b n).frozen? ⟨w.heap.size + 1 + 1, 0, none⟩ = false ∧ (addW w a b n).frozen? ⟨w.heap.size + 1 + 1 + 1, 0, none⟩ = false := by
 refine ⟨?_, ?_, ?_, ?_, ?_, ?_⟩ <;> simp [addW, go_sem]
theorem add_door_fits (w : World) (a b n m : Int) (tmps : Array Value) (h4 : tmps.getD 4 undef = .pointer (some ⟨w.heap.size + 1 + 1, 0, none⟩)) (h5 : tmps.getD 5 undef = .pointer (some ⟨w.heap.size + 1 + 1 + 1, 0, none⟩))
  (hc : decide (a < n) = decide (0 < b)) (hm : n = m) :
  Leaves Tryz.prog Tryz.f41 tmps (fun e w' => e = Ending.returned (.tuple #[.int .i64 m, .int .i64 0]) ∧ Up w w')
   [{ target := Target.fn (Fn.func 92) #[.pointer (some ⟨w.heap.size + 1 + 1, 0, none⟩), .pointer (some ⟨w.heap.size, 0, none⟩), .pointer (some ⟨w.heap.size + 1, 0, none⟩), .pointer (some ⟨w.heap.size + 1 + 1 + 1, 0, none⟩)], args := #[] }]
   .returning (addW w a b n) := by
 obtain ⟨c0, c1, c2, c3, f2, f3⟩ := addW_cells w a b n
 rw [Array.getD_eq_getD_getElem?] at h4 h5
 refine leaves_cons (f := 92) (args := #[.pointer (some ⟨w.heap.size + 1 + 1, 0, none⟩), .pointer (some ⟨w.heap.size, 0, none⟩), .pointer (some ⟨w.heap.size + 1, 0, none⟩), .pointer (some ⟨w.heap.size + 1 + 1 + 1, 0, none⟩)]) (by simp) (by simp [go_sem]) ?_
 refine (addD_same _ _ _ _ n a b _ _ _ c2 c0 c1 hc rfl).mono ?_
 rintro e u' w'' ⟨rfl, rfl, rfl⟩
 subst hm
 simp [Leaves, settle, results, Tryz.results41, go_sem, h4, h5, c2, c3, addW_up]
theorem add_door_over (w : World) (a b n : Int) (tmps : Array Value) (h4 : tmps.getD 4 undef = .pointer (some ⟨w.heap.size + 1 + 1, 0, none⟩)) (h5 : tmps.getD 5 undef = .pointer (some ⟨w.heap.size + 1 + 1 + 1, 0, none⟩))
  (hc : decide (a < n) = !decide (0 < b)) :
  Leaves Tryz.prog Tryz.f41 tmps (fun e w' => e = Ending.returned (.tuple #[.int .i64 0, .int .i64 15]) ∧ Up w w')
   [{ target := Target.fn (Fn.func 92) #[.pointer (some ⟨w.heap.size + 1 + 1, 0, none⟩), .pointer (some ⟨w.heap.size, 0, none⟩), .pointer (some ⟨w.heap.size + 1, 0, none⟩), .pointer (some ⟨w.heap.size + 1 + 1 + 1, 0, none⟩)], args := #[] }]
   .returning (addW w a b n) := by
 obtain ⟨c0, c1, c2, c3, f2, f3⟩ := addW_cells w a b n
 rw [Array.getD_eq_getD_getElem?] at h4 h5
 refine leaves_cons (f := 92) (args := #[.pointer (some ⟨w.heap.size + 1 + 1, 0, none⟩), .pointer (some ⟨w.heap.size, 0, none⟩), .pointer (some ⟨w.heap.size + 1, 0, none⟩), .pointer (some ⟨w.heap.size + 1 + 1 + 1, 0, none⟩)]) (by simp) (by simp [go_sem]) ?_
 refine (addD_over _ _ _ _ n a b _ _ _ c2 c0 c1 c3 f2 f3 (by simp) hc (by simp)).mono ?_
 rintro e u' w'' ⟨rfl, rfl, rfl⟩
 have e2 : (((addW w a b n).setCell ⟨w.heap.size + 1 + 1, 0, none⟩ (.int .i64 0)).setCell ⟨w.heap.size + 1 + 1 + 1, 0, none⟩ (.int .i64 15)).cell? ⟨w.heap.size + 1 + 1, 0, none⟩ = some (.int .i64 0) := by
  rw [World.cell?_setCell_other _ _ _ _ (by simp)]
  exact World.cell?_setCell_same _ _ _ c2
 have e3 : (((addW w a b n).setCell ⟨w.heap.size + 1 + 1, 0, none⟩ (.int .i64 0)).setCell ⟨w.heap.size + 1 + 1 + 1, 0, none⟩ (.int .i64 15)).cell? ⟨w.heap.size + 1 + 1 + 1, 0, none⟩ = some (.int .i64 15) := by
  refine World.cell?_setCell_same _ _ _ (u := .int .i64 0) ?_
  rw [World.cell?_setCell_other _ _ _ _ (by simp)]
  exact c3
 have hu : Up w (((addW w a b n).setCell ⟨w.heap.size + 1 + 1, 0, none⟩ (.int .i64 0)).setCell ⟨w.heap.size + 1 + 1 + 1, 0, none⟩ (.int .i64 15)) :=
  ((addW_up w a b n).setCell (by show _ ≤ w.heap.size + 1 + 1; omega) _).setCell (by show _ ≤ w.heap.size + 1 + 1 + 1; omega) _
 simp [Leaves, settle, results, Tryz.results41, go_sem, h4, h5, e2, e3, hu]
theorem add_fits (a b : Int) (w : World) (ha : I64 a) (hb : I64 b) (h : I64 (a + b)) :
   Calls Tryz.prog 41 #[.int .i64 a, .int .i64 b] w fun e w' => e = .returned (.tuple #[.int .i64 (a + b), .int .i64 0]) ∧ Up w w' := by
 have hmf : ∀ (fn : Fn) (first cap : Array Value) (w : World), (Instr.makeFunc fn first cap).run Tryz.prog w = .ok (.func fn first cap) w := fun _ _ _ _ => rfl
 obtain ⟨hw, hc⟩ := (add_cmp a b ha hb).1 h
 by_cases h0 : b = 0
 · subst h0
   clear hw hc
   go_enter_defers Tryz.func41, Tryz.ntmps41
   go_wp2
   exact add_door_fits w a 0 a _ _ rfl rfl (by simp) (by omega)
 · have HW := Lib.hid hw
   have HC := Lib.hid hc
   clear hw hc
   have c1 : (b == 0) = false := by rw [beq_eq_false_iff_ne]; exact h0
   obtain ⟨h1, h2⟩ := h
   go_enter_defers Tryz.func41, Tryz.ntmps41
   go_wp2
   exact add_door_fits w a b (a + b) _ _ rfl rfl HC.out rfl
theorem add_over (a b : Int) (w : World) (ha : I64 a) (hb : I64 b) (h : ¬ I64 (a + b)) :
  Calls Tryz.prog 41 #[.int .i64 a, .int .i64 b] w fun e w' => e = .returned (.tuple #[.int .i64 0, .int .i64 15]) ∧ Up w w' := by
 have hmf : ∀ (fn : Fn) (first cap : Array Value) (w : World), (Instr.makeFunc fn first cap).run Tryz.prog w = .ok (.func fn first cap) w := fun _ _ _ _ => rfl
 have hc := (add_cmp a b ha hb).2 h
 have h0 : b ≠ 0 := by
  rintro rfl
  exact h (by rw [Int.add_zero]; exact ha)
 have c1 : (b == 0) = false := by rw [beq_eq_false_iff_ne]; exact h0
 have HC := Lib.hid hc
 clear hc h
 go_enter_defers Tryz.func41, Tryz.ntmps41
 go_wp2
 exact add_door_over w a b (wrap64 (a + b)) _ rfl rfl HC.out
theorem sm_succ (y m : Int) (h1 : 1 ≤ m) (h2 : m ≤ 12) : Cal.sm y (m + 1) = Cal.sm y m + Cal.mlen y m := by
 unfold Cal.sm; rw [Cal.cum_succ y m h1 h2]; omega
theorem sm_mono (y a b : Int) (h1 : 1 ≤ a) (h2 : a ≤ b) (h3 : b ≤ 13) : Cal.sm y a ≤ Cal.sm y b := by
 have := Cal.cum_mono y a b h1 h2 h3
 unfold Cal.sm; omega
theorem sm_one (y : Int) : Cal.sm y 1 = Cal.sy y := by unfold Cal.sm; rw [Cal.cum_one]; omega
theorem sm_13 (y : Int) : Cal.sm y 13 = Cal.sy (y + 1) := by unfold Cal.sm; rw [Cal.cum_13, Cal.sy_succ]
theorem count_upto (p : Nat → Bool) (k : Nat) (h1 : ∀ i, i < k → p i = true) (h2 : ∀ i, k ≤ i → p i = false) : ∀ n, (List.range n).countP p = min n k := by
 intro n
 induction n with
 | zero => simp
 | succ n ih =>
   rw [List.range_succ, List.countP_append, ih]
   by_cases h : n < k
   · simp only [List.countP_cons, List.countP_nil, h1 n h, if_true]; omega
   · simp only [List.countP_cons, List.countP_nil, h2 n (by omega), Bool.false_eq_true, if_false]; omega
theorem find_step (f : Nat → Int) (d : Int) (h0 : f 0 ≤ d) : ∀ k, d < f (k + 1) → ∃ j, j ≤ k ∧ f j ≤ d ∧ d < f (j + 1) := by
 intro k
 induction k with
 | zero => intro h; exact ⟨0, by omega, h0, h⟩
 | succ k ih =>
   intro h
   by_cases h' : d < f (k + 1)
   · obtain ⟨j, a, b, c⟩ := ih h'; exact ⟨j, by omega, b, c⟩
   · exact ⟨k + 1, by omega, by omega, h⟩
def mo (d : Int) : Int := 1 + (((List.range 12).countP (fun i : Nat => decide (i < 11 ∧ Cal.sm (Cal.yr d) ((i : Int) + 2) ≤ d)) : Nat) : Int)
theorem mo_spec (d : Int) : 1 ≤ mo d ∧ mo d ≤ 12 ∧ Cal.sm (Cal.yr d) (mo d) ≤ d ∧ d < Cal.sm (Cal.yr d) (mo d + 1) := by
 have hy := Cal.yr_spec d
 unfold mo
 generalize Cal.yr d = y at hy ⊢
 obtain ⟨j, j1, j2, j3⟩ := find_step (fun k => Cal.sm y ((k : Int) + 1)) d (by simpa [sm_one] using hy.1) 11 (by simpa [sm_13] using hy.2)
 have hc := count_upto (fun i : Nat => decide (i < 11 ∧ Cal.sm y ((i : Int) + 2) ≤ d)) j
   (fun i hi => by
    have := sm_mono y ((i : Int) + 2) ((j : Int) + 1) (by omega) (by omega) (by omega)
    simp only [decide_eq_true_eq]
    exact ⟨by omega, by omega⟩)
   (fun i hi => by
    simp only [decide_eq_false_iff_not]
    rintro ⟨h1, h2⟩
    have := sm_mono y (((j + 1 : Nat) : Int) + 1) ((i : Int) + 2) (by omega) (by omega) (by omega)
    omega) 12
 rw [hc, show min 12 j = j by omega]
 refine ⟨by omega, by omega, ?_, ?_⟩
 · rw [Int.add_comm]; exact j2
 · rw [show 1 + (j : Int) + 1 = ((j + 1 : Nat) : Int) + 1 by omega]; exact j3
theorem mo_of (d y m : Int) (h1 : 1 ≤ m) (h2 : m ≤ 12) (h3 : Cal.sm y m ≤ d) (h4 : d < Cal.sm y (m + 1)) : Cal.yr d = y ∧ mo d = m := by
 have hy : Cal.yr d = y := by
   have a := sm_mono y 1 m (by omega) h1 (by omega)
   have b := sm_mono y (m + 1) 13 (by omega) (by omega) (by omega)
   rw [sm_one] at a
   rw [sm_13] at b
   exact Cal.yr_of d y (by omega) (by omega)
 refine ⟨hy, ?_⟩
 obtain ⟨s1, s2, s3, s4⟩ := mo_spec d
 rw [hy] at s3 s4
 rcases Int.lt_trichotomy (mo d) m with h | h | h
 · have := sm_mono y (mo d + 1) m (by omega) (by omega) (by omega); omega
 · exact h
 · have := sm_mono y (m + 1) (mo d) (by omega) (by omega) (by omega); omega
set_option maxHeartbeats 1000000
def lensL : List Int := [31, 28, 31, 30, 31, 30, 31, 31, 30, 31, 30, 31]
structure EnvM (w : World) : Prop where
 st : Steps w
 ln : ∀ i : Nat, i < 12 → w.cell? ⟨1, i, none⟩ = some (.int .i64 (lensL.getD i 0))
theorem EnvM.up {w w' : World} (h : EnvM w) (hb : Up w w') : EnvM w' := ⟨h.st.up hb, fun i hi => hb.cell (h.ln i hi)⟩
theorem EnvM.below {w w' : World} (h : EnvM w) (hb : Below w.heap.size w w') : EnvM w' := ⟨h.st.below hb, fun i hi => cell_below hb (h.ln i hi)⟩
def IsM (y m : Int) : Prop := IsY y ∧ 1 ≤ m ∧ m ≤ 12
instance (y m : Int) : Decidable (IsM y m) := by unfold IsM; infer_instance
def BadM (y m e : Int) : Prop := (¬ IsY y ∧ e = 6) ∨ (IsY y ∧ ¬ (1 ≤ m ∧ m ≤ 12) ∧ e = 7)
theorem mcheck_yes (y m : Int) (w : World) (h : IsM y m) :
  Calls Tryz.prog 59 #[.int .i64 y, .int .i64 m] w fun e w' => e = .returned (.int .i64 0) ∧ w = w' := by
 obtain ⟨hy, h1, h2⟩ := h
 have c1 : decide (m < 1) = false := by simp; omega
 have c2 : decide (12 < m) = false := by simp; omega
 go_enter Tryz.func59, Tryz.ntmps59
 go_wp2_with fail
 refine (check_yes _ _ hy).mono ?_
 rintro e w1 ⟨rfl, rfl⟩
 go_wp2_with fail
 go_ret
 exact ⟨rfl, rfl⟩
theorem mcheck_no (y m er : Int) (w : World) (h : BadM y m er) :
   Calls Tryz.prog 59 #[.int .i64 y, .int .i64 m] w fun e w' => e = .returned (.int .i64 er) ∧ w = w' := by
 rcases h with ⟨hy, rfl⟩ | ⟨hy, hm, rfl⟩
 · go_enter Tryz.func59, Tryz.ntmps59
   go_wp2_with fail
   refine (check_no _ _ hy).mono ?_
   rintro e w1 ⟨rfl, rfl⟩
   go_wp2_with fail
   go_ret
   exact ⟨rfl, rfl⟩
 · by_cases h1 : m < 1
   · have c1 : decide (m < 1) = true := by simp; omega
     go_enter Tryz.func59, Tryz.ntmps59
     go_wp2_with fail
     refine (check_yes _ _ hy).mono ?_
     rintro e w1 ⟨rfl, rfl⟩
     go_wp2_with fail
     go_ret
     exact ⟨rfl, rfl⟩
   · have c1 : decide (m < 1) = false := by simp; omega
     have c2 : decide (12 < m) = true := by simp; omega
     go_enter Tryz.func59, Tryz.ntmps59
     go_wp2_with fail
     refine (check_yes _ _ hy).mono ?_
     rintro e w1 ⟨rfl, rfl⟩
     go_wp2_with fail
     go_ret
     exact ⟨rfl, rfl⟩
theorem mlen_other (y m : Int) (h1 : 1 ≤ m) (h2 : m ≤ 12) (h : m ≠ 2) : lensL.getD (m - 1).toNat 0 = Cal.mlen y m := by
 have hm : m = 1 ∨ m = 3 ∨ m = 4 ∨ m = 5 ∨ m = 6 ∨ m = 7 ∨ m = 8 ∨ m = 9 ∨ m = 10 ∨ m = 11 ∨ m = 12 := by omega
 rcases hm with rfl | rfl | rfl | rfl | rfl | rfl | rfl | rfl | rfl | rfl | rfl <;> simp [Cal.mlen, lensL]
theorem length_yes (y m : Int) (w : World) (h : IsM y m) (hE : EnvM w) :
   Calls Tryz.prog 60 #[.int .i64 y, .int .i64 m] w fun e w' => e = .returned (.int .i64 (Cal.mlen y m)) ∧ Up w w' := by
 obtain ⟨hy, h1, h2⟩ := h
 by_cases hm : m = 2
 · subst hm
   cases hl : Cal.lp y
   · have e : Cal.mlen y 2 = 28 := by simp [Cal.mlen, Cal.lpN, hl]
     rw [e]
     go_enter Tryz.func60, Tryz.ntmps60
     go_wp2_with fail
     refine (leap_is y false _ hl hy hE.st).mono ?_
     rintro e w1 ⟨rfl, qw1⟩
     have uw1 := qw1
     clear qw1
     have c := (hE.up uw1).ln 1 (by decide)
     simp only [lensL, List.getD, List.getElem?_cons_succ, List.getElem?_cons_zero, Option.getD_some] at c
     go_wp2_with fail
     go_ret
     exact ⟨rfl, uw1⟩
   · have e : Cal.mlen y 2 = 29 := by simp [Cal.mlen, Cal.lpN, hl]
     rw [e]
     go_enter Tryz.func60, Tryz.ntmps60
     go_wp2_with fail
     refine (leap_is y true _ hl hy hE.st).mono ?_
     rintro e w1 ⟨rfl, qw1⟩
     have uw1 := qw1
     clear qw1
     go_wp2_with fail
     go_ret
     exact ⟨rfl, uw1⟩
 · have e := mlen_other y m h1 h2 hm
   have hm2 : (m == 2) = false := by rw [beq_eq_false_iff_ne]; exact hm
   obtain ⟨k, hk⟩ : ∃ k : Nat, (k : Int) = m - 1 := ⟨(m - 1).toNat, by omega⟩
   obtain rfl : m = k + 1 := by omega
   have hk2 : k < 12 := by omega
   rw [show ((k : Int) + 1 - 1).toNat = k by omega] at e
   have HE := Lib.hid e
   clear e hk hm
   cases hl : Cal.lp y
   all_goals
     have HL := Lib.hid hl
     clear hl
     go_enter Tryz.func60, Tryz.ntmps60
     go_wp2_with fail
     refine (leap_is y _ _ HL.out hy hE.st).mono ?_
     rintro e w1 ⟨rfl, u1⟩
     have c := (hE.up u1).ln k hk2
     go_wp2_with fail
     go_ret
     exact ⟨ret1_i HE.out, u1⟩
theorem mlen_yes (y m : Int) (w : World) (h : IsM y m) (hE : EnvM w) :
  Calls Tryz.prog 125 #[.int .i64 y, .int .i64 m] w fun e w' => e = .returned (.tuple #[.int .i64 (Cal.mlen y m), .int .i64 0]) ∧ Up w w' := by
 go_enter Tryz.func125, Tryz.ntmps125
 go_wp2_with fail
 refine (mcheck_yes _ _ _ h).mono ?_
 rintro e w1 ⟨rfl, rfl⟩
 go_wp2_with fail
 refine (length_yes _ _ _ h hE).mono ?_
 rintro e w2 ⟨rfl, qw2⟩
 have uw2 := qw2
 clear qw2
 go_wp2_with fail
 go_ret2
 exact ⟨rfl, uw2⟩
theorem mlen_no (y m er : Int) (w : World) (h : BadM y m er) :
  Calls Tryz.prog 125 #[.int .i64 y, .int .i64 m] w fun e w' => e = .returned (.tuple #[.int .i64 0, .int .i64 er]) ∧ w = w' := by
 have hb := h
 rcases h with ⟨_, rfl⟩ | ⟨_, _, rfl⟩
 all_goals
  go_enter Tryz.func125, Tryz.ntmps125
  go_wp2_with fail
  refine (mcheck_no _ _ _ _ hb).mono ?_
  rintro e w1 ⟨rfl, rfl⟩
  go_wp2_with fail
  go_ret2
  exact ⟨rfl, rfl⟩
theorem mstart_yes (y m : Int) (w : World) (h : IsM y m) (hE : EnvM w) :
  Calls Tryz.prog 19 #[.int .i64 y, .int .i64 m] w fun e w' => e = .returned (.tuple #[.int .i64 (Cal.sm y m), .int .i64 0]) ∧ Up w w' := by
 have HM := h
 obtain ⟨hy, h1, h2⟩ := h
 have hs := sy_bdY y hy
 have HY := Lib.hid hy
 obtain ⟨y1, y2⟩ := hy
 go_enter Tryz.func19, Tryz.ntmps19
 go_wp2_with fail
 refine (mcheck_yes _ _ _ HM).mono ?_
 rintro e w1 ⟨rfl, rfl⟩
 go_wp2_with fail
 refine (ystart_yes _ _ HY.out hE.st).mono ?_
 rintro e w2 ⟨rfl, qw2⟩
 have uw2 := qw2
 clear qw2
 go_wp2_with fail
 go_loopw [7, 23] (fun d i wr => ∃ k : Int, 0 ≤ k ∧ k ≤ m - 1 ∧ i = .int .i64 k ∧ d = .int .i64 (Cal.sm y (k + 1)) ∧ Up w wr) (fun _ i _ => (m - 1 - intOf i).toNat)
 case atStart => exact ⟨0, by omega, by omega, rfl, by simp [Cal.sm, Cal.cum_one], uw2⟩
 case round =>
  obtain ⟨k, k1, k2, rfl, rfl, hu⟩ := hrel
  have hc := Cal.cum_bd y (k + 1) (by omega) (by omega)
  have hcs : Cal.sm y (k + 1) = Cal.sy y + Cal.cum y (k + 1) := rfl
  have hsb : -3652425000000000000 ≤ Cal.sm y (k + 1) ∧ Cal.sm y (k + 1) ≤ 3652425000000000366 := by omega
  have hml := Cal.mlen_bd y (k + 1)
  clear hcs hc
  by_cases hlt : k < m - 1
  · have hn := sm_succ y (k + 1) (by omega) (by omega)
    have HN := Lib.hid hn
    have HM1 : IsM y (k + 1) := ⟨HY.out, by omega, by omega⟩
    clear hn
    go_wp2_with fail
    refine (length_yes _ _ _ HM1 (hE.up hu)).mono ?_
    rintro e w3 ⟨rfl, q⟩
    go_wp2_with fail
    go_roundw
    case rel => exact ⟨k + 1, by omega, by omega, rfl, by rw [HN.out], hu.trans q⟩
    case measure => simp [intOf]; omega
  · obtain rfl : k = m - 1 := by omega
    go_wp2_with fail
    go_ret2
    exact ⟨by simp, hu⟩
theorem mstart_no (y m er : Int) (w : World) (h : BadM y m er) :
  Calls Tryz.prog 19 #[.int .i64 y, .int .i64 m] w fun e w' => e = .returned (.tuple #[.int .i64 0, .int .i64 er]) ∧ w = w' := by
 have hb := h
 rcases h with ⟨_, rfl⟩ | ⟨_, _, rfl⟩
 all_goals
  go_enter Tryz.func19, Tryz.ntmps19
  go_wp2_with fail
  refine (mcheck_no _ _ _ _ hb).mono ?_
  rintro e w1 ⟨rfl, rfl⟩
  go_wp2_with fail
  go_ret2
  exact ⟨rfl, rfl⟩
theorem sm_bd (y m : Int) (h : IsM y m) : -3652425000000000000 ≤ Cal.sm y m ∧ Cal.sm y m ≤ 3652425000000000366 ∧ Cal.sm y (m + 1) ≤ 3652425000000000366 := by
 obtain ⟨hy, h1, h2⟩ := h
 have hs := sy_bdY y hy
 have hc := Cal.cum_mono y 1 m (by omega) (by omega) (by omega)
 have hd := Cal.cum_mono y (m + 1) 13 (by omega) (by omega) (by omega)
 have he := Cal.cum_mono y m (m + 1) (by omega) (by omega) (by omega)
 have h13 := Cal.cum_13 y
 have hn := Cal.sy_succ y
 rw [Cal.cum_one] at hc
 unfold Cal.sm
 omega
theorem mend_yes (y m : Int) (w : World) (h : IsM y m) (hE : EnvM w) :
  Calls Tryz.prog 20 #[.int .i64 y, .int .i64 m] w fun e w' => e = .returned (.tuple #[.int .i64 (Cal.sm y (m + 1) - 1), .int .i64 0]) ∧ Up w w' := by
 have hb := sm_bd y m h
 have hl := Cal.mlen_bd y m
 have hn := sm_succ y m h.2.1 h.2.2
 have HN := Lib.hid hn
 clear hn
 go_enter Tryz.func20, Tryz.ntmps20
 go_wp2_with fail
 refine (mstart_yes _ _ _ h hE).mono ?_
 rintro e w1 ⟨rfl, qw1⟩
 have uw1 := qw1
 clear qw1
 go_wp2_with fail
 refine (length_yes _ _ _ h (hE.up uw1)).mono ?_
 rintro e w2 ⟨rfl, qw2⟩
 have uw2 := uw1.trans qw2
 clear qw2 uw1
 go_wp2_with fail
 go_ret2
 exact ⟨ret2_i (by rw [HN.out]) rfl, uw2⟩
theorem mof_yes (d : Int) (w : World) (hd : I64 d) (h : IsY (Cal.yr d)) (hE : EnvM w) :
  Calls Tryz.prog 32 #[.int .i64 d] w fun e w' => e = .returned (.tuple #[.int .i64 (Cal.yr d), .int .i64 (mo d), .int .i64 0]) ∧ Up w w' := by
 have hs := sy_bdY _ h
 have hsp := Cal.yr_spec d
 have hm := mo_spec d
 obtain ⟨y, hy⟩ : ∃ y, Cal.yr d = y := ⟨_, rfl⟩
 rw [hy] at h hs hsp hm ⊢
 have HD := hd
 have HYY := Lib.hid hy
 have HY := Lib.hid h
 clear hy
 obtain ⟨d1, d2⟩ := hd
 obtain ⟨s1, s2, s3⟩ := hs
 obtain ⟨m1, m2, m3, m4⟩ := hm
 obtain ⟨p1, p2⟩ := hsp
 go_enter Tryz.func32, Tryz.ntmps32
 go_wp2_with fail
 refine (of_is _ y _ HYY.out HD HY.out hE.st).mono ?_
 rintro e w1 ⟨rfl, qw1⟩
 have uw1 := qw1
 clear qw1
 go_wp2_with fail
 refine (ystart_yes _ _ HY.out (hE.up uw1).st).mono ?_
 rintro e w2 ⟨rfl, qw2⟩
 have uw2 := uw1.trans qw2
 clear qw2 uw1
 go_wp2_with fail
 go_loopw [2, 7, 26] (fun yv l i wr => ∃ k : Int, 0 ≤ k ∧ k ≤ mo d - 1 ∧ yv = .int .i64 y ∧ i = .int .i64 k ∧ l = .int .i64 (d - Cal.sm y (k + 1)) ∧ Up w wr) (fun _ _ i _ => (12 - intOf i).toNat)
 case atStart => exact ⟨0, by omega, by omega, rfl, rfl, by simp [Cal.sm, Cal.cum_one], uw2⟩
 case round =>
  obtain ⟨k, k1, k2, rfl, rfl, rfl, hu⟩ := hrel
  have HM1 : IsM y (k + 1) := ⟨HY.out, by omega, by omega⟩
  have hb := sm_bd y (k + 1) HM1
  have hml := Cal.mlen_bd y (k + 1)
  have hn := sm_succ y (k + 1) (by omega) (by omega)
  have hmono := sm_mono y (k + 1) (mo d) (by omega) (by omega) (by omega)
  by_cases hlt : k < mo d - 1
  · have hmono2 := sm_mono y (k + 1 + 1) (mo d) (by omega) (by omega) (by omega)
    have c1 : decide (d - Cal.sm y (k + 1) < Cal.mlen y (k + 1)) = false := by simp; omega
    have HN := Lib.hid hn
    clear hn
    go_wp2_with fail
    refine (length_yes _ _ _ HM1 (hE.up hu)).mono ?_
    rintro e w3 ⟨rfl, q⟩
    go_wp2_with fail
    go_roundw
    case rel => exact ⟨k + 1, by omega, by omega, rfl, rfl, by rw [HN.out]; congr 1; omega, hu.trans q⟩
    case measure => simp [intOf]; omega
  · have hk : k + 1 = mo d := by omega
    have m4' : d < Cal.sm y (k + 1 + 1) := by rw [hk]; exact m4
    have c1 : decide (d - Cal.sm y (k + 1) < Cal.mlen y (k + 1)) = true := by simp; omega
    have HK := Lib.hid hk
    clear hn hk
    go_wp2_with fail
    refine (length_yes _ _ _ HM1 (hE.up hu)).mono ?_
    rintro e w3 ⟨rfl, q⟩
    go_wp2_with fail
    go_ret3
    exact ⟨ret3_i rfl HK.out rfl, hu.trans q⟩
theorem mof_no (d : Int) (w : World) (hd : I64 d) (h : ¬ IsY (Cal.yr d)) (hE : EnvM w) :
  Calls Tryz.prog 32 #[.int .i64 d] w fun e w' => e = .returned (.tuple #[.int .i64 0, .int .i64 0, .int .i64 6]) ∧ Up w w' := by
 go_enter Tryz.func32, Tryz.ntmps32
 go_wp2_with fail
 refine (of_no _ _ hd h hE.st).mono ?_
 rintro e w1 ⟨rfl, qw1⟩
 have uw1 := qw1
 clear qw1
 go_wp2_with fail
 go_ret3
 exact ⟨rfl, uw1⟩
def mi (y m : Int) : Int := 12 * y + (m - 1)
theorem madd_yes (y m k : Int) (w : World) (h : IsM y m) (hk : I64 k) (hz : IsY ((mi y m + k) / 12)) (_hE : EnvM w) :
  Calls Tryz.prog 62 #[.int .i64 y, .int .i64 m, .int .i64 k] w fun e w' => e = .returned (.tuple #[.int .i64 ((mi y m + k) / 12), .int .i64 ((mi y m + k) % 12 + 1), .int .i64 0]) ∧ Up w w' := by
 have HM := h
 obtain ⟨⟨y1, y2⟩, h1, h2⟩ := h
 have hi : 12 * y + (m - 1) = mi y m := rfl
 have hi2 : -120000000000000000 ≤ mi y m ∧ mi y m ≤ 120000000000000011 := by omega
 have HK := hk
 obtain ⟨k1, k2⟩ := hk
 have HZ := Lib.hid hz
 obtain ⟨z1, z2⟩ := hz
 have ht : I64 (mi y m + k) := ⟨by omega, by omega⟩
 have hmi : I64 (mi y m) := ⟨by omega, by omega⟩
 have HI := Lib.hid hi
 clear hi
 go_enter Tryz.func62, Tryz.ntmps62
 go_wp2_with fail
 refine (mcheck_yes _ _ _ HM).mono ?_
 rintro e w1 ⟨rfl, rfl⟩
 go_wp2_with fail
 rw [HI.out]
 go_wp2_with fail
 refine (add_fits _ _ _ hmi HK ht).mono ?_
 rintro e w2 ⟨rfl, qw2⟩
 have uw2 := qw2
 clear qw2
 go_wp2_with fail
 refine (div_pos _ _ _ ht (by omega) (by omega)).mono ?_
 rintro e w3 ⟨rfl, rfl⟩
 go_wp2_with fail
 refine (mod_pos _ _ _ ht (by omega) (by omega)).mono ?_
 rintro e w4 ⟨rfl, rfl⟩
 go_wp2_with fail
 refine (check_yes _ _ HZ.out).mono ?_
 rintro e w5 ⟨rfl, rfl⟩
 go_wp2_with fail
 go_ret3
 exact ⟨rfl, uw2⟩
theorem madd_far (y m k : Int) (w : World) (h : IsM y m) (hk : I64 k) (hz : ¬ IsY ((mi y m + k) / 12)) (_hE : EnvM w) :
   Calls Tryz.prog 62 #[.int .i64 y, .int .i64 m, .int .i64 k] w fun e w' => e = .returned (.tuple #[.int .i64 0, .int .i64 0, .int .i64 6]) ∧ Up w w' := by
 have HM := h
 obtain ⟨⟨y1, y2⟩, h1, h2⟩ := h
 have hi : 12 * y + (m - 1) = mi y m := rfl
 have hi2 : -120000000000000000 ≤ mi y m ∧ mi y m ≤ 120000000000000011 := by omega
 have HK := hk
 obtain ⟨k1, k2⟩ := hk
 have hmi : I64 (mi y m) := ⟨by omega, by omega⟩
 have HI := Lib.hid hi
 clear hi
 by_cases ht : I64 (mi y m + k)
 · go_enter Tryz.func62, Tryz.ntmps62
   go_wp2_with fail
   refine (mcheck_yes _ _ _ HM).mono ?_
   rintro e w1 ⟨rfl, rfl⟩
   go_wp2_with fail
   rw [HI.out]
   go_wp2_with fail
   refine (add_fits _ _ _ hmi HK ht).mono ?_
   rintro e w2 ⟨rfl, qw2⟩
   have uw2 := qw2
   clear qw2
   go_wp2_with fail
   refine (div_pos _ _ _ ht (by omega) (by omega)).mono ?_
   rintro e w3 ⟨rfl, rfl⟩
   go_wp2_with fail
   refine (mod_pos _ _ _ ht (by omega) (by omega)).mono ?_
   rintro e w4 ⟨rfl, rfl⟩
   go_wp2_with fail
   refine (check_no _ _ hz).mono ?_
   rintro e w5 ⟨rfl, rfl⟩
   go_wp2_with fail
   go_ret3
   exact ⟨rfl, uw2⟩
 · go_enter Tryz.func62, Tryz.ntmps62
   go_wp2_with fail
   refine (mcheck_yes _ _ _ HM).mono ?_
   rintro e w1 ⟨rfl, rfl⟩
   go_wp2_with fail
   rw [HI.out]
   go_wp2_with fail
   refine (add_over _ _ _ hmi HK ht).mono ?_
   rintro e w2 ⟨rfl, qw2⟩
   have uw2 := qw2
   clear qw2
   go_wp2_with fail
   go_ret3
   exact ⟨rfl, uw2⟩
end Go.Proofs.YteodjglbpfmikaaGreatDoor
