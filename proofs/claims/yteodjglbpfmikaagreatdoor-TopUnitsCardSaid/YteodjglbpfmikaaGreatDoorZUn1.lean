/- Walks and laws that the claim's theorem leans on: part 1. -/
import Derived.Test.YteodjglbpfmikaaGreatDoorRows
import Derived.WalkKit
import Derived.WalkSpells
import Derived.WalkLawsBesides
import Derived.LoopN
import Derived.Deep.RegionHeld3
import Derived.Deep.LoopGhost
import Derived.Sort.Grow
import Derived.Lib.Hide
import Derived.Deep.QuietTactic
import Derived.BigQuiet
import Derived.Deep.DeepFit
import Derived.Deep.DeepMust
import Derived.Test.YteodjglbpfmikaaGreatDoorShSearch
import Derived.Defers
import Derived.Lib.ItoaNum
import Derived.Lib.ParseIntB
import Derived.OrdersHeld
namespace Go.Proofs.YteodjglbpfmikaaGreatDoor
open Go.RowKit
set_option linter.unusedVariables false
theorem nlt {a b c : Nat} (h : a < b) (k : b ≤ c) : a < c := Nat.lt_of_lt_of_le h k
theorem pL {α : Type} : type_of% (And.intro (@List.getElem_toArray α) (And.intro (@List.getElem_cons_succ α) (And.intro (@List.getElem_cons_zero α) (And.intro (@List.setIfInBounds_toArray α) (And.intro (@List.set_cons_zero α) (@List.set_cons_succ α)))))) := And.intro (@List.getElem_toArray α) (And.intro (@List.getElem_cons_succ α) (And.intro (@List.getElem_cons_zero α) (And.intro (@List.setIfInBounds_toArray α) (And.intro (@List.set_cons_zero α) (@List.set_cons_succ α)))))
theorem tk {P : Program} {md : Region.Mode} {ops : Array Oper} {Q : Exit → Act → World → Prop} {S : World → Prop} (i : Nat) {oi : Oper} (v : Value) {fuel : Nat} {listed : Array Bool} {a : Act} {w : World} (hi : ops[i]? = some oi) (hr : (Region.noSelect ops && (Region.free md ops listed i && (Region.ready md ops listed).contains i)) = true) (hQ : ∀ c a w, Q (.panic c) (a.put oi.dst v) w → Q (.panic c) a w) (hg : Region.wanted oi (yielded ops a.tmps) = true) (hS : S w) (hy : ∀ w, S w → (execOp a.eval oi).run P w = .ok (.value v) w) (h : wpAnyH P md ops Q S fuel (listed.setIfInBounds i true) (a.put oi.dst v) w) : wpAnyH P md ops Q S (fuel + 1) listed a w := by
  rw [Bool.and_eq_true, Bool.and_eq_true] at hr
  exact wpAnyH_take hi hr.1 hr.2.1 hr.2.2 hQ (Or.inl ⟨hg, hy⟩) hS h
theorem tu {P : Program} {md : Region.Mode} {ops : Array Oper} {Q : Exit → Act → World → Prop} {S : World → Prop} (i : Nat) {oi : Oper} {fuel : Nat} {listed : Array Bool} {a : Act} {w : World} (hi : ops[i]? = some oi) (hr : (Region.noSelect ops && (Region.free md ops listed i && (Region.ready md ops listed).contains i)) = true) (hQ : ∀ c a w, Q (.panic c) (a.put oi.dst undef) w → Q (.panic c) a w) (hg : Region.wanted oi (yielded ops a.tmps) = false) (hS : S w) (h : wpAnyH P md ops Q S fuel (listed.setIfInBounds i true) (a.put oi.dst undef) w) : wpAnyH P md ops Q S (fuel + 1) listed a w := by
  rw [Bool.and_eq_true, Bool.and_eq_true] at hr
  exact wpAnyH_take hi hr.1 hr.2.1 hr.2.2 hQ (Or.inr ⟨hg, rfl⟩) hS h
theorem mv3 {w w' : World} (q : ∀ {a : Addr} {v : Value}, w.cell? a = some v → w'.cell? a = some v) {a0 a1 a2 : Addr} {v0 v1 v2 : Value} (h0 : w.cell? a0 = some v0) (h1 : w.cell? a1 = some v1) (h2 : w.cell? a2 = some v2) : w'.cell? a0 = some v0 ∧ w'.cell? a1 = some v1 ∧ w'.cell? a2 = some v2 := ⟨q h0, q h1, q h2⟩
theorem mv4 {w w' : World} (q : ∀ {a : Addr} {v : Value}, w.cell? a = some v → w'.cell? a = some v) {a0 a1 a2 a3 : Addr} {v0 v1 v2 v3 : Value} (h0 : w.cell? a0 = some v0) (h1 : w.cell? a1 = some v1) (h2 : w.cell? a2 = some v2) (h3 : w.cell? a3 = some v3) : w'.cell? a0 = some v0 ∧ w'.cell? a1 = some v1 ∧ w'.cell? a2 = some v2 ∧ w'.cell? a3 = some v3 := ⟨q h0, q h1, q h2, q h3⟩
theorem mv5 {w w' : World} (q : ∀ {a : Addr} {v : Value}, w.cell? a = some v → w'.cell? a = some v) {a0 a1 a2 a3 a4 : Addr} {v0 v1 v2 v3 v4 : Value} (h0 : w.cell? a0 = some v0) (h1 : w.cell? a1 = some v1) (h2 : w.cell? a2 = some v2) (h3 : w.cell? a3 = some v3) (h4 : w.cell? a4 = some v4) : w'.cell? a0 = some v0 ∧ w'.cell? a1 = some v1 ∧ w'.cell? a2 = some v2 ∧ w'.cell? a3 = some v3 ∧ w'.cell? a4 = some v4 := ⟨q h0, q h1, q h2, q h3, q h4⟩
theorem mv6 {w w' : World} (q : ∀ {a : Addr} {v : Value}, w.cell? a = some v → w'.cell? a = some v) {a0 a1 a2 a3 a4 a5 : Addr} {v0 v1 v2 v3 v4 v5 : Value} (h0 : w.cell? a0 = some v0) (h1 : w.cell? a1 = some v1) (h2 : w.cell? a2 = some v2) (h3 : w.cell? a3 = some v3) (h4 : w.cell? a4 = some v4) (h5 : w.cell? a5 = some v5) : w'.cell? a0 = some v0 ∧ w'.cell? a1 = some v1 ∧ w'.cell? a2 = some v2 ∧ w'.cell? a3 = some v3 ∧ w'.cell? a4 = some v4 ∧ w'.cell? a5 = some v5 := ⟨q h0, q h1, q h2, q h3, q h4, q h5⟩
theorem mv7 {w w' : World} (q : ∀ {a : Addr} {v : Value}, w.cell? a = some v → w'.cell? a = some v) {a0 a1 a2 a3 a4 a5 a6 : Addr} {v0 v1 v2 v3 v4 v5 v6 : Value} (h0 : w.cell? a0 = some v0) (h1 : w.cell? a1 = some v1) (h2 : w.cell? a2 = some v2) (h3 : w.cell? a3 = some v3) (h4 : w.cell? a4 = some v4) (h5 : w.cell? a5 = some v5) (h6 : w.cell? a6 = some v6) : w'.cell? a0 = some v0 ∧ w'.cell? a1 = some v1 ∧ w'.cell? a2 = some v2 ∧ w'.cell? a3 = some v3 ∧ w'.cell? a4 = some v4 ∧ w'.cell? a5 = some v5 ∧ w'.cell? a6 = some v6 := ⟨q h0, q h1, q h2, q h3, q h4, q h5, q h6⟩
theorem mv8 {w w' : World} (q : ∀ {a : Addr} {v : Value}, w.cell? a = some v → w'.cell? a = some v) {a0 a1 a2 a3 a4 a5 a6 a7 : Addr} {v0 v1 v2 v3 v4 v5 v6 v7 : Value} (h0 : w.cell? a0 = some v0) (h1 : w.cell? a1 = some v1) (h2 : w.cell? a2 = some v2) (h3 : w.cell? a3 = some v3) (h4 : w.cell? a4 = some v4) (h5 : w.cell? a5 = some v5) (h6 : w.cell? a6 = some v6) (h7 : w.cell? a7 = some v7) : w'.cell? a0 = some v0 ∧ w'.cell? a1 = some v1 ∧ w'.cell? a2 = some v2 ∧ w'.cell? a3 = some v3 ∧ w'.cell? a4 = some v4 ∧ w'.cell? a5 = some v5 ∧ w'.cell? a6 = some v6 ∧ w'.cell? a7 = some v7 := ⟨q h0, q h1, q h2, q h3, q h4, q h5, q h6, q h7⟩
theorem mv9 {w w' : World} (q : ∀ {a : Addr} {v : Value}, w.cell? a = some v → w'.cell? a = some v) {a0 a1 a2 a3 a4 a5 a6 a7 a8 : Addr} {v0 v1 v2 v3 v4 v5 v6 v7 v8 : Value} (h0 : w.cell? a0 = some v0) (h1 : w.cell? a1 = some v1) (h2 : w.cell? a2 = some v2) (h3 : w.cell? a3 = some v3) (h4 : w.cell? a4 = some v4) (h5 : w.cell? a5 = some v5) (h6 : w.cell? a6 = some v6) (h7 : w.cell? a7 = some v7) (h8 : w.cell? a8 = some v8) : w'.cell? a0 = some v0 ∧ w'.cell? a1 = some v1 ∧ w'.cell? a2 = some v2 ∧ w'.cell? a3 = some v3 ∧ w'.cell? a4 = some v4 ∧ w'.cell? a5 = some v5 ∧ w'.cell? a6 = some v6 ∧ w'.cell? a7 = some v7 ∧ w'.cell? a8 = some v8 := ⟨q h0, q h1, q h2, q h3, q h4, q h5, q h6, q h7, q h8⟩
theorem mv10 {w w' : World} (q : ∀ {a : Addr} {v : Value}, w.cell? a = some v → w'.cell? a = some v) {a0 a1 a2 a3 a4 a5 a6 a7 a8 a9 : Addr} {v0 v1 v2 v3 v4 v5 v6 v7 v8 v9 : Value} (h0 : w.cell? a0 = some v0) (h1 : w.cell? a1 = some v1) (h2 : w.cell? a2 = some v2) (h3 : w.cell? a3 = some v3) (h4 : w.cell? a4 = some v4) (h5 : w.cell? a5 = some v5) (h6 : w.cell? a6 = some v6) (h7 : w.cell? a7 = some v7) (h8 : w.cell? a8 = some v8) (h9 : w.cell? a9 = some v9) : w'.cell? a0 = some v0 ∧ w'.cell? a1 = some v1 ∧ w'.cell? a2 = some v2 ∧ w'.cell? a3 = some v3 ∧ w'.cell? a4 = some v4 ∧ w'.cell? a5 = some v5 ∧ w'.cell? a6 = some v6 ∧ w'.cell? a7 = some v7 ∧ w'.cell? a8 = some v8 ∧ w'.cell? a9 = some v9 := ⟨q h0, q h1, q h2, q h3, q h4, q h5, q h6, q h7, q h8, q h9⟩
theorem mv11 {w w' : World} (q : ∀ {a : Addr} {v : Value}, w.cell? a = some v → w'.cell? a = some v) {a0 a1 a2 a3 a4 a5 a6 a7 a8 a9 a10 : Addr} {v0 v1 v2 v3 v4 v5 v6 v7 v8 v9 v10 : Value} (h0 : w.cell? a0 = some v0) (h1 : w.cell? a1 = some v1) (h2 : w.cell? a2 = some v2) (h3 : w.cell? a3 = some v3) (h4 : w.cell? a4 = some v4) (h5 : w.cell? a5 = some v5) (h6 : w.cell? a6 = some v6) (h7 : w.cell? a7 = some v7) (h8 : w.cell? a8 = some v8) (h9 : w.cell? a9 = some v9) (h10 : w.cell? a10 = some v10) : w'.cell? a0 = some v0 ∧ w'.cell? a1 = some v1 ∧ w'.cell? a2 = some v2 ∧ w'.cell? a3 = some v3 ∧ w'.cell? a4 = some v4 ∧ w'.cell? a5 = some v5 ∧ w'.cell? a6 = some v6 ∧ w'.cell? a7 = some v7 ∧ w'.cell? a8 = some v8 ∧ w'.cell? a9 = some v9 ∧ w'.cell? a10 = some v10 := ⟨q h0, q h1, q h2, q h3, q h4, q h5, q h6, q h7, q h8, q h9, q h10⟩
theorem mv12 {w w' : World} (q : ∀ {a : Addr} {v : Value}, w.cell? a = some v → w'.cell? a = some v) {a0 a1 a2 a3 a4 a5 a6 a7 a8 a9 a10 a11 : Addr} {v0 v1 v2 v3 v4 v5 v6 v7 v8 v9 v10 v11 : Value} (h0 : w.cell? a0 = some v0) (h1 : w.cell? a1 = some v1) (h2 : w.cell? a2 = some v2) (h3 : w.cell? a3 = some v3) (h4 : w.cell? a4 = some v4) (h5 : w.cell? a5 = some v5) (h6 : w.cell? a6 = some v6) (h7 : w.cell? a7 = some v7) (h8 : w.cell? a8 = some v8) (h9 : w.cell? a9 = some v9) (h10 : w.cell? a10 = some v10) (h11 : w.cell? a11 = some v11) : w'.cell? a0 = some v0 ∧ w'.cell? a1 = some v1 ∧ w'.cell? a2 = some v2 ∧ w'.cell? a3 = some v3 ∧ w'.cell? a4 = some v4 ∧ w'.cell? a5 = some v5 ∧ w'.cell? a6 = some v6 ∧ w'.cell? a7 = some v7 ∧ w'.cell? a8 = some v8 ∧ w'.cell? a9 = some v9 ∧ w'.cell? a10 = some v10 ∧ w'.cell? a11 = some v11 := ⟨q h0, q h1, q h2, q h3, q h4, q h5, q h6, q h7, q h8, q h9, q h10, q h11⟩
theorem mv13 {w w' : World} (q : ∀ {a : Addr} {v : Value}, w.cell? a = some v → w'.cell? a = some v) {a0 a1 a2 a3 a4 a5 a6 a7 a8 a9 a10 a11 a12 : Addr} {v0 v1 v2 v3 v4 v5 v6 v7 v8 v9 v10 v11 v12 : Value} (h0 : w.cell? a0 = some v0) (h1 : w.cell? a1 = some v1) (h2 : w.cell? a2 = some v2) (h3 : w.cell? a3 = some v3) (h4 : w.cell? a4 = some v4) (h5 : w.cell? a5 = some v5) (h6 : w.cell? a6 = some v6) (h7 : w.cell? a7 = some v7) (h8 : w.cell? a8 = some v8) (h9 : w.cell? a9 = some v9) (h10 : w.cell? a10 = some v10) (h11 : w.cell? a11 = some v11) (h12 : w.cell? a12 = some v12) : w'.cell? a0 = some v0 ∧ w'.cell? a1 = some v1 ∧ w'.cell? a2 = some v2 ∧ w'.cell? a3 = some v3 ∧ w'.cell? a4 = some v4 ∧ w'.cell? a5 = some v5 ∧ w'.cell? a6 = some v6 ∧ w'.cell? a7 = some v7 ∧ w'.cell? a8 = some v8 ∧ w'.cell? a9 = some v9 ∧ w'.cell? a10 = some v10 ∧ w'.cell? a11 = some v11 ∧ w'.cell? a12 = some v12 := ⟨q h0, q h1, q h2, q h3, q h4, q h5, q h6, q h7, q h8, q h9, q h10, q h11, q h12⟩
theorem mv14 {w w' : World} (q : ∀ {a : Addr} {v : Value}, w.cell? a = some v → w'.cell? a = some v) {a0 a1 a2 a3 a4 a5 a6 a7 a8 a9 a10 a11 a12 a13 : Addr} {v0 v1 v2 v3 v4 v5 v6 v7 v8 v9 v10 v11 v12 v13 : Value} (h0 : w.cell? a0 = some v0) (h1 : w.cell? a1 = some v1) (h2 : w.cell? a2 = some v2) (h3 : w.cell? a3 = some v3) (h4 : w.cell? a4 = some v4) (h5 : w.cell? a5 = some v5) (h6 : w.cell? a6 = some v6) (h7 : w.cell? a7 = some v7) (h8 : w.cell? a8 = some v8) (h9 : w.cell? a9 = some v9) (h10 : w.cell? a10 = some v10) (h11 : w.cell? a11 = some v11) (h12 : w.cell? a12 = some v12) (h13 : w.cell? a13 = some v13) : w'.cell? a0 = some v0 ∧ w'.cell? a1 = some v1 ∧ w'.cell? a2 = some v2 ∧ w'.cell? a3 = some v3 ∧ w'.cell? a4 = some v4 ∧ w'.cell? a5 = some v5 ∧ w'.cell? a6 = some v6 ∧ w'.cell? a7 = some v7 ∧ w'.cell? a8 = some v8 ∧ w'.cell? a9 = some v9 ∧ w'.cell? a10 = some v10 ∧ w'.cell? a11 = some v11 ∧ w'.cell? a12 = some v12 ∧ w'.cell? a13 = some v13 := ⟨q h0, q h1, q h2, q h3, q h4, q h5, q h6, q h7, q h8, q h9, q h10, q h11, q h12, q h13⟩
theorem mv15 {w w' : World} (q : ∀ {a : Addr} {v : Value}, w.cell? a = some v → w'.cell? a = some v) {a0 a1 a2 a3 a4 a5 a6 a7 a8 a9 a10 a11 a12 a13 a14 : Addr} {v0 v1 v2 v3 v4 v5 v6 v7 v8 v9 v10 v11 v12 v13 v14 : Value} (h0 : w.cell? a0 = some v0) (h1 : w.cell? a1 = some v1) (h2 : w.cell? a2 = some v2) (h3 : w.cell? a3 = some v3) (h4 : w.cell? a4 = some v4) (h5 : w.cell? a5 = some v5) (h6 : w.cell? a6 = some v6) (h7 : w.cell? a7 = some v7) (h8 : w.cell? a8 = some v8) (h9 : w.cell? a9 = some v9) (h10 : w.cell? a10 = some v10) (h11 : w.cell? a11 = some v11) (h12 : w.cell? a12 = some v12) (h13 : w.cell? a13 = some v13) (h14 : w.cell? a14 = some v14) : w'.cell? a0 = some v0 ∧ w'.cell? a1 = some v1 ∧ w'.cell? a2 = some v2 ∧ w'.cell? a3 = some v3 ∧ w'.cell? a4 = some v4 ∧ w'.cell? a5 = some v5 ∧ w'.cell? a6 = some v6 ∧ w'.cell? a7 = some v7 ∧ w'.cell? a8 = some v8 ∧ w'.cell? a9 = some v9 ∧ w'.cell? a10 = some v10 ∧ w'.cell? a11 = some v11 ∧ w'.cell? a12 = some v12 ∧ w'.cell? a13 = some v13 ∧ w'.cell? a14 = some v14 := ⟨q h0, q h1, q h2, q h3, q h4, q h5, q h6, q h7, q h8, q h9, q h10, q h11, q h12, q h13, q h14⟩
theorem mv16 {w w' : World} (q : ∀ {a : Addr} {v : Value}, w.cell? a = some v → w'.cell? a = some v) {a0 a1 a2 a3 a4 a5 a6 a7 a8 a9 a10 a11 a12 a13 a14 a15 : Addr} {v0 v1 v2 v3 v4 v5 v6 v7 v8 v9 v10 v11 v12 v13 v14 v15 : Value} (h0 : w.cell? a0 = some v0) (h1 : w.cell? a1 = some v1) (h2 : w.cell? a2 = some v2) (h3 : w.cell? a3 = some v3) (h4 : w.cell? a4 = some v4) (h5 : w.cell? a5 = some v5) (h6 : w.cell? a6 = some v6) (h7 : w.cell? a7 = some v7) (h8 : w.cell? a8 = some v8) (h9 : w.cell? a9 = some v9) (h10 : w.cell? a10 = some v10) (h11 : w.cell? a11 = some v11) (h12 : w.cell? a12 = some v12) (h13 : w.cell? a13 = some v13) (h14 : w.cell? a14 = some v14) (h15 : w.cell? a15 = some v15) : w'.cell? a0 = some v0 ∧ w'.cell? a1 = some v1 ∧ w'.cell? a2 = some v2 ∧ w'.cell? a3 = some v3 ∧ w'.cell? a4 = some v4 ∧ w'.cell? a5 = some v5 ∧ w'.cell? a6 = some v6 ∧ w'.cell? a7 = some v7 ∧ w'.cell? a8 = some v8 ∧ w'.cell? a9 = some v9 ∧ w'.cell? a10 = some v10 ∧ w'.cell? a11 = some v11 ∧ w'.cell? a12 = some v12 ∧ w'.cell? a13 = some v13 ∧ w'.cell? a14 = some v14 ∧ w'.cell? a15 = some v15 := ⟨q h0, q h1, q h2, q h3, q h4, q h5, q h6, q h7, q h8, q h9, q h10, q h11, q h12, q h13, q h14, q h15⟩
end Go.Proofs.YteodjglbpfmikaaGreatDoor
namespace Go.Proofs.YteodjglbpfmikaaGreatDoor
open Go.RowKit
def I64 (a : Int) : Prop := -9223372036854775808 ≤ a ∧ a ≤ 9223372036854775807
instance decI64 (a : Int) : Decidable (I64 a) := by unfold I64; infer_instance
theorem ret1_i {k : IntKind} {a b : Int} (h : a = b) : Ending.returned (.int k a) = .returned (.int k b) := by rw [h]
theorem ret2_i {k l : IntKind} {a b c d : Int} (h : a = b) (h' : c = d) : Ending.returned (.tuple #[.int k a, .int l c]) = .returned (.tuple #[.int k b, .int l d]) := by rw [h, h']
theorem retb {a b : Bool} (h : a = b) : Ending.returned (.bool a) = .returned (.bool b) := by rw [h]
theorem i64_of_wf {a : Int} (h : (Lit.int .i64 a).wf = true) : I64 a := by
 simp [Lit.wf, IntKind.min, IntKind.max, IntKind.signed, IntKind.bits] at h
 exact ⟨by omega, by omega⟩
structure Up (w w' : World) : Prop where
 below : Below w.heap.size w w'
 drawn : w.drawn ≤ w'.drawn
theorem Up.refl (w : World) : Up w w := ⟨Below.refl _ _, Nat.le_refl _⟩
theorem Up.trans {a b c : World} (h : Up a b) (k : Up b c) : Up a c := ⟨h.below.trans (k.below.mono h.below.size), Nat.le_trans h.drawn k.drawn⟩
theorem Up.alloc {a w : World} (h : Up a w) (o : Obj) : Up a (w.alloc o) := ⟨h.below.alloc h.below.size o, h.drawn⟩
theorem Up.drew {a w : World} (h : Up a w) : Up a w.drew := ⟨h.below.drew, Nat.le_trans h.drawn (Nat.le_succ _)⟩
theorem Up.setCell {a w : World} (h : Up a w) {p : Addr} (hp : a.heap.size ≤ p.block) (u : Value) : Up a (w.setCell p u) := ⟨h.below.setCell hp u, h.drawn⟩
theorem Up.size {a w : World} (h : Up a w) : a.heap.size ≤ w.heap.size := h.below.size
theorem Up.drewN {a w : World} (h : Up a w) (n : Nat) : Up a (w.drewN n) := ⟨h.below.trans ⟨rfl, rfl, rfl, Nat.le_refl _, fun _ _ => rfl⟩, Nat.le_trans h.drawn (Nat.le_add_right _ _)⟩
theorem Below.step {a w w' : World} (h : Below a.heap.size a w) (k : Below w.heap.size w w') : Below a.heap.size a w' := h.trans (k.mono h.size)
theorem cell_below {w w' : World} {a : Addr} {v : Value} (hb : Below w.heap.size w w') (h : w.cell? a = some v) : w'.cell? a = some v := by
 rw [hb.cell (World.block_lt_of_cell? _ _ h)]; exact h
theorem Up.cell {w w' : World} {a : Addr} {v : Value} (hb : Up w w') (h : w.cell? a = some v) : w'.cell? a = some v := cell_below hb.below h
theorem Up.grow {w w' : World} (h : Up w w') : ∃ q os, w' = Go.Sort.grow (w.drewN q) os := by
 refine ⟨w'.drawn - w.drawn, w'.heap.extract w.heap.size w'.heap.size, ?_⟩
 have hd := h.drawn
 obtain ⟨⟨h1, h2, h3, h4, h5⟩, _⟩ := h
 have e : w'.heap = w.heap ++ w'.heap.extract w.heap.size w'.heap.size := by
  apply Array.ext_getElem?
  intro i
  by_cases hi : i < w.heap.size
  · rw [h5 i hi, Array.getElem?_append_left hi]
  · rw [Array.getElem?_append_right (by omega), Array.getElem?_extract]
    by_cases hj : i < w'.heap.size
    · rw [if_pos (by omega)]; congr 1; omega
    · rw [if_neg (by omega), Array.getElem?_eq_none (by omega)]
 have e2 : w'.drawn = w.drawn + (w'.drawn - w.drawn) := by omega
 obtain ⟨hp, tp, dr, o, ou⟩ := w'
 simp only at h1 h2 h3 e e2
 subst h1 h2 h3
 show _ = World.mk (w.heap ++ hp.extract w.heap.size hp.size) w.tape (w.drawn + (dr - w.drawn)) w.os w.output
 rw [← e, ← e2]
theorem Up.of_grow {w : World} (q : Nat) (os : Array Obj) : Up w (Go.Sort.grow (w.drewN q) os) :=
 ⟨⟨rfl, rfl, rfl, by simp [Go.Sort.grow], fun i hi => by
  show ((w.drewN q).heap ++ os)[i]? = _
  rw [Array.getElem?_append_left (by show i < w.heap.size; omega)]
  rfl⟩, Nat.le_add_right _ _⟩
set_option maxHeartbeats 400000
theorem tdiv_neg (a b : Int) (h : a < 0) : a.tdiv b = -((-a) / b) := by
 have := Int.neg_tdiv (a := -a) (b := b)
 rw [Int.neg_neg] at this
 rw [this, Int.tdiv_eq_ediv_of_nonneg (by omega)]
theorem tmod_neg (a b : Int) (h : a < 0) : a.tmod b = -((-a) % b) := by
 have := Int.neg_tmod (a := -a) (b := b)
 rw [Int.neg_neg] at this
 rw [this, Int.tmod_eq_emod_of_nonneg (by omega)]
theorem fdiv_neg1 (a b : Int) (hb : 0 < b) (h : (-a) % b = 0) : -((-a) / b) = a / b ∧ a % b = 0 := by
 have e := Int.mul_ediv_add_emod (-a) b
 rw [h, Int.add_zero] at e
 generalize (-a) / b = q at *
 have e2 : a = b * (-q) + 0 := by rw [Int.mul_neg, e]; omega
 have := (Int.ediv_emod_unique (a := a) (b := b) (r := 0) (q := -q) hb).2 ⟨by omega, by omega, by omega⟩
 exact ⟨this.1.symm, this.2⟩
theorem fdiv_neg2 (a b : Int) (hb : 0 < b) (h : ¬ (-a) % b = 0) : -((-a) / b) - 1 = a / b ∧ b - (-a) % b = a % b := by
 have e := Int.mul_ediv_add_emod (-a) b
 have h1 := Int.emod_nonneg (-a) (show b ≠ 0 by omega)
 have h2 := Int.emod_lt_of_pos (-a) hb
 generalize (-a) / b = q at *
 generalize (-a) % b = r at *
 have e2 : a = b * (-q - 1) + (b - r) := by rw [Int.mul_sub, Int.mul_neg]; omega
 have := (Int.ediv_emod_unique (a := a) (b := b) (r := b - r) (q := -q - 1) hb).2 ⟨by omega, by omega, by omega⟩
 exact ⟨this.1.symm, this.2.symm⟩
theorem fdiv_half (a b : Int) (hb : 1 < b) : (0 ≤ a → 0 ≤ a / b ∧ 2 * (a / b) ≤ a) ∧ (a < 0 → a / b < 0 ∧ a - 1 ≤ 2 * (a / b)) := by
 have e := Int.mul_ediv_add_emod a b
 have h1 := Int.emod_nonneg a (show b ≠ 0 by omega)
 have h2 := Int.emod_lt_of_pos a (show 0 < b by omega)
 generalize hq : a / b = q at *
 generalize a % b = r at *
 constructor
 · intro h
   have hq0 : 0 ≤ q := by rw [← hq]; exact Int.ediv_nonneg h (by omega)
   have := Int.mul_le_mul_of_nonneg_right (show 2 ≤ b by omega) hq0
   omega
 · intro h
   have hq0 : q < 0 := by rw [← hq]; exact Int.ediv_neg_of_neg_of_pos h (by omega)
   have h3 := Int.mul_le_mul_of_nonneg_right (show 2 ≤ b by omega) (show 0 ≤ -q - 1 by omega)
   rw [Int.mul_sub b, Int.mul_neg] at h3
   omega
theorem divp1 (a b : Int) (h : a < 0) (hb : 1 < b) (h3 : a.tmod b = 0) : a.tdiv b = a / b := by
 rw [tmod_neg a b h] at h3
 rw [tdiv_neg a b h]
 exact (fdiv_neg1 a b (by omega) (by omega)).1
theorem divp2 (a b : Int) (ha : I64 a) (h : a < 0) (hb : 1 < b) (h3 : ¬ a.tmod b = 0) : wrap64 (a.tdiv b - 1) = a / b := by
 rw [tmod_neg a b h] at h3
 have e := (fdiv_neg2 a b (by omega) (by omega)).1
 have := (fdiv_half a b hb).2 h
 obtain ⟨_, _⟩ := ha
 rw [tdiv_neg a b h, e]
 exact IntWalk.wrap64_in _ ⟨by omega, by omega⟩
theorem modp1 (a b : Int) (h : a < 0) (hb : 1 < b) (h3 : a.tmod b = 0) : 0 = a % b := by
 rw [tmod_neg a b h] at h3
 exact (fdiv_neg1 a b (by omega) (by omega)).2.symm
theorem modp2 (a b : Int) (hb2 : b ≤ 9223372036854775807) (h : a < 0) (hb : 1 < b) (h3 : ¬ a.tmod b = 0) : wrap64 (a.tmod b + b) = a % b := by
 have h4 := tmod_neg a b h
 rw [h4] at h3
 have e := (fdiv_neg2 a b (by omega) (by omega)).2
 have h1 := Int.emod_nonneg a (show b ≠ 0 by omega)
 have h2 := Int.emod_lt_of_pos a (show 0 < b by omega)
 rw [h4, show -(-a % b) + b = a % b by omega]
 exact IntWalk.wrap64_in _ ⟨by omega, by omega⟩
theorem div_pos (a b : Int) (w : World) (ha : I64 a) (hb : 1 < b) (hb2 : b ≤ 9223372036854775807) :
   Calls Tryz.prog 76 #[.int .i64 a, .int .i64 b] w fun e w' => e = .returned (.tuple #[.int .i64 (a / b), .int .i64 0]) ∧ w = w' := by
 have HA := ha
 obtain ⟨h1, h2⟩ := ha
 have c1 : (b == 0) = false := by rw [beq_eq_false_iff_ne]; omega
 have c2 : (b == -1) = false := by rw [beq_eq_false_iff_ne]; omega
 by_cases h0 : 0 ≤ a
 · have c3 : decide (a < 0) = false := by simp; omega
   have c4 : decide (b < 0) = false := by simp; omega
   by_cases h3 : a % b = 0
   all_goals
     go_enter Tryz.func76, Tryz.ntmps76
     go_wp2_with fail
     go_ret2
     exact ⟨rfl, rfl⟩
 · have c3 : decide (a < 0) = true := by simp; omega
   have c4 : decide (b < 0) = false := by simp; omega
   go_enter Tryz.func76, Tryz.ntmps76
   go_wp2_with fail
   · go_ret2
     exact ⟨ret2_i (divp1 a b (by omega) hb ‹_›) rfl, rfl⟩
   · go_ret2
     exact ⟨ret2_i (divp2 a b HA (by omega) hb ‹_›) rfl, rfl⟩
theorem mod_pos (a b : Int) (w : World) (ha : I64 a) (hb : 1 < b) (hb2 : b ≤ 9223372036854775807) :
   Calls Tryz.prog 77 #[.int .i64 a, .int .i64 b] w fun e w' => e = .returned (.tuple #[.int .i64 (a % b), .int .i64 0]) ∧ w = w' := by
 obtain ⟨h1, h2⟩ := ha
 have c1 : (b == 0) = false := by rw [beq_eq_false_iff_ne]; omega
 have c2 : (b == -1) = false := by rw [beq_eq_false_iff_ne]; omega
 by_cases h0 : 0 ≤ a
 · have c3 : decide (a % b < 0) = false := by have := Int.emod_nonneg a (show b ≠ 0 by omega); simp; omega
   have c4 : decide (b < 0) = false := by simp; omega
   by_cases h3 : a % b = 0
   all_goals
     go_enter Tryz.func77, Tryz.ntmps77
     go_wp2_with fail
     go_ret2
     exact ⟨by first | rfl | (rw [h3]), rfl⟩
 · have c4 : decide (b < 0) = false := by simp; omega
   have e5 := tmod_neg a b (by omega)
   have h6 := Int.emod_nonneg (-a) (show b ≠ 0 by omega)
   by_cases h3 : a.tmod b = 0
   · have e6 : a.tmod b = 0 := h3
     have c5 : (a.tmod b != 0) = false := by simp [h3]
     clear e5
     go_enter Tryz.func77, Tryz.ntmps77
     go_wp2_with fail
     go_ret2
     exact ⟨ret2_i (modp1 a b (by omega) hb h3) rfl, rfl⟩
   · have c3 : decide (a.tmod b < 0) = true := by simp; omega
     have c5 : (a.tmod b != 0) = true := by simp [h3]
     clear e5
     go_enter Tryz.func77, Tryz.ntmps77
     go_wp2_with fail
     go_ret2
     exact ⟨ret2_i (modp2 a b hb2 (by omega) hb h3) rfl, rfl⟩
end Go.Proofs.YteodjglbpfmikaaGreatDoor
namespace Go.Proofs.YteodjglbpfmikaaGreatDoor
namespace Cal
def bf (y : Int) : Int := 1 + (y - 1) / 4 - (y - 1) / 100 + (y - 1) / 400
def sy (y : Int) : Int := 365 * y + bf y
def lp (y : Int) : Bool := decide (y % 400 = 0 ∨ (y % 4 = 0 ∧ y % 100 ≠ 0))
def lpN (y : Int) : Int := if lp y = true then 1 else 0
def len (y : Int) : Int := 365 + lpN y
theorem lpN_eq (y : Int) : lpN y = if y % 400 = 0 ∨ (y % 4 = 0 ∧ y % 100 ≠ 0) then 1 else 0 := by
 unfold lpN lp; simp only [decide_eq_true_eq]
theorem lpN_bd (y : Int) : 0 ≤ lpN y ∧ lpN y ≤ 1 := by unfold lpN; split <;> omega
theorem bf_succ (y : Int) : bf (y + 1) = bf y + lpN y := by
 rw [lpN_eq]; unfold bf; split <;> omega
theorem sy_succ (y : Int) : sy (y + 1) = sy y + len y := by
 unfold sy len; rw [bf_succ]; omega
theorem sy_mono (a b : Int) (h : a ≤ b) : sy a ≤ sy b := by unfold sy bf; omega
theorem sy_lt (a b : Int) (h : a < b) : sy a + 365 ≤ sy b := by unfold sy bf; omega
def cnt (r : Int) : Nat := (List.range 400).countP (fun i : Nat => !(decide (r < sy ((i : Int) + 1))))
def yr (d : Int) : Int := 400 * (d / 146097) + cnt (d % 146097)
def mlen (y m : Int) : Int := if m = 2 then 28 + lpN y else if m = 4 ∨ m = 6 ∨ m = 9 ∨ m = 11 then 30 else 31
def cum (y m : Int) : Int := if m ≤ 2 then 31 * (m - 1) else (367 * m - 362) / 12 - 2 + lpN y
def sm (y m : Int) : Int := sy y + cum y m
theorem mlen_bd (y m : Int) : 28 ≤ mlen y m ∧ mlen y m ≤ 31 := by
 have := lpN_bd y; unfold mlen; split <;> (try split) <;> omega
theorem cum_succ (y m : Int) (h1 : 1 ≤ m) (h2 : m ≤ 12) : cum y (m + 1) = cum y m + mlen y m := by
 have := lpN_bd y
 have h : m = 1 ∨ m = 2 ∨ m = 3 ∨ m = 4 ∨ m = 5 ∨ m = 6 ∨ m = 7 ∨ m = 8 ∨ m = 9 ∨ m = 10 ∨ m = 11 ∨ m = 12 := by omega
 rcases h with rfl | rfl | rfl | rfl | rfl | rfl | rfl | rfl | rfl | rfl | rfl | rfl <;> simp [cum, mlen] <;> omega
theorem cum_one (y : Int) : cum y 1 = 0 := by simp [cum]
theorem cum_13 (y : Int) : cum y 13 = len y := by simp [cum, len]
theorem cum_bd (y m : Int) (h1 : 1 ≤ m) (h2 : m ≤ 13) : 0 ≤ cum y m ∧ cum y m ≤ 366 := by
 have := lpN_bd y
 unfold cum; split <;> omega
theorem cum_mono (y a b : Int) (h1 : 1 ≤ a) (h2 : a ≤ b) (h3 : b ≤ 13) : cum y a ≤ cum y b := by
 have := lpN_bd y
 unfold cum; split <;> split <;> omega
theorem cum_lt (y a b : Int) (h1 : 1 ≤ a) (h2 : a < b) (_h3 : b ≤ 13) : cum y a + 28 ≤ cum y b := by
 have := lpN_bd y
 unfold cum; split <;> split <;> omega
end Cal
end Go.Proofs.YteodjglbpfmikaaGreatDoor
namespace Go.Proofs.YteodjglbpfmikaaGreatDoor
set_option maxHeartbeats 1000000
open Go.RowKit
def Steps (w : World) : Prop := ∃ b off cap : Nat, w.cell? ⟨3, 0, none⟩ = some (.slice (some ⟨b, off, none⟩) 3 cap) ∧
 w.cell? ⟨b, off, none⟩ = some (.int .i64 4) ∧ w.cell? ⟨b, off + 1, none⟩ = some (.int .i64 1) ∧
 w.cell? ⟨b, off + 2, none⟩ = some (.int .i64 100) ∧ w.cell? ⟨b, off + 3, none⟩ = some (.int .i64 (-1)) ∧
 w.cell? ⟨b, off + 4, none⟩ = some (.int .i64 400) ∧ w.cell? ⟨b, off + 5, none⟩ = some (.int .i64 1)
theorem Steps.below {w w' : World} (h : Steps w) (hb : Below w.heap.size w w') : Steps w' := by
 obtain ⟨b, off, cap, h0, h1, h2, h3, h4, h5, h6⟩ := h
 exact ⟨b, off, cap, cell_below hb h0, cell_below hb h1, cell_below hb h2, cell_below hb h3, cell_below hb h4, cell_below hb h5, cell_below hb h6⟩
theorem Steps.up {w w' : World} (h : Steps w) (hb : Up w w') : Steps w' := h.below hb.below
def YrB (y : Int) : Prop := -20000000000000000 ≤ y ∧ y ≤ 20000000000000000
theorem before_any (y : Int) (w : World) (hy : YrB y) (hE : Steps w) :
   Calls Tryz.prog 116 #[.int .i64 y] w fun e w' => e = .returned (.int .i64 (Cal.bf y)) ∧ Up w w' := by
 obtain ⟨b, off, cap, h0, h1, h2, h3, h4, h5, h6⟩ := hE
 obtain ⟨hy1, hy2⟩ := hy
 have hb0 := World.block_lt_of_cell? _ _ h1
 have hb1 : b < w.heap.size := hb0
 have hb2 : b < w.heap.size + 1 := by omega
 have hb3 : b < w.heap.size + 1 + 1 := by omega
 clear hb0
 go_enter Tryz.func116, Tryz.ntmps116
 go_wp2_with fail
 refine wp_loop_rounds 4 ?_
 rw [rounds_succ]
 go_wp2_with fail
 refine (div_pos _ _ _ (by unfold I64; omega) (by omega) (by omega)).mono ?_
 rintro e w1 ⟨rfl, rfl⟩
 go_wp2_with fail
 rw [rounds_succ]
 go_wp2_with fail
 refine (div_pos _ _ _ (by unfold I64; omega) (by omega) (by omega)).mono ?_
 rintro e w1 ⟨rfl, rfl⟩
 go_wp2_with fail
 rw [rounds_succ]
 go_wp2_with fail
 refine (div_pos _ _ _ (by unfold I64; omega) (by omega) (by omega)).mono ?_
 rintro e w1 ⟨rfl, rfl⟩
 go_wp2_with fail
 rw [rounds_succ]
 go_wp2_with fail
 go_ret
 refine ⟨ret1_i ?_, ?_⟩
 · unfold Cal.bf; omega
 · exact (((Up.refl _).alloc _).alloc _).alloc _
theorem bf_bd (y : Int) (hy : YrB y) : -10000000000000000 ≤ Cal.bf y ∧ Cal.bf y ≤ 10000000000000000 := by
 obtain ⟨h1, h2⟩ := hy
 unfold Cal.bf; omega
theorem start_any (y : Int) (w : World) (hy : YrB y) (hE : Steps w) :
  Calls Tryz.prog 63 #[.int .i64 y] w fun e w' => e = .returned (.int .i64 (Cal.sy y)) ∧ Up w w' := by
 have hb := bf_bd y hy
 have HY := hy
 obtain ⟨hy1, hy2⟩ := hy
 go_enter Tryz.func63, Tryz.ntmps63
 go_wp2_with (go_at_call 116; refine (before_any _ _ HY hE).mono ?_; rintro e w1 ⟨rfl, hu⟩)
 go_ret
 exact ⟨rfl, hu⟩
def IsY (y : Int) : Prop := -10000000000000000 ≤ y ∧ y ≤ 10000000000000000
instance (y : Int) : Decidable (IsY y) := by unfold IsY; infer_instance
theorem IsY.b {y : Int} (h : IsY y) : YrB y := by obtain ⟨_, _⟩ := h; exact ⟨by omega, by omega⟩
theorem IsY.b1 {y : Int} (h : IsY y) : YrB (y + 1) := by obtain ⟨_, _⟩ := h; exact ⟨by omega, by omega⟩
theorem check_yes (y : Int) (w : World) (hy : IsY y) :
  Calls Tryz.prog 18 #[.int .i64 y] w fun e w' => e = .returned (.int .i64 0) ∧ w = w' := by
 obtain ⟨hy1, hy2⟩ := hy
 have c1 : decide (y < -10000000000000000) = false := by simp; omega
 have c2 : decide (10000000000000000 < y) = false := by simp; omega
 go_enter Tryz.func18, Tryz.ntmps18
 go_wp2_with fail
 go_ret
 exact ⟨rfl, rfl⟩
theorem check_no (y : Int) (w : World) (hy : ¬ IsY y) :
   Calls Tryz.prog 18 #[.int .i64 y] w fun e w' => e = .returned (.int .i64 6) ∧ w = w' := by
 unfold IsY at hy
 by_cases h : y < -10000000000000000
 · have c1 : decide (y < -10000000000000000) = true := by simp; omega
   go_enter Tryz.func18, Tryz.ntmps18
   go_wp2_with fail
   go_ret
   exact ⟨rfl, rfl⟩
 · have c1 : decide (y < -10000000000000000) = false := by simp; omega
   have c2 : decide (10000000000000000 < y) = true := by simp; omega
   go_enter Tryz.func18, Tryz.ntmps18
   go_wp2_with fail
   go_ret
   exact ⟨rfl, rfl⟩
theorem ret2_b {l : IntKind} {a b : Bool} {c d : Int} (h : a = b) (h' : c = d) : Ending.returned (.tuple #[.bool a, .int l c]) = .returned (.tuple #[.bool b, .int l d]) := by rw [h, h']
theorem bf_lp (y : Int) : decide (Cal.bf y < Cal.bf (y + 1)) = Cal.lp y := by
 rw [Cal.bf_succ]; unfold Cal.lpN
 cases Cal.lp y
 · simp
 · simp; omega
theorem leap_yes (y : Int) (w : World) (hy : IsY y) (hE : Steps w) :
  Calls Tryz.prog 114 #[.int .i64 y] w fun e w' => e = .returned (.tuple #[.bool (Cal.lp y), .int .i64 0]) ∧ Up w w' := by
 have HY := hy
 obtain ⟨hy1, hy2⟩ := hy
 go_enter Tryz.func114, Tryz.ntmps114
 go_wp2_with (go_at_call 18; refine (check_yes _ _ HY).mono ?_; rintro e w1 ⟨rfl, rfl⟩)
 refine (before_any _ _ HY.b1 hE).mono ?_
 rintro e w1 ⟨rfl, hu⟩
 go_wp2_with fail
 refine (before_any _ _ HY.b (hE.up hu)).mono ?_
 rintro e w2 ⟨rfl, hu2⟩
 go_wp2_with fail
 go_ret2
 exact ⟨ret2_b (bf_lp y) rfl, hu.trans hu2⟩
theorem sy_bd (y : Int) (hy : YrB y) : -7400000000000000000 ≤ Cal.sy y ∧ Cal.sy y ≤ 7400000000000000000 := by
 obtain ⟨h1, h2⟩ := hy
 unfold Cal.sy Cal.bf; omega
theorem sy_bdY (y : Int) (hy : IsY y) : -3652425000000000000 ≤ Cal.sy y ∧ Cal.sy y ≤ 3652425000000000000 ∧ Cal.sy (y + 1) ≤ 3652425000000000366 := by
 obtain ⟨h1, h2⟩ := hy
 unfold Cal.sy Cal.bf; omega
theorem len_yes (y : Int) (w : World) (hy : IsY y) (hE : Steps w) :
  Calls Tryz.prog 23 #[.int .i64 y] w fun e w' => e = .returned (.tuple #[.int .i64 (Cal.len y), .int .i64 0]) ∧ Up w w' := by
 have HY := hy
 have hs := sy_bdY y hy
 have ho := Cal.sy_mono y (y + 1) (by omega)
 obtain ⟨hy1, hy2⟩ := hy
 go_enter Tryz.func23, Tryz.ntmps23
 go_wp2_with (go_at_call 18; refine (check_yes _ _ HY).mono ?_; rintro e w1 ⟨rfl, rfl⟩)
 refine (start_any _ _ HY.b1 hE).mono ?_
 rintro e w1 ⟨rfl, hu⟩
 go_wp2_with fail
 refine (start_any _ _ HY.b (hE.up hu)).mono ?_
 rintro e w2 ⟨rfl, hu2⟩
 go_wp2_with fail
 go_ret2
 exact ⟨ret2_i (by rw [Cal.sy_succ]; omega) rfl, hu.trans hu2⟩
theorem ystart_yes (y : Int) (w : World) (hy : IsY y) (hE : Steps w) :
  Calls Tryz.prog 57 #[.int .i64 y] w fun e w' => e = .returned (.tuple #[.int .i64 (Cal.sy y), .int .i64 0]) ∧ Up w w' := by
 go_enter Tryz.func57, Tryz.ntmps57
 go_wp2_with (first | (go_at_call 18; refine (check_yes _ _ hy).mono ?_; rintro e w1 ⟨rfl, rfl⟩) | (go_at_call 63; refine (start_any _ _ hy.b hE).mono ?_; rintro e w1 ⟨rfl, hu⟩))
 go_ret2
 exact ⟨rfl, hu⟩
theorem ystart_no (y : Int) (w : World) (hy : ¬ IsY y) :
  Calls Tryz.prog 57 #[.int .i64 y] w fun e w' => e = .returned (.tuple #[.int .i64 0, .int .i64 6]) ∧ w = w' := by
 go_enter Tryz.func57, Tryz.ntmps57
 go_wp2_with (go_at_call 18; refine (check_no _ _ hy).mono ?_; rintro e w1 ⟨rfl, rfl⟩)
 go_ret2
 exact ⟨rfl, rfl⟩
theorem yend_yes (y : Int) (w : World) (hy : IsY y) (hE : Steps w) :
  Calls Tryz.prog 58 #[.int .i64 y] w fun e w' => e = .returned (.tuple #[.int .i64 (Cal.sy (y + 1) - 1), .int .i64 0]) ∧ Up w w' := by
 have HY := hy
 have hs := sy_bd (y + 1) hy.b1
 obtain ⟨hy1, hy2⟩ := hy
 go_enter Tryz.func58, Tryz.ntmps58
 go_wp2_with (first | (go_at_call 18; refine (check_yes _ _ HY).mono ?_; rintro e w1 ⟨rfl, rfl⟩) | (go_at_call 63; refine (start_any _ _ HY.b1 hE).mono ?_; rintro e w1 ⟨rfl, hu⟩))
 go_ret2
 exact ⟨rfl, hu⟩
theorem yend_no (y : Int) (w : World) (hy : ¬ IsY y) :
  Calls Tryz.prog 58 #[.int .i64 y] w fun e w' => e = .returned (.tuple #[.int .i64 0, .int .i64 6]) ∧ w = w' := by
 go_enter Tryz.func58, Tryz.ntmps58
 go_wp2_with (go_at_call 18; refine (check_no _ _ hy).mono ?_; rintro e w1 ⟨rfl, rfl⟩)
 go_ret2
 exact ⟨rfl, rfl⟩
def KU (w : World) (a : Addr) (v : Value) (w' : World) : Prop := Up w w' ∧ w'.cell? a = some v
theorem KU.step {w w1 w2 : World} {a : Addr} {v : Value} (h : KU w a v w1) (k : Up w1 w2) : KU w a v w2 := ⟨h.1.trans k, k.cell h.2⟩
theorem leap_is (y : Int) (b : Bool) (w : World) (hb : Cal.lp y = b) (hy : IsY y) (hE : Steps w) :
  Calls Tryz.prog 114 #[.int .i64 y] w fun e w' => e = .returned (.tuple #[.bool b, .int .i64 0]) ∧ Up w w' := by
 rw [← hb]; exact leap_yes y w hy hE
set_option maxHeartbeats 1000000
theorem addD_same (pn pa pb pe : Addr) (n a b : Int) (x : Bool) (u : FrameMode) (w : World) (cn : w.cell? pn = some (.int .i64 n)) (ca : w.cell? pa = some (.int .i64 a)) (cb : w.cell? pb = some (.int .i64 b))
  (h1 : decide (a < n) = x) (h2 : decide (0 < b) = x) :
  CallsD Tryz.prog 92 #[.pointer (some pn), .pointer (some pa), .pointer (some pb), .pointer (some pe)] u w fun e u' w' => u' = u ∧ (e = .returned (.tuple #[]) ∧ w' = w) := by
 go_enter_d Tryz.func92, Tryz.ntmps92
 cases x
 all_goals
  go_wp2
  go_end0
  exact ⟨rfl, rfl⟩
theorem addD_over (pn pa pb pe : Addr) (n a b : Int) (x : Bool) (u : FrameMode) (w : World) (cn : w.cell? pn = some (.int .i64 n)) (ca : w.cell? pa = some (.int .i64 a)) (cb : w.cell? pb = some (.int .i64 b))
  (ce : w.cell? pe = some (.int .i64 0)) (fn : w.frozen? pn = false) (fe : w.frozen? pe = false) (hne : pe.block ≠ pn.block)
  (h1 : decide (a < n) = x) (h2 : decide (0 < b) = !x) :
  CallsD Tryz.prog 92 #[.pointer (some pn), .pointer (some pa), .pointer (some pb), .pointer (some pe)] u w fun e u' w' => u' = u ∧ (e = .returned (.tuple #[]) ∧ w' = (w.setCell pn (.int .i64 0)).setCell pe (.int .i64 15)) := by
 have ce' : (w.setCell pn (.int .i64 0)).cell? pe = some (.int .i64 0) := by exact (World.cell?_setCell_other (w := w) (a := pn) (b := pe) (v := .int .i64 0) (fun h => hne (by rw [h]))).trans ce
 have fe' : (w.setCell pn (.int .i64 0)).frozen? pe = false := by rw [World.frozen?_setCell]; exact fe
 go_enter_d Tryz.func92, Tryz.ntmps92
 cases x
 all_goals
  go_wp2
  go_end0
  exact ⟨rfl, rfl⟩
theorem add_cmp (a b : Int) (ha : I64 a) (hb : I64 b) :
   (I64 (a + b) → wrap64 (a + b) = a + b ∧ decide (a < a + b) = decide (0 < b)) ∧ (¬ I64 (a + b) → decide (a < wrap64 (a + b)) = !decide (0 < b)) := by
 obtain ⟨a1, a2⟩ := ha
 obtain ⟨b1, b2⟩ := hb
 constructor
 · intro h
   exact ⟨IntWalk.wrap64_in _ h, by rw [decide_eq_decide]; omega⟩
 · intro h
   unfold I64 at h
   by_cases h0 : 0 < b
   · rw [decide_eq_true h0]
     simp only [Bool.not_true, decide_eq_false_iff_not]
     unfold wrap64; omega
   · rw [decide_eq_false h0]
     simp only [Bool.not_false, decide_eq_true_eq]
     unfold wrap64; omega
def addW (w : World) (a b n : Int) : World :=
 ((((w.alloc (.cells #[.int .i64 a] 2)).alloc (.cells #[.int .i64 b] 2)).alloc (.cells #[.int .i64 n] 2)).alloc (.cells #[.int .i64 0] 31))
theorem addW_up (w : World) (a b n : Int) : Up w (addW w a b n) := ((((Up.refl _).alloc _).alloc _).alloc _).alloc _
theorem addW_cells (w : World) (a b n : Int) : (addW w a b n).cell? ⟨w.heap.size, 0, none⟩ = some (.int .i64 a) ∧ (addW w a b n).cell? ⟨w.heap.size + 1, 0, none⟩ = some (.int .i64 b) ∧
  (addW w a b n).cell? ⟨w.heap.size + 1 + 1, 0, none⟩ = some (.int .i64 n) ∧ (addW w a b n).cell? ⟨w.heap.size + 1 + 1 + 1, 0, none⟩ = some (.int .i64 0) ∧
  (addW w a b n).frozen? ⟨w.heap.size + 1 + 1, 0, none⟩ = false ∧ (addW w a b n).frozen? ⟨w.heap.size + 1 + 1 + 1, 0, none⟩ = false := by
 refine ⟨?_, ?_, ?_, ?_, ?_, ?_⟩ <;> simp [addW, go_sem]
theorem add_door_fits (w : World) (a b n m : Int) (tmps : Array Value) (h4 : tmps.getD 4 undef = .pointer (some ⟨w.heap.size + 1 + 1, 0, none⟩)) (h5 : tmps.getD 5 undef = .pointer (some ⟨w.heap.size + 1 + 1 + 1, 0, none⟩))
  (hc : decide (a < n) = decide (0 < b)) (hm : n = m) :
  Leaves Tryz.prog Tryz.f41 tmps (fun e w' => e = Ending.returned (.tuple #[.int .i64 m, .int .i64 0]) ∧ Up w w')
   [{ target := Target.fn (Fn.func 92) #[.pointer (some ⟨w.heap.size + 1 + 1, 0, none⟩), .pointer (some ⟨w.heap.size, 0, none⟩), .pointer (some ⟨w.heap.size + 1, 0, none⟩), .pointer (some ⟨w.heap.size + 1 + 1 + 1, 0, none⟩)], args := #[] }]
   .returning (addW w a b n) := by
 obtain ⟨c0, c1, c2, c3, f2, f3⟩ := addW_cells w a b n
 rw [Array.getD_eq_getD_getElem?] at h4 h5
 refine leaves_cons (f := 92) (args := #[.pointer (some ⟨w.heap.size + 1 + 1, 0, none⟩), .pointer (some ⟨w.heap.size, 0, none⟩), .pointer (some ⟨w.heap.size + 1, 0, none⟩), .pointer (some ⟨w.heap.size + 1 + 1 + 1, 0, none⟩)]) (by simp) (by simp [go_sem]) ?_
 refine (addD_same _ _ _ _ n a b _ _ _ c2 c0 c1 hc rfl).mono ?_
 rintro e u' w'' ⟨rfl, rfl, rfl⟩
 subst hm
 simp [Leaves, settle, results, Tryz.results41, go_sem, h4, h5, c2, c3, addW_up]
theorem add_door_over (w : World) (a b n : Int) (tmps : Array Value) (h4 : tmps.getD 4 undef = .pointer (some ⟨w.heap.size + 1 + 1, 0, none⟩)) (h5 : tmps.getD 5 undef = .pointer (some ⟨w.heap.size + 1 + 1 + 1, 0, none⟩))
  (hc : decide (a < n) = !decide (0 < b)) :
  Leaves Tryz.prog Tryz.f41 tmps (fun e w' => e = Ending.returned (.tuple #[.int .i64 0, .int .i64 15]) ∧ Up w w')
   [{ target := Target.fn (Fn.func 92) #[.pointer (some ⟨w.heap.size + 1 + 1, 0, none⟩), .pointer (some ⟨w.heap.size, 0, none⟩), .pointer (some ⟨w.heap.size + 1, 0, none⟩), .pointer (some ⟨w.heap.size + 1 + 1 + 1, 0, none⟩)], args := #[] }]
   .returning (addW w a b n) := by
 obtain ⟨c0, c1, c2, c3, f2, f3⟩ := addW_cells w a b n
 rw [Array.getD_eq_getD_getElem?] at h4 h5
 refine leaves_cons (f := 92) (args := #[.pointer (some ⟨w.heap.size + 1 + 1, 0, none⟩), .pointer (some ⟨w.heap.size, 0, none⟩), .pointer (some ⟨w.heap.size + 1, 0, none⟩), .pointer (some ⟨w.heap.size + 1 + 1 + 1, 0, none⟩)]) (by simp) (by simp [go_sem]) ?_
 refine (addD_over _ _ _ _ n a b _ _ _ c2 c0 c1 c3 f2 f3 (by simp) hc (by simp)).mono ?_
 rintro e u' w'' ⟨rfl, rfl, rfl⟩
 have e2 : (((addW w a b n).setCell ⟨w.heap.size + 1 + 1, 0, none⟩ (.int .i64 0)).setCell ⟨w.heap.size + 1 + 1 + 1, 0, none⟩ (.int .i64 15)).cell? ⟨w.heap.size + 1 + 1, 0, none⟩ = some (.int .i64 0) := by
  rw [World.cell?_setCell_other _ _ _ _ (by simp)]
  exact World.cell?_setCell_same _ _ _ c2
 have e3 : (((addW w a b n).setCell ⟨w.heap.size + 1 + 1, 0, none⟩ (.int .i64 0)).setCell ⟨w.heap.size + 1 + 1 + 1, 0, none⟩ (.int .i64 15)).cell? ⟨w.heap.size + 1 + 1 + 1, 0, none⟩ = some (.int .i64 15) := by
  refine World.cell?_setCell_same _ _ _ (u := .int .i64 0) ?_
  rw [World.cell?_setCell_other _ _ _ _ (by simp)]
  exact c3
 have hu : Up w (((addW w a b n).setCell ⟨w.heap.size + 1 + 1, 0, none⟩ (.int .i64 0)).setCell ⟨w.heap.size + 1 + 1 + 1, 0, none⟩ (.int .i64 15)) :=
  ((addW_up w a b n).setCell (by show _ ≤ w.heap.size + 1 + 1; omega) _).setCell (by show _ ≤ w.heap.size + 1 + 1 + 1; omega) _
 simp [Leaves, settle, results, Tryz.results41, go_sem, h4, h5, e2, e3, hu]
theorem add_fits (a b : Int) (w : World) (ha : I64 a) (hb : I64 b) (h : I64 (a + b)) :
   Calls Tryz.prog 41 #[.int .i64 a, .int .i64 b] w fun e w' => e = .returned (.tuple #[.int .i64 (a + b), .int .i64 0]) ∧ Up w w' := by
 have hmf : ∀ (fn : Fn) (first cap : Array Value) (w : World), (Instr.makeFunc fn first cap).run Tryz.prog w = .ok (.func fn first cap) w := fun _ _ _ _ => rfl
 obtain ⟨hw, hc⟩ := (add_cmp a b ha hb).1 h
 by_cases h0 : b = 0
 · subst h0
   clear hw hc
   go_enter_defers Tryz.func41, Tryz.ntmps41
   go_wp2
   exact add_door_fits w a 0 a _ _ rfl rfl (by simp) (by omega)
 · have HW := Lib.hid hw
   have HC := Lib.hid hc
   clear hw hc
   have c1 : (b == 0) = false := by rw [beq_eq_false_iff_ne]; exact h0
   obtain ⟨h1, h2⟩ := h
   go_enter_defers Tryz.func41, Tryz.ntmps41
   go_wp2
   exact add_door_fits w a b (a + b) _ _ rfl rfl HC.out rfl
theorem add_over (a b : Int) (w : World) (ha : I64 a) (hb : I64 b) (h : ¬ I64 (a + b)) :
  Calls Tryz.prog 41 #[.int .i64 a, .int .i64 b] w fun e w' => e = .returned (.tuple #[.int .i64 0, .int .i64 15]) ∧ Up w w' := by
 have hmf : ∀ (fn : Fn) (first cap : Array Value) (w : World), (Instr.makeFunc fn first cap).run Tryz.prog w = .ok (.func fn first cap) w := fun _ _ _ _ => rfl
 have hc := (add_cmp a b ha hb).2 h
 have h0 : b ≠ 0 := by
  rintro rfl
  exact h (by rw [Int.add_zero]; exact ha)
 have c1 : (b == 0) = false := by rw [beq_eq_false_iff_ne]; exact h0
 have HC := Lib.hid hc
 clear hc h
 go_enter_defers Tryz.func41, Tryz.ntmps41
 go_wp2
 exact add_door_over w a b (wrap64 (a + b)) _ rfl rfl HC.out
theorem sm_succ (y m : Int) (h1 : 1 ≤ m) (h2 : m ≤ 12) : Cal.sm y (m + 1) = Cal.sm y m + Cal.mlen y m := by
 unfold Cal.sm; rw [Cal.cum_succ y m h1 h2]; omega
theorem sm_one (y : Int) : Cal.sm y 1 = Cal.sy y := by unfold Cal.sm; rw [Cal.cum_one]; omega
theorem sm_13 (y : Int) : Cal.sm y 13 = Cal.sy (y + 1) := by unfold Cal.sm; rw [Cal.cum_13, Cal.sy_succ]
def mo (d : Int) : Int := 1 + (((List.range 12).countP (fun i : Nat => decide (i < 11 ∧ Cal.sm (Cal.yr d) ((i : Int) + 2) ≤ d)) : Nat) : Int)
set_option maxHeartbeats 1000000
def lensL : List Int := [31, 28, 31, 30, 31, 30, 31, 31, 30, 31, 30, 31]
structure EnvM (w : World) : Prop where
 st : Steps w
 ln : ∀ i : Nat, i < 12 → w.cell? ⟨1, i, none⟩ = some (.int .i64 (lensL.getD i 0))
theorem EnvM.up {w w' : World} (h : EnvM w) (hb : Up w w') : EnvM w' := ⟨h.st.up hb, fun i hi => hb.cell (h.ln i hi)⟩
theorem EnvM.below {w w' : World} (h : EnvM w) (hb : Below w.heap.size w w') : EnvM w' := ⟨h.st.below hb, fun i hi => cell_below hb (h.ln i hi)⟩
def IsM (y m : Int) : Prop := IsY y ∧ 1 ≤ m ∧ m ≤ 12
instance (y m : Int) : Decidable (IsM y m) := by unfold IsM; infer_instance
def BadM (y m e : Int) : Prop := (¬ IsY y ∧ e = 6) ∨ (IsY y ∧ ¬ (1 ≤ m ∧ m ≤ 12) ∧ e = 7)
theorem mcheck_yes (y m : Int) (w : World) (h : IsM y m) :
  Calls Tryz.prog 59 #[.int .i64 y, .int .i64 m] w fun e w' => e = .returned (.int .i64 0) ∧ w = w' := by
 obtain ⟨hy, h1, h2⟩ := h
 have c1 : decide (m < 1) = false := by simp; omega
 have c2 : decide (12 < m) = false := by simp; omega
 go_enter Tryz.func59, Tryz.ntmps59
 go_wp2_with fail
 refine (check_yes _ _ hy).mono ?_
 rintro e w1 ⟨rfl, rfl⟩
 go_wp2_with fail
 go_ret
 exact ⟨rfl, rfl⟩
theorem mcheck_no (y m er : Int) (w : World) (h : BadM y m er) :
   Calls Tryz.prog 59 #[.int .i64 y, .int .i64 m] w fun e w' => e = .returned (.int .i64 er) ∧ w = w' := by
 rcases h with ⟨hy, rfl⟩ | ⟨hy, hm, rfl⟩
 · go_enter Tryz.func59, Tryz.ntmps59
   go_wp2_with fail
   refine (check_no _ _ hy).mono ?_
   rintro e w1 ⟨rfl, rfl⟩
   go_wp2_with fail
   go_ret
   exact ⟨rfl, rfl⟩
 · by_cases h1 : m < 1
   · have c1 : decide (m < 1) = true := by simp; omega
     go_enter Tryz.func59, Tryz.ntmps59
     go_wp2_with fail
     refine (check_yes _ _ hy).mono ?_
     rintro e w1 ⟨rfl, rfl⟩
     go_wp2_with fail
     go_ret
     exact ⟨rfl, rfl⟩
   · have c1 : decide (m < 1) = false := by simp; omega
     have c2 : decide (12 < m) = true := by simp; omega
     go_enter Tryz.func59, Tryz.ntmps59
     go_wp2_with fail
     refine (check_yes _ _ hy).mono ?_
     rintro e w1 ⟨rfl, rfl⟩
     go_wp2_with fail
     go_ret
     exact ⟨rfl, rfl⟩
theorem mlen_other (y m : Int) (h1 : 1 ≤ m) (h2 : m ≤ 12) (h : m ≠ 2) : lensL.getD (m - 1).toNat 0 = Cal.mlen y m := by
 have hm : m = 1 ∨ m = 3 ∨ m = 4 ∨ m = 5 ∨ m = 6 ∨ m = 7 ∨ m = 8 ∨ m = 9 ∨ m = 10 ∨ m = 11 ∨ m = 12 := by omega
 rcases hm with rfl | rfl | rfl | rfl | rfl | rfl | rfl | rfl | rfl | rfl | rfl <;> simp [Cal.mlen, lensL]
theorem length_yes (y m : Int) (w : World) (h : IsM y m) (hE : EnvM w) :
   Calls Tryz.prog 60 #[.int .i64 y, .int .i64 m] w fun e w' => e = .returned (.int .i64 (Cal.mlen y m)) ∧ Up w w' := by
 obtain ⟨hy, h1, h2⟩ := h
 by_cases hm : m = 2
 · subst hm
   cases hl : Cal.lp y
   · have e : Cal.mlen y 2 = 28 := by simp [Cal.mlen, Cal.lpN, hl]
     rw [e]
     go_enter Tryz.func60, Tryz.ntmps60
     go_wp2_with fail
     refine (leap_is y false _ hl hy hE.st).mono ?_
     rintro e w1 ⟨rfl, qw1⟩
     have uw1 := qw1
     clear qw1
     have c := (hE.up uw1).ln 1 (by decide)
     simp only [lensL, List.getD, List.getElem?_cons_succ, List.getElem?_cons_zero, Option.getD_some] at c
     go_wp2_with fail
     go_ret
     exact ⟨rfl, uw1⟩
   · have e : Cal.mlen y 2 = 29 := by simp [Cal.mlen, Cal.lpN, hl]
     rw [e]
     go_enter Tryz.func60, Tryz.ntmps60
     go_wp2_with fail
     refine (leap_is y true _ hl hy hE.st).mono ?_
     rintro e w1 ⟨rfl, qw1⟩
     have uw1 := qw1
     clear qw1
     go_wp2_with fail
     go_ret
     exact ⟨rfl, uw1⟩
 · have e := mlen_other y m h1 h2 hm
   have hm2 : (m == 2) = false := by rw [beq_eq_false_iff_ne]; exact hm
   obtain ⟨k, hk⟩ : ∃ k : Nat, (k : Int) = m - 1 := ⟨(m - 1).toNat, by omega⟩
   obtain rfl : m = k + 1 := by omega
   have hk2 : k < 12 := by omega
   rw [show ((k : Int) + 1 - 1).toNat = k by omega] at e
   have HE := Lib.hid e
   clear e hk hm
   cases hl : Cal.lp y
   all_goals
     have HL := Lib.hid hl
     clear hl
     go_enter Tryz.func60, Tryz.ntmps60
     go_wp2_with fail
     refine (leap_is y _ _ HL.out hy hE.st).mono ?_
     rintro e w1 ⟨rfl, u1⟩
     have c := (hE.up u1).ln k hk2
     go_wp2_with fail
     go_ret
     exact ⟨ret1_i HE.out, u1⟩
theorem mlen_yes (y m : Int) (w : World) (h : IsM y m) (hE : EnvM w) :
  Calls Tryz.prog 125 #[.int .i64 y, .int .i64 m] w fun e w' => e = .returned (.tuple #[.int .i64 (Cal.mlen y m), .int .i64 0]) ∧ Up w w' := by
 go_enter Tryz.func125, Tryz.ntmps125
 go_wp2_with fail
 refine (mcheck_yes _ _ _ h).mono ?_
 rintro e w1 ⟨rfl, rfl⟩
 go_wp2_with fail
 refine (length_yes _ _ _ h hE).mono ?_
 rintro e w2 ⟨rfl, qw2⟩
 have uw2 := qw2
 clear qw2
 go_wp2_with fail
 go_ret2
 exact ⟨rfl, uw2⟩
theorem mlen_no (y m er : Int) (w : World) (h : BadM y m er) :
  Calls Tryz.prog 125 #[.int .i64 y, .int .i64 m] w fun e w' => e = .returned (.tuple #[.int .i64 0, .int .i64 er]) ∧ w = w' := by
 have hb := h
 rcases h with ⟨_, rfl⟩ | ⟨_, _, rfl⟩
 all_goals
  go_enter Tryz.func125, Tryz.ntmps125
  go_wp2_with fail
  refine (mcheck_no _ _ _ _ hb).mono ?_
  rintro e w1 ⟨rfl, rfl⟩
  go_wp2_with fail
  go_ret2
  exact ⟨rfl, rfl⟩
theorem mstart_yes (y m : Int) (w : World) (h : IsM y m) (hE : EnvM w) :
  Calls Tryz.prog 19 #[.int .i64 y, .int .i64 m] w fun e w' => e = .returned (.tuple #[.int .i64 (Cal.sm y m), .int .i64 0]) ∧ Up w w' := by
 have HM := h
 obtain ⟨hy, h1, h2⟩ := h
 have hs := sy_bdY y hy
 have HY := Lib.hid hy
 obtain ⟨y1, y2⟩ := hy
 go_enter Tryz.func19, Tryz.ntmps19
 go_wp2_with fail
 refine (mcheck_yes _ _ _ HM).mono ?_
 rintro e w1 ⟨rfl, rfl⟩
 go_wp2_with fail
 refine (ystart_yes _ _ HY.out hE.st).mono ?_
 rintro e w2 ⟨rfl, qw2⟩
 have uw2 := qw2
 clear qw2
 go_wp2_with fail
 go_loopw [7, 23] (fun d i wr => ∃ k : Int, 0 ≤ k ∧ k ≤ m - 1 ∧ i = .int .i64 k ∧ d = .int .i64 (Cal.sm y (k + 1)) ∧ Up w wr) (fun _ i _ => (m - 1 - intOf i).toNat)
 case atStart => exact ⟨0, by omega, by omega, rfl, by simp [Cal.sm, Cal.cum_one], uw2⟩
 case round =>
  obtain ⟨k, k1, k2, rfl, rfl, hu⟩ := hrel
  have hc := Cal.cum_bd y (k + 1) (by omega) (by omega)
  have hcs : Cal.sm y (k + 1) = Cal.sy y + Cal.cum y (k + 1) := rfl
  have hsb : -3652425000000000000 ≤ Cal.sm y (k + 1) ∧ Cal.sm y (k + 1) ≤ 3652425000000000366 := by omega
  have hml := Cal.mlen_bd y (k + 1)
  clear hcs hc
  by_cases hlt : k < m - 1
  · have hn := sm_succ y (k + 1) (by omega) (by omega)
    have HN := Lib.hid hn
    have HM1 : IsM y (k + 1) := ⟨HY.out, by omega, by omega⟩
    clear hn
    go_wp2_with fail
    refine (length_yes _ _ _ HM1 (hE.up hu)).mono ?_
    rintro e w3 ⟨rfl, q⟩
    go_wp2_with fail
    go_roundw
    case rel => exact ⟨k + 1, by omega, by omega, rfl, by rw [HN.out], hu.trans q⟩
    case measure => simp [intOf]; omega
  · obtain rfl : k = m - 1 := by omega
    go_wp2_with fail
    go_ret2
    exact ⟨by simp, hu⟩
theorem sm_bd (y m : Int) (h : IsM y m) : -3652425000000000000 ≤ Cal.sm y m ∧ Cal.sm y m ≤ 3652425000000000366 ∧ Cal.sm y (m + 1) ≤ 3652425000000000366 := by
 obtain ⟨hy, h1, h2⟩ := h
 have hs := sy_bdY y hy
 have hc := Cal.cum_mono y 1 m (by omega) (by omega) (by omega)
 have hd := Cal.cum_mono y (m + 1) 13 (by omega) (by omega) (by omega)
 have he := Cal.cum_mono y m (m + 1) (by omega) (by omega) (by omega)
 have h13 := Cal.cum_13 y
 have hn := Cal.sy_succ y
 rw [Cal.cum_one] at hc
 unfold Cal.sm
 omega
theorem mend_yes (y m : Int) (w : World) (h : IsM y m) (hE : EnvM w) :
  Calls Tryz.prog 20 #[.int .i64 y, .int .i64 m] w fun e w' => e = .returned (.tuple #[.int .i64 (Cal.sm y (m + 1) - 1), .int .i64 0]) ∧ Up w w' := by
 have hb := sm_bd y m h
 have hl := Cal.mlen_bd y m
 have hn := sm_succ y m h.2.1 h.2.2
 have HN := Lib.hid hn
 clear hn
 go_enter Tryz.func20, Tryz.ntmps20
 go_wp2_with fail
 refine (mstart_yes _ _ _ h hE).mono ?_
 rintro e w1 ⟨rfl, qw1⟩
 have uw1 := qw1
 clear qw1
 go_wp2_with fail
 refine (length_yes _ _ _ h (hE.up uw1)).mono ?_
 rintro e w2 ⟨rfl, qw2⟩
 have uw2 := uw1.trans qw2
 clear qw2 uw1
 go_wp2_with fail
 go_ret2
 exact ⟨ret2_i (by rw [HN.out]) rfl, uw2⟩
def mi (y m : Int) : Int := 12 * y + (m - 1)
theorem madd_yes (y m k : Int) (w : World) (h : IsM y m) (hk : I64 k) (hz : IsY ((mi y m + k) / 12)) (_hE : EnvM w) :
  Calls Tryz.prog 62 #[.int .i64 y, .int .i64 m, .int .i64 k] w fun e w' => e = .returned (.tuple #[.int .i64 ((mi y m + k) / 12), .int .i64 ((mi y m + k) % 12 + 1), .int .i64 0]) ∧ Up w w' := by
 have HM := h
 obtain ⟨⟨y1, y2⟩, h1, h2⟩ := h
 have hi : 12 * y + (m - 1) = mi y m := rfl
 have hi2 : -120000000000000000 ≤ mi y m ∧ mi y m ≤ 120000000000000011 := by omega
 have HK := hk
 obtain ⟨k1, k2⟩ := hk
 have HZ := Lib.hid hz
 obtain ⟨z1, z2⟩ := hz
 have ht : I64 (mi y m + k) := ⟨by omega, by omega⟩
 have hmi : I64 (mi y m) := ⟨by omega, by omega⟩
 have HI := Lib.hid hi
 clear hi
 go_enter Tryz.func62, Tryz.ntmps62
 go_wp2_with fail
 refine (mcheck_yes _ _ _ HM).mono ?_
 rintro e w1 ⟨rfl, rfl⟩
 go_wp2_with fail
 rw [HI.out]
 go_wp2_with fail
 refine (add_fits _ _ _ hmi HK ht).mono ?_
 rintro e w2 ⟨rfl, qw2⟩
 have uw2 := qw2
 clear qw2
 go_wp2_with fail
 refine (div_pos _ _ _ ht (by omega) (by omega)).mono ?_
 rintro e w3 ⟨rfl, rfl⟩
 go_wp2_with fail
 refine (mod_pos _ _ _ ht (by omega) (by omega)).mono ?_
 rintro e w4 ⟨rfl, rfl⟩
 go_wp2_with fail
 refine (check_yes _ _ HZ.out).mono ?_
 rintro e w5 ⟨rfl, rfl⟩
 go_wp2_with fail
 go_ret3
 exact ⟨rfl, uw2⟩
set_option maxHeartbeats 1000000
def spansL : List Int := [3, 3, 6, 3, 9, 3, 12, 3, 3, 3, 6, 3, 9, 3, 12, 3, 9, 3, 12, 3, 3, 3, 6, 3, 1, 3, 4, 3, 7, 3, 10, 3, 1, 4, 5, 4, 9, 4, 1, 6, 7, 6]
def fromS (c : Int) : Int := spansL.getD (2 * (c - 21)).toNat 0
def manyS (c : Int) : Int := spansL.getD (2 * (c - 21) + 1).toNat 0
structure EnvS (w : World) : Prop where
 mo : EnvM w
 sp : ∀ i : Nat, i < 42 → w.cell? ⟨2, i, none⟩ = some (.int .i64 (spansL.getD i 0))
theorem EnvS.up {w w' : World} (h : EnvS w) (hb : Up w w') : EnvS w' := ⟨h.mo.up hb, fun i hi => hb.cell (h.sp i hi)⟩
theorem EnvS.below {w w' : World} (h : EnvS w) (hb : Below w.heap.size w w') : EnvS w' := ⟨h.mo.below hb, fun i hi => cell_below hb (h.sp i hi)⟩
def IsC (c : Int) : Prop := 21 ≤ c ∧ c ≤ 41
instance (c : Int) : Decidable (IsC c) := by unfold IsC; infer_instance
theorem scheck_yes (c : Int) (w : World) (h : IsC c) :
  Calls Tryz.prog 115 #[.int .i64 c] w fun e w' => e = .returned (.int .i64 0) ∧ w = w' := by
 obtain ⟨h1, h2⟩ := h
 have c1 : decide (c < 21) = false := by simp; omega
 have c2 : decide (42 ≤ c) = false := by simp; omega
 go_enter Tryz.func115, Tryz.ntmps115
 go_wp2_with fail
 go_ret
 exact ⟨rfl, rfl⟩
theorem smonths_yes (c : Int) (w : World) (h : IsC c) (hE : EnvS w) :
  Calls Tryz.prog 61 #[.int .i64 c] w fun e w' => e = .returned (.tuple #[.int .i64 (fromS c), .int .i64 (manyS c), .int .i64 0]) ∧ Up w w' := by
 have HC := h
 obtain ⟨k, hk⟩ : ∃ k : Nat, (k : Int) = c - 21 := ⟨(c - 21).toNat, by have := h.1; omega⟩
 obtain rfl : c = k + 21 := by omega
 have hk2 : k < 21 := by have := h.2; omega
 have c0 := hE.sp (k * 2) (by omega)
 have c1 := hE.sp (k * 2 + 1) (by omega)
 have e0 : fromS (k + 21) = spansL.getD (k * 2) 0 := by unfold fromS; congr 1; omega
 have e1 : manyS (k + 21) = spansL.getD (k * 2 + 1) 0 := by unfold manyS; congr 1; omega
 rw [← e0] at c0
 rw [← e1] at c1
 have E0 := Lib.hid e0
 have E1 := Lib.hid e1
 clear e0 e1 hk h
 generalize fromS (k + 21) = a at *
 generalize manyS (k + 21) = b at *
 go_enter Tryz.func61, Tryz.ntmps61
 go_wp2_with fail
 refine (scheck_yes _ _ HC).mono ?_
 rintro e w1 ⟨rfl, rfl⟩
 go_wp2_with fail
 go_quiet (fail)
 go_wp2_with fail
 go_ret3
 exact ⟨rfl, ((Up.refl _).alloc _).drewN _⟩
def runV (a b : Int) : Value := .agg #[.int .i8 0, .int .i64 a, .int .i8 0, .int .i64 b]
theorem Up.frozen {w w' : World} {a : Addr} (hb : Up w w') (ha : a.block < w.heap.size) : w'.frozen? a = w.frozen? a := hb.below.frozen ha
structure RunAt (n : Nat) (w' : World) : Prop where
 c0 : w'.cell? ⟨n, 0, none⟩ = some (.int .i8 0)
 c1 : w'.cell? ⟨n, 1, none⟩ = some (.int .i64 0)
 c2 : w'.cell? ⟨n, 2, none⟩ = some (.int .i8 0)
 c3 : w'.cell? ⟨n, 3, none⟩ = some (.int .i64 0)
 f : ∀ i, w'.frozen? ⟨n, i, none⟩ = false
 s : n < w'.heap.size
theorem RunAt.up {n : Nat} {w w' : World} (h : RunAt n w) (k : Up w w') : RunAt n w' :=
 ⟨k.cell h.c0, k.cell h.c1, k.cell h.c2, k.cell h.c3, fun i => (k.frozen (a := ⟨n, i, none⟩) h.s).trans (h.f i), Nat.lt_of_lt_of_le h.s k.size⟩
theorem RunAt.new (w : World) (t : TypeId) : RunAt w.heap.size (w.alloc (.cells #[.int .i8 0, .int .i64 0, .int .i8 0, .int .i64 0] t)) :=
 ⟨by simp, by simp, by simp, by simp, fun i => by simp [go_sem], by simp⟩
def setRun (w : World) (n : Nat) (a b c d : Value) : World := (((w.setCell ⟨n, 0, none⟩ a).setCell ⟨n, 1, none⟩ b).setCell ⟨n, 2, none⟩ c).setCell ⟨n, 3, none⟩ d
theorem setRun_cells {n : Nat} {w : World} (h : RunAt n w) (a b c d : Value) : (setRun w n a b c d).cell? ⟨n, 0, none⟩ = some a ∧ (setRun w n a b c d).cell? ⟨n, 1, none⟩ = some b ∧ (setRun w n a b c d).cell? ⟨n, 2, none⟩ = some c ∧ (setRun w n a b c d).cell? ⟨n, 3, none⟩ = some d := by
 obtain ⟨c0, c1, c2, c3, _, _⟩ := h
 have o : ∀ (w : World) (i j : Nat) (v : Value), i ≠ j → (w.setCell ⟨n, i, none⟩ v).cell? ⟨n, j, none⟩ = w.cell? ⟨n, j, none⟩ := fun w i j v hij => World.cell?_setCell_other _ _ _ _ (fun h => hij (congrArg Addr.off h))
 unfold setRun
 refine ⟨?_, ?_, ?_, ?_⟩
 · rw [o _ _ _ _ (by decide), o _ _ _ _ (by decide), o _ _ _ _ (by decide)]
   exact World.cell?_setCell_same _ _ _ c0
 · rw [o _ _ _ _ (by decide), o _ _ _ _ (by decide)]
   exact World.cell?_setCell_same _ _ _ (u := .int .i64 0) (by rw [o _ _ _ _ (by decide)]; exact c1)
 · rw [o _ _ _ _ (by decide)]
   exact World.cell?_setCell_same _ _ _ (u := .int .i8 0) (by rw [o _ _ _ _ (by decide), o _ _ _ _ (by decide)]; exact c2)
 · exact World.cell?_setCell_same _ _ _ (u := .int .i64 0) (by rw [o _ _ _ _ (by decide), o _ _ _ _ (by decide), o _ _ _ _ (by decide)]; exact c3)
theorem setRun_up {w0 w : World} {n : Nat} (h : Up w0 w) (hn : w0.heap.size ≤ n) (a b c d : Value) : Up w0 (setRun w n a b c d) :=
 (((h.setCell (p := ⟨n, 0, none⟩) hn a).setCell (p := ⟨n, 1, none⟩) hn b).setCell (p := ⟨n, 2, none⟩) hn c).setCell (p := ⟨n, 3, none⟩) hn d
theorem code_bd (c : Int) (h : IsC c) : 1 ≤ fromS c ∧ fromS c ≤ 12 ∧ 3 ≤ manyS c ∧ manyS c ≤ 6 := by
 obtain ⟨h1, h2⟩ := h
 have : c = 21 ∨ c = 22 ∨ c = 23 ∨ c = 24 ∨ c = 25 ∨ c = 26 ∨ c = 27 ∨ c = 28 ∨ c = 29 ∨ c = 30 ∨ c = 31 ∨ c = 32 ∨ c = 33 ∨ c = 34 ∨ c = 35 ∨ c = 36 ∨ c = 37 ∨ c = 38 ∨ c = 39 ∨ c = 40 ∨ c = 41 := by omega
 rcases this with rfl | rfl | rfl | rfl | rfl | rfl | rfl | rfl | rfl | rfl | rfl | rfl | rfl | rfl | rfl | rfl | rfl | rfl | rfl | rfl | rfl <;> decide
def lastS (y c : Int) : Int := mi y (fromS c) + (manyS c - 1)
def IsSY (y c : Int) : Prop := IsY y ∧ IsY (lastS y c / 12)
instance (y c : Int) : Decidable (IsSY y c) := by unfold IsSY; infer_instance
def sLo (y c : Int) : Int := Cal.sm y (fromS c)
def sHi (y c : Int) : Int := Cal.sm (lastS y c / 12) (lastS y c % 12 + 1 + 1) - 1
theorem srun_yes (y c : Int) (w : World) (h : IsC c) (hs : IsSY y c) (hE : EnvS w) :
  Calls Tryz.prog 22 #[.int .i64 y, .int .i64 c] w fun e w' => e = .returned (.tuple #[runV (sLo y c) (sHi y c), .int .i64 0]) ∧ Up w w' := by
 have hr := RunAt.new w 30
 have u0 : Up w (w.alloc (.cells #[.int .i8 0, .int .i64 0, .int .i8 0, .int .i64 0] 30)) := (Up.refl _).alloc _
 obtain ⟨b1, b2, b3, b4⟩ := code_bd c h
 obtain ⟨hy, hz⟩ := hs
 have HM : IsM y (fromS c) := ⟨hy, b1, b2⟩
 have HL : IsM (lastS y c / 12) (lastS y c % 12 + 1) := ⟨hz, by omega, by omega⟩
 go_enter Tryz.func22, Tryz.ntmps22
 go_wp2_with fail
 refine (smonths_yes _ _ h (hE.up u0)).mono ?_
 rintro e w1 ⟨rfl, q1⟩
 have r1 := hr.up q1
 have u1 := u0.trans q1
 clear q1 u0 hr
 go_wp2_with fail
 refine (mstart_yes _ _ _ HM (hE.up u1).mo).mono ?_
 rintro e w2 ⟨rfl, q2⟩
 have r2 := r1.up q2
 have u2 := u1.trans q2
 clear q2 u1 r1
 go_wp2_with fail
 refine (madd_yes _ _ _ _ HM ⟨by omega, by omega⟩ hz (hE.up u2).mo).mono ?_
 rintro e w3 ⟨rfl, q3⟩
 have r1 := r2.up q3
 have u3 := u2.trans q3
 clear q3 u2 r2
 go_wp2_with fail
 refine (mend_yes _ _ _ HL (hE.up u3).mo).mono ?_
 rintro e w4 ⟨rfl, q4⟩
 have r2 := r1.up q4
 have u4 := u3.trans q4
 clear q4 u3 r1
 have r1 := r2
 clear r2
 have HR := r1
 obtain ⟨r0, r1, r2, r3, rf, rs⟩ := r1
 have f0 := rf 0
 have f1 := rf 1
 have f2 := rf 2
 have f3 := rf 3
 clear rf
 go_wp2_with fail
 obtain ⟨z0, z1, z2, z3⟩ := setRun_cells HR (.int .i8 0) (.int .i64 (sLo y c)) (.int .i8 0) (.int .i64 (sHi y c))
 exact bodyPost_ret (w := setRun w4 w.heap.size (.int .i8 0) (.int .i64 (sLo y c)) (.int .i8 0) (.int .i64 (sHi y c))) (v := .tuple #[runV (sLo y c) (sHi y c), .int .i64 0]) (by simp [results, Tryz.results22, go_sem, runV, z0, z1, z2, z3]) rfl ⟨rfl, setRun_up u4 (Nat.le_refl _) _ _ _ _⟩
def ofY (d c : Int) : Int := if mo d < fromS c then Cal.yr d - 1 else Cal.yr d
def ofM (d c : Int) : Int := if mo d < fromS c then mo d + 12 else mo d
def IsOf (d c : Int) : Prop := ofM d c < fromS c + manyS c ∧ IsSY (ofY d c) c
instance (d c : Int) : Decidable (IsOf d c) := by unfold IsOf; infer_instance
def mS (t : Int) : Int := Cal.sm (t / 12) (t % 12 + 1)
theorem mS_succ (t : Int) : mS (t + 1) = mS t + Cal.mlen (t / 12) (t % 12 + 1) := by
 have h := sm_succ (t / 12) (t % 12 + 1) (by omega) (by omega)
 unfold mS
 rw [← h]
 by_cases hc : t % 12 = 11
 · have a1 : (t + 1) / 12 = t / 12 + 1 := by omega
   have a2 : (t + 1) % 12 + 1 = 1 := by omega
   have a3 : t % 12 + 1 + 1 = 13 := by omega
   rw [a1, a2, a3, sm_13, sm_one]
 · have a1 : (t + 1) / 12 = t / 12 := by omega
   have a2 : (t + 1) % 12 + 1 = t % 12 + 1 + 1 := by omega
   rw [a1, a2]
theorem sHi_eq (y c : Int) : sHi y c = mS (lastS y c + 1) - 1 := by
 rw [mS_succ]
 unfold sHi mS
 rw [sm_succ _ _ (by omega) (by omega)]
end Go.Proofs.YteodjglbpfmikaaGreatDoor
namespace Go.Proofs.YteodjglbpfmikaaGreatDoor.Dg
def p10 : Nat → Int
 | 0 => 1
 | n + 1 => 10 * p10 n
def val : List Int → Int
 | [] => 0
 | d :: l => d + 10 * val l
def Digs (l : List Int) : Prop := ∀ d ∈ l, 0 ≤ d ∧ d ≤ 9
def dig (l : List Int) (i : Nat) : Int := l.getD i 0
theorem p10_pos (n : Nat) : 1 ≤ p10 n := by
 induction n with
 | zero => decide
 | succ n ih => rw [p10]; omega
theorem p10_add (m n : Nat) : p10 (m + n) = p10 m * p10 n := by
 induction m with
 | zero => simp [p10]
 | succ m ih => rw [Nat.succ_add, p10, ih, p10, Int.mul_assoc]
theorem p10_mono {m n : Nat} (h : m ≤ n) : p10 m ≤ p10 n := by
 obtain ⟨k, rfl⟩ : ∃ k, n = m + k := ⟨n - m, by omega⟩
 clear h
 induction k with
 | zero => exact Int.le_refl _
 | succ k ih =>
   have := p10_pos (m + k)
   rw [← Nat.add_assoc, p10]
   omega
theorem val_append (a b : List Int) : val (a ++ b) = val a + p10 a.length * val b := by
 induction a with
 | nil => simp [val, p10]
 | cons d a ih =>
   rw [List.cons_append, val, ih, val, List.length_cons, p10, Int.mul_assoc]
   omega
theorem val_snoc (l : List Int) (d : Int) : val (l ++ [d]) = val l + p10 l.length * d := by
 rw [val_append]; simp [val]
theorem Digs.cons {d : Int} {l : List Int} (h : Digs (d :: l)) : (0 ≤ d ∧ d ≤ 9) ∧ Digs l := ⟨h d (by simp), fun x hx => h x (by simp [hx])⟩
theorem Digs.append {a b : List Int} (h : Digs a) (k : Digs b) : Digs (a ++ b) := by
 intro d hd
 rcases List.mem_append.1 hd with hd | hd
 · exact h d hd
 · exact k d hd
theorem Digs.one {d : Int} (h : 0 ≤ d ∧ d ≤ 9) : Digs [d] := by intro x hx; simp at hx; subst hx; exact h
theorem Digs.nil : Digs [] := by intro d hd; simp at hd
theorem Digs.take {l : List Int} (h : Digs l) (n : Nat) : Digs (l.take n) := fun d hd => h d (List.mem_of_mem_take hd)
theorem Digs.drop {l : List Int} (h : Digs l) (n : Nat) : Digs (l.drop n) := fun d hd => h d (List.mem_of_mem_drop hd)
theorem dig_bd {l : List Int} (h : Digs l) (i : Nat) : 0 ≤ dig l i ∧ dig l i ≤ 9 := by
 unfold dig
 by_cases hi : i < l.length
 · have e : l.getD i 0 = l[i] := by simp [List.getD, hi]
   rw [e]; exact h _ (List.getElem_mem hi)
 · rw [show l.getD i 0 = 0 by simp [List.getD, Nat.not_lt.1 hi]]; omega
theorem dig_none {l : List Int} {i : Nat} (h : l.length ≤ i) : dig l i = 0 := by simp [dig, List.getD, h]
theorem dig_some {l : List Int} {i : Nat} (h : i < l.length) : l[i]? = some (dig l i) := by simp [dig, List.getD, h]
theorem val_nonneg {l : List Int} (h : Digs l) : 0 ≤ val l := by
 induction l with
 | nil => simp [val]
 | cons d l ih => have := h.cons; have := ih this.2; rw [val]; omega
theorem take_succ (l : List Int) (i : Nat) (h : i < l.length) : l.take (i + 1) = l.take i ++ [dig l i] := by
 rw [List.take_succ_eq_append_getElem h]; simp [dig, List.getD, h]
theorem val_take_succ (l : List Int) (i : Nat) : val (l.take (i + 1)) = val (l.take i) + p10 i * dig l i := by
 by_cases h : i < l.length
 · rw [take_succ l i h, val_snoc, List.length_take, Nat.min_eq_left (by omega)]
 · rw [List.take_of_length_le (by omega), List.take_of_length_le (by omega), dig_none (by omega)]; simp
def Canon (l : List Int) : Prop := Digs l ∧ (l = [] ∨ dig l (l.length - 1) ≠ 0)
theorem Canon.low {l : List Int} (h : Canon l) (hn : l ≠ []) : p10 (l.length - 1) ≤ val l := by
 obtain ⟨hd, h⟩ := h
 have hlen : 0 < l.length := List.length_pos_iff.2 hn
 have h0 : dig l (l.length - 1) ≠ 0 := by rcases h with h | h; exact absurd h hn; exact h
 have e := val_take_succ l (l.length - 1)
 rw [show l.length - 1 + 1 = l.length by omega, List.take_of_length_le (Nat.le_refl _)] at e
 have b := dig_bd hd (l.length - 1)
 have v := val_nonneg (hd.take (l.length - 1))
 have p := p10_pos (l.length - 1)
 have m : p10 (l.length - 1) * 1 ≤ p10 (l.length - 1) * dig l (l.length - 1) := Int.mul_le_mul_of_nonneg_left (by omega) (by omega)
 omega
def dl (n : Nat) : List Int := if h : n = 0 then [] else ((n % 10 : Nat) : Int) :: dl (n / 10)
termination_by n
decreasing_by omega
theorem dl_zero : dl 0 = [] := by rw [dl, dif_pos rfl]
theorem dl_pos {n : Nat} (h : n ≠ 0) : dl n = ((n % 10 : Nat) : Int) :: dl (n / 10) := by rw [dl, dif_neg h]
theorem dl_digs (n : Nat) : Digs (dl n) := by
 induction n using Nat.strongRecOn with
 | _ n ih =>
   by_cases h : n = 0
   · subst h; rw [dl_zero]; exact Digs.nil
   · rw [dl_pos h]
     intro d hd
     rcases List.mem_cons.1 hd with rfl | hd
     · omega
     · exact ih (n / 10) (by omega) d hd
theorem dl_val (n : Nat) : val (dl n) = n := by
 induction n using Nat.strongRecOn with
 | _ n ih =>
   by_cases h : n = 0
   · subst h; rw [dl_zero]; rfl
   · rw [dl_pos h, val, ih (n / 10) (by omega)]; omega
theorem dl_nil {n : Nat} (h : dl n = []) : n = 0 := by
 by_cases hn : n = 0
 · exact hn
 · rw [dl_pos hn] at h; simp at h
theorem dig_succ (d : Int) (l : List Int) (i : Nat) : dig (d :: l) (i + 1) = dig l i := by simp [dig, List.getD]
theorem dig_zero (d : Int) (l : List Int) : dig (d :: l) 0 = d := by simp [dig, List.getD]
theorem dl_canon (n : Nat) : Canon (dl n) := by
 refine ⟨dl_digs n, ?_⟩
 induction n using Nat.strongRecOn with
 | _ n ih =>
   by_cases h : n = 0
   · subst h; exact Or.inl dl_zero
   · right
     rw [dl_pos h]
     rcases ih (n / 10) (by omega) with e | e
     · have := dl_nil e
       rw [e]
       simp [dig, List.getD]
       omega
     · have hne : dl (n / 10) ≠ [] := by
        intro e2; rw [e2] at e; simp [dig, List.getD] at e
       have hl : 0 < (dl (n / 10)).length := List.length_pos_iff.2 hne
       rw [List.length_cons, show (dl (n / 10)).length + 1 - 1 = (dl (n / 10)).length - 1 + 1 by omega, dig_succ]
       exact e
theorem Canon.tail {d : Int} {l : List Int} (h : Canon (d :: l)) : Canon l := by
 obtain ⟨hd, h⟩ := h
 refine ⟨hd.cons.2, ?_⟩
 rcases h with h | h
 · simp at h
 · by_cases hn : l = []
   · exact Or.inl hn
   · right
     have hl : 0 < l.length := List.length_pos_iff.2 hn
     rw [List.length_cons, show l.length + 1 - 1 = l.length - 1 + 1 by omega, dig_succ] at h
     exact h
theorem dl_len {n k : Nat} (h : (n : Int) < p10 k) : (dl n).length ≤ k := by
 by_cases hn : dl n = []
 · rw [hn]; simp
 · have := (dl_canon n).low hn
   rw [dl_val] at this
   by_cases hc : (dl n).length ≤ k
   · exact hc
   · have := p10_mono (show k ≤ (dl n).length - 1 by omega)
     omega
end Go.Proofs.YteodjglbpfmikaaGreatDoor.Dg
namespace Go.Proofs.YteodjglbpfmikaaGreatDoor.Dg
theorem val_set (l : List Int) (i : Nat) (x : Int) (h : i < l.length) : val (l.set i x) = val l + p10 i * (x - dig l i) := by
 induction l generalizing i with
 | nil => simp at h
 | cons d l ih =>
   cases i with
   | zero => simp [val, p10, dig_zero]; omega
   | succ i =>
     rw [List.set_cons_succ, val, ih i (by simpa using h), val, dig_succ, p10, Int.mul_assoc]
     omega
theorem dig_set_other (l : List Int) (i j : Nat) (x : Int) (h : i ≠ j) : dig (l.set i x) j = dig l j := by simp [dig, List.getD, List.getElem?_set_ne h]
theorem Digs.set {l : List Int} (hl : Digs l) (i : Nat) {x : Int} (h : 0 ≤ x ∧ x ≤ 9) : Digs (l.set i x) := by
 intro d hd
 rcases List.mem_or_eq_of_mem_set hd with hd | rfl
 · exact hl d hd
 · exact h
def rowS (O : List Int) (x : Int) (b : List Int) (i : Nat) : Nat → List Int × Int
 | 0 => (O, 0)
 | k + 1 => ((rowS O x b i k).1.set (i + k) ((dig (rowS O x b i k).1 (i + k) + x * dig b k + (rowS O x b i k).2) % 10), (dig (rowS O x b i k).1 (i + k) + x * dig b k + (rowS O x b i k).2) / 10)
theorem mul_bd {x y : Int} (hx : 0 ≤ x ∧ x ≤ 9) (hy : 0 ≤ y ∧ y ≤ 9) : 0 ≤ x * y ∧ x * y ≤ 81 := by
 refine ⟨Int.mul_nonneg hx.1 hy.1, ?_⟩
 have := Int.mul_le_mul hx.2 hy.2 hy.1 (by omega : (0 : Int) ≤ 9)
 omega
theorem rowS_inv {O b : List Int} {x : Int} (hO : Digs O) (hx : 0 ≤ x ∧ x ≤ 9) (hb : Digs b) (i k : Nat) (hk : i + k ≤ O.length) :
   (rowS O x b i k).1.length = O.length ∧ Digs (rowS O x b i k).1 ∧ 0 ≤ (rowS O x b i k).2 ∧ (rowS O x b i k).2 ≤ 9 ∧ (∀ j, i + k ≤ j → dig (rowS O x b i k).1 j = dig O j) ∧
     val (rowS O x b i k).1 + p10 (i + k) * (rowS O x b i k).2 = val O + p10 i * (x * val (b.take k)) := by
 induction k with
 | zero => exact ⟨rfl, hO, by simp [rowS], by simp [rowS], fun _ _ => rfl, by simp [rowS, val]⟩
 | succ k ih =>
   obtain ⟨h1, h2, h3, h4, h5, h6⟩ := ih (by omega)
   have d0 := dig_bd h2 (i + k)
   have xb := mul_bd hx (dig_bd hb k)
   simp only [rowS]
   refine ⟨by simp [h1], h2.set _ (by omega), by omega, by omega, ?_, ?_⟩
   · intro j hj
     rw [dig_set_other _ _ _ _ (by omega)]
     exact h5 j (by omega)
   · rw [val_set _ _ _ (by omega), val_take_succ, ← Nat.add_assoc, p10]
     generalize (rowS O x b i k).2 = c at *
     generalize dig (rowS O x b i k).1 (i + k) = z at *
     have e : z + x * dig b k + c = 10 * ((z + x * dig b k + c) / 10) + (z + x * dig b k + c) % 10 := by omega
     generalize (z + x * dig b k + c) / 10 = q at *
     generalize (z + x * dig b k + c) % 10 = r at *
     have e2 : p10 (i + k) * (z + x * dig b k + c) = p10 (i + k) * (10 * q + r) := by rw [e]
     rw [Int.mul_add, Int.mul_add, Int.mul_add, ← Int.mul_assoc (p10 (i + k)) 10, Int.mul_comm (p10 (i + k)) 10] at e2
     have e3 : p10 i * (x * (val (b.take k) + p10 k * dig b k)) = p10 i * (x * val (b.take k)) + p10 (i + k) * (x * dig b k) := by
      rw [Int.mul_add, Int.mul_add, p10_add, Int.mul_assoc, Int.mul_left_comm x]
     rw [e3, Int.mul_sub]
     omega
theorem rowS_fin {O a b : List Int} (hO : Digs O) (ha : Digs a) (hb : Digs b) (i k : Nat) (hi : i < a.length) (hlen : O.length = a.length + b.length + 1) (hz : ∀ j, i + b.length ≤ j → dig O j = 0) (hv : val O = val (a.take i) * val b)
  (h1 : b.length ≤ k) (h2 : k ≤ b.length + 1) (hc : (rowS O (dig a i) b i k).2 = 0) :
  (∀ j, i + 1 + b.length ≤ j → dig (rowS O (dig a i) b i k).1 j = 0) ∧ val (rowS O (dig a i) b i k).1 = val (a.take (i + 1)) * val b := by
 obtain ⟨g1, g2, g3, g4, g5, g6⟩ := rowS_inv hO (dig_bd ha i) hb i k (by omega)
 refine ⟨fun j hj => by rw [g5 j (by omega)]; exact hz j (by omega), ?_⟩
 rw [hc, List.take_of_length_le h1, hv] at g6
 rw [val_take_succ, Int.add_mul, Int.mul_assoc]
 omega
def nvA (acc : Nat) (l : List UInt8) : Nat := l.foldl (fun a c => a * 10 + (c.toNat - 48)) acc
def isD (c : UInt8) : Prop := 48 ≤ c.toNat ∧ c.toNat ≤ 57
def dv (c : UInt8) : Int := (c.toNat : Int) - 48
end Go.Proofs.YteodjglbpfmikaaGreatDoor.Dg
