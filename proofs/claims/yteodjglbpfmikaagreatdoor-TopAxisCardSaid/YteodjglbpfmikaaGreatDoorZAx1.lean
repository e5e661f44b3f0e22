/- Walks and laws that the claim's theorem leans on: part 1. -/
import Derived.Test.YteodjglbpfmikaaGreatDoorRows
import Derived.WalkKit
import Derived.WalkSpells
import Derived.WalkLawsBesides
import Derived.LoopN
import Derived.Deep.RegionHeld3
import Derived.Deep.LoopGhost
import Derived.Sort.Grow
import Derived.Lib.Hide
import Derived.Deep.QuietTactic
import Derived.BigQuiet
import Derived.Deep.DeepFit
import Derived.Deep.DeepMust
import Derived.Defers
import Derived.Lib.ItoaNum
import Derived.Lib.ParseIntB
import Derived.OwnWalk
import Derived.Laws.OwnMore
import Derived.Outline
import Derived.Deep.RegionWith
import Derived.Laws.MakeOwn
import Derived.IntWalk
import Derived.Test.YteodjglbpfmikaaGreatDoorShInts
import Derived.Laws.BytesArg
import Derived.Deep.DeepCutAuto
import Derived.Deep.RegionLaw
import Derived.Lib.Strings
import Derived.Lib.SmallJoins
import Derived.OrdersHeld
namespace Go.Proofs.YteodjglbpfmikaaGreatDoor
open Go.RowKit
set_option linter.unusedVariables false
theorem nlt {a b c : Nat} (h : a < b) (k : b ≤ c) : a < c := Nat.lt_of_lt_of_le h k
theorem pL {α : Type} : type_of% (And.intro (@List.getElem_toArray α) (And.intro (@List.getElem_cons_succ α) (And.intro (@List.getElem_cons_zero α) (And.intro (@List.setIfInBounds_toArray α) (And.intro (@List.set_cons_zero α) (@List.set_cons_succ α)))))) := And.intro (@List.getElem_toArray α) (And.intro (@List.getElem_cons_succ α) (And.intro (@List.getElem_cons_zero α) (And.intro (@List.setIfInBounds_toArray α) (And.intro (@List.set_cons_zero α) (@List.set_cons_succ α)))))
theorem tk {P : Program} {md : Region.Mode} {ops : Array Oper} {Q : Exit → Act → World → Prop} {S : World → Prop} (i : Nat) {oi : Oper} (v : Value) {fuel : Nat} {listed : Array Bool} {a : Act} {w : World} (hi : ops[i]? = some oi) (hr : (Region.noSelect ops && (Region.free md ops listed i && (Region.ready md ops listed).contains i)) = true) (hQ : ∀ c a w, Q (.panic c) (a.put oi.dst v) w → Q (.panic c) a w) (hg : Region.wanted oi (yielded ops a.tmps) = true) (hS : S w) (hy : ∀ w, S w → (execOp a.eval oi).run P w = .ok (.value v) w) (h : wpAnyH P md ops Q S fuel (listed.setIfInBounds i true) (a.put oi.dst v) w) : wpAnyH P md ops Q S (fuel + 1) listed a w := by
  rw [Bool.and_eq_true, Bool.and_eq_true] at hr
  exact wpAnyH_take hi hr.1 hr.2.1 hr.2.2 hQ (Or.inl ⟨hg, hy⟩) hS h
theorem tu {P : Program} {md : Region.Mode} {ops : Array Oper} {Q : Exit → Act → World → Prop} {S : World → Prop} (i : Nat) {oi : Oper} {fuel : Nat} {listed : Array Bool} {a : Act} {w : World} (hi : ops[i]? = some oi) (hr : (Region.noSelect ops && (Region.free md ops listed i && (Region.ready md ops listed).contains i)) = true) (hQ : ∀ c a w, Q (.panic c) (a.put oi.dst undef) w → Q (.panic c) a w) (hg : Region.wanted oi (yielded ops a.tmps) = false) (hS : S w) (h : wpAnyH P md ops Q S fuel (listed.setIfInBounds i true) (a.put oi.dst undef) w) : wpAnyH P md ops Q S (fuel + 1) listed a w := by
  rw [Bool.and_eq_true, Bool.and_eq_true] at hr
  exact wpAnyH_take hi hr.1 hr.2.1 hr.2.2 hQ (Or.inr ⟨hg, rfl⟩) hS h
theorem mv3 {w w' : World} (q : ∀ {a : Addr} {v : Value}, w.cell? a = some v → w'.cell? a = some v) {a0 a1 a2 : Addr} {v0 v1 v2 : Value} (h0 : w.cell? a0 = some v0) (h1 : w.cell? a1 = some v1) (h2 : w.cell? a2 = some v2) : w'.cell? a0 = some v0 ∧ w'.cell? a1 = some v1 ∧ w'.cell? a2 = some v2 := ⟨q h0, q h1, q h2⟩
theorem mv4 {w w' : World} (q : ∀ {a : Addr} {v : Value}, w.cell? a = some v → w'.cell? a = some v) {a0 a1 a2 a3 : Addr} {v0 v1 v2 v3 : Value} (h0 : w.cell? a0 = some v0) (h1 : w.cell? a1 = some v1) (h2 : w.cell? a2 = some v2) (h3 : w.cell? a3 = some v3) : w'.cell? a0 = some v0 ∧ w'.cell? a1 = some v1 ∧ w'.cell? a2 = some v2 ∧ w'.cell? a3 = some v3 := ⟨q h0, q h1, q h2, q h3⟩
theorem mv5 {w w' : World} (q : ∀ {a : Addr} {v : Value}, w.cell? a = some v → w'.cell? a = some v) {a0 a1 a2 a3 a4 : Addr} {v0 v1 v2 v3 v4 : Value} (h0 : w.cell? a0 = some v0) (h1 : w.cell? a1 = some v1) (h2 : w.cell? a2 = some v2) (h3 : w.cell? a3 = some v3) (h4 : w.cell? a4 = some v4) : w'.cell? a0 = some v0 ∧ w'.cell? a1 = some v1 ∧ w'.cell? a2 = some v2 ∧ w'.cell? a3 = some v3 ∧ w'.cell? a4 = some v4 := ⟨q h0, q h1, q h2, q h3, q h4⟩
theorem mv6 {w w' : World} (q : ∀ {a : Addr} {v : Value}, w.cell? a = some v → w'.cell? a = some v) {a0 a1 a2 a3 a4 a5 : Addr} {v0 v1 v2 v3 v4 v5 : Value} (h0 : w.cell? a0 = some v0) (h1 : w.cell? a1 = some v1) (h2 : w.cell? a2 = some v2) (h3 : w.cell? a3 = some v3) (h4 : w.cell? a4 = some v4) (h5 : w.cell? a5 = some v5) : w'.cell? a0 = some v0 ∧ w'.cell? a1 = some v1 ∧ w'.cell? a2 = some v2 ∧ w'.cell? a3 = some v3 ∧ w'.cell? a4 = some v4 ∧ w'.cell? a5 = some v5 := ⟨q h0, q h1, q h2, q h3, q h4, q h5⟩
theorem mv7 {w w' : World} (q : ∀ {a : Addr} {v : Value}, w.cell? a = some v → w'.cell? a = some v) {a0 a1 a2 a3 a4 a5 a6 : Addr} {v0 v1 v2 v3 v4 v5 v6 : Value} (h0 : w.cell? a0 = some v0) (h1 : w.cell? a1 = some v1) (h2 : w.cell? a2 = some v2) (h3 : w.cell? a3 = some v3) (h4 : w.cell? a4 = some v4) (h5 : w.cell? a5 = some v5) (h6 : w.cell? a6 = some v6) : w'.cell? a0 = some v0 ∧ w'.cell? a1 = some v1 ∧ w'.cell? a2 = some v2 ∧ w'.cell? a3 = some v3 ∧ w'.cell? a4 = some v4 ∧ w'.cell? a5 = some v5 ∧ w'.cell? a6 = some v6 := ⟨q h0, q h1, q h2, q h3, q h4, q h5, q h6⟩
theorem mv8 {w w' : World} (q : ∀ {a : Addr} {v : Value}, w.cell? a = some v → w'.cell? a = some v) {a0 a1 a2 a3 a4 a5 a6 a7 : Addr} {v0 v1 v2 v3 v4 v5 v6 v7 : Value} (h0 : w.cell? a0 = some v0) (h1 : w.cell? a1 = some v1) (h2 : w.cell? a2 = some v2) (h3 : w.cell? a3 = some v3) (h4 : w.cell? a4 = some v4) (h5 : w.cell? a5 = some v5) (h6 : w.cell? a6 = some v6) (h7 : w.cell? a7 = some v7) : w'.cell? a0 = some v0 ∧ w'.cell? a1 = some v1 ∧ w'.cell? a2 = some v2 ∧ w'.cell? a3 = some v3 ∧ w'.cell? a4 = some v4 ∧ w'.cell? a5 = some v5 ∧ w'.cell? a6 = some v6 ∧ w'.cell? a7 = some v7 := ⟨q h0, q h1, q h2, q h3, q h4, q h5, q h6, q h7⟩
theorem mv9 {w w' : World} (q : ∀ {a : Addr} {v : Value}, w.cell? a = some v → w'.cell? a = some v) {a0 a1 a2 a3 a4 a5 a6 a7 a8 : Addr} {v0 v1 v2 v3 v4 v5 v6 v7 v8 : Value} (h0 : w.cell? a0 = some v0) (h1 : w.cell? a1 = some v1) (h2 : w.cell? a2 = some v2) (h3 : w.cell? a3 = some v3) (h4 : w.cell? a4 = some v4) (h5 : w.cell? a5 = some v5) (h6 : w.cell? a6 = some v6) (h7 : w.cell? a7 = some v7) (h8 : w.cell? a8 = some v8) : w'.cell? a0 = some v0 ∧ w'.cell? a1 = some v1 ∧ w'.cell? a2 = some v2 ∧ w'.cell? a3 = some v3 ∧ w'.cell? a4 = some v4 ∧ w'.cell? a5 = some v5 ∧ w'.cell? a6 = some v6 ∧ w'.cell? a7 = some v7 ∧ w'.cell? a8 = some v8 := ⟨q h0, q h1, q h2, q h3, q h4, q h5, q h6, q h7, q h8⟩
theorem mv10 {w w' : World} (q : ∀ {a : Addr} {v : Value}, w.cell? a = some v → w'.cell? a = some v) {a0 a1 a2 a3 a4 a5 a6 a7 a8 a9 : Addr} {v0 v1 v2 v3 v4 v5 v6 v7 v8 v9 : Value} (h0 : w.cell? a0 = some v0) (h1 : w.cell? a1 = some v1) (h2 : w.cell? a2 = some v2) (h3 : w.cell? a3 = some v3) (h4 : w.cell? a4 = some v4) (h5 : w.cell? a5 = some v5) (h6 : w.cell? a6 = some v6) (h7 : w.cell? a7 = some v7) (h8 : w.cell? a8 = some v8) (h9 : w.cell? a9 = some v9) : w'.cell? a0 = some v0 ∧ w'.cell? a1 = some v1 ∧ w'.cell? a2 = some v2 ∧ w'.cell? a3 = some v3 ∧ w'.cell? a4 = some v4 ∧ w'.cell? a5 = some v5 ∧ w'.cell? a6 = some v6 ∧ w'.cell? a7 = some v7 ∧ w'.cell? a8 = some v8 ∧ w'.cell? a9 = some v9 := ⟨q h0, q h1, q h2, q h3, q h4, q h5, q h6, q h7, q h8, q h9⟩
theorem mv11 {w w' : World} (q : ∀ {a : Addr} {v : Value}, w.cell? a = some v → w'.cell? a = some v) {a0 a1 a2 a3 a4 a5 a6 a7 a8 a9 a10 : Addr} {v0 v1 v2 v3 v4 v5 v6 v7 v8 v9 v10 : Value} (h0 : w.cell? a0 = some v0) (h1 : w.cell? a1 = some v1) (h2 : w.cell? a2 = some v2) (h3 : w.cell? a3 = some v3) (h4 : w.cell? a4 = some v4) (h5 : w.cell? a5 = some v5) (h6 : w.cell? a6 = some v6) (h7 : w.cell? a7 = some v7) (h8 : w.cell? a8 = some v8) (h9 : w.cell? a9 = some v9) (h10 : w.cell? a10 = some v10) : w'.cell? a0 = some v0 ∧ w'.cell? a1 = some v1 ∧ w'.cell? a2 = some v2 ∧ w'.cell? a3 = some v3 ∧ w'.cell? a4 = some v4 ∧ w'.cell? a5 = some v5 ∧ w'.cell? a6 = some v6 ∧ w'.cell? a7 = some v7 ∧ w'.cell? a8 = some v8 ∧ w'.cell? a9 = some v9 ∧ w'.cell? a10 = some v10 := ⟨q h0, q h1, q h2, q h3, q h4, q h5, q h6, q h7, q h8, q h9, q h10⟩
theorem mv12 {w w' : World} (q : ∀ {a : Addr} {v : Value}, w.cell? a = some v → w'.cell? a = some v) {a0 a1 a2 a3 a4 a5 a6 a7 a8 a9 a10 a11 : Addr} {v0 v1 v2 v3 v4 v5 v6 v7 v8 v9 v10 v11 : Value} (h0 : w.cell? a0 = some v0) (h1 : w.cell? a1 = some v1) (h2 : w.cell? a2 = some v2) (h3 : w.cell? a3 = some v3) (h4 : w.cell? a4 = some v4) (h5 : w.cell? a5 = some v5) (h6 : w.cell? a6 = some v6) (h7 : w.cell? a7 = some v7) (h8 : w.cell? a8 = some v8) (h9 : w.cell? a9 = some v9) (h10 : w.cell? a10 = some v10) (h11 : w.cell? a11 = some v11) : w'.cell? a0 = some v0 ∧ w'.cell? a1 = some v1 ∧ w'.cell? a2 = some v2 ∧ w'.cell? a3 = some v3 ∧ w'.cell? a4 = some v4 ∧ w'.cell? a5 = some v5 ∧ w'.cell? a6 = some v6 ∧ w'.cell? a7 = some v7 ∧ w'.cell? a8 = some v8 ∧ w'.cell? a9 = some v9 ∧ w'.cell? a10 = some v10 ∧ w'.cell? a11 = some v11 := ⟨q h0, q h1, q h2, q h3, q h4, q h5, q h6, q h7, q h8, q h9, q h10, q h11⟩
theorem mv13 {w w' : World} (q : ∀ {a : Addr} {v : Value}, w.cell? a = some v → w'.cell? a = some v) {a0 a1 a2 a3 a4 a5 a6 a7 a8 a9 a10 a11 a12 : Addr} {v0 v1 v2 v3 v4 v5 v6 v7 v8 v9 v10 v11 v12 : Value} (h0 : w.cell? a0 = some v0) (h1 : w.cell? a1 = some v1) (h2 : w.cell? a2 = some v2) (h3 : w.cell? a3 = some v3) (h4 : w.cell? a4 = some v4) (h5 : w.cell? a5 = some v5) (h6 : w.cell? a6 = some v6) (h7 : w.cell? a7 = some v7) (h8 : w.cell? a8 = some v8) (h9 : w.cell? a9 = some v9) (h10 : w.cell? a10 = some v10) (h11 : w.cell? a11 = some v11) (h12 : w.cell? a12 = some v12) : w'.cell? a0 = some v0 ∧ w'.cell? a1 = some v1 ∧ w'.cell? a2 = some v2 ∧ w'.cell? a3 = some v3 ∧ w'.cell? a4 = some v4 ∧ w'.cell? a5 = some v5 ∧ w'.cell? a6 = some v6 ∧ w'.cell? a7 = some v7 ∧ w'.cell? a8 = some v8 ∧ w'.cell? a9 = some v9 ∧ w'.cell? a10 = some v10 ∧ w'.cell? a11 = some v11 ∧ w'.cell? a12 = some v12 := ⟨q h0, q h1, q h2, q h3, q h4, q h5, q h6, q h7, q h8, q h9, q h10, q h11, q h12⟩
theorem mv14 {w w' : World} (q : ∀ {a : Addr} {v : Value}, w.cell? a = some v → w'.cell? a = some v) {a0 a1 a2 a3 a4 a5 a6 a7 a8 a9 a10 a11 a12 a13 : Addr} {v0 v1 v2 v3 v4 v5 v6 v7 v8 v9 v10 v11 v12 v13 : Value} (h0 : w.cell? a0 = some v0) (h1 : w.cell? a1 = some v1) (h2 : w.cell? a2 = some v2) (h3 : w.cell? a3 = some v3) (h4 : w.cell? a4 = some v4) (h5 : w.cell? a5 = some v5) (h6 : w.cell? a6 = some v6) (h7 : w.cell? a7 = some v7) (h8 : w.cell? a8 = some v8) (h9 : w.cell? a9 = some v9) (h10 : w.cell? a10 = some v10) (h11 : w.cell? a11 = some v11) (h12 : w.cell? a12 = some v12) (h13 : w.cell? a13 = some v13) : w'.cell? a0 = some v0 ∧ w'.cell? a1 = some v1 ∧ w'.cell? a2 = some v2 ∧ w'.cell? a3 = some v3 ∧ w'.cell? a4 = some v4 ∧ w'.cell? a5 = some v5 ∧ w'.cell? a6 = some v6 ∧ w'.cell? a7 = some v7 ∧ w'.cell? a8 = some v8 ∧ w'.cell? a9 = some v9 ∧ w'.cell? a10 = some v10 ∧ w'.cell? a11 = some v11 ∧ w'.cell? a12 = some v12 ∧ w'.cell? a13 = some v13 := ⟨q h0, q h1, q h2, q h3, q h4, q h5, q h6, q h7, q h8, q h9, q h10, q h11, q h12, q h13⟩
theorem mv15 {w w' : World} (q : ∀ {a : Addr} {v : Value}, w.cell? a = some v → w'.cell? a = some v) {a0 a1 a2 a3 a4 a5 a6 a7 a8 a9 a10 a11 a12 a13 a14 : Addr} {v0 v1 v2 v3 v4 v5 v6 v7 v8 v9 v10 v11 v12 v13 v14 : Value} (h0 : w.cell? a0 = some v0) (h1 : w.cell? a1 = some v1) (h2 : w.cell? a2 = some v2) (h3 : w.cell? a3 = some v3) (h4 : w.cell? a4 = some v4) (h5 : w.cell? a5 = some v5) (h6 : w.cell? a6 = some v6) (h7 : w.cell? a7 = some v7) (h8 : w.cell? a8 = some v8) (h9 : w.cell? a9 = some v9) (h10 : w.cell? a10 = some v10) (h11 : w.cell? a11 = some v11) (h12 : w.cell? a12 = some v12) (h13 : w.cell? a13 = some v13) (h14 : w.cell? a14 = some v14) : w'.cell? a0 = some v0 ∧ w'.cell? a1 = some v1 ∧ w'.cell? a2 = some v2 ∧ w'.cell? a3 = some v3 ∧ w'.cell? a4 = some v4 ∧ w'.cell? a5 = some v5 ∧ w'.cell? a6 = some v6 ∧ w'.cell? a7 = some v7 ∧ w'.cell? a8 = some v8 ∧ w'.cell? a9 = some v9 ∧ w'.cell? a10 = some v10 ∧ w'.cell? a11 = some v11 ∧ w'.cell? a12 = some v12 ∧ w'.cell? a13 = some v13 ∧ w'.cell? a14 = some v14 := ⟨q h0, q h1, q h2, q h3, q h4, q h5, q h6, q h7, q h8, q h9, q h10, q h11, q h12, q h13, q h14⟩
theorem mv16 {w w' : World} (q : ∀ {a : Addr} {v : Value}, w.cell? a = some v → w'.cell? a = some v) {a0 a1 a2 a3 a4 a5 a6 a7 a8 a9 a10 a11 a12 a13 a14 a15 : Addr} {v0 v1 v2 v3 v4 v5 v6 v7 v8 v9 v10 v11 v12 v13 v14 v15 : Value} (h0 : w.cell? a0 = some v0) (h1 : w.cell? a1 = some v1) (h2 : w.cell? a2 = some v2) (h3 : w.cell? a3 = some v3) (h4 : w.cell? a4 = some v4) (h5 : w.cell? a5 = some v5) (h6 : w.cell? a6 = some v6) (h7 : w.cell? a7 = some v7) (h8 : w.cell? a8 = some v8) (h9 : w.cell? a9 = some v9) (h10 : w.cell? a10 = some v10) (h11 : w.cell? a11 = some v11) (h12 : w.cell? a12 = some v12) (h13 : w.cell? a13 = some v13) (h14 : w.cell? a14 = some v14) (h15 : w.cell? a15 = some v15) : w'.cell? a0 = some v0 ∧ w'.cell? a1 = some v1 ∧ w'.cell? a2 = some v2 ∧ w'.cell? a3 = some v3 ∧ w'.cell? a4 = some v4 ∧ w'.cell? a5 = some v5 ∧ w'.cell? a6 = some v6 ∧ w'.cell? a7 = some v7 ∧ w'.cell? a8 = some v8 ∧ w'.cell? a9 = some v9 ∧ w'.cell? a10 = some v10 ∧ w'.cell? a11 = some v11 ∧ w'.cell? a12 = some v12 ∧ w'.cell? a13 = some v13 ∧ w'.cell? a14 = some v14 ∧ w'.cell? a15 = some v15 := ⟨q h0, q h1, q h2, q h3, q h4, q h5, q h6, q h7, q h8, q h9, q h10, q h11, q h12, q h13, q h14, q h15⟩
end Go.Proofs.YteodjglbpfmikaaGreatDoor
namespace Go.Proofs.YteodjglbpfmikaaGreatDoor
open Go.RowKit
def I64 (a : Int) : Prop := -9223372036854775808 ≤ a ∧ a ≤ 9223372036854775807
instance decI64 (a : Int) : Decidable (I64 a) := by unfold I64; infer_instance
theorem ret1_i {k : IntKind} {a b : Int} (h : a = b) : Ending.returned (.int k a) = .returned (.int k b) := by rw [h]
theorem ret2_i {k l : IntKind} {a b c d : Int} (h : a = b) (h' : c = d) : Ending.returned (.tuple #[.int k a, .int l c]) = .returned (.tuple #[.int k b, .int l d]) := by rw [h, h']
theorem retb {a b : Bool} (h : a = b) : Ending.returned (.bool a) = .returned (.bool b) := by rw [h]
theorem i64_of_wf {a : Int} (h : (Lit.int .i64 a).wf = true) : I64 a := by
 simp [Lit.wf, IntKind.min, IntKind.max, IntKind.signed, IntKind.bits] at h
 exact ⟨by omega, by omega⟩
structure Up (w w' : World) : Prop where
 below : Below w.heap.size w w'
 drawn : w.drawn ≤ w'.drawn
theorem Up.refl (w : World) : Up w w := ⟨Below.refl _ _, Nat.le_refl _⟩
theorem Up.trans {a b c : World} (h : Up a b) (k : Up b c) : Up a c := ⟨h.below.trans (k.below.mono h.below.size), Nat.le_trans h.drawn k.drawn⟩
theorem Up.alloc {a w : World} (h : Up a w) (o : Obj) : Up a (w.alloc o) := ⟨h.below.alloc h.below.size o, h.drawn⟩
theorem Up.drew {a w : World} (h : Up a w) : Up a w.drew := ⟨h.below.drew, Nat.le_trans h.drawn (Nat.le_succ _)⟩
theorem Up.setCell {a w : World} (h : Up a w) {p : Addr} (hp : a.heap.size ≤ p.block) (u : Value) : Up a (w.setCell p u) := ⟨h.below.setCell hp u, h.drawn⟩
theorem Up.size {a w : World} (h : Up a w) : a.heap.size ≤ w.heap.size := h.below.size
theorem Up.drewN {a w : World} (h : Up a w) (n : Nat) : Up a (w.drewN n) := ⟨h.below.trans ⟨rfl, rfl, rfl, Nat.le_refl _, fun _ _ => rfl⟩, Nat.le_trans h.drawn (Nat.le_add_right _ _)⟩
theorem Below.step {a w w' : World} (h : Below a.heap.size a w) (k : Below w.heap.size w w') : Below a.heap.size a w' := h.trans (k.mono h.size)
theorem cell_below {w w' : World} {a : Addr} {v : Value} (hb : Below w.heap.size w w') (h : w.cell? a = some v) : w'.cell? a = some v := by
 rw [hb.cell (World.block_lt_of_cell? _ _ h)]; exact h
theorem Up.cell {w w' : World} {a : Addr} {v : Value} (hb : Up w w') (h : w.cell? a = some v) : w'.cell? a = some v := cell_below hb.below h
theorem Calls.qs {P : Program} {f : FuncId} {args : Array Value} {w : World} {n : Nat} {v : Value} (h : Calls P f args (w.drewN n) fun e w' => e = .returned v ∧ w.drewN n = w') :
 Calls P f args (w.drewN n) fun e w'' => e = .returned v ∧ ∃ m, w'' = w.drewN m := h.mono fun _ _ ⟨he, hm⟩ => ⟨he, n, hm.symm⟩
theorem Up.grow {w w' : World} (h : Up w w') : ∃ q os, w' = Go.Sort.grow (w.drewN q) os := by
 refine ⟨w'.drawn - w.drawn, w'.heap.extract w.heap.size w'.heap.size, ?_⟩
 have hd := h.drawn
 obtain ⟨⟨h1, h2, h3, h4, h5⟩, _⟩ := h
 have e : w'.heap = w.heap ++ w'.heap.extract w.heap.size w'.heap.size := by
  apply Array.ext_getElem?
  intro i
  by_cases hi : i < w.heap.size
  · rw [h5 i hi, Array.getElem?_append_left hi]
  · rw [Array.getElem?_append_right (by omega), Array.getElem?_extract]
    by_cases hj : i < w'.heap.size
    · rw [if_pos (by omega)]; congr 1; omega
    · rw [if_neg (by omega), Array.getElem?_eq_none (by omega)]
 have e2 : w'.drawn = w.drawn + (w'.drawn - w.drawn) := by omega
 obtain ⟨hp, tp, dr, o, ou⟩ := w'
 simp only at h1 h2 h3 e e2
 subst h1 h2 h3
 show _ = World.mk (w.heap ++ hp.extract w.heap.size hp.size) w.tape (w.drawn + (dr - w.drawn)) w.os w.output
 rw [← e, ← e2]
theorem Up.of_grow {w : World} (q : Nat) (os : Array Obj) : Up w (Go.Sort.grow (w.drewN q) os) :=
 ⟨⟨rfl, rfl, rfl, by simp [Go.Sort.grow], fun i hi => by
  show ((w.drewN q).heap ++ os)[i]? = _
  rw [Array.getElem?_append_left (by show i < w.heap.size; omega)]
  rfl⟩, Nat.le_add_right _ _⟩
set_option maxHeartbeats 400000
theorem tdiv_neg (a b : Int) (h : a < 0) : a.tdiv b = -((-a) / b) := by
 have := Int.neg_tdiv (a := -a) (b := b)
 rw [Int.neg_neg] at this
 rw [this, Int.tdiv_eq_ediv_of_nonneg (by omega)]
theorem tmod_neg (a b : Int) (h : a < 0) : a.tmod b = -((-a) % b) := by
 have := Int.neg_tmod (a := -a) (b := b)
 rw [Int.neg_neg] at this
 rw [this, Int.tmod_eq_emod_of_nonneg (by omega)]
theorem fdiv_neg1 (a b : Int) (hb : 0 < b) (h : (-a) % b = 0) : -((-a) / b) = a / b ∧ a % b = 0 := by
 have e := Int.mul_ediv_add_emod (-a) b
 rw [h, Int.add_zero] at e
 generalize (-a) / b = q at *
 have e2 : a = b * (-q) + 0 := by rw [Int.mul_neg, e]; omega
 have := (Int.ediv_emod_unique (a := a) (b := b) (r := 0) (q := -q) hb).2 ⟨by omega, by omega, by omega⟩
 exact ⟨this.1.symm, this.2⟩
theorem fdiv_neg2 (a b : Int) (hb : 0 < b) (h : ¬ (-a) % b = 0) : -((-a) / b) - 1 = a / b ∧ b - (-a) % b = a % b := by
 have e := Int.mul_ediv_add_emod (-a) b
 have h1 := Int.emod_nonneg (-a) (show b ≠ 0 by omega)
 have h2 := Int.emod_lt_of_pos (-a) hb
 generalize (-a) / b = q at *
 generalize (-a) % b = r at *
 have e2 : a = b * (-q - 1) + (b - r) := by rw [Int.mul_sub, Int.mul_neg]; omega
 have := (Int.ediv_emod_unique (a := a) (b := b) (r := b - r) (q := -q - 1) hb).2 ⟨by omega, by omega, by omega⟩
 exact ⟨this.1.symm, this.2.symm⟩
theorem fdiv_half (a b : Int) (hb : 1 < b) : (0 ≤ a → 0 ≤ a / b ∧ 2 * (a / b) ≤ a) ∧ (a < 0 → a / b < 0 ∧ a - 1 ≤ 2 * (a / b)) := by
 have e := Int.mul_ediv_add_emod a b
 have h1 := Int.emod_nonneg a (show b ≠ 0 by omega)
 have h2 := Int.emod_lt_of_pos a (show 0 < b by omega)
 generalize hq : a / b = q at *
 generalize a % b = r at *
 constructor
 · intro h
   have hq0 : 0 ≤ q := by rw [← hq]; exact Int.ediv_nonneg h (by omega)
   have := Int.mul_le_mul_of_nonneg_right (show 2 ≤ b by omega) hq0
   omega
 · intro h
   have hq0 : q < 0 := by rw [← hq]; exact Int.ediv_neg_of_neg_of_pos h (by omega)
   have h3 := Int.mul_le_mul_of_nonneg_right (show 2 ≤ b by omega) (show 0 ≤ -q - 1 by omega)
   rw [Int.mul_sub b, Int.mul_neg] at h3
   omega
theorem divp1 (a b : Int) (h : a < 0) (hb : 1 < b) (h3 : a.tmod b = 0) : a.tdiv b = a / b := by
 rw [tmod_neg a b h] at h3
 rw [tdiv_neg a b h]
 exact (fdiv_neg1 a b (by omega) (by omega)).1
theorem divp2 (a b : Int) (ha : I64 a) (h : a < 0) (hb : 1 < b) (h3 : ¬ a.tmod b = 0) : wrap64 (a.tdiv b - 1) = a / b := by
 rw [tmod_neg a b h] at h3
 have e := (fdiv_neg2 a b (by omega) (by omega)).1
 have := (fdiv_half a b hb).2 h
 obtain ⟨_, _⟩ := ha
 rw [tdiv_neg a b h, e]
 exact IntWalk.wrap64_in _ ⟨by omega, by omega⟩
theorem modp1 (a b : Int) (h : a < 0) (hb : 1 < b) (h3 : a.tmod b = 0) : 0 = a % b := by
 rw [tmod_neg a b h] at h3
 exact (fdiv_neg1 a b (by omega) (by omega)).2.symm
theorem modp2 (a b : Int) (hb2 : b ≤ 9223372036854775807) (h : a < 0) (hb : 1 < b) (h3 : ¬ a.tmod b = 0) : wrap64 (a.tmod b + b) = a % b := by
 have h4 := tmod_neg a b h
 rw [h4] at h3
 have e := (fdiv_neg2 a b (by omega) (by omega)).2
 have h1 := Int.emod_nonneg a (show b ≠ 0 by omega)
 have h2 := Int.emod_lt_of_pos a (show 0 < b by omega)
 rw [h4, show -(-a % b) + b = a % b by omega]
 exact IntWalk.wrap64_in _ ⟨by omega, by omega⟩
theorem div_pos (a b : Int) (w : World) (ha : I64 a) (hb : 1 < b) (hb2 : b ≤ 9223372036854775807) :
   Calls Tryz.prog 76 #[.int .i64 a, .int .i64 b] w fun e w' => e = .returned (.tuple #[.int .i64 (a / b), .int .i64 0]) ∧ w = w' := by
 have HA := ha
 obtain ⟨h1, h2⟩ := ha
 have c1 : (b == 0) = false := by rw [beq_eq_false_iff_ne]; omega
 have c2 : (b == -1) = false := by rw [beq_eq_false_iff_ne]; omega
 by_cases h0 : 0 ≤ a
 · have c3 : decide (a < 0) = false := by simp; omega
   have c4 : decide (b < 0) = false := by simp; omega
   by_cases h3 : a % b = 0
   all_goals
     go_enter Tryz.func76, Tryz.ntmps76
     go_wp2_with fail
     go_ret2
     exact ⟨rfl, rfl⟩
 · have c3 : decide (a < 0) = true := by simp; omega
   have c4 : decide (b < 0) = false := by simp; omega
   go_enter Tryz.func76, Tryz.ntmps76
   go_wp2_with fail
   · go_ret2
     exact ⟨ret2_i (divp1 a b (by omega) hb ‹_›) rfl, rfl⟩
   · go_ret2
     exact ⟨ret2_i (divp2 a b HA (by omega) hb ‹_›) rfl, rfl⟩
theorem mod_pos (a b : Int) (w : World) (ha : I64 a) (hb : 1 < b) (hb2 : b ≤ 9223372036854775807) :
   Calls Tryz.prog 77 #[.int .i64 a, .int .i64 b] w fun e w' => e = .returned (.tuple #[.int .i64 (a % b), .int .i64 0]) ∧ w = w' := by
 obtain ⟨h1, h2⟩ := ha
 have c1 : (b == 0) = false := by rw [beq_eq_false_iff_ne]; omega
 have c2 : (b == -1) = false := by rw [beq_eq_false_iff_ne]; omega
 by_cases h0 : 0 ≤ a
 · have c3 : decide (a % b < 0) = false := by have := Int.emod_nonneg a (show b ≠ 0 by omega); simp; omega
   have c4 : decide (b < 0) = false := by simp; omega
   by_cases h3 : a % b = 0
   all_goals
     go_enter Tryz.func77, Tryz.ntmps77
     go_wp2_with fail
     go_ret2
     exact ⟨by first | rfl | (rw [h3]), rfl⟩
 · have c4 : decide (b < 0) = false := by simp; omega
   have e5 := tmod_neg a b (by omega)
   have h6 := Int.emod_nonneg (-a) (show b ≠ 0 by omega)
   by_cases h3 : a.tmod b = 0
   · have e6 : a.tmod b = 0 := h3
     have c5 : (a.tmod b != 0) = false := by simp [h3]
     clear e5
     go_enter Tryz.func77, Tryz.ntmps77
     go_wp2_with fail
     go_ret2
     exact ⟨ret2_i (modp1 a b (by omega) hb h3) rfl, rfl⟩
   · have c3 : decide (a.tmod b < 0) = true := by simp; omega
     have c5 : (a.tmod b != 0) = true := by simp [h3]
     clear e5
     go_enter Tryz.func77, Tryz.ntmps77
     go_wp2_with fail
     go_ret2
     exact ⟨ret2_i (modp2 a b hb2 (by omega) hb h3) rfl, rfl⟩
set_option maxHeartbeats 1000000
theorem addD_same (pn pa pb pe : Addr) (n a b : Int) (x : Bool) (u : FrameMode) (w : World) (cn : w.cell? pn = some (.int .i64 n)) (ca : w.cell? pa = some (.int .i64 a)) (cb : w.cell? pb = some (.int .i64 b))
  (h1 : decide (a < n) = x) (h2 : decide (0 < b) = x) :
  CallsD Tryz.prog 92 #[.pointer (some pn), .pointer (some pa), .pointer (some pb), .pointer (some pe)] u w fun e u' w' => u' = u ∧ (e = .returned (.tuple #[]) ∧ w' = w) := by
 go_enter_d Tryz.func92, Tryz.ntmps92
 cases x
 all_goals
  go_wp2
  go_end0
  exact ⟨rfl, rfl⟩
theorem addD_over (pn pa pb pe : Addr) (n a b : Int) (x : Bool) (u : FrameMode) (w : World) (cn : w.cell? pn = some (.int .i64 n)) (ca : w.cell? pa = some (.int .i64 a)) (cb : w.cell? pb = some (.int .i64 b))
  (ce : w.cell? pe = some (.int .i64 0)) (fn : w.frozen? pn = false) (fe : w.frozen? pe = false) (hne : pe.block ≠ pn.block)
  (h1 : decide (a < n) = x) (h2 : decide (0 < b) = !x) :
  CallsD Tryz.prog 92 #[.pointer (some pn), .pointer (some pa), .pointer (some pb), .pointer (some pe)] u w fun e u' w' => u' = u ∧ (e = .returned (.tuple #[]) ∧ w' = (w.setCell pn (.int .i64 0)).setCell pe (.int .i64 15)) := by
 have ce' : (w.setCell pn (.int .i64 0)).cell? pe = some (.int .i64 0) := by exact (World.cell?_setCell_other (w := w) (a := pn) (b := pe) (v := .int .i64 0) (fun h => hne (by rw [h]))).trans ce
 have fe' : (w.setCell pn (.int .i64 0)).frozen? pe = false := by rw [World.frozen?_setCell]; exact fe
 go_enter_d Tryz.func92, Tryz.ntmps92
 cases x
 all_goals
  go_wp2
  go_end0
  exact ⟨rfl, rfl⟩
theorem add_cmp (a b : Int) (ha : I64 a) (hb : I64 b) :
   (I64 (a + b) → wrap64 (a + b) = a + b ∧ decide (a < a + b) = decide (0 < b)) ∧ (¬ I64 (a + b) → decide (a < wrap64 (a + b)) = !decide (0 < b)) := by
 obtain ⟨a1, a2⟩ := ha
 obtain ⟨b1, b2⟩ := hb
 constructor
 · intro h
   exact ⟨IntWalk.wrap64_in _ h, by rw [decide_eq_decide]; omega⟩
 · intro h
   unfold I64 at h
   by_cases h0 : 0 < b
   · rw [decide_eq_true h0]
     simp only [Bool.not_true, decide_eq_false_iff_not]
     unfold wrap64; omega
   · rw [decide_eq_false h0]
     simp only [Bool.not_false, decide_eq_true_eq]
     unfold wrap64; omega
def addW (w : World) (a b n : Int) : World :=
 ((((w.alloc (.cells #[.int .i64 a] 2)).alloc (.cells #[.int .i64 b] 2)).alloc (.cells #[.int .i64 n] 2)).alloc (.cells #[.int .i64 0] 31))
theorem addW_up (w : World) (a b n : Int) : Up w (addW w a b n) := ((((Up.refl _).alloc _).alloc _).alloc _).alloc _
theorem addW_cells (w : World) (a b n : Int) : (addW w a b n).cell? ⟨w.heap.size, 0, none⟩ = some (.int .i64 a) ∧ (addW w a b n).cell? ⟨w.heap.size + 1, 0, none⟩ = some (.int .i64 b) ∧
  (addW w a b n).cell? ⟨w.heap.size + 1 + 1, 0, none⟩ = some (.int .i64 n) ∧ (addW w a b n).cell? ⟨w.heap.size + 1 + 1 + 1, 0, none⟩ = some (.int .i64 0) ∧
  (addW w a b n).frozen? ⟨w.heap.size + 1 + 1, 0, none⟩ = false ∧ (addW w a b n).frozen? ⟨w.heap.size + 1 + 1 + 1, 0, none⟩ = false := by
 refine ⟨?_, ?_, ?_, ?_, ?_, ?_⟩ <;> simp [addW, go_sem]
theorem add_door_fits (w : World) (a b n m : Int) (tmps : Array Value) (h4 : tmps.getD 4 undef = .pointer (some ⟨w.heap.size + 1 + 1, 0, none⟩)) (h5 : tmps.getD 5 undef = .pointer (some ⟨w.heap.size + 1 + 1 + 1, 0, none⟩))
  (hc : decide (a < n) = decide (0 < b)) (hm : n = m) :
  Leaves Tryz.prog Tryz.f41 tmps (fun e w' => e = Ending.returned (.tuple #[.int .i64 m, .int .i64 0]) ∧ Up w w')
   [{ target := Target.fn (Fn.func 92) #[.pointer (some ⟨w.heap.size + 1 + 1, 0, none⟩), .pointer (some ⟨w.heap.size, 0, none⟩), .pointer (some ⟨w.heap.size + 1, 0, none⟩), .pointer (some ⟨w.heap.size + 1 + 1 + 1, 0, none⟩)], args := #[] }]
   .returning (addW w a b n) := by
 obtain ⟨c0, c1, c2, c3, f2, f3⟩ := addW_cells w a b n
 rw [Array.getD_eq_getD_getElem?] at h4 h5
 refine leaves_cons (f := 92) (args := #[.pointer (some ⟨w.heap.size + 1 + 1, 0, none⟩), .pointer (some ⟨w.heap.size, 0, none⟩), .pointer (some ⟨w.heap.size + 1, 0, none⟩), .pointer (some ⟨w.heap.size + 1 + 1 + 1, 0, none⟩)]) (by simp) (by simp [go_sem]) ?_
 refine (addD_same _ _ _ _ n a b _ _ _ c2 c0 c1 hc rfl).mono ?_
 rintro e u' w'' ⟨rfl, rfl, rfl⟩
 subst hm
 simp [Leaves, settle, results, Tryz.results41, go_sem, h4, h5, c2, c3, addW_up]
theorem add_door_over (w : World) (a b n : Int) (tmps : Array Value) (h4 : tmps.getD 4 undef = .pointer (some ⟨w.heap.size + 1 + 1, 0, none⟩)) (h5 : tmps.getD 5 undef = .pointer (some ⟨w.heap.size + 1 + 1 + 1, 0, none⟩))
  (hc : decide (a < n) = !decide (0 < b)) :
  Leaves Tryz.prog Tryz.f41 tmps (fun e w' => e = Ending.returned (.tuple #[.int .i64 0, .int .i64 15]) ∧ Up w w')
   [{ target := Target.fn (Fn.func 92) #[.pointer (some ⟨w.heap.size + 1 + 1, 0, none⟩), .pointer (some ⟨w.heap.size, 0, none⟩), .pointer (some ⟨w.heap.size + 1, 0, none⟩), .pointer (some ⟨w.heap.size + 1 + 1 + 1, 0, none⟩)], args := #[] }]
   .returning (addW w a b n) := by
 obtain ⟨c0, c1, c2, c3, f2, f3⟩ := addW_cells w a b n
 rw [Array.getD_eq_getD_getElem?] at h4 h5
 refine leaves_cons (f := 92) (args := #[.pointer (some ⟨w.heap.size + 1 + 1, 0, none⟩), .pointer (some ⟨w.heap.size, 0, none⟩), .pointer (some ⟨w.heap.size + 1, 0, none⟩), .pointer (some ⟨w.heap.size + 1 + 1 + 1, 0, none⟩)]) (by simp) (by simp [go_sem]) ?_
 refine (addD_over _ _ _ _ n a b _ _ _ c2 c0 c1 c3 f2 f3 (by simp) hc (by simp)).mono ?_
 rintro e u' w'' ⟨rfl, rfl, rfl⟩
 have e2 : (((addW w a b n).setCell ⟨w.heap.size + 1 + 1, 0, none⟩ (.int .i64 0)).setCell ⟨w.heap.size + 1 + 1 + 1, 0, none⟩ (.int .i64 15)).cell? ⟨w.heap.size + 1 + 1, 0, none⟩ = some (.int .i64 0) := by
  rw [World.cell?_setCell_other _ _ _ _ (by simp)]
  exact World.cell?_setCell_same _ _ _ c2
 have e3 : (((addW w a b n).setCell ⟨w.heap.size + 1 + 1, 0, none⟩ (.int .i64 0)).setCell ⟨w.heap.size + 1 + 1 + 1, 0, none⟩ (.int .i64 15)).cell? ⟨w.heap.size + 1 + 1 + 1, 0, none⟩ = some (.int .i64 15) := by
  refine World.cell?_setCell_same _ _ _ (u := .int .i64 0) ?_
  rw [World.cell?_setCell_other _ _ _ _ (by simp)]
  exact c3
 have hu : Up w (((addW w a b n).setCell ⟨w.heap.size + 1 + 1, 0, none⟩ (.int .i64 0)).setCell ⟨w.heap.size + 1 + 1 + 1, 0, none⟩ (.int .i64 15)) :=
  ((addW_up w a b n).setCell (by show _ ≤ w.heap.size + 1 + 1; omega) _).setCell (by show _ ≤ w.heap.size + 1 + 1 + 1; omega) _
 simp [Leaves, settle, results, Tryz.results41, go_sem, h4, h5, e2, e3, hu]
theorem add_fits (a b : Int) (w : World) (ha : I64 a) (hb : I64 b) (h : I64 (a + b)) :
   Calls Tryz.prog 41 #[.int .i64 a, .int .i64 b] w fun e w' => e = .returned (.tuple #[.int .i64 (a + b), .int .i64 0]) ∧ Up w w' := by
 have hmf : ∀ (fn : Fn) (first cap : Array Value) (w : World), (Instr.makeFunc fn first cap).run Tryz.prog w = .ok (.func fn first cap) w := fun _ _ _ _ => rfl
 obtain ⟨hw, hc⟩ := (add_cmp a b ha hb).1 h
 by_cases h0 : b = 0
 · subst h0
   clear hw hc
   go_enter_defers Tryz.func41, Tryz.ntmps41
   go_wp2
   exact add_door_fits w a 0 a _ _ rfl rfl (by simp) (by omega)
 · have HW := Lib.hid hw
   have HC := Lib.hid hc
   clear hw hc
   have c1 : (b == 0) = false := by rw [beq_eq_false_iff_ne]; exact h0
   obtain ⟨h1, h2⟩ := h
   go_enter_defers Tryz.func41, Tryz.ntmps41
   go_wp2
   exact add_door_fits w a b (a + b) _ _ rfl rfl HC.out rfl
theorem add_over (a b : Int) (w : World) (ha : I64 a) (hb : I64 b) (h : ¬ I64 (a + b)) :
  Calls Tryz.prog 41 #[.int .i64 a, .int .i64 b] w fun e w' => e = .returned (.tuple #[.int .i64 0, .int .i64 15]) ∧ Up w w' := by
 have hmf : ∀ (fn : Fn) (first cap : Array Value) (w : World), (Instr.makeFunc fn first cap).run Tryz.prog w = .ok (.func fn first cap) w := fun _ _ _ _ => rfl
 have hc := (add_cmp a b ha hb).2 h
 have h0 : b ≠ 0 := by
  rintro rfl
  exact h (by rw [Int.add_zero]; exact ha)
 have c1 : (b == 0) = false := by rw [beq_eq_false_iff_ne]; exact h0
 have HC := Lib.hid hc
 clear hc h
 go_enter_defers Tryz.func41, Tryz.ntmps41
 go_wp2
 exact add_door_over w a b (wrap64 (a + b)) _ rfl rfl HC.out
end Go.Proofs.YteodjglbpfmikaaGreatDoor
namespace Go.Proofs.YteodjglbpfmikaaGreatDoor.Dg
def p10 : Nat → Int
 | 0 => 1
 | n + 1 => 10 * p10 n
def val : List Int → Int
 | [] => 0
 | d :: l => d + 10 * val l
def Digs (l : List Int) : Prop := ∀ d ∈ l, 0 ≤ d ∧ d ≤ 9
def dig (l : List Int) (i : Nat) : Int := l.getD i 0
theorem p10_pos (n : Nat) : 1 ≤ p10 n := by
 induction n with
 | zero => decide
 | succ n ih => rw [p10]; omega
theorem p10_add (m n : Nat) : p10 (m + n) = p10 m * p10 n := by
 induction m with
 | zero => simp [p10]
 | succ m ih => rw [Nat.succ_add, p10, ih, p10, Int.mul_assoc]
theorem p10_mono {m n : Nat} (h : m ≤ n) : p10 m ≤ p10 n := by
 obtain ⟨k, rfl⟩ : ∃ k, n = m + k := ⟨n - m, by omega⟩
 clear h
 induction k with
 | zero => exact Int.le_refl _
 | succ k ih =>
   have := p10_pos (m + k)
   rw [← Nat.add_assoc, p10]
   omega
theorem val_append (a b : List Int) : val (a ++ b) = val a + p10 a.length * val b := by
 induction a with
 | nil => simp [val, p10]
 | cons d a ih =>
   rw [List.cons_append, val, ih, val, List.length_cons, p10, Int.mul_assoc]
   omega
theorem val_snoc (l : List Int) (d : Int) : val (l ++ [d]) = val l + p10 l.length * d := by
 rw [val_append]; simp [val]
theorem Digs.cons {d : Int} {l : List Int} (h : Digs (d :: l)) : (0 ≤ d ∧ d ≤ 9) ∧ Digs l := ⟨h d (by simp), fun x hx => h x (by simp [hx])⟩
theorem Digs.append {a b : List Int} (h : Digs a) (k : Digs b) : Digs (a ++ b) := by
 intro d hd
 rcases List.mem_append.1 hd with hd | hd
 · exact h d hd
 · exact k d hd
theorem Digs.nil : Digs [] := by intro d hd; simp at hd
theorem Digs.take {l : List Int} (h : Digs l) (n : Nat) : Digs (l.take n) := fun d hd => h d (List.mem_of_mem_take hd)
theorem Digs.drop {l : List Int} (h : Digs l) (n : Nat) : Digs (l.drop n) := fun d hd => h d (List.mem_of_mem_drop hd)
theorem dig_bd {l : List Int} (h : Digs l) (i : Nat) : 0 ≤ dig l i ∧ dig l i ≤ 9 := by
 unfold dig
 by_cases hi : i < l.length
 · have e : l.getD i 0 = l[i] := by simp [List.getD, hi]
   rw [e]; exact h _ (List.getElem_mem hi)
 · rw [show l.getD i 0 = 0 by simp [List.getD, Nat.not_lt.1 hi]]; omega
theorem dig_none {l : List Int} {i : Nat} (h : l.length ≤ i) : dig l i = 0 := by simp [dig, List.getD, h]
theorem dig_some {l : List Int} {i : Nat} (h : i < l.length) : l[i]? = some (dig l i) := by simp [dig, List.getD, h]
theorem val_nonneg {l : List Int} (h : Digs l) : 0 ≤ val l := by
 induction l with
 | nil => simp [val]
 | cons d l ih => have := h.cons; have := ih this.2; rw [val]; omega
theorem take_succ (l : List Int) (i : Nat) (h : i < l.length) : l.take (i + 1) = l.take i ++ [dig l i] := by
 rw [List.take_succ_eq_append_getElem h]; simp [dig, List.getD, h]
theorem val_take_succ (l : List Int) (i : Nat) : val (l.take (i + 1)) = val (l.take i) + p10 i * dig l i := by
 by_cases h : i < l.length
 · rw [take_succ l i h, val_snoc, List.length_take, Nat.min_eq_left (by omega)]
 · rw [List.take_of_length_le (by omega), List.take_of_length_le (by omega), dig_none (by omega)]; simp
def Canon (l : List Int) : Prop := Digs l ∧ (l = [] ∨ dig l (l.length - 1) ≠ 0)
theorem Canon.low {l : List Int} (h : Canon l) (hn : l ≠ []) : p10 (l.length - 1) ≤ val l := by
 obtain ⟨hd, h⟩ := h
 have hlen : 0 < l.length := List.length_pos_iff.2 hn
 have h0 : dig l (l.length - 1) ≠ 0 := by rcases h with h | h; exact absurd h hn; exact h
 have e := val_take_succ l (l.length - 1)
 rw [show l.length - 1 + 1 = l.length by omega, List.take_of_length_le (Nat.le_refl _)] at e
 have b := dig_bd hd (l.length - 1)
 have v := val_nonneg (hd.take (l.length - 1))
 have p := p10_pos (l.length - 1)
 have m : p10 (l.length - 1) * 1 ≤ p10 (l.length - 1) * dig l (l.length - 1) := Int.mul_le_mul_of_nonneg_left (by omega) (by omega)
 omega
def dl (n : Nat) : List Int := if h : n = 0 then [] else ((n % 10 : Nat) : Int) :: dl (n / 10)
termination_by n
decreasing_by omega
theorem dl_zero : dl 0 = [] := by rw [dl, dif_pos rfl]
theorem dl_pos {n : Nat} (h : n ≠ 0) : dl n = ((n % 10 : Nat) : Int) :: dl (n / 10) := by rw [dl, dif_neg h]
theorem dl_digs (n : Nat) : Digs (dl n) := by
 induction n using Nat.strongRecOn with
 | _ n ih =>
   by_cases h : n = 0
   · subst h; rw [dl_zero]; exact Digs.nil
   · rw [dl_pos h]
     intro d hd
     rcases List.mem_cons.1 hd with rfl | hd
     · omega
     · exact ih (n / 10) (by omega) d hd
theorem dl_val (n : Nat) : val (dl n) = n := by
 induction n using Nat.strongRecOn with
 | _ n ih =>
   by_cases h : n = 0
   · subst h; rw [dl_zero]; rfl
   · rw [dl_pos h, val, ih (n / 10) (by omega)]; omega
theorem dl_nil {n : Nat} (h : dl n = []) : n = 0 := by
 by_cases hn : n = 0
 · exact hn
 · rw [dl_pos hn] at h; simp at h
theorem dig_succ (d : Int) (l : List Int) (i : Nat) : dig (d :: l) (i + 1) = dig l i := by simp [dig, List.getD]
theorem dig_zero (d : Int) (l : List Int) : dig (d :: l) 0 = d := by simp [dig, List.getD]
theorem dl_canon (n : Nat) : Canon (dl n) := by
 refine ⟨dl_digs n, ?_⟩
 induction n using Nat.strongRecOn with
 | _ n ih =>
   by_cases h : n = 0
   · subst h; exact Or.inl dl_zero
   · right
     rw [dl_pos h]
     rcases ih (n / 10) (by omega) with e | e
     · have := dl_nil e
       rw [e]
       simp [dig, List.getD]
       omega
     · have hne : dl (n / 10) ≠ [] := by
        intro e2; rw [e2] at e; simp [dig, List.getD] at e
       have hl : 0 < (dl (n / 10)).length := List.length_pos_iff.2 hne
       rw [List.length_cons, show (dl (n / 10)).length + 1 - 1 = (dl (n / 10)).length - 1 + 1 by omega, dig_succ]
       exact e
theorem Canon.tail {d : Int} {l : List Int} (h : Canon (d :: l)) : Canon l := by
 obtain ⟨hd, h⟩ := h
 refine ⟨hd.cons.2, ?_⟩
 rcases h with h | h
 · simp at h
 · by_cases hn : l = []
   · exact Or.inl hn
   · right
     have hl : 0 < l.length := List.length_pos_iff.2 hn
     rw [List.length_cons, show l.length + 1 - 1 = l.length - 1 + 1 by omega, dig_succ] at h
     exact h
theorem dl_len {n k : Nat} (h : (n : Int) < p10 k) : (dl n).length ≤ k := by
 by_cases hn : dl n = []
 · rw [hn]; simp
 · have := (dl_canon n).low hn
   rw [dl_val] at this
   by_cases hc : (dl n).length ≤ k
   · exact hc
   · have := p10_mono (show k ≤ (dl n).length - 1 by omega)
     omega
end Go.Proofs.YteodjglbpfmikaaGreatDoor.Dg
namespace Go.Proofs.YteodjglbpfmikaaGreatDoor.Dg
theorem val_set (l : List Int) (i : Nat) (x : Int) (h : i < l.length) : val (l.set i x) = val l + p10 i * (x - dig l i) := by
 induction l generalizing i with
 | nil => simp at h
 | cons d l ih =>
   cases i with
   | zero => simp [val, p10, dig_zero]; omega
   | succ i =>
     rw [List.set_cons_succ, val, ih i (by simpa using h), val, dig_succ, p10, Int.mul_assoc]
     omega
theorem dig_set_other (l : List Int) (i j : Nat) (x : Int) (h : i ≠ j) : dig (l.set i x) j = dig l j := by simp [dig, List.getD, List.getElem?_set_ne h]
theorem Digs.set {l : List Int} (hl : Digs l) (i : Nat) {x : Int} (h : 0 ≤ x ∧ x ≤ 9) : Digs (l.set i x) := by
 intro d hd
 rcases List.mem_or_eq_of_mem_set hd with hd | rfl
 · exact hl d hd
 · exact h
def rowS (O : List Int) (x : Int) (b : List Int) (i : Nat) : Nat → List Int × Int
 | 0 => (O, 0)
 | k + 1 => ((rowS O x b i k).1.set (i + k) ((dig (rowS O x b i k).1 (i + k) + x * dig b k + (rowS O x b i k).2) % 10), (dig (rowS O x b i k).1 (i + k) + x * dig b k + (rowS O x b i k).2) / 10)
theorem mul_bd {x y : Int} (hx : 0 ≤ x ∧ x ≤ 9) (hy : 0 ≤ y ∧ y ≤ 9) : 0 ≤ x * y ∧ x * y ≤ 81 := by
 refine ⟨Int.mul_nonneg hx.1 hy.1, ?_⟩
 have := Int.mul_le_mul hx.2 hy.2 hy.1 (by omega : (0 : Int) ≤ 9)
 omega
theorem rowS_inv {O b : List Int} {x : Int} (hO : Digs O) (hx : 0 ≤ x ∧ x ≤ 9) (hb : Digs b) (i k : Nat) (hk : i + k ≤ O.length) :
   (rowS O x b i k).1.length = O.length ∧ Digs (rowS O x b i k).1 ∧ 0 ≤ (rowS O x b i k).2 ∧ (rowS O x b i k).2 ≤ 9 ∧ (∀ j, i + k ≤ j → dig (rowS O x b i k).1 j = dig O j) ∧
     val (rowS O x b i k).1 + p10 (i + k) * (rowS O x b i k).2 = val O + p10 i * (x * val (b.take k)) := by
 induction k with
 | zero => exact ⟨rfl, hO, by simp [rowS], by simp [rowS], fun _ _ => rfl, by simp [rowS, val]⟩
 | succ k ih =>
   obtain ⟨h1, h2, h3, h4, h5, h6⟩ := ih (by omega)
   have d0 := dig_bd h2 (i + k)
   have xb := mul_bd hx (dig_bd hb k)
   simp only [rowS]
   refine ⟨by simp [h1], h2.set _ (by omega), by omega, by omega, ?_, ?_⟩
   · intro j hj
     rw [dig_set_other _ _ _ _ (by omega)]
     exact h5 j (by omega)
   · rw [val_set _ _ _ (by omega), val_take_succ, ← Nat.add_assoc, p10]
     generalize (rowS O x b i k).2 = c at *
     generalize dig (rowS O x b i k).1 (i + k) = z at *
     have e : z + x * dig b k + c = 10 * ((z + x * dig b k + c) / 10) + (z + x * dig b k + c) % 10 := by omega
     generalize (z + x * dig b k + c) / 10 = q at *
     generalize (z + x * dig b k + c) % 10 = r at *
     have e2 : p10 (i + k) * (z + x * dig b k + c) = p10 (i + k) * (10 * q + r) := by rw [e]
     rw [Int.mul_add, Int.mul_add, Int.mul_add, ← Int.mul_assoc (p10 (i + k)) 10, Int.mul_comm (p10 (i + k)) 10] at e2
     have e3 : p10 i * (x * (val (b.take k) + p10 k * dig b k)) = p10 i * (x * val (b.take k)) + p10 (i + k) * (x * dig b k) := by
      rw [Int.mul_add, Int.mul_add, p10_add, Int.mul_assoc, Int.mul_left_comm x]
     rw [e3, Int.mul_sub]
     omega
theorem rowS_fin {O a b : List Int} (hO : Digs O) (ha : Digs a) (hb : Digs b) (i k : Nat) (hi : i < a.length) (hlen : O.length = a.length + b.length + 1) (hz : ∀ j, i + b.length ≤ j → dig O j = 0) (hv : val O = val (a.take i) * val b)
  (h1 : b.length ≤ k) (h2 : k ≤ b.length + 1) (hc : (rowS O (dig a i) b i k).2 = 0) :
  (∀ j, i + 1 + b.length ≤ j → dig (rowS O (dig a i) b i k).1 j = 0) ∧ val (rowS O (dig a i) b i k).1 = val (a.take (i + 1)) * val b := by
 obtain ⟨g1, g2, g3, g4, g5, g6⟩ := rowS_inv hO (dig_bd ha i) hb i k (by omega)
 refine ⟨fun j hj => by rw [g5 j (by omega)]; exact hz j (by omega), ?_⟩
 rw [hc, List.take_of_length_le h1, hv] at g6
 rw [val_take_succ, Int.add_mul, Int.mul_assoc]
 omega
def isD (c : UInt8) : Prop := 48 ≤ c.toNat ∧ c.toNat ≤ 57
def dv (c : UInt8) : Int := (c.toNat : Int) - 48
end Go.Proofs.YteodjglbpfmikaaGreatDoor.Dg
namespace Go.Proofs.YteodjglbpfmikaaGreatDoor
open Go.RowKit
structure Dn (w w' : World) : Prop where
 below : Below w.heap.size w w'
theorem Dn.refl (a : World) : Dn a a := ⟨Below.refl _ _⟩
theorem Dn.size {a b : World} (h : Dn a b) : a.heap.size ≤ b.heap.size := h.below.size
theorem Dn.trans {a b c : World} (h : Dn a b) (k : Dn b c) : Dn a c := ⟨h.below.trans (k.below.mono h.below.size)⟩
theorem Dn.drew {a b : World} (h : Dn a b) : Dn a b.drew := ⟨h.below.drew⟩
theorem Dn.drewN {a b : World} (h : Dn a b) (n : Nat) : Dn a (b.drewN n) := ⟨h.below.trans ⟨rfl, rfl, rfl, Nat.le_refl _, fun _ _ => rfl⟩⟩
theorem Dn.alloc {a b : World} (h : Dn a b) (o : Obj) : Dn a (b.alloc o) := ⟨h.below.alloc h.below.size o⟩
theorem Dn.setCell {a b : World} (h : Dn a b) {p : Addr} (hp : a.heap.size ≤ p.block) (u : Value) : Dn a (b.setCell p u) := ⟨h.below.setCell hp u⟩
theorem Dn.cell {w w' : World} {a : Addr} {v : Value} (hb : Dn w w') (h : w.cell? a = some v) : w'.cell? a = some v := cell_below hb.below h
theorem Dn.frozen {w w' : World} {a : Addr} (hb : Dn w w') (ha : a.block < w.heap.size) : w'.frozen? a = w.frozen? a := hb.below.frozen ha
theorem Up.dn {a b : World} (h : Up a b) : Dn a b := ⟨h.below⟩
theorem Dn.up {a b c : World} (h : Dn a b) (k : Up b c) : Dn a c := h.trans k.dn
theorem Dn.grown {w w1 w2 : World} {row : Option Nat} (h : Dn w w1) (hg : w1.grownBy w2 row) (hr : ∀ k, row = some k → w.heap.size ≤ k) : Dn w w2 :=
 ⟨h.below.trans ⟨hg.os, hg.tape, hg.output, hg.size, fun i hi => hg.block i (by have := h.size; omega) (fun e => by have := hr i e.symm; omega)⟩⟩
theorem max_len : maxLen ≤ 9223372036854775807 := by decide +kernel
def SlD (w : World) (s : Value) (l : List Int) : Prop :=
 ∃ p cap, s = .slice p l.length cap ∧ l.length ≤ cap ∧ cap ≤ maxLen ∧ ∀ (j : Nat) (x : Int), l[j]? = some x → ∃ g, p = some ⟨g, 0, none⟩ ∧ w.cell? ⟨g, j, none⟩ = some (.int .u8 x)
theorem SlD.dn {w w' : World} {s : Value} {l : List Int} (h : SlD w s l) (k : Dn w w') : SlD w' s l := by
 obtain ⟨p, cap, h1, h2, h3, h4⟩ := h
 exact ⟨p, cap, h1, h2, h3, fun j x hx => by obtain ⟨g, hg, hc⟩ := h4 j x hx; exact ⟨g, hg, k.cell hc⟩⟩
theorem SlD.form {w : World} {s : Value} {l : List Int} (h : SlD w s l) : ∃ p n cap, s = .slice p n cap := by
 obtain ⟨p, cap, h1, _⟩ := h
 exact ⟨p, _, cap, h1⟩
theorem SlD.nil (w : World) : SlD w (.slice none 0 0) [] := ⟨none, 0, rfl, by simp, by simp, by simp⟩
theorem SlD.take {w : World} {p : Option Addr} {n cap : Nat} {l : List Int} (h : SlD w (.slice p n cap) l) (k : Nat) (hk : k ≤ l.length) : SlD w (.slice p k cap) (l.take k) := by
 obtain ⟨p', cap', h1, h2, h3, h4⟩ := h
 injection h1 with e1 e2 e3
 subst e1 e3
 refine ⟨p, cap, by rw [List.length_take, Nat.min_eq_left hk], by rw [List.length_take]; omega, h3, fun j x hx => h4 j x ?_⟩
 rw [List.getElem?_take] at hx
 split at hx
 · exact hx
 · cases hx
theorem SlD.of_own {w : World} {base E n : Nat} {v : Value} {l : List Int} (h : w.ownsRow base E 1 v n (l.map (Value.int .u8))) (hn : n = l.length) : SlD w v l := by
 subst hn
 rcases h.2 with ⟨rfl, hn⟩ | ⟨g, cap, cur, rfl, _, hg, h1, h2, h3, h4⟩
 · have := List.length_eq_zero_iff.1 hn
   subst this
   exact SlD.nil w
 · have hcs := h.cells (g := g) rfl
   refine ⟨_, cap, rfl, h1, h2, fun j x hx => ⟨g, rfl, ?_⟩⟩
   have := hcs j (.int .u8 x) (by simp [hx])
   have hadd : (⟨g, 0, none⟩ : Addr).add j = ⟨g, j, none⟩ := by unfold Addr.add; split <;> simp_all
   rwa [hadd] at this
structure NBlk (w : World) (B : Nat) (b : Bool) (s : Value) : Prop where
 c0 : w.cell? ⟨B, 0, none⟩ = some (.bool b)
 c1 : w.cell? ⟨B, 1, none⟩ = some s
 f0 : w.frozen? ⟨B, 0, none⟩ = false
 f1 : w.frozen? ⟨B, 1, none⟩ = false
 lt : B < w.heap.size
theorem NBlk.new (w : World) (b : Bool) (s : Value) (t : TypeId) : NBlk (w.alloc (.cells #[.bool b, s] t)) w.heap.size b s :=
 ⟨by simp, by simp, by simp [go_sem], by simp [go_sem], by simp⟩
theorem NBlk.dn {w w' : World} {B : Nat} {b : Bool} {s : Value} (h : NBlk w B b s) (k : Dn w w') : NBlk w' B b s :=
 ⟨k.cell h.c0, k.cell h.c1, (k.frozen (a := ⟨B, 0, none⟩) h.lt).trans h.f0, (k.frozen (a := ⟨B, 1, none⟩) h.lt).trans h.f1, Nat.lt_of_lt_of_le h.lt k.size⟩
theorem NBlk.set1 {w : World} {B : Nat} {b : Bool} {s : Value} (h : NBlk w B b s) (u : Value) : NBlk (w.setCell ⟨B, 1, none⟩ u) B b u := by
 refine ⟨?_, World.cell?_setCell_same _ _ _ h.c1, by simp [go_sem]; exact h.f0, by simp [go_sem]; exact h.f1, by simpa using h.lt⟩
 rw [World.cell?_setCell_other _ _ _ _ (fun e => by simp at e)]
 exact h.c0
theorem NBlk.set0 {w : World} {B : Nat} {b : Bool} {s : Value} (h : NBlk w B b s) (u : Bool) : NBlk (w.setCell ⟨B, 0, none⟩ (.bool u)) B u s := by
 refine ⟨World.cell?_setCell_same _ _ _ h.c0, ?_, by simp [go_sem]; exact h.f0, by simp [go_sem]; exact h.f1, by simpa using h.lt⟩
 rw [World.cell?_setCell_other _ _ _ _ (fun e => by simp at e)]
 exact h.c1
theorem NBlk.far {w : World} {B : Nat} {b : Bool} {s : Value} (h : NBlk w B b s) {p : Addr} (hp : p.block ≠ B) (u : Value) : NBlk (w.setCell p u) B b s := by
 refine ⟨?_, ?_, by simp [go_sem]; exact h.f0, by simp [go_sem]; exact h.f1, by simpa using h.lt⟩
 · rw [World.cell?_setCell_other _ _ _ _ (fun e => by subst e; simp at hp)]
   exact h.c0
 · rw [World.cell?_setCell_other _ _ _ _ (fun e => by subst e; simp at hp)]
   exact h.c1
theorem NBlk.kept {w w' : World} {B : Nat} {b : Bool} {s : Value} {row : Option Nat} (h : NBlk w B b s) (hg : w.grownBy w' row) (hne : row ≠ some B) : NBlk w' B b s := by
 have hb := hg.block B h.lt (fun e => hne e.symm)
 refine ⟨?_, ?_, ?_, ?_, Nat.lt_of_lt_of_le h.lt hg.size⟩
 · rw [World.cell?_of_block hb]; exact h.c0
 · rw [World.cell?_of_block hb]; exact h.c1
 · have := h.f0; simp only [World.frozen?] at this ⊢; rw [hb]; exact this
 · have := h.f1; simp only [World.frozen?] at this ⊢; rw [hb]; exact this
def sg (b : Bool) (n : Int) : Int := if b then -n else n
def IsN (w : World) (v : Value) (x : Int) : Prop := ∃ s, v = .agg #[.bool (decide (x < 0)), s] ∧ SlD w s (Dg.dl x.natAbs)
theorem IsN.form {w : World} {v : Value} {x : Int} (h : IsN w v x) : ∃ p n cap, v = .agg #[.bool (decide (x < 0)), .slice p n cap] ∧ SlD w (.slice p n cap) (Dg.dl x.natAbs) := by
 obtain ⟨s, h1, h2⟩ := h
 obtain ⟨p, n, cap, rfl⟩ := SlD.form h2
 exact ⟨p, n, cap, h1, h2⟩
theorem IsN.dn {w w' : World} {v : Value} {x : Int} (h : IsN w v x) (k : Dn w w') : IsN w' v x := by
 obtain ⟨s, h1, h2⟩ := h
 exact ⟨s, h1, h2.dn k⟩
def setN (w : World) (B : Nat) (b : Bool) (s : Value) : World := (w.setCell ⟨B, 0, none⟩ (.bool b)).setCell ⟨B, 1, none⟩ s
theorem NBlk.put {w : World} {B : Nat} {b : Bool} {s : Value} (h : NBlk w B b s) (b' : Bool) (s' : Value) : NBlk (setN w B b' s') B b' s' := (h.set0 b').set1 s'
theorem NBlk.new1 (w : World) (o : Obj) (b : Bool) (s : Value) (t : TypeId) : NBlk ((w.alloc o).alloc (.cells #[.bool b, s] t)) (w.heap.size + 1) b s := by
 have h := NBlk.new (w.alloc o) b s t
 simpa using h
theorem SlD.far {w : World} {p : Option Addr} {n cap B i : Nat} {l : List Int} (h : SlD w (.slice p n cap) l) (hp : ∀ g, p = some ⟨g, 0, none⟩ → g ≠ B) (u : Value) : SlD (w.setCell ⟨B, i, none⟩ u) (.slice p n cap) l := by
 obtain ⟨p', cap', he, h1, h2, h3⟩ := h
 refine ⟨p', cap', he, h1, h2, fun j x hx => ?_⟩
 obtain ⟨g, hg, hc⟩ := h3 j x hx
 injection he with e1 e2 e3
 have hne := hp g (e1.trans hg)
 exact ⟨g, hg, by rw [World.cell?_setCell_other _ _ _ _ (fun e => hne (congrArg Addr.block e).symm)]; exact hc⟩
theorem grown_trans {a b c : World} {row : Option Nat} (h : a.grownBy b row) (k : b.grownBy c row) : a.grownBy c row :=
 ⟨k.os.trans h.os, k.tape.trans h.tape, k.output.trans h.output, Nat.le_trans h.size k.size, fun i hi hne => (k.block i (Nat.lt_of_lt_of_le hi h.size) hne).trans (h.block i hi hne)⟩
theorem grown_dn {a b : World} (h : Dn a b) (row : Option Nat) : a.grownBy b row := ⟨h.below.os, h.below.tape, h.below.output, h.size, fun i hi _ => h.below.block i hi⟩
theorem grown_set (w : World) (p : Addr) (u : Value) : w.grownBy (w.setCell p u) (some p.block) :=
 ⟨rfl, rfl, rfl, by simp, fun i _ hne => Below.heap_setCell w p u i (fun e => hne (by rw [e]))⟩
structure OwnD (w : World) (base : Nat) (v : Value) (l : List Int) : Prop where
 own : w.ownsRow base 5 1 v l.length (l.map (Value.int .u8))
theorem OwnD.nil (w : World) (base : Nat) : OwnD w base (.slice none 0 0) [] := ⟨World.ownsRow_nil _ _ _ _⟩
theorem OwnD.kept {w w' : World} {base : Nat} {v : Value} {l : List Int} {row : Option Nat} (h : OwnD w base v l) (hg : w.grownBy w' row) (hr : ∀ k, row = some k → k < base) : OwnD w' base v l :=
 ⟨h.own.kept hg (by
  cases hv : v.ownBlock with
  | none => exact Or.inl rfl
  | some g =>
    right
    intro e
    have := (h.own.lt g hv).1
    have := hr g e.symm
    omega)⟩
theorem OwnD.dn {w w' : World} {base : Nat} {v : Value} {l : List Int} (h : OwnD w base v l) (k : Dn w w') : OwnD w' base v l := h.kept (grown_dn k none) (fun _ e => by cases e)
theorem OwnD.far {w : World} {base : Nat} {v : Value} {l : List Int} (h : OwnD w base v l) {p : Addr} (hp : p.block < base) (u : Value) : OwnD (w.setCell p u) base v l :=
 h.kept (grown_set w p u) (fun k e => by cases e; exact hp)
theorem OwnD.sl {w : World} {base : Nat} {v : Value} {l : List Int} (h : OwnD w base v l) : SlD w v l := SlD.of_own h.own rfl
theorem OwnD.form {w : World} {base : Nat} {v : Value} {l : List Int} (h : OwnD w base v l) : ∃ p cap, v = .slice p l.length cap ∧ ∀ g, p = some ⟨g, 0, none⟩ → base ≤ g := by
 obtain ⟨p, cap, e, _⟩ := h.sl
 refine ⟨p, cap, e, fun g hg => ?_⟩
 subst e hg
 exact (h.own.lt g rfl).1
theorem OwnD.row {w : World} {base : Nat} {v : Value} {l : List Int} (h : OwnD w base v l) : ∀ k, v.ownBlock = some k → base ≤ k := fun k hk => (h.own.lt k hk).1
theorem dl_i64 (n : Nat) (h : n ≤ 9223372036854775808) : (Dg.dl n).length ≤ 19 := by
 refine Dg.dl_len ?_
 have : Dg.p10 19 = 10000000000000000000 := by decide
 omega
structure OfRel (w : World) (n0 : Int) (mv : Value) (wr : World) (m : Int) (L : List Int) (v : Value) : Prop where
 mv : mv = .int .i64 m
 lo : -9223372036854775808 ≤ m
 hi : m ≤ 9223372036854775807
 dg : Dg.dl n0.natAbs = L ++ Dg.dl m.natAbs
 sgn : m ≠ 0 → decide (m < 0) = decide (n0 < 0)
 own : OwnD wr (w.heap.size + 1 + 1) v L
 x : NBlk wr (w.heap.size + 1) (decide (n0 < 0)) v
 r : NBlk wr w.heap.size false (.slice none 0 0)
 dn : Dn w wr
theorem OfRel.len {w : World} {n0 m : Int} {mv v : Value} {wr : World} {L : List Int} (h : OfRel w n0 mv wr m L v) (hn : n0.natAbs ≤ 9223372036854775808) : L.length ≤ 19 := by
 have e := congrArg List.length h.dg
 have := dl_i64 _ hn
 rw [List.length_append] at e
 omega
theorem OfRel.next {w : World} {n0 m m' d : Int} {mv v v' : Value} {wr w' : World} {L : List Int} (h : OfRel w n0 mv wr m L v) (hlo : -9223372036854775808 ≤ m') (hhi : m' ≤ 9223372036854775807) (hs : m' ≠ 0 → decide (m' < 0) = decide (n0 < 0))
   (hd : Dg.dl m.natAbs = d :: Dg.dl m'.natAbs) (hown : OwnD w' (w.heap.size + 1 + 1) v' (L ++ [d])) (hg : wr.grownBy w' v.ownBlock) : OfRel w n0 (.int .i64 m') (w'.setCell ⟨w.heap.size + 1, 1, none⟩ v') m' (L ++ [d]) v' := by
 have hb := h.own.row
 refine ⟨rfl, hlo, hhi, by rw [h.dg, hd]; simp, hs, hown.far (by simp) _, (h.x.kept hg ?_).set1 _, (h.r.kept hg ?_).far (by simp) _, (h.dn.grown hg ?_).setCell (by simp) _⟩
 · intro e; have := hb _ e; omega
 · intro e; have := hb _ e; omega
 · intro k e; have := hb _ e; omega
theorem SlD.drewN {w : World} {s : Value} {l : List Int} (h : SlD w s l) (n : Nat) : SlD (w.drewN n) s l := h.dn ((Dn.refl _).drewN n)
theorem drop_dig (l : List Int) (m : Nat) (h : m < l.length) : l.drop m = Dg.dig l m :: l.drop (m + 1) := by
 rw [List.drop_eq_getElem_cons h]; simp [Dg.dig, List.getD, h]
structure AddRel (w : World) (ba bb : Bool) (sa sb : Value) (wr : World) (v : Value) (L : List Int) : Prop where
 own : OwnD wr (w.heap.size + 1 + 1 + 1 + 1) v L
 a : NBlk wr w.heap.size ba sa
 b : NBlk wr (w.heap.size + 1) bb sb
 r : NBlk wr (w.heap.size + 1 + 1) false (.slice none 0 0)
 o : NBlk wr (w.heap.size + 1 + 1 + 1) ba v
 dn : Dn w wr
theorem AddRel.push {w : World} {ba bb : Bool} {sa sb : Value} {wr w' : World} {v v' : Value} {L L' : List Int} (h : AddRel w ba bb sa sb wr v L) (hown : OwnD w' (w.heap.size + 1 + 1 + 1 + 1) v' L') (hg : wr.grownBy w' v.ownBlock) :
   AddRel w ba bb sa sb (w'.setCell ⟨w.heap.size + 1 + 1 + 1, 1, none⟩ v') v' L' := by
 have hb := h.own.row
 refine ⟨hown.far (by simp) _, (h.a.kept hg ?_).far (by simp; omega) _, (h.b.kept hg ?_).far (by simp; omega) _, (h.r.kept hg ?_).far (by simp) _, (h.o.kept hg ?_).set1 _, (h.dn.grown hg ?_).setCell (by simp; omega) _⟩
 · intro e; have := hb _ e; omega
 · intro e; have := hb _ e; omega
 · intro e; have := hb _ e; omega
 · intro e; have := hb _ e; omega
 · intro k e; have := hb _ e; omega
theorem NBlk.drewN {w : World} {B : Nat} {b : Bool} {s : Value} (h : NBlk w B b s) (n : Nat) : NBlk (w.drewN n) B b s := h.dn ((Dn.refl _).drewN n)
theorem AddRel.drewN {w : World} {ba bb : Bool} {sa sb : Value} {wr : World} {v : Value} {L : List Int} (h : AddRel w ba bb sa sb wr v L) (n : Nat) : AddRel w ba bb sa sb (wr.drewN n) v L :=
 ⟨h.own.dn ((Dn.refl _).drewN n), h.a.drewN n, h.b.drewN n, h.r.drewN n, h.o.drewN n, h.dn.drewN n⟩
theorem NBlk.new2 (w : World) (o o' : Obj) (b : Bool) (s : Value) (t : TypeId) : NBlk (((w.alloc o).alloc o').alloc (.cells #[.bool b, s] t)) (w.heap.size + 1 + 1) b s := by
 have h := NBlk.new1 (w.alloc o) o' b s t
 simpa using h
theorem NBlk.alloc {w : World} {B : Nat} {b : Bool} {s : Value} (h : NBlk w B b s) (o : Obj) : NBlk (w.alloc o) B b s := h.dn ((Dn.refl _).alloc o)
theorem SlD.len {w : World} {p : Option Addr} {n cap : Nat} {l : List Int} (h : SlD w (.slice p n cap) l) : n = l.length ∧ n ≤ 9223372036854775807 := by
 obtain ⟨p', cap', e, h1, h2, _⟩ := h
 injection e with e1 e2 e3
 have := max_len
 omega
def sgn (z : Int) : Int := if z < 0 then -1 else if z = 0 then 0 else 1
theorem val_drop_dig (l : List Int) (m : Nat) (h : m < l.length) : Dg.val (l.drop m) = Dg.dig l m + 10 * Dg.val (l.drop (m + 1)) := by
 rw [drop_dig l m h, Dg.val]
structure IntRel (b : Bool) (l : List Int) (k : Nat) (N : Int) : Prop where
 hk : k ≤ l.length
 val : N = sg b (Dg.val (l.drop k))
theorem IntRel.step {b : Bool} {l : List Int} {m : Nat} {N : Int} (h : IntRel b l (m + 1) N) : IntRel b l m (sg b (Dg.dig l m + 10 * sg b N)) := by
 have hk := h.hk
 have hv := h.val
 refine ⟨by omega, ?_⟩
 subst hv
 rw [val_drop_dig l m (by omega)]
 unfold sg
 cases b <;> simp
structure MulRel (w : World) (ba bb nb : Bool) (sa sb : Value) (g Bo N : Nat) (wr : World) (O : List Int) : Prop where
 own : wr.ownsRow 0 5 1 (.slice (some ⟨g, 0, none⟩) N N) N (O.map (Value.int .u8))
 a : NBlk wr w.heap.size ba sa
 b : NBlk wr (w.heap.size + 1) bb sb
 r : NBlk wr (w.heap.size + 1 + 1) false (.slice none 0 0)
 o : NBlk wr Bo nb (.slice (some ⟨g, 0, none⟩) N N)
 dn : Dn w wr
 hg : w.heap.size + 1 + 1 < g
 hne : g ≠ Bo
 ho : w.heap.size + 1 + 1 < Bo
 len : O.length = N
theorem MulRel.set {w : World} {ba bb nb : Bool} {sa sb : Value} {g Bo N : Nat} {wr : World} {O : List Int} (h : MulRel w ba bb nb sa sb g Bo N wr O) (j : Nat) (d : Int) :
  MulRel w ba bb nb sa sb g Bo N (wr.setCell ⟨g, j, none⟩ (.int .u8 d)) (O.set j d) := by
 have h1 := h.hg
 have h2 := h.hne
 refine ⟨?_, h.a.far (by simp; omega) _, h.b.far (by simp; omega) _, h.r.far (by simp; omega) _, h.o.far (by simpa using h2) _, h.dn.setCell (by simp; omega) _, h.hg, h.hne, h.ho, by rw [List.length_set]; exact h.len⟩
 have := (h.own.stored j (.int .u8 d)).1
 rwa [← List.map_set] at this
theorem MulRel.drewN {w : World} {ba bb nb : Bool} {sa sb : Value} {g Bo N : Nat} {wr : World} {O : List Int} (h : MulRel w ba bb nb sa sb g Bo N wr O) (n : Nat) : MulRel w ba bb nb sa sb g Bo N (wr.drewN n) O :=
 ⟨h.own, h.a.drewN n, h.b.drewN n, h.r.drewN n, h.o.drewN n, h.dn.drewN n, h.hg, h.hne, h.ho, h.len⟩
theorem MulRel.cell {w : World} {ba bb nb : Bool} {sa sb : Value} {g Bo N : Nat} {wr : World} {O : List Int} (h : MulRel w ba bb nb sa sb g Bo N wr O) (j : Nat) (hj : j < N) :
  wr.cell? ⟨g, j, none⟩ = some (.int .u8 (Dg.dig O j)) ∧ wr.frozen? ⟨g, j, none⟩ = false := by
 refine ⟨?_, h.own.frozenAt j⟩
 rw [h.own.cellAt j (by omega), List.getElem?_map, Dg.dig_some (by rw [h.len]; exact hj)]
 rfl
theorem MulRel.sl {w : World} {ba bb nb : Bool} {sa sb : Value} {g Bo N : Nat} {wr : World} {O : List Int} (h : MulRel w ba bb nb sa sb g Bo N wr O) : SlD wr (.slice (some ⟨g, 0, none⟩) N N) O :=
 SlD.of_own h.own h.len.symm
structure OutRel (la lb : List Int) (i : Nat) (O : List Int) : Prop where
 dg : Dg.Digs O
 val : Dg.val O = Dg.val (la.take i) * Dg.val lb
 z : ∀ j, i + lb.length ≤ j → Dg.dig O j = 0
 len : O.length = la.length + lb.length + 1
theorem OutRel.next {la lb : List Int} {i k : Nat} {O : List Int} (h : OutRel la lb i O) (ha : Dg.Digs la) (hb : Dg.Digs lb) (hi : i < la.length) (h1 : lb.length ≤ k) (h2 : k ≤ lb.length + 1) (hc : (Dg.rowS O (Dg.dig la i) lb i k).2 = 0) : OutRel la lb (i + 1) (Dg.rowS O (Dg.dig la i) lb i k).1 := by
 obtain ⟨g1, g2, _⟩ := Dg.rowS_inv h.dg (Dg.dig_bd ha i) hb i k (by rw [h.len]; omega)
 obtain ⟨f1, f2⟩ := Dg.rowS_fin h.dg ha hb i k hi h.len h.z h.val h1 h2 hc
 exact ⟨g2, f2, f1, by rw [g1]; exact h.len⟩
theorem sub_cmp (a b : Int) (ha : I64 a) (hb : I64 b) :
   (I64 (a - b) → wrap64 (a - b) = a - b ∧ decide (a - b < a) = decide (0 < b)) ∧ (¬ I64 (a - b) → decide (wrap64 (a - b) < a) = !decide (0 < b)) := by
 obtain ⟨a1, a2⟩ := ha
 obtain ⟨b1, b2⟩ := hb
 constructor
 · rintro ⟨h1, h2⟩
   refine ⟨by unfold wrap64; omega, ?_⟩
   rw [Bool.eq_iff_iff]; simp only [decide_eq_true_eq]; omega
 · intro h
   unfold I64 at h
   rw [Bool.eq_iff_iff]; simp only [decide_eq_true_eq, Bool.not_eq_true', decide_eq_false_iff_not]
   unfold wrap64
   omega
theorem isub_fits (a b : Int) (w : World) (ha : I64 a) (hb : I64 b) (h : I64 (a - b)) :
   Calls Tryz.prog 72 #[.int .i64 a, .int .i64 b] w fun e w' => e = .returned (.tuple #[.int .i64 (a - b), .int .i64 0]) ∧ w = w' := by
 obtain ⟨h1, h2⟩ := (sub_cmp a b ha hb).1 h
 obtain ⟨k1, k2⟩ := h
 clear h1
 by_cases hb0 : 0 < b
 · have c1 : decide (0 < b) = true := by simpa using hb0
   have c2 : decide (a - b < a) = true := by simp; omega
   clear h2
   go_enter Tryz.func72, Tryz.ntmps72
   go_wp2_with fail
   go_ret2
   exact ⟨rfl, rfl⟩
 · have c1 : decide (0 < b) = false := by simpa using hb0
   have c2 : decide (a - b < a) = false := by simp; omega
   clear h2
   go_enter Tryz.func72, Tryz.ntmps72
   go_wp2_with fail
   go_ret2
   exact ⟨rfl, rfl⟩
theorem isub_over (a b : Int) (w : World) (ha : I64 a) (hb : I64 b) (h : ¬ I64 (a - b)) :
   Calls Tryz.prog 72 #[.int .i64 a, .int .i64 b] w fun e w' => e = .returned (.tuple #[.int .i64 0, .int .i64 15]) ∧ w = w' := by
 have h2 := (sub_cmp a b ha hb).2 h
 generalize hn : wrap64 (a - b) = n at *
 by_cases hb0 : 0 < b
 · have c1 : decide (0 < b) = true := by simpa using hb0
   have c2 : decide (n < a) = false := by rw [h2, c1]; rfl
   clear h2
   go_enter Tryz.func72, Tryz.ntmps72
   go_wp2_with fail
   go_ret2
   exact ⟨rfl, rfl⟩
 · have c1 : decide (0 < b) = false := by simpa using hb0
   have c2 : decide (n < a) = true := by rw [h2, c1]; rfl
   clear h2
   go_enter Tryz.func72, Tryz.ntmps72
   go_wp2_with fail
   go_ret2
   exact ⟨rfl, rfl⟩
set_option maxHeartbeats 1000000
structure DivM (a b q m : Int) : Prop where
 e : q * b + m = a
 p : 0 < b → 0 ≤ m ∧ m < b
 n : b < 0 → b < m ∧ m ≤ 0
theorem DivM.mono {a c b q m q' m' : Int} (h : DivM a b q m) (h' : DivM c b q' m') (hb : 0 < b) (hac : a ≤ c) : q ≤ q' := by
 have p1 := h.p hb
 have p2 := h'.p hb
 have e1 := h.e
 have e2 := h'.e
 by_cases hc : q ≤ q'
 · exact hc
 · have : (q' + 1) * b ≤ q * b := Int.mul_le_mul_of_nonneg_right (by omega) (by omega)
   rw [Int.add_mul] at this
   omega
theorem p10_18 (k : Nat) (h : k ≤ 18) : 1 ≤ Dg.p10 k ∧ Dg.p10 k ≤ 1000000000000000000 := by
 have h1 := Dg.p10_pos k
 have h2 := Dg.p10_mono h
 have h3 : Dg.p10 18 = 1000000000000000000 := by decide
 omega
theorem ipow_yes (n : Nat) (w : World) (h : n ≤ 18) :
  Calls Tryz.prog 168 #[.int .i64 (n : Int)] w fun e w' => e = .returned (.tuple #[.int .i64 (Dg.p10 n), .int .i64 0]) ∧ w = w' := by
 have c1 : decide ((n : Int) < 0) = false := by simp
 have c2 : decide (18 < (n : Int)) = false := by simp; omega
 go_enter Tryz.func168, Tryz.ntmps168
 go_wp2_with fail
 go_loop [4, 10] (fun pv kv => ∃ k : Nat, k ≤ n ∧ kv = .int .i64 k ∧ pv = .int .i64 (Dg.p10 k)) (fun _ kv => n - (intOf kv).toNat)
 case atStart => exact ⟨0, by omega, rfl, rfl⟩
 case round =>
  obtain ⟨k, hk, rfl, rfl⟩ := hrel
  by_cases hlt : k < n
  · have q1 : decide ((k : Int) < n) = true := by simp; omega
    obtain ⟨b1, b2⟩ := p10_18 (k + 1) (by omega)
    have hs : Dg.p10 (k + 1) = 10 * Dg.p10 k := rfl
    rw [hs] at b1 b2
    have HS := Lib.hid hs
    clear hs
    go_wp2
    go_round
    case rel => exact ⟨k + 1, by omega, by go_num, by rw [HS.out]; congr 1; omega⟩
    case measure => simp [intOf]; omega
  · obtain rfl : k = n := by omega
    have t1 : ¬ k < k := by omega
    go_wp2
    go_ret2
    exact ⟨rfl, rfl⟩
theorem SlD.at {w : World} {p : Option Addr} {n cap : Nat} {l : List Int} (h : SlD w (.slice p n cap) l) : ∀ (j : Nat) (x : Int), l[j]? = some x → ∃ g, p = some ⟨g, 0, none⟩ ∧ w.cell? ⟨g, j, none⟩ = some (.int .u8 x) := by
 obtain ⟨p', cap', he, h1, h2, h3⟩ := h
 simp only [Value.slice.injEq] at he
 obtain ⟨rfl, rfl, rfl⟩ := he
 exact h3
def isNeg (l : List UInt8) : Bool := l.head? == some 45
def dsOf (l : List UInt8) : List UInt8 := if isNeg l then l.drop 1 else l
def pOk (l : List UInt8) : Prop := dsOf l ≠ [] ∧ ¬ ((dsOf l).head? = some 48 ∧ 1 < l.length) ∧ ∀ c ∈ dsOf l, Dg.isD c
def rv (s : ByteArray) (k : Nat) : List Int := (s.data.toList.drop k).reverse.map Dg.dv
structure EnvI (w : World) : Prop where
 tab : Lib.TabIs Tryz.prog w "internal/strconv.uint64pow10" .u64 Lib.pow10Tab
theorem var_dn {w w' : World} {n : String} {cs : Array Value} (h : w.var? Tryz.prog n = some cs) (k : Dn w w') : w'.var? Tryz.prog n = some cs := by
 unfold World.var? at h ⊢
 cases hg : Tryz.prog.globalNamed n with
 | none => rw [hg] at h; simp at h
 | some g =>
   rw [hg] at h
   simp only [Option.bind_some] at h ⊢
   have hlt : g < w.heap.size := by
    rcases Nat.lt_or_ge g w.heap.size with hl | hl
    · exact hl
    · rw [Array.getElem?_eq_none hl] at h; simp at h
   rw [k.below.block g hlt]
   exact h
theorem EnvI.dn {w w' : World} (h : EnvI w) (k : Dn w w') : EnvI w' := ⟨var_dn h.tab k⟩
theorem EnvI.up {w w' : World} (h : EnvI w) (k : Up w w') : EnvI w' := h.dn k.dn
structure EnvJ (w : World) : Prop where
 tab : Lib.TabIs Tryz.prog w "internal/strconv.uint64pow10" .u64 Lib.pow10Tab
 er : ∃ tp p, w.var? Tryz.prog "strconv.ErrRange" = some #[.iface tp p]
theorem EnvJ.dn {w w' : World} (h : EnvJ w) (k : Dn w w') : EnvJ w' := by
 obtain ⟨tp, p, he⟩ := h.er
 exact ⟨var_dn h.tab k, tp, p, var_dn he k⟩
theorem EnvJ.up {w w' : World} (h : EnvJ w) (k : Up w w') : EnvJ w' := h.dn k.dn
theorem itext (n : Int) (w : World) (hn : I64 n) (hE : EnvI w) :
  Calls Tryz.prog 83 #[.int .i64 n] w fun e w' => e = .returned (.string ⟨(Lib.itoa n).toArray⟩) ∧ Up w w' := by
 have HF := Lib.hid (Tryz.strconv_FormatInt_10 n hn.1 hn.2 w hE.tab)
 clear hn hE
 go_enter Tryz.func83, Tryz.ntmps83
 go_wp2_with fail
 refine HF.out.mono ?_
 rintro e w1 ⟨rfl, k, os, rfl⟩
 go_wp2_with fail
 go_ret
 exact ⟨rfl, Up.of_grow k os⟩
end Go.Proofs.YteodjglbpfmikaaGreatDoor
namespace Go.Proofs.YteodjglbpfmikaaGreatDoor
namespace Cal
def bf (y : Int) : Int := 1 + (y - 1) / 4 - (y - 1) / 100 + (y - 1) / 400
def sy (y : Int) : Int := 365 * y + bf y
def lp (y : Int) : Bool := decide (y % 400 = 0 ∨ (y % 4 = 0 ∧ y % 100 ≠ 0))
def lpN (y : Int) : Int := if lp y = true then 1 else 0
def len (y : Int) : Int := 365 + lpN y
theorem lpN_eq (y : Int) : lpN y = if y % 400 = 0 ∨ (y % 4 = 0 ∧ y % 100 ≠ 0) then 1 else 0 := by
 unfold lpN lp; simp only [decide_eq_true_eq]
theorem lpN_bd (y : Int) : 0 ≤ lpN y ∧ lpN y ≤ 1 := by unfold lpN; split <;> omega
theorem bf_succ (y : Int) : bf (y + 1) = bf y + lpN y := by
 rw [lpN_eq]; unfold bf; split <;> omega
theorem sy_succ (y : Int) : sy (y + 1) = sy y + len y := by
 unfold sy len; rw [bf_succ]; omega
theorem sy_lt (a b : Int) (h : a < b) : sy a + 365 ≤ sy b := by unfold sy bf; omega
def cnt (r : Int) : Nat := (List.range 400).countP (fun i : Nat => !(decide (r < sy ((i : Int) + 1))))
def yr (d : Int) : Int := 400 * (d / 146097) + cnt (d % 146097)
def mlen (y m : Int) : Int := if m = 2 then 28 + lpN y else if m = 4 ∨ m = 6 ∨ m = 9 ∨ m = 11 then 30 else 31
def cum (y m : Int) : Int := if m ≤ 2 then 31 * (m - 1) else (367 * m - 362) / 12 - 2 + lpN y
def sm (y m : Int) : Int := sy y + cum y m
theorem mlen_bd (y m : Int) : 28 ≤ mlen y m ∧ mlen y m ≤ 31 := by
 have := lpN_bd y; unfold mlen; split <;> (try split) <;> omega
theorem cum_succ (y m : Int) (h1 : 1 ≤ m) (h2 : m ≤ 12) : cum y (m + 1) = cum y m + mlen y m := by
 have := lpN_bd y
 have h : m = 1 ∨ m = 2 ∨ m = 3 ∨ m = 4 ∨ m = 5 ∨ m = 6 ∨ m = 7 ∨ m = 8 ∨ m = 9 ∨ m = 10 ∨ m = 11 ∨ m = 12 := by omega
 rcases h with rfl | rfl | rfl | rfl | rfl | rfl | rfl | rfl | rfl | rfl | rfl | rfl <;> simp [cum, mlen] <;> omega
theorem cum_one (y : Int) : cum y 1 = 0 := by simp [cum]
theorem cum_13 (y : Int) : cum y 13 = len y := by simp [cum, len]
theorem cum_bd (y m : Int) (h1 : 1 ≤ m) (h2 : m ≤ 13) : 0 ≤ cum y m ∧ cum y m ≤ 366 := by
 have := lpN_bd y
 unfold cum; split <;> omega
theorem cum_mono (y a b : Int) (h1 : 1 ≤ a) (h2 : a ≤ b) (h3 : b ≤ 13) : cum y a ≤ cum y b := by
 have := lpN_bd y
 unfold cum; split <;> split <;> omega
end Cal
end Go.Proofs.YteodjglbpfmikaaGreatDoor
