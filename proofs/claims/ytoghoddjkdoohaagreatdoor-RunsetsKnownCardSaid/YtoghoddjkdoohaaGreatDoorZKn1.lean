/- Walks and laws that the claim's theorem leans on: part 1. -/
import Derived.Test.YtoghoddjkdoohaaGreatDoorRows
import Derived.WalkKit
import Derived.WalkSpells
import Derived.WalkLawsBesides
import Derived.LoopN
import Derived.Deep.RegionHeld3
import Derived.Deep.LoopGhost
import Derived.Sort.Grow
import Derived.Lib.Hide
import Derived.Deep.QuietTactic
import Derived.BigQuiet
import Derived.Deep.DeepFit
import Derived.Deep.DeepMust
import Derived.Defers
import Derived.Lib.ItoaNum
import Derived.Lib.ParseIntB
import Derived.OwnWalk
import Derived.Laws.OwnMore
import Derived.Outline
import Derived.OrdersHeld
namespace Go.Proofs.YtoghoddjkdoohaaGreatDoor
open Go.RowKit
set_option linter.unusedVariables false
theorem nlt {a b c : Nat} (h : a < b) (k : b ≤ c) : a < c := Nat.lt_of_lt_of_le h k
theorem pL {α : Type} : type_of% (And.intro (@List.getElem_toArray α) (And.intro (@List.getElem_cons_succ α) (And.intro (@List.getElem_cons_zero α) (And.intro (@List.setIfInBounds_toArray α) (And.intro (@List.set_cons_zero α) (@List.set_cons_succ α)))))) := And.intro (@List.getElem_toArray α) (And.intro (@List.getElem_cons_succ α) (And.intro (@List.getElem_cons_zero α) (And.intro (@List.setIfInBounds_toArray α) (And.intro (@List.set_cons_zero α) (@List.set_cons_succ α)))))
theorem tk {P : Program} {md : Region.Mode} {ops : Array Oper} {Q : Exit → Act → World → Prop} {S : World → Prop} (i : Nat) {oi : Oper} (v : Value) {fuel : Nat} {listed : Array Bool} {a : Act} {w : World} (hi : ops[i]? = some oi) (hr : (Region.noSelect ops && (Region.free md ops listed i && (Region.ready md ops listed).contains i)) = true) (hQ : ∀ c a w, Q (.panic c) (a.put oi.dst v) w → Q (.panic c) a w) (hg : Region.wanted oi (yielded ops a.tmps) = true) (hS : S w) (hy : ∀ w, S w → (execOp a.eval oi).run P w = .ok (.value v) w) (h : wpAnyH P md ops Q S fuel (listed.setIfInBounds i true) (a.put oi.dst v) w) : wpAnyH P md ops Q S (fuel + 1) listed a w := by
  rw [Bool.and_eq_true, Bool.and_eq_true] at hr
  exact wpAnyH_take hi hr.1 hr.2.1 hr.2.2 hQ (Or.inl ⟨hg, hy⟩) hS h
theorem tu {P : Program} {md : Region.Mode} {ops : Array Oper} {Q : Exit → Act → World → Prop} {S : World → Prop} (i : Nat) {oi : Oper} {fuel : Nat} {listed : Array Bool} {a : Act} {w : World} (hi : ops[i]? = some oi) (hr : (Region.noSelect ops && (Region.free md ops listed i && (Region.ready md ops listed).contains i)) = true) (hQ : ∀ c a w, Q (.panic c) (a.put oi.dst undef) w → Q (.panic c) a w) (hg : Region.wanted oi (yielded ops a.tmps) = false) (hS : S w) (h : wpAnyH P md ops Q S fuel (listed.setIfInBounds i true) (a.put oi.dst undef) w) : wpAnyH P md ops Q S (fuel + 1) listed a w := by
  rw [Bool.and_eq_true, Bool.and_eq_true] at hr
  exact wpAnyH_take hi hr.1 hr.2.1 hr.2.2 hQ (Or.inr ⟨hg, rfl⟩) hS h
theorem tK {P : Program} {md : Region.Mode} {ops : Array Oper} {Q : Exit → Act → World → Prop} {S : World → Prop} (i : Nat) {oi : Oper} {v : Value} {fuel : Nat} {listed : Array Bool} {a : Act} {w : World} (hi : ops[i]? = some oi) (h : wpAnyH P md ops Q S fuel (listed.setIfInBounds i true) (a.put oi.dst v) w) (hr : (Region.noSelect ops && (Region.free md ops listed i && (Region.ready md ops listed).contains i)) = true := by kernel_rfl) (hQ : ∀ c a w, Q (.panic c) (a.put oi.dst v) w → Q (.panic c) a w := by exact fun _ _ _ => id) (hg : Region.wanted oi (yielded ops a.tmps) = true := by rfl) (hS : S w := by assumption) (hy : ∀ w, S w → (execOp a.eval oi).run P w = .ok (.value v) w := by (intro w hSw; (try dsimp only at hSw); go_simp; all_goals with_reducible rfl)) : wpAnyH P md ops Q S (fuel + 1) listed a w := tk i v hi hr hQ hg hS hy h
theorem tU {P : Program} {md : Region.Mode} {ops : Array Oper} {Q : Exit → Act → World → Prop} {S : World → Prop} (i : Nat) {oi : Oper} {fuel : Nat} {listed : Array Bool} {a : Act} {w : World} (hi : ops[i]? = some oi) (h : wpAnyH P md ops Q S fuel (listed.setIfInBounds i true) (a.put oi.dst undef) w) (hr : (Region.noSelect ops && (Region.free md ops listed i && (Region.ready md ops listed).contains i)) = true := by kernel_rfl) (hQ : ∀ c a w, Q (.panic c) (a.put oi.dst undef) w → Q (.panic c) a w := by exact fun _ _ _ => id) (hg : Region.wanted oi (yielded ops a.tmps) = false := by rfl) (hS : S w := by assumption) : wpAnyH P md ops Q S (fuel + 1) listed a w := tu i hi hr hQ hg hS h
theorem tS {P : Program} {md : Region.Mode} {ops : Array Oper} {Q : Exit → Act → World → Prop} {S : World → Prop} (i : Nat) {oi : Oper} {v : Value} {fuel : Nat} {listed l' : Array Bool} {a a' : Act} {w : World} (hi : ops[i]? = some oi) (h : wpAnyH P md ops Q S fuel l' a' w) (hr : (Region.noSelect ops && (Region.free md ops listed i && (Region.ready md ops listed).contains i)) = true := by kernel_rfl) (hQ : ∀ c a w, Q (.panic c) (a.put oi.dst v) w → Q (.panic c) a w := by exact fun _ _ _ => id) (hg : Region.wanted oi (yielded ops a.tmps) = true := by rfl) (hS : S w := by assumption) (hy : ∀ w, S w → (execOp a.eval oi).run P w = .ok (.value v) w := by (intro w hSw; (try dsimp only at hSw); go_simp; all_goals with_reducible rfl)) (hl : listed.setIfInBounds i true = l' := by ((try simp only [pL]); rfl)) (ha : a.put oi.dst v = a' := by ((try simp only [Act.put, pL]); rfl)) : wpAnyH P md ops Q S (fuel + 1) listed a w := tk i v hi hr hQ hg hS hy (by subst hl ha; exact h)
theorem tV {P : Program} {md : Region.Mode} {ops : Array Oper} {Q : Exit → Act → World → Prop} {S : World → Prop} (i : Nat) {oi : Oper} {fuel : Nat} {listed l' : Array Bool} {a a' : Act} {w : World} (hi : ops[i]? = some oi) (h : wpAnyH P md ops Q S fuel l' a' w) (hr : (Region.noSelect ops && (Region.free md ops listed i && (Region.ready md ops listed).contains i)) = true := by kernel_rfl) (hQ : ∀ c a w, Q (.panic c) (a.put oi.dst undef) w → Q (.panic c) a w := by exact fun _ _ _ => id) (hg : Region.wanted oi (yielded ops a.tmps) = false := by rfl) (hS : S w := by assumption) (hl : listed.setIfInBounds i true = l' := by ((try simp only [pL]); rfl)) (ha : a.put oi.dst undef = a' := by ((try simp only [Act.put, pL]); rfl)) : wpAnyH P md ops Q S (fuel + 1) listed a w := tu i hi hr hQ hg hS (by subst hl ha; exact h)
theorem nB {a b : Prop} (k : ¬a) (h : a := by (intro e he hb; simp at he <;> (repeat' (rcases he with rfl | he)) <;> first | rfl | exact absurd hb (by decide))) : b := absurd h k
theorem rD {P : Program} {md : Region.Mode} {ops : Array Oper} {Q : Exit → Act → World → Prop} {S : World → Prop} (i : Nat) {oi : Oper} {fuel : Nat} {listed : Array Bool} {a : Act} {w : World} (ho : ops[i]? = some oi) (h : ∀ K' : Act → World → Prop, Shut (∀ a w, S w → (S w → wpAnyH P md ops Q S fuel (listed.setIfInBounds i true) a w) → K' a w) → if Region.wanted oi (yielded ops a.tmps) = true then Oper.wp P oi a w K' Q else K' (a.put oi.dst undef) w) (hr : Region.ready md ops listed = [i] := by kernel_rfl) : wpAnyH P md ops Q S (fuel + 1) listed a w := wpAnyH_ready hr (by simp) (AllReadyH.cons ho h AllReadyH.nil)
theorem nl2 {b c a0 a1 : Nat} (k : b ≤ c) (h0 : a0 < b) (h1 : a1 < b) : a0 < c ∧ a1 < c := ⟨Nat.lt_of_lt_of_le h0 k, Nat.lt_of_lt_of_le h1 k⟩
theorem nl3 {b c a0 a1 a2 : Nat} (k : b ≤ c) (h0 : a0 < b) (h1 : a1 < b) (h2 : a2 < b) : a0 < c ∧ a1 < c ∧ a2 < c := ⟨Nat.lt_of_lt_of_le h0 k, Nat.lt_of_lt_of_le h1 k, Nat.lt_of_lt_of_le h2 k⟩
theorem nl4 {b c a0 a1 a2 a3 : Nat} (k : b ≤ c) (h0 : a0 < b) (h1 : a1 < b) (h2 : a2 < b) (h3 : a3 < b) : a0 < c ∧ a1 < c ∧ a2 < c ∧ a3 < c := ⟨Nat.lt_of_lt_of_le h0 k, Nat.lt_of_lt_of_le h1 k, Nat.lt_of_lt_of_le h2 k, Nat.lt_of_lt_of_le h3 k⟩
theorem nl5 {b c a0 a1 a2 a3 a4 : Nat} (k : b ≤ c) (h0 : a0 < b) (h1 : a1 < b) (h2 : a2 < b) (h3 : a3 < b) (h4 : a4 < b) : a0 < c ∧ a1 < c ∧ a2 < c ∧ a3 < c ∧ a4 < c := ⟨Nat.lt_of_lt_of_le h0 k, Nat.lt_of_lt_of_le h1 k, Nat.lt_of_lt_of_le h2 k, Nat.lt_of_lt_of_le h3 k, Nat.lt_of_lt_of_le h4 k⟩
theorem nl6 {b c a0 a1 a2 a3 a4 a5 : Nat} (k : b ≤ c) (h0 : a0 < b) (h1 : a1 < b) (h2 : a2 < b) (h3 : a3 < b) (h4 : a4 < b) (h5 : a5 < b) : a0 < c ∧ a1 < c ∧ a2 < c ∧ a3 < c ∧ a4 < c ∧ a5 < c := ⟨Nat.lt_of_lt_of_le h0 k, Nat.lt_of_lt_of_le h1 k, Nat.lt_of_lt_of_le h2 k, Nat.lt_of_lt_of_le h3 k, Nat.lt_of_lt_of_le h4 k, Nat.lt_of_lt_of_le h5 k⟩
theorem nl7 {b c a0 a1 a2 a3 a4 a5 a6 : Nat} (k : b ≤ c) (h0 : a0 < b) (h1 : a1 < b) (h2 : a2 < b) (h3 : a3 < b) (h4 : a4 < b) (h5 : a5 < b) (h6 : a6 < b) : a0 < c ∧ a1 < c ∧ a2 < c ∧ a3 < c ∧ a4 < c ∧ a5 < c ∧ a6 < c := ⟨Nat.lt_of_lt_of_le h0 k, Nat.lt_of_lt_of_le h1 k, Nat.lt_of_lt_of_le h2 k, Nat.lt_of_lt_of_le h3 k, Nat.lt_of_lt_of_le h4 k, Nat.lt_of_lt_of_le h5 k, Nat.lt_of_lt_of_le h6 k⟩
theorem nl8 {b c a0 a1 a2 a3 a4 a5 a6 a7 : Nat} (k : b ≤ c) (h0 : a0 < b) (h1 : a1 < b) (h2 : a2 < b) (h3 : a3 < b) (h4 : a4 < b) (h5 : a5 < b) (h6 : a6 < b) (h7 : a7 < b) : a0 < c ∧ a1 < c ∧ a2 < c ∧ a3 < c ∧ a4 < c ∧ a5 < c ∧ a6 < c ∧ a7 < c := ⟨Nat.lt_of_lt_of_le h0 k, Nat.lt_of_lt_of_le h1 k, Nat.lt_of_lt_of_le h2 k, Nat.lt_of_lt_of_le h3 k, Nat.lt_of_lt_of_le h4 k, Nat.lt_of_lt_of_le h5 k, Nat.lt_of_lt_of_le h6 k, Nat.lt_of_lt_of_le h7 k⟩

theorem mv3 {w w' : World} (q : ∀ {a : Addr} {v : Value}, w.cell? a = some v → w'.cell? a = some v) {a0 a1 a2 : Addr} {v0 v1 v2 : Value} (h0 : w.cell? a0 = some v0) (h1 : w.cell? a1 = some v1) (h2 : w.cell? a2 = some v2) : w'.cell? a0 = some v0 ∧ w'.cell? a1 = some v1 ∧ w'.cell? a2 = some v2 := ⟨q h0, q h1, q h2⟩
theorem mv4 {w w' : World} (q : ∀ {a : Addr} {v : Value}, w.cell? a = some v → w'.cell? a = some v) {a0 a1 a2 a3 : Addr} {v0 v1 v2 v3 : Value} (h0 : w.cell? a0 = some v0) (h1 : w.cell? a1 = some v1) (h2 : w.cell? a2 = some v2) (h3 : w.cell? a3 = some v3) : w'.cell? a0 = some v0 ∧ w'.cell? a1 = some v1 ∧ w'.cell? a2 = some v2 ∧ w'.cell? a3 = some v3 := ⟨q h0, q h1, q h2, q h3⟩
theorem mv5 {w w' : World} (q : ∀ {a : Addr} {v : Value}, w.cell? a = some v → w'.cell? a = some v) {a0 a1 a2 a3 a4 : Addr} {v0 v1 v2 v3 v4 : Value} (h0 : w.cell? a0 = some v0) (h1 : w.cell? a1 = some v1) (h2 : w.cell? a2 = some v2) (h3 : w.cell? a3 = some v3) (h4 : w.cell? a4 = some v4) : w'.cell? a0 = some v0 ∧ w'.cell? a1 = some v1 ∧ w'.cell? a2 = some v2 ∧ w'.cell? a3 = some v3 ∧ w'.cell? a4 = some v4 := ⟨q h0, q h1, q h2, q h3, q h4⟩
theorem mv6 {w w' : World} (q : ∀ {a : Addr} {v : Value}, w.cell? a = some v → w'.cell? a = some v) {a0 a1 a2 a3 a4 a5 : Addr} {v0 v1 v2 v3 v4 v5 : Value} (h0 : w.cell? a0 = some v0) (h1 : w.cell? a1 = some v1) (h2 : w.cell? a2 = some v2) (h3 : w.cell? a3 = some v3) (h4 : w.cell? a4 = some v4) (h5 : w.cell? a5 = some v5) : w'.cell? a0 = some v0 ∧ w'.cell? a1 = some v1 ∧ w'.cell? a2 = some v2 ∧ w'.cell? a3 = some v3 ∧ w'.cell? a4 = some v4 ∧ w'.cell? a5 = some v5 := ⟨q h0, q h1, q h2, q h3, q h4, q h5⟩
theorem mv7 {w w' : World} (q : ∀ {a : Addr} {v : Value}, w.cell? a = some v → w'.cell? a = some v) {a0 a1 a2 a3 a4 a5 a6 : Addr} {v0 v1 v2 v3 v4 v5 v6 : Value} (h0 : w.cell? a0 = some v0) (h1 : w.cell? a1 = some v1) (h2 : w.cell? a2 = some v2) (h3 : w.cell? a3 = some v3) (h4 : w.cell? a4 = some v4) (h5 : w.cell? a5 = some v5) (h6 : w.cell? a6 = some v6) : w'.cell? a0 = some v0 ∧ w'.cell? a1 = some v1 ∧ w'.cell? a2 = some v2 ∧ w'.cell? a3 = some v3 ∧ w'.cell? a4 = some v4 ∧ w'.cell? a5 = some v5 ∧ w'.cell? a6 = some v6 := ⟨q h0, q h1, q h2, q h3, q h4, q h5, q h6⟩
theorem mv8 {w w' : World} (q : ∀ {a : Addr} {v : Value}, w.cell? a = some v → w'.cell? a = some v) {a0 a1 a2 a3 a4 a5 a6 a7 : Addr} {v0 v1 v2 v3 v4 v5 v6 v7 : Value} (h0 : w.cell? a0 = some v0) (h1 : w.cell? a1 = some v1) (h2 : w.cell? a2 = some v2) (h3 : w.cell? a3 = some v3) (h4 : w.cell? a4 = some v4) (h5 : w.cell? a5 = some v5) (h6 : w.cell? a6 = some v6) (h7 : w.cell? a7 = some v7) : w'.cell? a0 = some v0 ∧ w'.cell? a1 = some v1 ∧ w'.cell? a2 = some v2 ∧ w'.cell? a3 = some v3 ∧ w'.cell? a4 = some v4 ∧ w'.cell? a5 = some v5 ∧ w'.cell? a6 = some v6 ∧ w'.cell? a7 = some v7 := ⟨q h0, q h1, q h2, q h3, q h4, q h5, q h6, q h7⟩
theorem mv9 {w w' : World} (q : ∀ {a : Addr} {v : Value}, w.cell? a = some v → w'.cell? a = some v) {a0 a1 a2 a3 a4 a5 a6 a7 a8 : Addr} {v0 v1 v2 v3 v4 v5 v6 v7 v8 : Value} (h0 : w.cell? a0 = some v0) (h1 : w.cell? a1 = some v1) (h2 : w.cell? a2 = some v2) (h3 : w.cell? a3 = some v3) (h4 : w.cell? a4 = some v4) (h5 : w.cell? a5 = some v5) (h6 : w.cell? a6 = some v6) (h7 : w.cell? a7 = some v7) (h8 : w.cell? a8 = some v8) : w'.cell? a0 = some v0 ∧ w'.cell? a1 = some v1 ∧ w'.cell? a2 = some v2 ∧ w'.cell? a3 = some v3 ∧ w'.cell? a4 = some v4 ∧ w'.cell? a5 = some v5 ∧ w'.cell? a6 = some v6 ∧ w'.cell? a7 = some v7 ∧ w'.cell? a8 = some v8 := ⟨q h0, q h1, q h2, q h3, q h4, q h5, q h6, q h7, q h8⟩
theorem mv10 {w w' : World} (q : ∀ {a : Addr} {v : Value}, w.cell? a = some v → w'.cell? a = some v) {a0 a1 a2 a3 a4 a5 a6 a7 a8 a9 : Addr} {v0 v1 v2 v3 v4 v5 v6 v7 v8 v9 : Value} (h0 : w.cell? a0 = some v0) (h1 : w.cell? a1 = some v1) (h2 : w.cell? a2 = some v2) (h3 : w.cell? a3 = some v3) (h4 : w.cell? a4 = some v4) (h5 : w.cell? a5 = some v5) (h6 : w.cell? a6 = some v6) (h7 : w.cell? a7 = some v7) (h8 : w.cell? a8 = some v8) (h9 : w.cell? a9 = some v9) : w'.cell? a0 = some v0 ∧ w'.cell? a1 = some v1 ∧ w'.cell? a2 = some v2 ∧ w'.cell? a3 = some v3 ∧ w'.cell? a4 = some v4 ∧ w'.cell? a5 = some v5 ∧ w'.cell? a6 = some v6 ∧ w'.cell? a7 = some v7 ∧ w'.cell? a8 = some v8 ∧ w'.cell? a9 = some v9 := ⟨q h0, q h1, q h2, q h3, q h4, q h5, q h6, q h7, q h8, q h9⟩
theorem mv11 {w w' : World} (q : ∀ {a : Addr} {v : Value}, w.cell? a = some v → w'.cell? a = some v) {a0 a1 a2 a3 a4 a5 a6 a7 a8 a9 a10 : Addr} {v0 v1 v2 v3 v4 v5 v6 v7 v8 v9 v10 : Value} (h0 : w.cell? a0 = some v0) (h1 : w.cell? a1 = some v1) (h2 : w.cell? a2 = some v2) (h3 : w.cell? a3 = some v3) (h4 : w.cell? a4 = some v4) (h5 : w.cell? a5 = some v5) (h6 : w.cell? a6 = some v6) (h7 : w.cell? a7 = some v7) (h8 : w.cell? a8 = some v8) (h9 : w.cell? a9 = some v9) (h10 : w.cell? a10 = some v10) : w'.cell? a0 = some v0 ∧ w'.cell? a1 = some v1 ∧ w'.cell? a2 = some v2 ∧ w'.cell? a3 = some v3 ∧ w'.cell? a4 = some v4 ∧ w'.cell? a5 = some v5 ∧ w'.cell? a6 = some v6 ∧ w'.cell? a7 = some v7 ∧ w'.cell? a8 = some v8 ∧ w'.cell? a9 = some v9 ∧ w'.cell? a10 = some v10 := ⟨q h0, q h1, q h2, q h3, q h4, q h5, q h6, q h7, q h8, q h9, q h10⟩
theorem mv12 {w w' : World} (q : ∀ {a : Addr} {v : Value}, w.cell? a = some v → w'.cell? a = some v) {a0 a1 a2 a3 a4 a5 a6 a7 a8 a9 a10 a11 : Addr} {v0 v1 v2 v3 v4 v5 v6 v7 v8 v9 v10 v11 : Value} (h0 : w.cell? a0 = some v0) (h1 : w.cell? a1 = some v1) (h2 : w.cell? a2 = some v2) (h3 : w.cell? a3 = some v3) (h4 : w.cell? a4 = some v4) (h5 : w.cell? a5 = some v5) (h6 : w.cell? a6 = some v6) (h7 : w.cell? a7 = some v7) (h8 : w.cell? a8 = some v8) (h9 : w.cell? a9 = some v9) (h10 : w.cell? a10 = some v10) (h11 : w.cell? a11 = some v11) : w'.cell? a0 = some v0 ∧ w'.cell? a1 = some v1 ∧ w'.cell? a2 = some v2 ∧ w'.cell? a3 = some v3 ∧ w'.cell? a4 = some v4 ∧ w'.cell? a5 = some v5 ∧ w'.cell? a6 = some v6 ∧ w'.cell? a7 = some v7 ∧ w'.cell? a8 = some v8 ∧ w'.cell? a9 = some v9 ∧ w'.cell? a10 = some v10 ∧ w'.cell? a11 = some v11 := ⟨q h0, q h1, q h2, q h3, q h4, q h5, q h6, q h7, q h8, q h9, q h10, q h11⟩
theorem mv13 {w w' : World} (q : ∀ {a : Addr} {v : Value}, w.cell? a = some v → w'.cell? a = some v) {a0 a1 a2 a3 a4 a5 a6 a7 a8 a9 a10 a11 a12 : Addr} {v0 v1 v2 v3 v4 v5 v6 v7 v8 v9 v10 v11 v12 : Value} (h0 : w.cell? a0 = some v0) (h1 : w.cell? a1 = some v1) (h2 : w.cell? a2 = some v2) (h3 : w.cell? a3 = some v3) (h4 : w.cell? a4 = some v4) (h5 : w.cell? a5 = some v5) (h6 : w.cell? a6 = some v6) (h7 : w.cell? a7 = some v7) (h8 : w.cell? a8 = some v8) (h9 : w.cell? a9 = some v9) (h10 : w.cell? a10 = some v10) (h11 : w.cell? a11 = some v11) (h12 : w.cell? a12 = some v12) : w'.cell? a0 = some v0 ∧ w'.cell? a1 = some v1 ∧ w'.cell? a2 = some v2 ∧ w'.cell? a3 = some v3 ∧ w'.cell? a4 = some v4 ∧ w'.cell? a5 = some v5 ∧ w'.cell? a6 = some v6 ∧ w'.cell? a7 = some v7 ∧ w'.cell? a8 = some v8 ∧ w'.cell? a9 = some v9 ∧ w'.cell? a10 = some v10 ∧ w'.cell? a11 = some v11 ∧ w'.cell? a12 = some v12 := ⟨q h0, q h1, q h2, q h3, q h4, q h5, q h6, q h7, q h8, q h9, q h10, q h11, q h12⟩
theorem mv14 {w w' : World} (q : ∀ {a : Addr} {v : Value}, w.cell? a = some v → w'.cell? a = some v) {a0 a1 a2 a3 a4 a5 a6 a7 a8 a9 a10 a11 a12 a13 : Addr} {v0 v1 v2 v3 v4 v5 v6 v7 v8 v9 v10 v11 v12 v13 : Value} (h0 : w.cell? a0 = some v0) (h1 : w.cell? a1 = some v1) (h2 : w.cell? a2 = some v2) (h3 : w.cell? a3 = some v3) (h4 : w.cell? a4 = some v4) (h5 : w.cell? a5 = some v5) (h6 : w.cell? a6 = some v6) (h7 : w.cell? a7 = some v7) (h8 : w.cell? a8 = some v8) (h9 : w.cell? a9 = some v9) (h10 : w.cell? a10 = some v10) (h11 : w.cell? a11 = some v11) (h12 : w.cell? a12 = some v12) (h13 : w.cell? a13 = some v13) : w'.cell? a0 = some v0 ∧ w'.cell? a1 = some v1 ∧ w'.cell? a2 = some v2 ∧ w'.cell? a3 = some v3 ∧ w'.cell? a4 = some v4 ∧ w'.cell? a5 = some v5 ∧ w'.cell? a6 = some v6 ∧ w'.cell? a7 = some v7 ∧ w'.cell? a8 = some v8 ∧ w'.cell? a9 = some v9 ∧ w'.cell? a10 = some v10 ∧ w'.cell? a11 = some v11 ∧ w'.cell? a12 = some v12 ∧ w'.cell? a13 = some v13 := ⟨q h0, q h1, q h2, q h3, q h4, q h5, q h6, q h7, q h8, q h9, q h10, q h11, q h12, q h13⟩
theorem mv15 {w w' : World} (q : ∀ {a : Addr} {v : Value}, w.cell? a = some v → w'.cell? a = some v) {a0 a1 a2 a3 a4 a5 a6 a7 a8 a9 a10 a11 a12 a13 a14 : Addr} {v0 v1 v2 v3 v4 v5 v6 v7 v8 v9 v10 v11 v12 v13 v14 : Value} (h0 : w.cell? a0 = some v0) (h1 : w.cell? a1 = some v1) (h2 : w.cell? a2 = some v2) (h3 : w.cell? a3 = some v3) (h4 : w.cell? a4 = some v4) (h5 : w.cell? a5 = some v5) (h6 : w.cell? a6 = some v6) (h7 : w.cell? a7 = some v7) (h8 : w.cell? a8 = some v8) (h9 : w.cell? a9 = some v9) (h10 : w.cell? a10 = some v10) (h11 : w.cell? a11 = some v11) (h12 : w.cell? a12 = some v12) (h13 : w.cell? a13 = some v13) (h14 : w.cell? a14 = some v14) : w'.cell? a0 = some v0 ∧ w'.cell? a1 = some v1 ∧ w'.cell? a2 = some v2 ∧ w'.cell? a3 = some v3 ∧ w'.cell? a4 = some v4 ∧ w'.cell? a5 = some v5 ∧ w'.cell? a6 = some v6 ∧ w'.cell? a7 = some v7 ∧ w'.cell? a8 = some v8 ∧ w'.cell? a9 = some v9 ∧ w'.cell? a10 = some v10 ∧ w'.cell? a11 = some v11 ∧ w'.cell? a12 = some v12 ∧ w'.cell? a13 = some v13 ∧ w'.cell? a14 = some v14 := ⟨q h0, q h1, q h2, q h3, q h4, q h5, q h6, q h7, q h8, q h9, q h10, q h11, q h12, q h13, q h14⟩
theorem mv16 {w w' : World} (q : ∀ {a : Addr} {v : Value}, w.cell? a = some v → w'.cell? a = some v) {a0 a1 a2 a3 a4 a5 a6 a7 a8 a9 a10 a11 a12 a13 a14 a15 : Addr} {v0 v1 v2 v3 v4 v5 v6 v7 v8 v9 v10 v11 v12 v13 v14 v15 : Value} (h0 : w.cell? a0 = some v0) (h1 : w.cell? a1 = some v1) (h2 : w.cell? a2 = some v2) (h3 : w.cell? a3 = some v3) (h4 : w.cell? a4 = some v4) (h5 : w.cell? a5 = some v5) (h6 : w.cell? a6 = some v6) (h7 : w.cell? a7 = some v7) (h8 : w.cell? a8 = some v8) (h9 : w.cell? a9 = some v9) (h10 : w.cell? a10 = some v10) (h11 : w.cell? a11 = some v11) (h12 : w.cell? a12 = some v12) (h13 : w.cell? a13 = some v13) (h14 : w.cell? a14 = some v14) (h15 : w.cell? a15 = some v15) : w'.cell? a0 = some v0 ∧ w'.cell? a1 = some v1 ∧ w'.cell? a2 = some v2 ∧ w'.cell? a3 = some v3 ∧ w'.cell? a4 = some v4 ∧ w'.cell? a5 = some v5 ∧ w'.cell? a6 = some v6 ∧ w'.cell? a7 = some v7 ∧ w'.cell? a8 = some v8 ∧ w'.cell? a9 = some v9 ∧ w'.cell? a10 = some v10 ∧ w'.cell? a11 = some v11 ∧ w'.cell? a12 = some v12 ∧ w'.cell? a13 = some v13 ∧ w'.cell? a14 = some v14 ∧ w'.cell? a15 = some v15 := ⟨q h0, q h1, q h2, q h3, q h4, q h5, q h6, q h7, q h8, q h9, q h10, q h11, q h12, q h13, q h14, q h15⟩
end Go.Proofs.YtoghoddjkdoohaaGreatDoor
namespace Go.Proofs.YtoghoddjkdoohaaGreatDoor
open Go.RowKit
def I64 (a : Int) : Prop := -9223372036854775808 <= a /\ a <= 9223372036854775807
instance decI64 (a : Int) : Decidable (I64 a) := by unfold I64; infer_instance
theorem ret1_i {k : IntKind} {a b : Int} (h : a = b) : Ending.returned (.int k a) = .returned (.int k b) := by rw [h]
theorem ret2_i {k l : IntKind} {a b c d : Int} (h : a = b) (h' : c = d) : Ending.returned (.tuple #[.int k a, .int l c]) = .returned (.tuple #[.int k b, .int l d]) := by rw [h, h']
theorem retb {a b : Bool} (h : a = b) : Ending.returned (.bool a) = .returned (.bool b) := by rw [h]
structure Up (w w' : World) : Prop where
 below : Below w.heap.size w w'
 drawn : w.drawn <= w'.drawn
theorem Up.refl (w : World) : Up w w := ⟨Below.refl _ _, Nat.le_refl _⟩
theorem Up.trans {a b c : World} (h : Up a b) (k : Up b c) : Up a c := ⟨h.below.trans (k.below.mono h.below.size), Nat.le_trans h.drawn k.drawn⟩
theorem Up.alloc {a w : World} (h : Up a w) (o : Obj) : Up a (w.alloc o) := ⟨h.below.alloc h.below.size o, h.drawn⟩
theorem Up.drew {a w : World} (h : Up a w) : Up a w.drew := ⟨h.below.drew, Nat.le_trans h.drawn (Nat.le_succ _)⟩
theorem Up.setCell {a w : World} (h : Up a w) {p : Addr} (hp : a.heap.size <= p.block) (u : Value) : Up a (w.setCell p u) := ⟨h.below.setCell hp u, h.drawn⟩
theorem Up.sC {a b : World} (h : Up a b) {p : Addr} {u : Value} (hp : a.heap.size <= p.block := by (simp <;> omega)) : Up a (b.setCell p u) := h.setCell hp u
theorem Up.size {a w : World} (h : Up a w) : a.heap.size <= w.heap.size := h.below.size
theorem Up.drewN {a w : World} (h : Up a w) (n : Nat) : Up a (w.drewN n) := ⟨h.below.trans ⟨rfl, rfl, rfl, Nat.le_refl _, fun _ _ => rfl⟩, Nat.le_trans h.drawn (Nat.le_add_right _ _)⟩
theorem Below.step {a w w' : World} (h : Below a.heap.size a w) (k : Below w.heap.size w w') : Below a.heap.size a w' := h.trans (k.mono h.size)
theorem cell_below {w w' : World} {a : Addr} {v : Value} (hb : Below w.heap.size w w') (h : w.cell? a = some v) : w'.cell? a = some v := by
 rw [hb.cell (World.block_lt_of_cell? _ _ h)]; exact h
theorem Up.cell {w w' : World} {a : Addr} {v : Value} (hb : Up w w') (h : w.cell? a = some v) : w'.cell? a = some v := cell_below hb.below h
theorem Calls.qs {P : Program} {f : FuncId} {args : Array Value} {w : World} {n : Nat} {v : Value} (h : Calls P f args (w.drewN n) fun e w' => e = .returned v /\ w.drewN n = w') :
 Calls P f args (w.drewN n) fun e w'' => e = .returned v /\ ∃ m, w'' = w.drewN m := h.mono fun _ _ ⟨he, hm⟩ => ⟨he, n, hm.symm⟩
theorem Up.grow {w w' : World} (h : Up w w') : ∃ q os, w' = Go.Sort.grow (w.drewN q) os := by
 refine ⟨w'.drawn - w.drawn, w'.heap.extract w.heap.size w'.heap.size, ?_⟩
 have hd := h.drawn
 obtain ⟨⟨h1, h2, h3, h4, h5⟩, _⟩ := h
 have e : w'.heap = w.heap ++ w'.heap.extract w.heap.size w'.heap.size := by
  apply Array.ext_getElem?; intro i
  by_cases hi : i < w.heap.size
  · rw [h5 i hi, Array.getElem?_append_left hi]
  · rw [Array.getElem?_append_right (by omega), Array.getElem?_extract]
    by_cases hj : i < w'.heap.size
    · rw [if_pos (by omega)]; congr 1; omega
    · rw [if_neg (by omega), Array.getElem?_eq_none (by omega)]
 have e2 : w'.drawn = w.drawn + (w'.drawn - w.drawn) := by omega
 obtain ⟨hp, tp, dr, o, ou⟩ := w'
 simp only at h1 h2 h3 e e2
 subst h1 h2 h3
 show _ = World.mk (w.heap ++ hp.extract w.heap.size hp.size) w.tape (w.drawn + (dr - w.drawn)) w.os w.output
 rw [<- e, <- e2]
theorem Up.of_grow {w : World} (q : Nat) (os : Array Obj) : Up w (Go.Sort.grow (w.drewN q) os) :=
 ⟨⟨rfl, rfl, rfl, by simp [Go.Sort.grow], fun i hi => by
  show ((w.drewN q).heap ++ os)[i]? = _
  rw [Array.getElem?_append_left (by show i < w.heap.size; omega)]
  rfl⟩, Nat.le_add_right _ _⟩
set_option maxHeartbeats 1000000
theorem addD_same (pn pa pb pe : Addr) (n a b : Int) (x : Bool) (u : FrameMode) (w : World) (cn : w.cell? pn = some (.int .i64 n)) (ca : w.cell? pa = some (.int .i64 a)) (cb : w.cell? pb = some (.int .i64 b))
  (h1 : decide (a < n) = x) (h2 : decide (0 < b) = x) :
  CallsD Tryz.prog 96 #[.pointer (some pn), .pointer (some pa), .pointer (some pb), .pointer (some pe)] u w fun e u' w' => u' = u /\ (e = .returned (.tuple #[]) /\ w' = w) := by
 go_enter_d Tryz.func96, Tryz.ntmps96
 cases x
 all_goals
  go_wp2; go_end0; exact ⟨rfl, rfl⟩
theorem addD_over (pn pa pb pe : Addr) (n a b : Int) (x : Bool) (u : FrameMode) (w : World) (cn : w.cell? pn = some (.int .i64 n)) (ca : w.cell? pa = some (.int .i64 a)) (cb : w.cell? pb = some (.int .i64 b))
  (ce : w.cell? pe = some (.int .i64 0)) (fn : w.frozen? pn = false) (fe : w.frozen? pe = false) (hne : pe.block ≠ pn.block)
  (h1 : decide (a < n) = x) (h2 : decide (0 < b) = !x) :
  CallsD Tryz.prog 96 #[.pointer (some pn), .pointer (some pa), .pointer (some pb), .pointer (some pe)] u w fun e u' w' => u' = u /\ (e = .returned (.tuple #[]) /\ w' = (w.setCell pn (.int .i64 0)).setCell pe (.int .i64 15)) := by
 have ce' : (w.setCell pn (.int .i64 0)).cell? pe = some (.int .i64 0) := by exact (World.cell?_setCell_other (w := w) (a := pn) (b := pe) (v := .int .i64 0) (fun h => hne (by rw [h]))).trans ce
 have fe' : (w.setCell pn (.int .i64 0)).frozen? pe = false := by rw [World.frozen?_setCell]; exact fe
 go_enter_d Tryz.func96, Tryz.ntmps96
 cases x
 all_goals
  go_wp2; go_end0; exact ⟨rfl, rfl⟩
theorem add_cmp (a b : Int) (ha : I64 a) (hb : I64 b) :
   (I64 (a + b) -> wrap64 (a + b) = a + b /\ decide (a < a + b) = decide (0 < b)) /\ (¬ I64 (a + b) -> decide (a < wrap64 (a + b)) = !decide (0 < b)) := by
 obtain ⟨a1, a2⟩ := ha
 obtain ⟨b1, b2⟩ := hb
 constructor
 · intro h
   exact ⟨IntWalk.wrap64_in _ h, by rw [decide_eq_decide]; omega⟩
 · intro h
   unfold I64 at h
   by_cases h0 : 0 < b
   · rw [decide_eq_true h0]
     simp only [Bool.not_true, decide_eq_false_iff_not]; unfold wrap64; omega
   · rw [decide_eq_false h0]
     simp only [Bool.not_false, decide_eq_true_eq]; unfold wrap64; omega
def addW (w : World) (a b n : Int) : World :=
 ((((w.alloc (.cells #[.int .i64 a] 2)).alloc (.cells #[.int .i64 b] 2)).alloc (.cells #[.int .i64 n] 2)).alloc (.cells #[.int .i64 0] 24))
theorem addW_up (w : World) (a b n : Int) : Up w (addW w a b n) := ((((Up.refl _).alloc _).alloc _).alloc _).alloc _
theorem addW_cells (w : World) (a b n : Int) : (addW w a b n).cell? ⟨w.heap.size, 0, none⟩ = some (.int .i64 a) /\ (addW w a b n).cell? ⟨w.heap.size + 1, 0, none⟩ = some (.int .i64 b) /\
  (addW w a b n).cell? ⟨w.heap.size + 1 + 1, 0, none⟩ = some (.int .i64 n) /\ (addW w a b n).cell? ⟨w.heap.size + 1 + 1 + 1, 0, none⟩ = some (.int .i64 0) /\
  (addW w a b n).frozen? ⟨w.heap.size + 1 + 1, 0, none⟩ = false /\ (addW w a b n).frozen? ⟨w.heap.size + 1 + 1 + 1, 0, none⟩ = false := by
 refine ⟨?_, ?_, ?_, ?_, ?_, ?_⟩ <;> simp [addW, go_sem]
theorem add_door_fits (w : World) (a b n m : Int) (tmps : Array Value) (h4 : tmps.getD 4 undef = .pointer (some ⟨w.heap.size + 1 + 1, 0, none⟩)) (h5 : tmps.getD 5 undef = .pointer (some ⟨w.heap.size + 1 + 1 + 1, 0, none⟩))
  (hc : decide (a < n) = decide (0 < b)) (hm : n = m) :
  Leaves Tryz.prog Tryz.f57 tmps (fun e w' => e = Ending.returned (.tuple #[.int .i64 m, .int .i64 0]) /\ Up w w')
   [{ target := Target.fn (Fn.func 96) #[.pointer (some ⟨w.heap.size + 1 + 1, 0, none⟩), .pointer (some ⟨w.heap.size, 0, none⟩), .pointer (some ⟨w.heap.size + 1, 0, none⟩), .pointer (some ⟨w.heap.size + 1 + 1 + 1, 0, none⟩)], args := #[] }]
   .returning (addW w a b n) := by
 obtain ⟨c0, c1, c2, c3, f2, f3⟩ := addW_cells w a b n
 rw [Array.getD_eq_getD_getElem?] at h4 h5
 refine leaves_cons (f := 96) (args := #[.pointer (some ⟨w.heap.size + 1 + 1, 0, none⟩), .pointer (some ⟨w.heap.size, 0, none⟩), .pointer (some ⟨w.heap.size + 1, 0, none⟩), .pointer (some ⟨w.heap.size + 1 + 1 + 1, 0, none⟩)]) (by simp) (by simp [go_sem]) ?_
 refine (addD_same _ _ _ _ n a b _ _ _ c2 c0 c1 hc rfl).mono ?_
 rintro e u' w'' ⟨rfl, rfl, rfl⟩
 subst hm
 simp [Leaves, settle, results, Tryz.results57, go_sem, h4, h5, c2, c3, addW_up]
theorem add_door_over (w : World) (a b n : Int) (tmps : Array Value) (h4 : tmps.getD 4 undef = .pointer (some ⟨w.heap.size + 1 + 1, 0, none⟩)) (h5 : tmps.getD 5 undef = .pointer (some ⟨w.heap.size + 1 + 1 + 1, 0, none⟩))
  (hc : decide (a < n) = !decide (0 < b)) :
  Leaves Tryz.prog Tryz.f57 tmps (fun e w' => e = Ending.returned (.tuple #[.int .i64 0, .int .i64 15]) /\ Up w w')
   [{ target := Target.fn (Fn.func 96) #[.pointer (some ⟨w.heap.size + 1 + 1, 0, none⟩), .pointer (some ⟨w.heap.size, 0, none⟩), .pointer (some ⟨w.heap.size + 1, 0, none⟩), .pointer (some ⟨w.heap.size + 1 + 1 + 1, 0, none⟩)], args := #[] }]
   .returning (addW w a b n) := by
 obtain ⟨c0, c1, c2, c3, f2, f3⟩ := addW_cells w a b n
 rw [Array.getD_eq_getD_getElem?] at h4 h5
 refine leaves_cons (f := 96) (args := #[.pointer (some ⟨w.heap.size + 1 + 1, 0, none⟩), .pointer (some ⟨w.heap.size, 0, none⟩), .pointer (some ⟨w.heap.size + 1, 0, none⟩), .pointer (some ⟨w.heap.size + 1 + 1 + 1, 0, none⟩)]) (by simp) (by simp [go_sem]) ?_
 refine (addD_over _ _ _ _ n a b _ _ _ c2 c0 c1 c3 f2 f3 (by simp) hc (by simp)).mono ?_
 rintro e u' w'' ⟨rfl, rfl, rfl⟩
 have e2 : (((addW w a b n).setCell ⟨w.heap.size + 1 + 1, 0, none⟩ (.int .i64 0)).setCell ⟨w.heap.size + 1 + 1 + 1, 0, none⟩ (.int .i64 15)).cell? ⟨w.heap.size + 1 + 1, 0, none⟩ = some (.int .i64 0) := by
  rw [World.cell?_setCell_other _ _ _ _ (by simp)]; exact World.cell?_setCell_same _ _ _ c2
 have e3 : (((addW w a b n).setCell ⟨w.heap.size + 1 + 1, 0, none⟩ (.int .i64 0)).setCell ⟨w.heap.size + 1 + 1 + 1, 0, none⟩ (.int .i64 15)).cell? ⟨w.heap.size + 1 + 1 + 1, 0, none⟩ = some (.int .i64 15) := by
  refine World.cell?_setCell_same _ _ _ (u := .int .i64 0) ?_; rw [World.cell?_setCell_other _ _ _ _ (by simp)]; exact c3
 have hu : Up w (((addW w a b n).setCell ⟨w.heap.size + 1 + 1, 0, none⟩ (.int .i64 0)).setCell ⟨w.heap.size + 1 + 1 + 1, 0, none⟩ (.int .i64 15)) :=
  ((addW_up w a b n).setCell (by show _ <= w.heap.size + 1 + 1; omega) _).setCell (by show _ <= w.heap.size + 1 + 1 + 1; omega) _
 simp [Leaves, settle, results, Tryz.results57, go_sem, h4, h5, e2, e3, hu]
theorem add_fits (a b : Int) (w : World) (ha : I64 a) (hb : I64 b) (h : I64 (a + b)) :
   Calls Tryz.prog 57 #[.int .i64 a, .int .i64 b] w fun e w' => e = .returned (.tuple #[.int .i64 (a + b), .int .i64 0]) /\ Up w w' := by
 have hmf : ∀ (fn : Fn) (first cap : Array Value) (w : World), (Instr.makeFunc fn first cap).run Tryz.prog w = .ok (.func fn first cap) w := fun _ _ _ _ => rfl
 obtain ⟨hw, hc⟩ := (add_cmp a b ha hb).1 h
 by_cases h0 : b = 0
 · subst h0
   clear hw hc; go_enter_defers Tryz.func57, Tryz.ntmps57; go_wp2; exact add_door_fits w a 0 a _ _ rfl rfl (by simp) (by omega)
 · have HW := Lib.hid hw
   have HC := Lib.hid hc; clear hw hc
   have c1 : (b == 0) = false := by rw [beq_eq_false_iff_ne]; exact h0
   obtain ⟨h1, h2⟩ := h; go_enter_defers Tryz.func57, Tryz.ntmps57; go_wp2; exact add_door_fits w a b (a + b) _ _ rfl rfl HC.out rfl
theorem add_over (a b : Int) (w : World) (ha : I64 a) (hb : I64 b) (h : ¬ I64 (a + b)) :
  Calls Tryz.prog 57 #[.int .i64 a, .int .i64 b] w fun e w' => e = .returned (.tuple #[.int .i64 0, .int .i64 15]) /\ Up w w' := by
 have hmf : ∀ (fn : Fn) (first cap : Array Value) (w : World), (Instr.makeFunc fn first cap).run Tryz.prog w = .ok (.func fn first cap) w := fun _ _ _ _ => rfl
 have hc := (add_cmp a b ha hb).2 h
 have h0 : b ≠ 0 := by
  rintro rfl; exact h (by rw [Int.add_zero]; exact ha)
 have c1 : (b == 0) = false := by rw [beq_eq_false_iff_ne]; exact h0
 have HC := Lib.hid hc
 clear hc h
 go_enter_defers Tryz.func57, Tryz.ntmps57
 go_wp2
 exact add_door_over w a b (wrap64 (a + b)) _ rfl rfl HC.out
end Go.Proofs.YtoghoddjkdoohaaGreatDoor
namespace Go.Proofs.YtoghoddjkdoohaaGreatDoor.Dg
def p10 : Nat -> Int
 | 0 => 1
 | n + 1 => 10 * p10 n
def val : List Int -> Int
 | [] => 0
 | d :: l => d + 10 * val l
def Digs (l : List Int) : Prop := ∀ d ∈ l, 0 <= d /\ d <= 9
def dig (l : List Int) (i : Nat) : Int := l.getD i 0
theorem p10_pos (n : Nat) : 1 <= p10 n := by
 induction n with
 | zero => decide
 | succ n ih => rw [p10]; omega
theorem p10_add (m n : Nat) : p10 (m + n) = p10 m * p10 n := by
 induction m with
 | zero => simp [p10]
 | succ m ih => rw [Nat.succ_add, p10, ih, p10, Int.mul_assoc]
theorem p10_mono {m n : Nat} (h : m <= n) : p10 m <= p10 n := by
 obtain ⟨k, rfl⟩ : ∃ k, n = m + k := ⟨n - m, by omega⟩
 clear h
 induction k with
 | zero => exact Int.le_refl _
 | succ k ih =>
   have := p10_pos (m + k); rw [<- Nat.add_assoc, p10]; omega
theorem val_append (a b : List Int) : val (a ++ b) = val a + p10 a.length * val b := by
 induction a with
 | nil => simp [val, p10]
 | cons d a ih =>
   rw [List.cons_append, val, ih, val, List.length_cons, p10, Int.mul_assoc]; omega
theorem val_snoc (l : List Int) (d : Int) : val (l ++ [d]) = val l + p10 l.length * d := by
 rw [val_append]; simp [val]
theorem Digs.cons {d : Int} {l : List Int} (h : Digs (d :: l)) : (0 <= d /\ d <= 9) /\ Digs l := ⟨h d (by simp), fun x hx => h x (by simp [hx])⟩
theorem Digs.append {a b : List Int} (h : Digs a) (k : Digs b) : Digs (a ++ b) := by
 intro d hd
 rcases List.mem_append.1 hd with hd | hd
 · exact h d hd
 · exact k d hd
theorem Digs.one {d : Int} (h : 0 <= d /\ d <= 9) : Digs [d] := by intro x hx; simp at hx; subst hx; exact h
theorem Digs.nil : Digs [] := by intro d hd; simp at hd
theorem Digs.take {l : List Int} (h : Digs l) (n : Nat) : Digs (l.take n) := fun d hd => h d (List.mem_of_mem_take hd)
theorem Digs.drop {l : List Int} (h : Digs l) (n : Nat) : Digs (l.drop n) := fun d hd => h d (List.mem_of_mem_drop hd)
theorem dig_bd {l : List Int} (h : Digs l) (i : Nat) : 0 <= dig l i /\ dig l i <= 9 := by
 unfold dig
 by_cases hi : i < l.length
 · have e : l.getD i 0 = l[i] := by simp [List.getD, hi]
   rw [e]; exact h _ (List.getElem_mem hi)
 · rw [show l.getD i 0 = 0 by simp [List.getD, Nat.not_lt.1 hi]]; omega
theorem dig_none {l : List Int} {i : Nat} (h : l.length <= i) : dig l i = 0 := by simp [dig, List.getD, h]
theorem dig_some {l : List Int} {i : Nat} (h : i < l.length) : l[i]? = some (dig l i) := by simp [dig, List.getD, h]
theorem val_nonneg {l : List Int} (h : Digs l) : 0 <= val l := by
 induction l with
 | nil => simp [val]
 | cons d l ih => have := h.cons; have := ih this.2; rw [val]; omega
theorem val_lt {l : List Int} (h : Digs l) : val l < p10 l.length := by
 induction l with
 | nil => simp [val, p10]
 | cons d l ih => have := h.cons; have := ih this.2; rw [val, List.length_cons, p10]; omega
theorem take_succ (l : List Int) (i : Nat) (h : i < l.length) : l.take (i + 1) = l.take i ++ [dig l i] := by
 rw [List.take_succ_eq_append_getElem h]; simp [dig, List.getD, h]
theorem val_take_succ (l : List Int) (i : Nat) : val (l.take (i + 1)) = val (l.take i) + p10 i * dig l i := by
 by_cases h : i < l.length
 · rw [take_succ l i h, val_snoc, List.length_take, Nat.min_eq_left (by omega)]
 · rw [List.take_of_length_le (by omega), List.take_of_length_le (by omega), dig_none (by omega)]; simp
def addS (a b : List Int) : Nat -> List Int × Int
 | 0 => ([], 0)
 | i + 1 => ((addS a b i).1 ++ [(dig a i + dig b i + (addS a b i).2) % 10], (dig a i + dig b i + (addS a b i).2) / 10)
theorem addS_inv {a b : List Int} (ha : Digs a) (hb : Digs b) (i : Nat) :
   (addS a b i).1.length = i /\ Digs (addS a b i).1 /\ 0 <= (addS a b i).2 /\ (addS a b i).2 <= 1 /\ val (addS a b i).1 + p10 i * (addS a b i).2 = val (a.take i) + val (b.take i) := by
 induction i with
 | zero => simp [addS, Digs, val]
 | succ i ih =>
   obtain ⟨h1, h2, h3, h4, h5⟩ := ih; have da := dig_bd ha i; have db := dig_bd hb i; simp only [addS]; refine ⟨by simp [h1], h2.append (Digs.one (by omega)), by omega, by omega, ?_⟩; rw [val_snoc, h1, val_take_succ, val_take_succ, p10]; generalize (addS a b i).2 = c at *
   have e : dig a i + dig b i + c = 10 * ((dig a i + dig b i + c) / 10) + (dig a i + dig b i + c) % 10 := by omega
   generalize (dig a i + dig b i + c) / 10 = q at *; generalize (dig a i + dig b i + c) % 10 = r at *
   have e2 : p10 i * (dig a i + dig b i + c) = p10 i * (10 * q + r) := by rw [e]
   rw [Int.mul_add, Int.mul_add, Int.mul_add, <- Int.mul_assoc, Int.mul_comm (p10 i) 10] at e2; omega
theorem addS_end {a b : List Int} (ha : Digs a) (hb : Digs b) (i : Nat) (h1 : a.length < i) (h2 : b.length < i) : (addS a b i).2 = 0 := by
 match i, h1, h2 with
 | i + 1, h1, h2 =>
   have := addS_inv ha hb i; simp only [addS]; rw [dig_none (by omega), dig_none (by omega)]; omega
theorem addS_val {a b : List Int} (ha : Digs a) (hb : Digs b) (i : Nat) (h1 : a.length <= i) (h2 : b.length <= i) (h3 : (addS a b i).2 = 0) : val (addS a b i).1 = val a + val b := by
 have := (addS_inv ha hb i).2.2.2.2
 rw [h3, List.take_of_length_le h1, List.take_of_length_le h2] at this
 omega
def subS (a b : List Int) : Nat -> List Int × Int
 | 0 => ([], 0)
 | i + 1 => ((subS a b i).1 ++ [(dig a i - dig b i - (subS a b i).2) % 10], if dig a i - dig b i - (subS a b i).2 < 0 then 1 else 0)
theorem subS_inv {a b : List Int} (ha : Digs a) (hb : Digs b) (i : Nat) :
   (subS a b i).1.length = i /\ Digs (subS a b i).1 /\ 0 <= (subS a b i).2 /\ (subS a b i).2 <= 1 /\ val (subS a b i).1 - p10 i * (subS a b i).2 = val (a.take i) - val (b.take i) := by
 induction i with
 | zero => simp [subS, Digs, val]
 | succ i ih =>
   obtain ⟨h1, h2, h3, h4, h5⟩ := ih; have da := dig_bd ha i; have db := dig_bd hb i; simp only [subS]; refine ⟨by simp [h1], h2.append (Digs.one (by omega)), by split <;> omega, by split <;> omega, ?_⟩; rw [val_snoc, h1, val_take_succ, val_take_succ, p10]; generalize (subS a b i).2 = c at *
   have e : dig a i - dig b i - c = -10 * (if dig a i - dig b i - c < 0 then 1 else 0) + (dig a i - dig b i - c) % 10 := by split <;> omega
   generalize (if dig a i - dig b i - c < 0 then (1 : Int) else 0) = q at *; generalize (dig a i - dig b i - c) % 10 = r at *
   have e2 : p10 i * (dig a i - dig b i - c) = p10 i * (-10 * q + r) := by rw [e]
   rw [Int.mul_sub, Int.mul_sub, Int.mul_add, <- Int.mul_assoc, Int.mul_comm (p10 i) (-10), Int.mul_assoc] at e2; rw [Int.mul_assoc]; omega
theorem subS_val {a b : List Int} (ha : Digs a) (hb : Digs b) (hl : b.length <= a.length) (h : val b <= val a) : val (subS a b a.length).1 = val a - val b /\ (subS a b a.length).2 = 0 := by
 obtain ⟨h1, h2, h3, h4, h5⟩ := subS_inv ha hb a.length
 rw [List.take_of_length_le (Nat.le_refl _), List.take_of_length_le hl] at h5
 have hv := val_lt h2
 rw [h1] at hv
 have hc : (subS a b a.length).2 = 0 \/ (subS a b a.length).2 = 1 := by omega
 rcases hc with hc | hc
 · rw [hc] at h5
   exact ⟨by omega, hc⟩
 · rw [hc] at h5
   omega
def Canon (l : List Int) : Prop := Digs l /\ (l = [] \/ dig l (l.length - 1) ≠ 0)
theorem Canon.low {l : List Int} (h : Canon l) (hn : l ≠ []) : p10 (l.length - 1) <= val l := by
 obtain ⟨hd, h⟩ := h
 have hlen : 0 < l.length := List.length_pos_iff.2 hn
 have h0 : dig l (l.length - 1) ≠ 0 := by rcases h with h | h; exact absurd h hn; exact h
 have e := val_take_succ l (l.length - 1)
 rw [show l.length - 1 + 1 = l.length by omega, List.take_of_length_le (Nat.le_refl _)] at e
 have b := dig_bd hd (l.length - 1)
 have v := val_nonneg (hd.take (l.length - 1))
 have p := p10_pos (l.length - 1)
 have m : p10 (l.length - 1) * 1 <= p10 (l.length - 1) * dig l (l.length - 1) := Int.mul_le_mul_of_nonneg_left (by omega) (by omega)
 omega
theorem Canon.lt_of_len {a b : List Int} (ha : Canon a) (hb : Canon b) (h : a.length < b.length) : val a < val b := by
 have h1 := val_lt ha.1
 have h2 := hb.low (by intro e; subst e; simp at h)
 have h3 : p10 a.length <= p10 (b.length - 1) := p10_mono (by omega)
 omega
theorem val_split (l : List Int) (i : Nat) (h : i <= l.length) : val l = val (l.take i) + p10 i * val (l.drop i) := by
 have := val_append (l.take i) (l.drop i)
 rw [List.take_append_drop, List.length_take, Nat.min_eq_left h] at this
 exact this
theorem lt_of_top {a b : List Int} (ha : Digs a) (hb : Digs b) (i : Nat) (h1 : i < a.length) (h2 : i < b.length) (hd : a.drop (i + 1) = b.drop (i + 1)) (hlt : dig a i < dig b i) : val a < val b := by
 rw [val_split a (i + 1) (by omega), val_split b (i + 1) (by omega), hd, val_take_succ, val_take_succ]
 have a1 := val_lt (ha.take i)
 have b1 := val_nonneg (hb.take i)
 rw [List.length_take, Nat.min_eq_left (by omega)] at a1
 have p := p10_pos i
 have m : p10 i * (dig a i + 1) <= p10 i * dig b i := Int.mul_le_mul_of_nonneg_left (by omega) (by omega)
 rw [Int.mul_add] at m
 omega
def dl (n : Nat) : List Int := if h : n = 0 then [] else ((n % 10 : Nat) : Int) :: dl (n / 10)
termination_by n
decreasing_by omega
theorem dl_zero : dl 0 = [] := by rw [dl, dif_pos rfl]
theorem dl_pos {n : Nat} (h : n ≠ 0) : dl n = ((n % 10 : Nat) : Int) :: dl (n / 10) := by rw [dl, dif_neg h]
theorem dl_digs (n : Nat) : Digs (dl n) := by
 induction n using Nat.strongRecOn with
 | _ n ih =>
   by_cases h : n = 0
   · subst h; rw [dl_zero]; exact Digs.nil
   · rw [dl_pos h]
     intro d hd; rcases List.mem_cons.1 hd with rfl | hd
     · omega
     · exact ih (n / 10) (by omega) d hd
theorem dl_val (n : Nat) : val (dl n) = n := by
 induction n using Nat.strongRecOn with
 | _ n ih =>
   by_cases h : n = 0
   · subst h; rw [dl_zero]; rfl
   · rw [dl_pos h, val, ih (n / 10) (by omega)]; omega
theorem dl_nil {n : Nat} (h : dl n = []) : n = 0 := by
 by_cases hn : n = 0
 · exact hn
 · rw [dl_pos hn] at h; simp at h
theorem dig_succ (d : Int) (l : List Int) (i : Nat) : dig (d :: l) (i + 1) = dig l i := by simp [dig, List.getD]
theorem dig_zero (d : Int) (l : List Int) : dig (d :: l) 0 = d := by simp [dig, List.getD]
theorem dl_canon (n : Nat) : Canon (dl n) := by
 refine ⟨dl_digs n, ?_⟩
 induction n using Nat.strongRecOn with
 | _ n ih =>
   by_cases h : n = 0
   · subst h; exact Or.inl dl_zero
   · right
     rw [dl_pos h]; rcases ih (n / 10) (by omega) with e | e
     · have := dl_nil e
       rw [e]; simp [dig, List.getD]; omega
     · have hne : dl (n / 10) ≠ [] := by
        intro e2; rw [e2] at e; simp [dig, List.getD] at e
       have hl : 0 < (dl (n / 10)).length := List.length_pos_iff.2 hne; rw [List.length_cons, show (dl (n / 10)).length + 1 - 1 = (dl (n / 10)).length - 1 + 1 by omega, dig_succ]; exact e
theorem Canon.tail {d : Int} {l : List Int} (h : Canon (d :: l)) : Canon l := by
 obtain ⟨hd, h⟩ := h
 refine ⟨hd.cons.2, ?_⟩
 rcases h with h | h
 · simp at h
 · by_cases hn : l = []
   · exact Or.inl hn
   · right
     have hl : 0 < l.length := List.length_pos_iff.2 hn; rw [List.length_cons, show l.length + 1 - 1 = l.length - 1 + 1 by omega, dig_succ] at h; exact h
theorem Canon.eq_dl {l : List Int} (h : Canon l) : l = dl (val l).toNat := by
 induction l with
 | nil => simp [val, dl_zero]
 | cons d l ih =>
   have ht := ih h.tail; obtain ⟨hb, hd⟩ := h.1.cons; have hv := val_nonneg hd
   have hne : (val (d :: l)).toNat ≠ 0 := by
    have := h.low (by simp); have := p10_pos ((d :: l).length - 1); omega
   rw [dl_pos hne]
   have e1 : (((val (d :: l)).toNat % 10 : Nat) : Int) = d := by rw [val] at *; omega
   have e2 : (val (d :: l)).toNat / 10 = (val l).toNat := by rw [val] at *; omega
   rw [e1, e2, <- ht]
theorem Canon.eq_of {l : List Int} {n : Nat} (h : Canon l) (hv : val l = n) : l = dl n := by
 have := h.eq_dl
 rw [hv] at this
 simpa using this
theorem dl_len {n k : Nat} (h : (n : Int) < p10 k) : (dl n).length <= k := by
 by_cases hn : dl n = []
 · rw [hn]; simp
 · have := (dl_canon n).low hn
   rw [dl_val] at this
   by_cases hc : (dl n).length <= k
   · exact hc
   · have := p10_mono (show k <= (dl n).length - 1 by omega)
     omega
theorem trim_canon {l : List Int} {k : Nat} (hd : Digs l) (hk : k <= l.length) (hz : ∀ j, k <= j -> dig l j = 0) (he : k = 0 \/ dig l (k - 1) ≠ 0) : Canon (l.take k) /\ val (l.take k) = val l := by
 refine ⟨⟨hd.take k, ?_⟩, ?_⟩
 · rcases he with rfl | he
   · left; simp
   · by_cases h0 : k = 0
     · subst h0; left; simp
     · right
       rw [List.length_take, Nat.min_eq_left hk]
       have : dig (l.take k) (k - 1) = dig l (k - 1) := by
        simp only [dig, List.getD, List.getElem?_take]; rw [if_pos (by omega)]
       rw [this]; exact he
 · have aux : ∀ n, val (l.take (k + n)) = val (l.take k) := by
     intro n
     induction n with
     | zero => rfl
     | succ n ih => rw [<- Nat.add_assoc, val_take_succ, hz _ (by omega), ih]; simp
   have := aux (l.length - k); rw [show k + (l.length - k) = l.length by omega, List.take_of_length_le (Nat.le_refl _)] at this; exact this.symm
end Go.Proofs.YtoghoddjkdoohaaGreatDoor.Dg
namespace Go.Proofs.YtoghoddjkdoohaaGreatDoor.Dg
theorem val_set (l : List Int) (i : Nat) (x : Int) (h : i < l.length) : val (l.set i x) = val l + p10 i * (x - dig l i) := by
 induction l generalizing i with
 | nil => simp at h
 | cons d l ih =>
   cases i with
   | zero => simp [val, p10, dig_zero]; omega
   | succ i =>
     rw [List.set_cons_succ, val, ih i (by simpa using h), val, dig_succ, p10, Int.mul_assoc]; omega
theorem dig_set_other (l : List Int) (i j : Nat) (x : Int) (h : i ≠ j) : dig (l.set i x) j = dig l j := by simp [dig, List.getD, List.getElem?_set_ne h]
theorem Digs.set {l : List Int} (hl : Digs l) (i : Nat) {x : Int} (h : 0 <= x /\ x <= 9) : Digs (l.set i x) := by
 intro d hd
 rcases List.mem_or_eq_of_mem_set hd with hd | rfl
 · exact hl d hd
 · exact h
def rowS (O : List Int) (x : Int) (b : List Int) (i : Nat) : Nat -> List Int × Int
 | 0 => (O, 0)
 | k + 1 => ((rowS O x b i k).1.set (i + k) ((dig (rowS O x b i k).1 (i + k) + x * dig b k + (rowS O x b i k).2) % 10), (dig (rowS O x b i k).1 (i + k) + x * dig b k + (rowS O x b i k).2) / 10)
theorem mul_bd {x y : Int} (hx : 0 <= x /\ x <= 9) (hy : 0 <= y /\ y <= 9) : 0 <= x * y /\ x * y <= 81 := by
 refine ⟨Int.mul_nonneg hx.1 hy.1, ?_⟩
 have := Int.mul_le_mul hx.2 hy.2 hy.1 (by omega : (0 : Int) <= 9)
 omega
theorem rowS_inv {O b : List Int} {x : Int} (hO : Digs O) (hx : 0 <= x /\ x <= 9) (hb : Digs b) (i k : Nat) (hk : i + k <= O.length) :
   (rowS O x b i k).1.length = O.length /\ Digs (rowS O x b i k).1 /\ 0 <= (rowS O x b i k).2 /\ (rowS O x b i k).2 <= 9 /\ (∀ j, i + k <= j -> dig (rowS O x b i k).1 j = dig O j) /\
     val (rowS O x b i k).1 + p10 (i + k) * (rowS O x b i k).2 = val O + p10 i * (x * val (b.take k)) := by
 induction k with
 | zero => exact ⟨rfl, hO, by simp [rowS], by simp [rowS], fun _ _ => rfl, by simp [rowS, val]⟩
 | succ k ih =>
   obtain ⟨h1, h2, h3, h4, h5, h6⟩ := ih (by omega); have d0 := dig_bd h2 (i + k); have xb := mul_bd hx (dig_bd hb k); simp only [rowS]; refine ⟨by simp [h1], h2.set _ (by omega), by omega, by omega, ?_, ?_⟩
   · intro j hj
     rw [dig_set_other _ _ _ _ (by omega)]; exact h5 j (by omega)
   · rw [val_set _ _ _ (by omega), val_take_succ, <- Nat.add_assoc, p10]
     generalize (rowS O x b i k).2 = c at *; generalize dig (rowS O x b i k).1 (i + k) = z at *; have e : z + x * dig b k + c = 10 * ((z + x * dig b k + c) / 10) + (z + x * dig b k + c) % 10 := (by omega); generalize (z + x * dig b k + c) / 10 = q at *; generalize (z + x * dig b k + c) % 10 = r at *; have e2 : p10 (i + k) * (z + x * dig b k + c) = p10 (i + k) * (10 * q + r) := (by rw [e]); rw [Int.mul_add, Int.mul_add, Int.mul_add, <- Int.mul_assoc (p10 (i + k)) 10, Int.mul_comm (p10 (i + k)) 10] at e2
     have e3 : p10 i * (x * (val (b.take k) + p10 k * dig b k)) = p10 i * (x * val (b.take k)) + p10 (i + k) * (x * dig b k) := by
      rw [Int.mul_add, Int.mul_add, p10_add, Int.mul_assoc, Int.mul_left_comm x]
     rw [e3, Int.mul_sub]; omega
theorem rowS_fin {O a b : List Int} (hO : Digs O) (ha : Digs a) (hb : Digs b) (i k : Nat) (hi : i < a.length) (hlen : O.length = a.length + b.length + 1) (hz : ∀ j, i + b.length <= j -> dig O j = 0) (hv : val O = val (a.take i) * val b)
  (h1 : b.length <= k) (h2 : k <= b.length + 1) (hc : (rowS O (dig a i) b i k).2 = 0) :
  (∀ j, i + 1 + b.length <= j -> dig (rowS O (dig a i) b i k).1 j = 0) /\ val (rowS O (dig a i) b i k).1 = val (a.take (i + 1)) * val b := by
 obtain ⟨g1, g2, g3, g4, g5, g6⟩ := rowS_inv hO (dig_bd ha i) hb i k (by omega)
 refine ⟨fun j hj => by rw [g5 j (by omega)]; exact hz j (by omega), ?_⟩
 rw [hc, List.take_of_length_le h1, hv] at g6
 rw [val_take_succ, Int.add_mul, Int.mul_assoc]
 omega
def ch (d : Int) : UInt8 := UInt8.ofNat (48 + d.toNat)
theorem decDigits_dl (u : Nat) (h : u ≠ 0) : Lib.decDigits u = (dl u).reverse.map ch := by
 induction u using Nat.strongRecOn with
 | _ u ih =>
   by_cases hu : u < 10
   · rw [Lib.decDigits, dif_pos hu, dl_pos h, show u / 10 = 0 by omega, dl_zero]
     simp [ch, Nat.mod_eq_of_lt hu]
   · rw [Lib.decDigits, dif_neg hu, dl_pos h, ih (u / 10) (by omega) (by omega)]
     rw [List.reverse_cons, List.map_append]; rfl
def nvA (acc : Nat) (l : List UInt8) : Nat := l.foldl (fun a c => a * 10 + (c.toNat - 48)) acc
theorem nvA_nil (acc : Nat) : nvA acc [] = acc := rfl
theorem nvA_cons (acc : Nat) (c : UInt8) (r : List UInt8) : nvA acc (c :: r) = nvA (acc * 10 + (c.toNat - 48)) r := by unfold nvA; rw [List.foldl_cons]
theorem nvA_le (l : List UInt8) : ∀ acc, acc <= nvA acc l := by
 induction l with
 | nil => intro acc; exact Nat.le_refl _
 | cons c r ih => intro acc; rw [nvA_cons]; have := ih (acc * 10 + (c.toNat - 48)); omega
def isD (c : UInt8) : Prop := 48 <= c.toNat /\ c.toNat <= 57
theorem parse_ok (l : List UInt8) (h : ∀ c ∈ l, isD c) : ∀ acc, nvA acc l <= 18446744073709551615 -> Lib.parseUintM 18446744073709551615 acc l = .ok (nvA acc l) := by
 induction l with
 | nil => intro acc _; rfl
 | cons c r ih =>
   intro acc hle; rw [nvA_cons] at hle; have h1 := nvA_le r (acc * 10 + (c.toNat - 48)); have hd := h c (by simp); unfold isD at hd; rw [Lib.parseUintM, if_pos hd, if_neg (by omega), if_neg (by omega), ih (fun x hx => h x (by simp [hx])) _ hle, nvA_cons]
theorem parse_range (l : List UInt8) (h : ∀ c ∈ l, isD c) : ∀ acc, acc <= 18446744073709551615 -> 18446744073709551615 < nvA acc l -> Lib.parseUintM 18446744073709551615 acc l = .range := by
 induction l with
 | nil => intro acc h1 h2; rw [nvA_nil] at h2; omega
 | cons c r ih =>
   intro acc h1 hle; rw [nvA_cons] at hle; have hd := h c (by simp); unfold isD at hd; rw [Lib.parseUintM, if_pos hd]
   by_cases h2 : 1844674407370955162 <= acc
   · rw [if_pos h2]
   · rw [if_neg h2]
     by_cases h3 : 18446744073709551615 < acc * 10 + (c.toNat - 48)
     · rw [if_pos h3]
     · rw [if_neg h3]; exact ih (fun x hx => h x (by simp [hx])) _ (by omega) hle
def dv (c : UInt8) : Int := (c.toNat : Int) - 48
theorem nvA_val (l : List UInt8) (h : ∀ c ∈ l, isD c) : ∀ acc, (nvA acc l : Int) = acc * p10 l.length + val (l.reverse.map dv) := by
 induction l with
 | nil => intro acc; simp [nvA_nil, p10, val]
 | cons c r ih =>
   intro acc; have hd := h c (by simp); unfold isD at hd; rw [nvA_cons, ih (fun x hx => h x (by simp [hx])), List.reverse_cons, List.map_append, val_append]; simp only [List.length_map, List.length_reverse, List.length_cons, List.map_cons, List.map_nil, val, p10]
   have e : ((acc * 10 + (c.toNat - 48) : Nat) : Int) = acc * 10 + dv c := by unfold dv; omega
   rw [e, Int.add_mul, Int.mul_assoc, Int.mul_comm (dv c)]; simp; omega
theorem dv_digs (l : List UInt8) (h : ∀ c ∈ l, isD c) : Digs (l.reverse.map dv) := by
 intro d hd
 simp only [List.mem_map, List.mem_reverse] at hd
 obtain ⟨c, hc, rfl⟩ := hd
 have := h c hc
 unfold isD at this
 unfold dv; omega
theorem ch_isD (d : Int) (h : 0 <= d /\ d <= 9) : isD (ch d) /\ dv (ch d) = d := by
 unfold isD ch dv
 have : (UInt8.ofNat (48 + d.toNat)).toNat = 48 + d.toNat := by simp; omega
 rw [this]; omega
end Go.Proofs.YtoghoddjkdoohaaGreatDoor.Dg
namespace Go.Proofs.YtoghoddjkdoohaaGreatDoor
set_option maxHeartbeats 400000
open Go.RowKit
structure Dn (w w' : World) : Prop where
 below : Below w.heap.size w w'
theorem Dn.refl (a : World) : Dn a a := ⟨Below.refl _ _⟩
theorem Dn.size {a b : World} (h : Dn a b) : a.heap.size <= b.heap.size := h.below.size
theorem Dn.trans {a b c : World} (h : Dn a b) (k : Dn b c) : Dn a c := ⟨h.below.trans (k.below.mono h.below.size)⟩
theorem Dn.drew {a b : World} (h : Dn a b) : Dn a b.drew := ⟨h.below.drew⟩
theorem Dn.drewN {a b : World} (h : Dn a b) (n : Nat) : Dn a (b.drewN n) := ⟨h.below.trans ⟨rfl, rfl, rfl, Nat.le_refl _, fun _ _ => rfl⟩⟩
theorem Dn.alloc {a b : World} (h : Dn a b) (o : Obj) : Dn a (b.alloc o) := ⟨h.below.alloc h.below.size o⟩
theorem Dn.setCell {a b : World} (h : Dn a b) {p : Addr} (hp : a.heap.size <= p.block) (u : Value) : Dn a (b.setCell p u) := ⟨h.below.setCell hp u⟩
theorem Dn.sC {a b : World} (h : Dn a b) {p : Addr} {u : Value} (hp : a.heap.size <= p.block := by (simp <;> omega)) : Dn a (b.setCell p u) := h.setCell hp u
theorem Dn.cell {w w' : World} {a : Addr} {v : Value} (hb : Dn w w') (h : w.cell? a = some v) : w'.cell? a = some v := cell_below hb.below h
theorem Dn.frozen {w w' : World} {a : Addr} (hb : Dn w w') (ha : a.block < w.heap.size) : w'.frozen? a = w.frozen? a := hb.below.frozen ha
theorem fz {w w' : World} (q : Dn w w') {a : Addr} {r : Bool} (e : w.frozen? a = r) (h : a.block < w.heap.size) : w'.frozen? a = r := (q.frozen h).trans e
theorem Up.dn {a b : World} (h : Up a b) : Dn a b := ⟨h.below⟩
theorem ke {S : World -> Prop} (k : ∀ {w1 w2 : World}, Dn w1 w2 -> S w1 -> S w2) {w2 : World} (h : ∃ w1, Dn w1 w2 /\ S w1 := by (first | exact ⟨_, (Dn.refl _).drew, by assumption⟩ | exact ⟨_, ‹Dn _ _›, by assumption⟩ | exact ⟨_, Up.dn ‹Up _ _›, by assumption⟩ | exact ⟨_, Dn.refl _, by assumption⟩ | exact ⟨_, (Dn.refl _).alloc _, by assumption⟩)) : S w2 := h.elim fun _ x => k x.1 x.2
theorem kd_2 {W w1 w2 : World} {a0 a1 : Addr} {v0 v1 : Value} (k : Dn w1 w2) (h : Dn W w1 /\ w1.cell? a0 = some v0 /\ w1.cell? a1 = some v1) :
  Dn W w2 /\ w2.cell? a0 = some v0 /\ w2.cell? a1 = some v1 := by
 obtain ⟨h1, c0, c1⟩ := h
 exact ⟨h1.trans k, k.cell c0, k.cell c1⟩
theorem kd_4 {W w1 w2 : World} {a0 a1 a2 a3 : Addr} {v0 v1 v2 v3 : Value} (k : Dn w1 w2) (h : Dn W w1 /\ w1.cell? a0 = some v0 /\ w1.cell? a1 = some v1 /\ w1.cell? a2 = some v2 /\ w1.cell? a3 = some v3) :
  Dn W w2 /\ w2.cell? a0 = some v0 /\ w2.cell? a1 = some v1 /\ w2.cell? a2 = some v2 /\ w2.cell? a3 = some v3 := by
 obtain ⟨h1, c0, c1, c2, c3⟩ := h
 exact ⟨h1.trans k, k.cell c0, k.cell c1, k.cell c2, k.cell c3⟩
theorem kd_8 {W w1 w2 : World} {a0 a1 a2 a3 a4 a5 a6 a7 : Addr} {v0 v1 v2 v3 v4 v5 v6 v7 : Value} (k : Dn w1 w2) (h : Dn W w1 /\ w1.cell? a0 = some v0 /\ w1.cell? a1 = some v1 /\ w1.cell? a2 = some v2 /\ w1.cell? a3 = some v3 /\ w1.cell? a4 = some v4 /\ w1.cell? a5 = some v5 /\ w1.cell? a6 = some v6 /\ w1.cell? a7 = some v7) :
  Dn W w2 /\ w2.cell? a0 = some v0 /\ w2.cell? a1 = some v1 /\ w2.cell? a2 = some v2 /\ w2.cell? a3 = some v3 /\ w2.cell? a4 = some v4 /\ w2.cell? a5 = some v5 /\ w2.cell? a6 = some v6 /\ w2.cell? a7 = some v7 := by
 obtain ⟨h1, c0, c1, c2, c3, c4, c5, c6, c7⟩ := h
 exact ⟨h1.trans k, k.cell c0, k.cell c1, k.cell c2, k.cell c3, k.cell c4, k.cell c5, k.cell c6, k.cell c7⟩
theorem kd_10 {W w1 w2 : World} {a0 a1 a2 a3 a4 a5 a6 a7 a8 a9 : Addr} {v0 v1 v2 v3 v4 v5 v6 v7 v8 v9 : Value} (k : Dn w1 w2) (h : Dn W w1 /\ w1.cell? a0 = some v0 /\ w1.cell? a1 = some v1 /\ w1.cell? a2 = some v2 /\ w1.cell? a3 = some v3 /\ w1.cell? a4 = some v4 /\ w1.cell? a5 = some v5 /\ w1.cell? a6 = some v6 /\ w1.cell? a7 = some v7 /\ w1.cell? a8 = some v8 /\ w1.cell? a9 = some v9) :
  Dn W w2 /\ w2.cell? a0 = some v0 /\ w2.cell? a1 = some v1 /\ w2.cell? a2 = some v2 /\ w2.cell? a3 = some v3 /\ w2.cell? a4 = some v4 /\ w2.cell? a5 = some v5 /\ w2.cell? a6 = some v6 /\ w2.cell? a7 = some v7 /\ w2.cell? a8 = some v8 /\ w2.cell? a9 = some v9 := by
 obtain ⟨h1, c0, c1, c2, c3, c4, c5, c6, c7, c8, c9⟩ := h
 exact ⟨h1.trans k, k.cell c0, k.cell c1, k.cell c2, k.cell c3, k.cell c4, k.cell c5, k.cell c6, k.cell c7, k.cell c8, k.cell c9⟩
theorem kd_12 {W w1 w2 : World} {a0 a1 a2 a3 a4 a5 a6 a7 a8 a9 a10 a11 : Addr} {v0 v1 v2 v3 v4 v5 v6 v7 v8 v9 v10 v11 : Value} (k : Dn w1 w2) (h : Dn W w1 /\ w1.cell? a0 = some v0 /\ w1.cell? a1 = some v1 /\ w1.cell? a2 = some v2 /\ w1.cell? a3 = some v3 /\ w1.cell? a4 = some v4 /\ w1.cell? a5 = some v5 /\ w1.cell? a6 = some v6 /\ w1.cell? a7 = some v7 /\ w1.cell? a8 = some v8 /\ w1.cell? a9 = some v9 /\ w1.cell? a10 = some v10 /\ w1.cell? a11 = some v11) :
  Dn W w2 /\ w2.cell? a0 = some v0 /\ w2.cell? a1 = some v1 /\ w2.cell? a2 = some v2 /\ w2.cell? a3 = some v3 /\ w2.cell? a4 = some v4 /\ w2.cell? a5 = some v5 /\ w2.cell? a6 = some v6 /\ w2.cell? a7 = some v7 /\ w2.cell? a8 = some v8 /\ w2.cell? a9 = some v9 /\ w2.cell? a10 = some v10 /\ w2.cell? a11 = some v11 := by
 obtain ⟨h1, c0, c1, c2, c3, c4, c5, c6, c7, c8, c9, c10, c11⟩ := h
 exact ⟨h1.trans k, k.cell c0, k.cell c1, k.cell c2, k.cell c3, k.cell c4, k.cell c5, k.cell c6, k.cell c7, k.cell c8, k.cell c9, k.cell c10, k.cell c11⟩
theorem Dn.up {a b c : World} (h : Dn a b) (k : Up b c) : Dn a c := h.trans k.dn
theorem Dn.grown {w w1 w2 : World} {row : Option Nat} (h : Dn w w1) (hg : w1.grownBy w2 row) (hr : ∀ k, row = some k -> w.heap.size <= k) : Dn w w2 :=
 ⟨h.below.trans ⟨hg.os, hg.tape, hg.output, hg.size, fun i hi => hg.block i (by have := h.size; omega) (fun e => by have := hr i e.symm; omega)⟩⟩
theorem max_len : maxLen <= 9223372036854775807 := by decide +kernel
def SlD (w : World) (s : Value) (l : List Int) : Prop :=
 ∃ p cap, s = .slice p l.length cap /\ l.length <= cap /\ cap <= maxLen /\ ∀ (j : Nat) (x : Int), l[j]? = some x -> ∃ g, p = some ⟨g, 0, none⟩ /\ w.cell? ⟨g, j, none⟩ = some (.int .u8 x)
theorem SlD.dn {w w' : World} {s : Value} {l : List Int} (h : SlD w s l) (k : Dn w w') : SlD w' s l := by
 obtain ⟨p, cap, h1, h2, h3, h4⟩ := h
 exact ⟨p, cap, h1, h2, h3, fun j x hx => by obtain ⟨g, hg, hc⟩ := h4 j x hx; exact ⟨g, hg, k.cell hc⟩⟩
theorem SlD.form {w : World} {s : Value} {l : List Int} (h : SlD w s l) : ∃ p n cap, s = .slice p n cap := by
 obtain ⟨p, cap, h1, _⟩ := h
 exact ⟨p, _, cap, h1⟩
theorem SlD.nil (w : World) : SlD w (.slice none 0 0) [] := ⟨none, 0, rfl, by simp, by simp, by simp⟩
theorem SlD.take {w : World} {p : Option Addr} {n cap : Nat} {l : List Int} (h : SlD w (.slice p n cap) l) (k : Nat) (hk : k <= l.length) : SlD w (.slice p k cap) (l.take k) := by
 obtain ⟨p', cap', h1, h2, h3, h4⟩ := h
 injection h1 with e1 e2 e3
 subst e1 e3
 refine ⟨p, cap, by rw [List.length_take, Nat.min_eq_left hk], by rw [List.length_take]; omega, h3, fun j x hx => h4 j x ?_⟩
 rw [List.getElem?_take] at hx
 split at hx
 · exact hx
 · cases hx
theorem SlD.of_own {w : World} {base E n : Nat} {v : Value} {l : List Int} (h : w.ownsRow base E 1 v n (l.map (Value.int .u8))) (hn : n = l.length) : SlD w v l := by
 subst hn
 rcases h.2 with ⟨rfl, hn⟩ | ⟨g, cap, cur, rfl, _, hg, h1, h2, h3, h4⟩
 · have := List.length_eq_zero_iff.1 hn
   subst this; exact SlD.nil w
 · have hcs := h.cells (g := g) rfl
   refine ⟨_, cap, rfl, h1, h2, fun j x hx => ⟨g, rfl, ?_⟩⟩; have := hcs j (.int .u8 x) (by simp [hx])
   have hadd : (⟨g, 0, none⟩ : Addr).add j = ⟨g, j, none⟩ := by unfold Addr.add; split <;> simp_all
   rwa [hadd] at this
theorem rDigit (s : Value) (l : List Int) (k : Nat) (w : World) (hs : SlD w s l) (hd : Dg.Digs l) :
   Calls Tryz.prog 97 #[s, .int .i64 (k : Int)] w fun e w' => e = .returned (.int .i64 (Dg.dig l k)) /\ w = w' := by
 obtain ⟨p, cap, rfl, h1, h2, h3⟩ := hs
 have hm := max_len
 by_cases hlt : k < l.length
 · have c1 : decide ((k : Int) < l.length) = true := by simp; omega
   obtain ⟨g, rfl, hc⟩ := h3 k _ (Dg.dig_some hlt); obtain ⟨d1, d2⟩ := Dg.dig_bd hd k; clear h3 hd; go_enter Tryz.func97, Tryz.ntmps97; go_wp2_with fail; go_ret; exact ⟨rfl, rfl⟩
 · have c1 : decide ((k : Int) < l.length) = false := by simp; omega
   have HD := Lib.hid (Dg.dig_none (l := l) (i := k) (by omega)); clear h3 hd; go_enter Tryz.func97, Tryz.ntmps97; go_wp2_with fail; go_ret; exact ⟨ret1_i HD.out.symm, rfl⟩
structure NBlk (w : World) (B : Nat) (b : Bool) (s : Value) : Prop where
 c0 : w.cell? ⟨B, 0, none⟩ = some (.bool b)
 c1 : w.cell? ⟨B, 1, none⟩ = some s
 f0 : w.frozen? ⟨B, 0, none⟩ = false
 f1 : w.frozen? ⟨B, 1, none⟩ = false
 lt : B < w.heap.size
theorem NBlk.new (w : World) (b : Bool) (s : Value) (t : TypeId) : NBlk (w.alloc (.cells #[.bool b, s] t)) w.heap.size b s :=
 ⟨by simp, by simp, by simp [go_sem], by simp [go_sem], by simp⟩
theorem NBlk.dn {w w' : World} {B : Nat} {b : Bool} {s : Value} (h : NBlk w B b s) (k : Dn w w') : NBlk w' B b s :=
 ⟨k.cell h.c0, k.cell h.c1, (k.frozen (a := ⟨B, 0, none⟩) h.lt).trans h.f0, (k.frozen (a := ⟨B, 1, none⟩) h.lt).trans h.f1, Nat.lt_of_lt_of_le h.lt k.size⟩
theorem NBlk.set1 {w : World} {B : Nat} {b : Bool} {s : Value} (h : NBlk w B b s) (u : Value) : NBlk (w.setCell ⟨B, 1, none⟩ u) B b u := by
 refine ⟨?_, World.cell?_setCell_same _ _ _ h.c1, by simp [go_sem]; exact h.f0, by simp [go_sem]; exact h.f1, by simpa using h.lt⟩
 rw [World.cell?_setCell_other _ _ _ _ (fun e => by simp at e)]
 exact h.c0
theorem NBlk.set0 {w : World} {B : Nat} {b : Bool} {s : Value} (h : NBlk w B b s) (u : Bool) : NBlk (w.setCell ⟨B, 0, none⟩ (.bool u)) B u s := by
 refine ⟨World.cell?_setCell_same _ _ _ h.c0, ?_, by simp [go_sem]; exact h.f0, by simp [go_sem]; exact h.f1, by simpa using h.lt⟩
 rw [World.cell?_setCell_other _ _ _ _ (fun e => by simp at e)]
 exact h.c1
theorem NBlk.far {w : World} {B : Nat} {b : Bool} {s : Value} (h : NBlk w B b s) {p : Addr} (hp : p.block ≠ B) (u : Value) : NBlk (w.setCell p u) B b s := by
 refine ⟨?_, ?_, by simp [go_sem]; exact h.f0, by simp [go_sem]; exact h.f1, by simpa using h.lt⟩
 · rw [World.cell?_setCell_other _ _ _ _ (fun e => by subst e; simp at hp)]
   exact h.c0
 · rw [World.cell?_setCell_other _ _ _ _ (fun e => by subst e; simp at hp)]
   exact h.c1
theorem NBlk.kept {w w' : World} {B : Nat} {b : Bool} {s : Value} {row : Option Nat} (h : NBlk w B b s) (hg : w.grownBy w' row) (hne : row ≠ some B) : NBlk w' B b s := by
 have hb := hg.block B h.lt (fun e => hne e.symm)
 refine ⟨?_, ?_, ?_, ?_, Nat.lt_of_lt_of_le h.lt hg.size⟩
 · rw [World.cell?_of_block hb]; exact h.c0
 · rw [World.cell?_of_block hb]; exact h.c1
 · have := h.f0; simp only [World.frozen?] at this ⊢; rw [hb]; exact this
 · have := h.f1; simp only [World.frozen?] at this ⊢; rw [hb]; exact this
def sg (b : Bool) (n : Int) : Int := if b then -n else n
def IsN (w : World) (v : Value) (x : Int) : Prop := ∃ s, v = .agg #[.bool (decide (x < 0)), s] /\ SlD w s (Dg.dl x.natAbs)
theorem IsN.form {w : World} {v : Value} {x : Int} (h : IsN w v x) : ∃ p n cap, v = .agg #[.bool (decide (x < 0)), .slice p n cap] /\ SlD w (.slice p n cap) (Dg.dl x.natAbs) := by
 obtain ⟨s, h1, h2⟩ := h
 obtain ⟨p, n, cap, rfl⟩ := SlD.form h2
 exact ⟨p, n, cap, h1, h2⟩
theorem IsN.dn {w w' : World} {v : Value} {x : Int} (h : IsN w v x) (k : Dn w w') : IsN w' v x := by
 obtain ⟨s, h1, h2⟩ := h
 exact ⟨s, h1, h2.dn k⟩
theorem IsN.of_canon {w : World} {b : Bool} {s : Value} {l : List Int} (hc : Dg.Canon l) (hs : SlD w s l) (hb : b = decide (sg b (Dg.val l) < 0)) : IsN w (.agg #[.bool b, s]) (sg b (Dg.val l)) := by
 refine ⟨s, by rw [<- hb], ?_⟩
 have hv := Dg.val_nonneg hc.1
 have e : Dg.dl (sg b (Dg.val l)).natAbs = l := by
  refine (hc.eq_of ?_).symm
  unfold sg; split <;> omega
 rw [e]
 exact hs
set_option maxHeartbeats 1000000
def setN (w : World) (B : Nat) (b : Bool) (s : Value) : World := (w.setCell ⟨B, 0, none⟩ (.bool b)).setCell ⟨B, 1, none⟩ s
theorem NBlk.put {w : World} {B : Nat} {b : Bool} {s : Value} (h : NBlk w B b s) (b' : Bool) (s' : Value) : NBlk (setN w B b' s') B b' s' := (h.set0 b').set1 s'
theorem setN_dn {w0 w : World} {B : Nat} (h : Dn w0 w) (hn : w0.heap.size <= B) (b : Bool) (s : Value) : Dn w0 (setN w B b s) :=
 (h.setCell (p := ⟨B, 0, none⟩) hn _).setCell (p := ⟨B, 1, none⟩) hn _
theorem NBlk.new1 (w : World) (o : Obj) (b : Bool) (s : Value) (t : TypeId) : NBlk ((w.alloc o).alloc (.cells #[.bool b, s] t)) (w.heap.size + 1) b s := by
 have h := NBlk.new (w.alloc o) b s t
 simpa using h
theorem trim_isN {w : World} {b : Bool} {p : Option Addr} {cap k : Nat} {l : List Int} (hs : SlD w (.slice p l.length cap) l) (hd : Dg.Digs l) (hk : k <= l.length) (hz : ∀ j, k <= j -> Dg.dig l j = 0) (he : k = 0 \/ Dg.dig l (k - 1) ≠ 0) :
   IsN w (.agg #[.bool (b && decide (0 < k)), .slice p k cap]) (sg b (Dg.val l)) := by
 obtain ⟨hc, hv⟩ := Dg.trim_canon hd hk hz he
 have h := hs.take k hk
 rw [<- hv]
 by_cases h0 : k = 0
 · subst h0
   have e : sg b (Dg.val (l.take 0)) = sg false (Dg.val (l.take 0)) := by cases b <;> simp [sg, Dg.val]
   rw [e]; simp only [Nat.lt_irrefl, decide_false, Bool.and_false]; exact IsN.of_canon hc h (by simp [sg, Dg.val])
 · have hne : l.take k ≠ [] := by
    intro e; have := congrArg List.length e; rw [List.length_take, Nat.min_eq_left hk] at this; exact h0 (by simpa using this)
   have hl := hc.low hne; have hp := Dg.p10_pos ((l.take k).length - 1)
   have e : (b && decide (0 < k)) = b := by simp; intro _; omega
   rw [e]; exact IsN.of_canon hc h (by cases b <;> simp [sg] <;> omega)
theorem rTrim (b : Bool) (p : Option Addr) (n cap : Nat) (l : List Int) (w0 w : World) (h0w : Dn w0 w) (hs : SlD w0 (.slice p n cap) l) (hd : Dg.Digs l) :
  Calls Tryz.prog 98 #[.agg #[.bool b, .slice p n cap]] w fun e w' => ∃ b' k, e = .returned (.agg #[.bool b', .slice p k cap]) /\ IsN w0 (.agg #[.bool b', .slice p k cap]) (sg b (Dg.val l)) /\ Dn w w' := by
 have hS := hs
 obtain ⟨p', cap', he, h1, h2, h3⟩ := hs
 injection he with e1 e2 e3
 subst e1 e2 e3
 have hm := max_len
 have HD := Lib.hid hd
 have H3 := Lib.hid h3
 have HS := Lib.hid hS
 clear h3 hd hS
 obtain ⟨W1, hW1⟩ : ∃ W1, W1 = (w.alloc (.cells #[.bool b, .slice p l.length cap] 88)).alloc (.cells #[.bool false, .slice none 0 0] 88) := ⟨_, rfl⟩
 have u1 : Dn w W1 := by rw [hW1]; exact ((Dn.refl _).alloc _).alloc _
 have n1 : NBlk W1 w.heap.size b (.slice p l.length cap) := by rw [hW1]; exact (NBlk.new _ _ _ _).dn ((Dn.refl _).alloc _)
 have n2 : NBlk W1 (w.heap.size + 1) false (.slice none 0 0) := by rw [hW1]; exact NBlk.new1 _ _ _ _ _
 have HW := Lib.hid hW1
 clear hW1
 go_enter Tryz.func98, Tryz.ntmps98
 go_wp2_with fail
 rw [<- HW.out]
 clear HW
 go_loopg [] l.length (fun k wr => k <= l.length /\ (∀ j, k <= j -> Dg.dig l j = 0) /\ NBlk wr w.heap.size b (.slice p k cap) /\ NBlk wr (w.heap.size + 1) false (.slice none 0 0) /\ Dn w wr)
 case atStart => exact ⟨Nat.le_refl _, fun j hj => Dg.dig_none hj, n1, n2, u1⟩
 case round =>
  obtain ⟨hk, hz, m1, m2, hu⟩ := hrel; have M1 := Lib.hid m1; have M2 := Lib.hid m2; have HZ := Lib.hid hz; obtain ⟨c0, c1, f0, f1, l1⟩ := m1; obtain ⟨r0, r1, r2, r3, l2⟩ := m2; clear hz
  by_cases h0 : gk = 0
  · subst h0
    clear n1 n2 u1; go_wp2_with fail; obtain ⟨z0, z1, _, _, _⟩ := (((M2.out).far (p := ⟨w.heap.size, 0, none⟩) (by simp) (.bool false)).put false (.slice p 0 cap)); have hu2 := setN_dn (hu.setCell (p := ⟨w.heap.size, 0, none⟩) (Nat.le_refl _) (.bool false)) (Nat.le_succ _) false (.slice p 0 cap); have hI := trim_isN (b := b) (k := 0) HS.out HD.out (Nat.zero_le _) HZ.out (Or.inl rfl); exact bodyPost_ret (w := setN (wr.setCell ⟨w.heap.size, 0, none⟩ (.bool false)) (w.heap.size + 1) false (.slice p 0 cap)) (v := .agg #[.bool false, .slice p 0 cap]) (by simp [results, Tryz.results98, go_sem, z0, z1]) rfl ⟨_, _, rfl, by simpa using hI, hu2⟩
  · obtain ⟨m, rfl⟩ : ∃ m, gk = m + 1 := ⟨gk - 1, by omega⟩
    obtain ⟨g, rfl, hc⟩ := H3.out m _ (Dg.dig_some (by omega)); replace hc := (h0w.trans hu).cell hc
    by_cases hq : Dg.dig l m = 0
    · rw [hq] at hc
      have HQ := Lib.hid hq; clear n1 n2 u1 hq; go_wp2_with fail; go_roundg m
      case measure => omega
      case rel => exact ⟨by omega, fun j hj => by
       rcases Nat.eq_or_lt_of_le hj with e | e
       · rw [<- e]; exact HQ.out
       · exact HZ.out j e, M1.out.set1 _, M2.out.far (by simp) _, hu.setCell (Nat.le_refl _) _⟩
    · have t1 : (Dg.dig l m == 0) = false := by simpa using hq
      clear n1 n2 u1; go_wp2_with fail; obtain ⟨z0, z1, _, _, _⟩ := (M2.out.put b (.slice (some ⟨g, 0, none⟩) (m + 1) cap)); have hu2 := setN_dn hu (Nat.le_succ _) b (.slice (some ⟨g, 0, none⟩) (m + 1) cap); have hI := trim_isN (b := b) (k := m + 1) HS.out HD.out hk HZ.out (Or.inr hq); exact bodyPost_ret (w := setN wr (w.heap.size + 1) b (.slice (some ⟨g, 0, none⟩) (m + 1) cap)) (v := .agg #[.bool b, .slice (some ⟨g, 0, none⟩) (m + 1) cap]) (by simp [results, Tryz.results98, go_sem, z0, z1]) rfl ⟨_, _, rfl, by simpa using hI, hu2⟩
theorem SlD.far {w : World} {p : Option Addr} {n cap B i : Nat} {l : List Int} (h : SlD w (.slice p n cap) l) (hp : ∀ g, p = some ⟨g, 0, none⟩ -> g ≠ B) (u : Value) : SlD (w.setCell ⟨B, i, none⟩ u) (.slice p n cap) l := by
 obtain ⟨p', cap', he, h1, h2, h3⟩ := h
 refine ⟨p', cap', he, h1, h2, fun j x hx => ?_⟩
 obtain ⟨g, hg, hc⟩ := h3 j x hx
 injection he with e1 e2 e3
 have hne := hp g (e1.trans hg)
 exact ⟨g, hg, by rw [World.cell?_setCell_other _ _ _ _ (fun e => hne (congrArg Addr.block e).symm)]; exact hc⟩
theorem SlD.farN {w : World} {p : Option Addr} {n cap B : Nat} {l : List Int} (h : SlD w (.slice p n cap) l) (hp : ∀ g, p = some ⟨g, 0, none⟩ -> g ≠ B) (b : Bool) (s : Value) : SlD (setN w B b s) (.slice p n cap) l := (h.far hp _).far hp _
theorem IsN.farN {w : World} {p : Option Addr} {n cap B : Nat} {b : Bool} {x : Int} (h : IsN w (.agg #[.bool b, .slice p n cap]) x) (hp : ∀ g, p = some ⟨g, 0, none⟩ -> g ≠ B) (b' : Bool) (s : Value) : IsN (setN w B b' s) (.agg #[.bool b, .slice p n cap]) x := by
 obtain ⟨s', h1, h2⟩ := h
 obtain rfl : s' = .slice p n cap := by simp at h1; exact h1.2.symm
 exact ⟨_, h1, h2.farN hp _ _⟩
theorem sg_abs (x : Int) : sg (decide (x < 0)) (Dg.val (Dg.dl x.natAbs)) = x := by
 rw [Dg.dl_val]; unfold sg; by_cases h : x < 0 <;> simp [h] <;> omega
theorem sg_neg (x : Int) : sg (!decide (x < 0)) (Dg.val (Dg.dl x.natAbs)) = -x := by
 rw [Dg.dl_val]; unfold sg; by_cases h : x < 0 <;> simp [h] <;> omega
theorem rNeg (v : Value) (x : Int) (w : World) (hv : IsN w v x) :
  Calls Tryz.prog 60 #[v] w fun e w' => ∃ v', e = .returned v' /\ IsN w v' (-x) /\ Dn w w' := by
 obtain ⟨p, n, cap, rfl, hs⟩ := hv.form
 generalize hb : decide (x < 0) = b
 have hT := fun W (h : Dn w W) => rTrim (!b) p n cap (Dg.dl x.natAbs) w W h hs (Dg.dl_digs _)
 rw [<- hb, sg_neg, hb] at hT
 have HT := Lib.hid hT
 clear hT hb
 obtain ⟨W1, hW1⟩ : ∃ W1, W1 = (w.alloc (.cells #[.bool b, .slice p n cap] 88)).alloc (.cells #[.bool false, .slice none 0 0] 88) := ⟨_, rfl⟩
 have u1 : Dn w W1 := by rw [hW1]; exact ((Dn.refl _).alloc _).alloc _
 have n2 : NBlk W1 (w.heap.size + 1) false (.slice none 0 0) := by rw [hW1]; exact NBlk.new1 _ _ _ _ _
 have HW := Lib.hid hW1
 clear hW1
 go_enter Tryz.func60, Tryz.ntmps60
 go_wp2_with fail
 rw [<- HW.out]
 clear HW
 refine (HT.out _ u1).mono ?_
 rintro e w1 ⟨b', k', rfl, hI, q1⟩
 have HI := Lib.hid hI
 have N2 := Lib.hid (n2.dn q1)
 obtain ⟨r0, r1, r2, r3, l2⟩ := n2.dn q1
 have u2 := u1.trans q1
 clear n2 u1 q1 hI
 go_wp2_with fail
 obtain ⟨z0, z1, _, _, _⟩ := N2.out.put b' (.slice p k' cap)
 have hu2 := setN_dn u2 (Nat.le_succ _) b' (.slice p k' cap)
 exact bodyPost_ret (w := setN w1 (w.heap.size + 1) b' (.slice p k' cap)) (v := .agg #[.bool b', .slice p k' cap]) (by simp [results, Tryz.results60, go_sem, z0, z1]) rfl ⟨_, rfl, HI.out, hu2⟩
theorem infoU8 : (Tryz.prog.info? 5).map (fun i => (i.zero, i.size, i.bytes)) = some (some (.int .u8 0), 1, 1) := by kernel_rfl
theorem grown_trans {a b c : World} {row : Option Nat} (h : a.grownBy b row) (k : b.grownBy c row) : a.grownBy c row :=
 ⟨k.os.trans h.os, k.tape.trans h.tape, k.output.trans h.output, Nat.le_trans h.size k.size, fun i hi hne => (k.block i (Nat.lt_of_lt_of_le hi h.size) hne).trans (h.block i hi hne)⟩
theorem grown_dn {a b : World} (h : Dn a b) (row : Option Nat) : a.grownBy b row := ⟨h.below.os, h.below.tape, h.below.output, h.size, fun i hi _ => h.below.block i hi⟩
theorem grown_set (w : World) (p : Addr) (u : Value) : w.grownBy (w.setCell p u) (some p.block) :=
 ⟨rfl, rfl, rfl, by simp, fun i _ hne => Below.heap_setCell w p u i (fun e => hne (by rw [e]))⟩
structure OwnD (w : World) (base : Nat) (v : Value) (l : List Int) : Prop where
 own : w.ownsRow base 5 1 v l.length (l.map (Value.int .u8))
theorem OwnD.nil (w : World) (base : Nat) : OwnD w base (.slice none 0 0) [] := ⟨World.ownsRow_nil _ _ _ _⟩
theorem OwnD.kept {w w' : World} {base : Nat} {v : Value} {l : List Int} {row : Option Nat} (h : OwnD w base v l) (hg : w.grownBy w' row) (hr : ∀ k, row = some k -> k < base) : OwnD w' base v l :=
 ⟨h.own.kept hg (by
  cases hv : v.ownBlock with
  | none => exact Or.inl rfl
  | some g =>
    right; intro e; have := (h.own.lt g hv).1; have := hr g e.symm
    omega)⟩
theorem OwnD.dn {w w' : World} {base : Nat} {v : Value} {l : List Int} (h : OwnD w base v l) (k : Dn w w') : OwnD w' base v l := h.kept (grown_dn k none) (fun _ e => by cases e)
theorem OwnD.far {w : World} {base : Nat} {v : Value} {l : List Int} (h : OwnD w base v l) {p : Addr} (hp : p.block < base) (u : Value) : OwnD (w.setCell p u) base v l :=
 h.kept (grown_set w p u) (fun k e => by cases e; exact hp)
theorem OwnD.sl {w : World} {base : Nat} {v : Value} {l : List Int} (h : OwnD w base v l) : SlD w v l := SlD.of_own h.own rfl
theorem OwnD.form {w : World} {base : Nat} {v : Value} {l : List Int} (h : OwnD w base v l) : ∃ p cap, v = .slice p l.length cap /\ ∀ g, p = some ⟨g, 0, none⟩ -> base <= g := by
 obtain ⟨p, cap, e, _⟩ := h.sl
 refine ⟨p, cap, e, fun g hg => ?_⟩
 subst e hg
 exact (h.own.lt g rfl).1
theorem OwnD.row {w : World} {base : Nat} {v : Value} {l : List Int} (h : OwnD w base v l) : ∀ k, v.ownBlock = some k -> base <= k := fun k hk => (h.own.lt k hk).1
theorem append_digit {ops : Array Oper} {rest : List Oper} {o : Oper} {a : Act} {Q : Exit -> Act -> World -> Prop} (hgd : o.guard = none) (s x : Operand)
   (ho : o.op = .call { callee := .builtin .append, args := #[s, x], argTypes := #[86, 86] }) (w : World) (base : Nat) (v : Value) (l : List Int) (d : Int) (hs : a.eval s = v) (hown : OwnD w base v l)
   (hx : a.eval x = .slice (some ⟨w.heap.size, 0, none⟩) 1 1) (hl : l.length <= 1000000) (hb : base <= w.heap.size)
   (h : ∀ p' cap' w', OwnD w' base (.slice p' (l.length + 1) cap') (l ++ [d]) -> w.grownBy w' v.ownBlock -> wpList Tryz.prog ops Q rest (a.put o.dst (.slice p' (l.length + 1) cap')) w') : wpList Tryz.prog ops Q (o :: rest) a (w.alloc (.cells #[.int .u8 d] 5)) := by
 obtain ⟨i0, hi, hz0, hz1, hz2⟩ := info_parts infoU8
 refine wpList_append_own _ hgd s x 86 ho base 5 i0 (.int .u8 0) 1 1 Tryz.underlying86 hi hz0 hz1 hz2 rfl (by decide) v _ _ hs (hown.own.alloc _) ⟨w.heap.size, 0, none⟩ 1 1 [.int .u8 d] hx rfl ?_ ?_ ?_ ?_ ?_ ?_
 · intro j u hj
   match j, hj with
   | 0, hj => simp at hj; subst hj; simp [Addr.add]
 · intro u hu; simp at hu; subst hu; rfl
 · unfold maxLen; omega
 · omega
 · simp; omega
 · intro v' w' h1 h2 _
   have h3 : OwnD w' base v' (l ++ [d]) := ⟨by simpa using h1⟩; obtain ⟨p', cap', e, _⟩ := h3.form; rw [List.length_append] at e; subst e; exact h p' cap' w' h3 (grown_trans (World.grownBy_alloc _ _ _) h2)
end Go.Proofs.YtoghoddjkdoohaaGreatDoor
