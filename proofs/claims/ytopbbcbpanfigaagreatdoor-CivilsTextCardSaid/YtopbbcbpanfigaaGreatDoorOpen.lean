/-
  WHAT AN ARGUMENT THAT READS AS DATA IS AS A VALUE: numbers, arrays of two, structs of four numbers.
-/
import Derived.Test.YtopbbcbpanfigaaGreatDoorBase
import Derived.ProofKit
import Derived.OpenShut
import Derived.Lib.SmallJoins
namespace Go.Proofs.YtopbbcbpanfigaaGreatDoor
open Go.ChangeShapes Go.WideShapes Go.ChangeAt Go.RowKit Go.Joins Go.Deep
variable {H : Type} {enc : TypeId × Value → H} {P : Program} {W : World} {r : Reach} {b0 : Nat} {t e : TypeId} {v : Value} {d : DataW H} {p : List MemPlace} {sp : Nat → Bool} {hd : Bool} {base : Nat}

theorem open_i64 (ht : P.underlying t = some (.int .i64)) (hv : Value.okWide P W r b0 t v) (h : DataW.Trod enc P W base sp hd t v d p) : ∃ a, v = .int .i64 a ∧ I64 a := by
  obtain ⟨a, rfl, _, _, w⟩ := open_int ht hv h
  exact ⟨a, rfl, i64_of_wf w⟩

theorem cell_i64 {n : Nat} {c : Value} {y : DataW H × List MemPlace} (he : P.underlying e = some (.int .i64)) (h : DataW.trod enc P W base sp hd n e [c] = some y) : ∃ a, c = .int .i64 a ∧ I64 a := by
  obtain ⟨a, ha, _, w⟩ := DataW.trod_int he h
  simp at ha
  exact ⟨a, ha, i64_of_wf w⟩

theorem open_arr2 (ht : P.underlying t = some (.array 2 e)) (he : P.underlying e = some (.int .i64)) (hce : P.cellsOf e = 1) (hct : P.cellsOf t = 2) (hv : Value.okWide P W r b0 t v) (h : DataW.Trod enc P W base sp hd t v d p) :
    ∃ a b, v = .agg #[.int .i64 a, .int .i64 b] ∧ I64 a ∧ I64 b := by
  simp only [Value.okWide, ht] at hv
  obtain ⟨cs, rfl, hsz, _⟩ := hv
  obtain ⟨c0, c1, rfl⟩ := array2 (hsz.trans hct)
  obtain ⟨fuel, hf⟩ := h
  obtain ⟨xs, m, _, _, _, hl, hel⟩ := DataW.trod_array ht hf
  match xs, hl with
  | [y0, y1], _ =>
    have h0 := hel 0 (by decide)
    have h1 := hel 1 (by decide)
    simp [Value.cells, hce] at h0 h1
    obtain ⟨a, rfl, ha⟩ := cell_i64 he h0
    obtain ⟨b, rfl, hb⟩ := cell_i64 he h1
    exact ⟨a, b, rfl, ha, hb⟩

theorem open_str4 {f0 f1 f2 f3 : Field} (ht : P.underlying t = some (.struct #[f0, f1, f2, f3])) (hone : oneCellFields P #[f0, f1, f2, f3] = true) (hct : P.cellsOf t = 4)
    (h0 : P.underlying f0.type = some (.int .i64)) (h1 : P.underlying f1.type = some (.int .i64)) (h2 : P.underlying f2.type = some (.int .i64)) (h3 : P.underlying f3.type = some (.int .i64))
    (hv : Value.okWide P W r b0 t v) (h : DataW.Trod enc P W base sp hd t v d p) :
    ∃ a b c e, v = .agg #[.int .i64 a, .int .i64 b, .int .i64 c, .int .i64 e] ∧ I64 a ∧ I64 b ∧ I64 c ∧ I64 e := by
  obtain ⟨v0, v1, v2, v3, y0, y1, y2, y3, n, rfl, _, _, k0, k1, k2, k3⟩ := open_agg4 ht hone hct hv h
  obtain ⟨a, rfl, ha⟩ := cell_i64 h0 k0
  obtain ⟨b, rfl, hb⟩ := cell_i64 h1 k1
  obtain ⟨c, rfl, hc⟩ := cell_i64 h2 k2
  obtain ⟨e, rfl, he⟩ := cell_i64 h3 k3
  exact ⟨a, b, c, e, rfl, ha, hb, hc, he⟩
end Go.Proofs.YtopbbcbpanfigaaGreatDoor
