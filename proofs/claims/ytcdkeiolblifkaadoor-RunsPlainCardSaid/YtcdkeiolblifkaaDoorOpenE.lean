/-
  AN END (a struct of an int8 and an int64) THAT READS AS DATA.
-/
import Derived.Test.YtcdkeiolblifkaaDoorOpenS
namespace Go.Proofs.YtcdkeiolblifkaaDoor
open Go.ChangeShapes Go.WideShapes Go.ChangeAt Go.RowKit Go.Joins Go.Deep
variable {H : Type} {enc : TypeId × Value → H} {P : Program} {W : World} {r : Reach} {b0 : Nat} {t e : TypeId} {v : Value} {d : DataW H} {p : List MemPlace} {sp : Nat → Bool} {hd : Bool} {base : Nat}
theorem cell_i8 {n : Nat} {c : Value} {y : DataW H × List MemPlace} (he : P.underlying e = some (.int .i8)) (h : DataW.trod enc P W base sp hd n e [c] = some y) : ∃ a, c = .int .i8 a := by
  obtain ⟨a, ha, _, _⟩ := DataW.trod_int he h
  simp at ha
  exact ⟨a, ha⟩
theorem open_end {f0 f1 : Field} (ht : P.underlying t = some (.struct #[f0, f1])) (hone : oneCellFields P #[f0, f1] = true) (hct : P.cellsOf t = 2)
    (h0 : P.underlying f0.type = some (.int .i8)) (h1 : P.underlying f1.type = some (.int .i64))
    (hv : Value.okWide P W r b0 t v) (h : DataW.Trod enc P W base sp hd t v d p) :
    ∃ i a, v = .agg #[.int .i8 i, .int .i64 a] ∧ I64 a := by
  obtain ⟨v0, v1, y0, y1, n, rfl, _, _, k0, k1⟩ := open_agg2 ht hone hct hv h
  obtain ⟨i, rfl⟩ := cell_i8 h0 k0
  obtain ⟨a, rfl, ha⟩ := cell_i64 h1 k1
  exact ⟨i, a, rfl, ha⟩
end Go.Proofs.YtcdkeiolblifkaaDoor
