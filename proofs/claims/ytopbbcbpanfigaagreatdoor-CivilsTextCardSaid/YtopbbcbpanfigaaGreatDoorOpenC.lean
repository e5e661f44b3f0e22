/-
  WHAT A CIVIL DAY AS AN ARGUMENT IS AS A VALUE.
-/
import Derived.Test.YtopbbcbpanfigaaGreatDoorOpen
namespace Go.Proofs.YtopbbcbpanfigaaGreatDoor
open Go.ChangeShapes Go.WideShapes Go.ChangeAt Go.RowKit Go.Joins Go.Deep
variable {H : Type} {enc : TypeId × Value → H} {P : Program} {W : World} {r : Reach} {b0 : Nat} {t e : TypeId} {v : Value} {d : DataW H} {p : List MemPlace} {sp : Nat → Bool} {hd : Bool} {base : Nat}
theorem open_civ {f0 f1 f2 : Field} (ht : P.underlying t = some (.struct #[f0, f1, f2])) (hone : oneCellFields P #[f0, f1, f2] = true) (hct : P.cellsOf t = 3)
    (h0 : P.underlying f0.type = some (.int .i64)) (h1 : P.underlying f1.type = some (.int .i64)) (h2 : P.underlying f2.type = some (.int .i64))
    (hv : Value.okWide P W r b0 t v) (h : DataW.Trod enc P W base sp hd t v d p) :
    ∃ a b c, v = .agg #[.int .i64 a, .int .i64 b, .int .i64 c] ∧ I64 a ∧ I64 b ∧ I64 c := by
  obtain ⟨v0, v1, v2, y0, y1, y2, n, rfl, _, _, k0, k1, k2⟩ := open_agg3 ht hone hct hv h
  obtain ⟨a, rfl, ha⟩ := cell_i64 h0 k0
  obtain ⟨b, rfl, hb⟩ := cell_i64 h1 k1
  obtain ⟨c, rfl, hc⟩ := cell_i64 h2 k2
  exact ⟨a, b, c, rfl, ha, hb, hc⟩
end Go.Proofs.YtopbbcbpanfigaaGreatDoor
