/-
  A RUN (a struct of two ends), AND THE LAW'S R (two uint8, an int16), THAT READ AS DATA.
-/
import Derived.Test.YtcdkeiolblifkaaDoorOpenE
namespace Go.Proofs.YtcdkeiolblifkaaDoor
open Go.ChangeShapes Go.WideShapes Go.ChangeAt Go.RowKit Go.Joins Go.Deep
variable {H : Type} {enc : TypeId × Value → H} {P : Program} {W : World} {r : Reach} {b0 : Nat} {t e : TypeId} {v : Value} {d : DataW H} {p : List MemPlace} {sp : Nat → Bool} {hd : Bool} {base : Nat}
theorem end_cells {n : Nat} {g0 g1 : Field} {c0 c1 : Value} {y : DataW H × List MemPlace} (ht : P.underlying e = some (.struct #[g0, g1])) (o0 : g0.offset = 0) (o1 : g1.offset = 1) (k0 : P.cellsOf g0.type = 1) (k1 : P.cellsOf g1.type = 1)
    (h0 : P.underlying g0.type = some (.int .i8)) (h1 : P.underlying g1.type = some (.int .i64)) (h : DataW.trod enc P W base sp hd n e [c0, c1] = some y) :
    ∃ i a, c0 = .int .i8 i ∧ c1 = .int .i64 a ∧ I64 a := by
  obtain ⟨xs, m, _, _, _, hl, hel⟩ := DataW.trod_struct ht h
  match xs, hl with
  | [y0, y1], _ =>
    have z0 := hel 0 g0 rfl
    have z1 := hel 1 g1 rfl
    rw [o0, k0] at z0
    rw [o1, k1] at z1
    simp at z0 z1
    obtain ⟨i, rfl⟩ := cell_i8 h0 z0
    obtain ⟨a, rfl, ha⟩ := cell_i64 h1 z1
    exact ⟨i, a, rfl, rfl, ha⟩
theorem open_run {f0 f1 g0 g1 q0 q1 : Field} (ht : P.underlying t = some (.struct #[f0, f1])) (hct : P.cellsOf t = 4) (o0 : f0.offset = 0) (o1 : f1.offset = 2) (k0 : P.cellsOf f0.type = 2) (k1 : P.cellsOf f1.type = 2)
    (he0 : P.underlying f0.type = some (.struct #[g0, g1])) (a0 : g0.offset = 0) (a1 : g1.offset = 1) (b0 : P.cellsOf g0.type = 1) (b1 : P.cellsOf g1.type = 1) (h0 : P.underlying g0.type = some (.int .i8)) (h1 : P.underlying g1.type = some (.int .i64))
    (he1 : P.underlying f1.type = some (.struct #[q0, q1])) (a2 : q0.offset = 0) (a3 : q1.offset = 1) (b2 : P.cellsOf q0.type = 1) (b3 : P.cellsOf q1.type = 1) (h2 : P.underlying q0.type = some (.int .i8)) (h3 : P.underlying q1.type = some (.int .i64))
    {bb : Nat} (hv : Value.okWide P W r bb t v) (h : DataW.Trod enc P W base sp hd t v d p) :
    ∃ i a j b, v = .agg #[.int .i8 i, .int .i64 a, .int .i8 j, .int .i64 b] ∧ I64 a ∧ I64 b := by
  obtain ⟨cs, rfl, hsz⟩ := okWide_struct ht hv
  obtain ⟨c0, c1, c2, c3, rfl⟩ := array4 (hsz.trans hct)
  obtain ⟨fuel, hf⟩ := h
  obtain ⟨xs, m, _, _, _, hl, hel⟩ := DataW.trod_struct ht hf
  match xs, hl with
  | [y0, y1], _ =>
    have z0 := hel 0 f0 rfl
    have z1 := hel 1 f1 rfl
    rw [o0, k0] at z0
    rw [o1, k1] at z1
    simp [Value.cells] at z0 z1
    obtain ⟨i, a, rfl, rfl, ha⟩ := end_cells he0 a0 a1 b0 b1 h0 h1 z0
    obtain ⟨j, b, rfl, rfl, hb⟩ := end_cells he1 a2 a3 b2 b3 h2 h3 z1
    exact ⟨i, a, j, b, rfl, ha, hb⟩
theorem cell_u8 {n : Nat} {c : Value} {y : DataW H × List MemPlace} (he : P.underlying e = some (.int .u8)) (h : DataW.trod enc P W base sp hd n e [c] = some y) : ∃ a, c = .int .u8 a ∧ (0 ≤ a ∧ a ≤ 255) := by
  obtain ⟨a, ha, _, w⟩ := DataW.trod_int he h
  simp at ha
  simp [Lit.wf, IntKind.min, IntKind.max, IntKind.signed, IntKind.bits] at w
  exact ⟨a, ha, by omega, by omega⟩
theorem cell_i16 {n : Nat} {c : Value} {y : DataW H × List MemPlace} (he : P.underlying e = some (.int .i16)) (h : DataW.trod enc P W base sp hd n e [c] = some y) : ∃ a, c = .int .i16 a ∧ (-32768 ≤ a ∧ a ≤ 32767) := by
  obtain ⟨a, ha, _, w⟩ := DataW.trod_int he h
  simp at ha
  simp [Lit.wf, IntKind.min, IntKind.max, IntKind.signed, IntKind.bits] at w
  exact ⟨a, ha, by omega, by omega⟩
theorem open_r3 {f0 f1 f2 : Field} (ht : P.underlying t = some (.struct #[f0, f1, f2])) (hone : oneCellFields P #[f0, f1, f2] = true) (hct : P.cellsOf t = 3)
    (h0 : P.underlying f0.type = some (.int .u8)) (h1 : P.underlying f1.type = some (.int .u8)) (h2 : P.underlying f2.type = some (.int .i16))
    (hv : Value.okWide P W r b0 t v) (h : DataW.Trod enc P W base sp hd t v d p) :
    ∃ a b c, v = .agg #[.int .u8 a, .int .u8 b, .int .i16 c] ∧ (0 ≤ a ∧ a ≤ 255) ∧ (0 ≤ b ∧ b ≤ 255) ∧ (-32768 ≤ c ∧ c ≤ 32767) := by
  obtain ⟨v0, v1, v2, y0, y1, y2, n, rfl, _, _, k0, k1, k2⟩ := open_agg3 ht hone hct hv h
  obtain ⟨a, rfl, ha⟩ := cell_u8 h0 k0
  obtain ⟨b, rfl, hb⟩ := cell_u8 h1 k1
  obtain ⟨c, rfl, hc⟩ := cell_i16 h2 k2
  exact ⟨a, b, c, rfl, ha, hb, hc⟩
end Go.Proofs.YtcdkeiolblifkaaDoor
