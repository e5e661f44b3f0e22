/-
  FROM THE ROW's CONDITION ON THE LIBRARY's VARIABLES TO THE WALKS' FACT.
-/
import Derived.Test.YtopbbcbpanfigaaGreatDoorIntsD
import Derived.ProofKit
import Derived.LaidMore
import Derived.OpenShut
import Derived.Stop.Joined
import Derived.Lib.LaidTab
namespace Go.Proofs.YtopbbcbpanfigaaGreatDoor
open Go.ChangeShapes Go.WideShapes Go.ChangeAt Go.RowKit
theorem gTab : Tryz.prog.globalNamed "internal/strconv.uint64pow10" = some 2 := by kernel_rfl
theorem tTab : (Tryz.prog.globals[2]?).map (·.type) = some 156 := by kernel_rfl
theorem gErr : Tryz.prog.globalNamed "strconv.ErrRange" = some 7 := by kernel_rfl
theorem tErr : (Tryz.prog.globals[7]?).map (·.type) = some 116 := by kernel_rfl
theorem cU64 : Tryz.prog.cellsOf 128 = 1 := by kernel_rfl
theorem cTab : Tryz.prog.cellsOf 156 = 20 := by kernel_rfl
theorem iface_cells {P : Program} {W : World} {t : TypeId} {ms : Array (String × TypeId)} {sp : Nat → Bool} {fuel : Nat} {cs : List Value} {nm : String} {d : DataW Unit} {pl : List MemPlace}
    (ht : P.underlying t = some (.interface ms)) (h : DataW.trod (fun _ => ()) P W 0 sp false fuel t cs = some (.iface nm d, pl)) : ∃ u v, cs = [.iface u v] := by
  cases fuel with
  | zero => simp [DataW.trod] at h
  | succ fuel =>
    unfold DataW.trod at h
    rw [ht] at h
    split at h <;> simp_all
theorem envI_of_laid {W : World} {rest : List (String × DataW Unit)} (hp : (("math/bits.deBruijn32tab", Rows.laid_math_bits_deBruijn32tab) :: ("math/bits.deBruijn64tab", Rows.laid_math_bits_deBruijn64tab) :: ("internal/strconv.uint64pow10", Rows.laid_internal_strconv_uint64pow10) :: ("strconv.ErrRange", Rows.laid_strconv_ErrRange) :: rest : List (String × DataW Unit)).all (fun x => x.2.handleName?.isNone) = true)
    (h : laidMetH Tryz.prog (("math/bits.deBruijn32tab", Rows.laid_math_bits_deBruijn32tab) :: ("math/bits.deBruijn64tab", Rows.laid_math_bits_deBruijn64tab) :: ("internal/strconv.uint64pow10", Rows.laid_internal_strconv_uint64pow10) :: ("strconv.ErrRange", Rows.laid_strconv_ErrRange) :: rest) W) : EnvI W := by
  rw [MakeChecks.laidMetH_plain _ _ _ hp] at h
  obtain ⟨ps, hl, _⟩ := h
  obtain ⟨g, t, cs, fuel, p, q, _, _, _, _, h2, _⟩ := hl
  obtain ⟨g, t, cs, fuel, p, q, _, _, _, _, h3, _⟩ := h2
  obtain ⟨g, t, cs, fuel, p, q, hg, ht, hv, hd, h4, _⟩ := h3
  obtain rfl := Option.some.inj (gTab.symm.trans hg)
  obtain rfl := Option.some.inj (tTab.symm.trans ht)
  refine ⟨?_, ?_⟩
  · have hd' : DataW.trod (fun _ => ()) Tryz.prog W 0 (fun _ => true) false fuel 156 cs.toList = some (Lib.tabData .u64 Lib.pow10Tab, p) := hd
    have e := Lib.cells_of_tab Tryz.underlying156 Tryz.underlying128 cU64 cTab hd'
    unfold Lib.TabIs
    rw [hv, ← e]
  · obtain ⟨g, t, cs, fuel, p, q, hg, ht, hv, hd, _, _⟩ := h4
    obtain rfl := Option.some.inj (gErr.symm.trans hg)
    obtain rfl := Option.some.inj (tErr.symm.trans ht)
    obtain ⟨u, v, e⟩ := iface_cells Tryz.underlying116 hd
    refine ⟨u, v, ?_⟩
    rw [hv]
    congr 1
    apply Array.ext'
    exact e
end Go.Proofs.YtopbbcbpanfigaaGreatDoor
