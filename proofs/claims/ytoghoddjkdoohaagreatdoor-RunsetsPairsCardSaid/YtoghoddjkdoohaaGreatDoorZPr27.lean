/- Walks and laws that the claim's theorem leans on: part 27. -/
import Derived.Test.YtoghoddjkdoohaaGreatDoorZPr1
import Derived.Test.YtoghoddjkdoohaaGreatDoorZPr26
namespace Go.Proofs.YtoghoddjkdoohaaGreatDoor
open Go.ChangeShapes Go.WideShapes Go.ChangeAt Go.RowKit
theorem envT_of_laid {W : World} {rest : List (String × DataW Unit)} (hp : (("math/bits.deBruijn32tab", Rows.laid_math_bits_deBruijn32tab) :: ("math/bits.deBruijn64tab", Rows.laid_math_bits_deBruijn64tab) :: ("internal/strconv.uint64pow10", Rows.laid_internal_strconv_uint64pow10) :: ("unicode/utf8.acceptRanges", Rows.laid_unicode_utf8_acceptRanges) :: ("strconv.ErrRange", Rows.laid_strconv_ErrRange) :: rest : List (String × DataW Unit)).all (fun x => x.2.handleName?.isNone) = true)
   (h : laidMetH Tryz.prog (("math/bits.deBruijn32tab", Rows.laid_math_bits_deBruijn32tab) :: ("math/bits.deBruijn64tab", Rows.laid_math_bits_deBruijn64tab) :: ("internal/strconv.uint64pow10", Rows.laid_internal_strconv_uint64pow10) :: ("unicode/utf8.acceptRanges", Rows.laid_unicode_utf8_acceptRanges) :: ("strconv.ErrRange", Rows.laid_strconv_ErrRange) :: rest) W) (hs : W.ShapedOpen Tryz.prog) : EnvR W := by
 rw [MakeChecks.laidMetH_plain _ _ _ hp] at h
 obtain ⟨ps, hl, _⟩ := h
 obtain ⟨g, t, cs, fuel, p, q, _, _, _, _, h2, _⟩ := hl
 obtain ⟨g, t, cs, fuel, p, q, _, _, _, _, h3, _⟩ := h2
 obtain ⟨g, t, cs, fuel, p, q, hg, ht, hv, hd, h4, _⟩ := h3
 obtain rfl := Option.some.inj (gTab.symm.trans hg)
 obtain rfl := Option.some.inj (tTab.symm.trans ht)
 obtain ⟨g', t', cs', fuel', p', q', _, _, _, _, h5, _⟩ := h4
 obtain ⟨ge, te, ce, fe, pe, qe, hge, hte, hve, hde, h6, _⟩ := h5
 obtain rfl := Option.some.inj (gErr.symm.trans hge)
 obtain rfl := Option.some.inj (tErr.symm.trans hte)
 refine ⟨⟨?_, ?_⟩, cell_of_shapedOpen_int (t := 3) (zero := #[.int .i64 0]) hs (by decide +kernel) (by kernel_rfl) rfl (by kernel_rfl) (by kernel_rfl) Tryz.underlying3⟩
 · have hd' : DataW.trod (fun _ => ()) Tryz.prog W 0 (fun _ => true) false fuel 230 cs.toList = some (Lib.tabData .u64 Lib.pow10Tab, p) := hd
   have e := Lib.cells_of_tab Tryz.underlying230 Tryz.underlying172 cU64 cTab hd'
   unfold Lib.TabIs
   rw [hv, ← e]
 · obtain ⟨u, v, e⟩ := iface_cells Tryz.underlying153 hde
   refine ⟨u, v, ?_⟩
   rw [hve]
   congr 1
   apply Array.ext'
   exact e
end Go.Proofs.YtoghoddjkdoohaaGreatDoor
