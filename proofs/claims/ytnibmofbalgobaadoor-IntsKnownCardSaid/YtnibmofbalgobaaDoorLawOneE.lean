/-
  WALKS OF circalaw01: IntsDivs returns true. (Printed by wip/gen/law1e.py.)
-/
import Derived.Test.YtnibmofbalgobaaDoorLawOneEpzt
import Derived.Test.YtnibmofbalgobaaDoorLawOneEpzf
import Derived.Test.YtnibmofbalgobaaDoorLawOneEpmt
import Derived.Test.YtnibmofbalgobaaDoorLawOneEpmf
import Derived.Test.YtnibmofbalgobaaDoorLawOneEnz
import Derived.Test.YtnibmofbalgobaaDoorLawOneEnm
namespace Go.Proofs.YtnibmofbalgobaaDoor
open Go.RowKit
set_option linter.unusedVariables false
theorem intsDivs_true (a b c : Int) (w : World) (ha : I64 a) (hb : I64 b) (hc : I64 c) (hE : EnvI w) :
    Calls Tryd.prog 4 #[.int .i64 a, .int .i64 b, .int .i64 c] w fun e w' => e = .returned (.bool true) ∧ Dn w w' := by
  by_cases hb0 : b = 0
  · subst hb0; exact idivs_zero a c w hE
  by_cases h0 : a = -9223372036854775808 ∧ b = -1
  · obtain ⟨rfl, rfl⟩ := h0; exact idivs_over c w hE
  have hq := fd_i64 a b ha hb0 h0
  have hm := fm_i64 a b hb hb0
  have hD := fd_fm a b hb0
  have H1 : Hid (DivIs a b (fd a b) 0) := Lib.hid (fun W => idiv_yes a b W ha hb hb0 h0)
  have H2 := Lib.hid (fun W => imod_yes a b W ha hb hb0)
  have hz : fm a b = 0 ∨ fm a b ≠ 0 := by omega
  have hk : a = -9223372036854775808 ∨ a ≠ -9223372036854775808 := by omega
  by_cases hp : 0 < b
  · have hC := fd_fm c b hb0
    have H3 : Hid (DivIs c b (fd c b) 0) := Lib.hid (fun W => idiv_yes c b W hc hb hb0 (by omega))
    have hl := hD.p hp
    rcases Int.lt_trichotomy a c with h | h | h
    · have hqp := hD.mono hC hp (by omega)
      rcases hz with hz | hz <;> rcases hk with hk | hk
      · exact idivs_pztl a b c _ _ _ hp hq hm ha hb hl h0 hD.e H1 H2 H3 hz hk h hqp w hE
      · exact idivs_pzfl a b c _ _ _ hp hq hm ha hb hl h0 hD.e H1 H2 H3 hz hk h hqp w hE
      · exact idivs_pmtl a b c _ _ _ hp hq hm ha hb hl h0 hD.e H1 H2 H3 hz hk h hqp w hE
      · exact idivs_pmfl a b c _ _ _ hp hq hm ha hb hl h0 hD.e H1 H2 H3 hz hk h hqp w hE
    · have hqp : fd a b = fd c b := by rw [h]
      rcases hz with hz | hz <;> rcases hk with hk | hk
      · exact idivs_pzte a b c _ _ _ hp hq hm ha hb hl h0 hD.e H1 H2 H3 hz hk h hqp w hE
      · exact idivs_pzfe a b c _ _ _ hp hq hm ha hb hl h0 hD.e H1 H2 H3 hz hk h hqp w hE
      · exact idivs_pmte a b c _ _ _ hp hq hm ha hb hl h0 hD.e H1 H2 H3 hz hk h hqp w hE
      · exact idivs_pmfe a b c _ _ _ hp hq hm ha hb hl h0 hD.e H1 H2 H3 hz hk h hqp w hE
    · have hqp := hC.mono hD hp (by omega)
      rcases hz with hz | hz <;> rcases hk with hk | hk
      · exact idivs_pztg a b c _ _ _ hp hq hm ha hb hl h0 hD.e H1 H2 H3 hz hk h hqp w hE
      · exact idivs_pzfg a b c _ _ _ hp hq hm ha hb hl h0 hD.e H1 H2 H3 hz hk h hqp w hE
      · exact idivs_pmtg a b c _ _ _ hp hq hm ha hb hl h0 hD.e H1 H2 H3 hz hk h hqp w hE
      · exact idivs_pmfg a b c _ _ _ hp hq hm ha hb hl h0 hD.e H1 H2 H3 hz hk h hqp w hE
  · have hn : b < 0 := by omega
    have hl := hD.n hn
    obtain ⟨p, g, h3⟩ := div_ex c b hc hb hb0
    have H3 := Lib.hid h3
    rcases hz with hz | hz <;> rcases hk with hk | hk
    · exact idivs_nztx a b c _ _ _ _ hn hq hm ha hb hl h0 hD.e H1 H2 H3 hz hk w hE
    · exact idivs_nzfx a b c _ _ _ _ hn hq hm ha hb hl h0 hD.e H1 H2 H3 hz hk w hE
    · exact idivs_nmtx a b c _ _ _ _ hn hq hm ha hb hl h0 hD.e H1 H2 H3 hz hk w hE
    · exact idivs_nmfx a b c _ _ _ _ hn hq hm ha hb hl h0 hD.e H1 H2 H3 hz hk w hE
end Go.Proofs.YtnibmofbalgobaaDoor
