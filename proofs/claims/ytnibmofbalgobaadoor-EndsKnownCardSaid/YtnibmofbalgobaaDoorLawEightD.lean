/-
  WALKS OF circalaw08: EndsOrder returns true. (Printed by wip/gen/law8d.py.)
-/
import Derived.Test.YtnibmofbalgobaaDoorLawEightD1
import Derived.Test.YtnibmofbalgobaaDoorLawEightD2
import Derived.Test.YtnibmofbalgobaaDoorLawEightD3
import Derived.Deep.DeepCutAuto
namespace Go.Proofs.YtnibmofbalgobaaDoor
open Go.RowKit
set_option linter.unusedVariables false
set_option linter.unusedSimpArgs false
theorem endsOrder_true (i d j f k g : Int) (w : World) (_hd : I64 d) (_hf : I64 f) (_hg : I64 g) (hE : EnvI w) :
    Calls Tryd.prog 9 #[.agg #[.int .i8 i, .int .i64 d], .agg #[.int .i8 j, .int .i64 f], .agg #[.int .i8 k, .int .i64 g]] w fun e w' => e = .returned (.bool true) ∧ Dn w w' := by
  by_cases hm : eC j f k g ≤ 0
  · rcases eC_vals i d j f with hn | hn | hn
    · by_cases hij : i = j
      · subst hij
        by_cases hdf : d = f
        · subst hdf; exact absurd hn (by rw [(eC_zero i d i d).2 ⟨rfl, rfl⟩]; decide)
        · exact endsOrder_lda i d f k g hn hdf hm w hE
      · exact endsOrder_lia i d j f k g hn hij hm w hE
    · obtain ⟨rfl, rfl⟩ := (eC_zero _ _ _ _).1 hn
      exact endsOrder_eea i d k g hm w hE
    · by_cases hij : i = j
      · subst hij
        by_cases hdf : d = f
        · subst hdf; exact absurd hn (by rw [(eC_zero i d i d).2 ⟨rfl, rfl⟩]; decide)
        · exact endsOrder_gdx i d f k g hn hdf w hE
      · exact endsOrder_gix i d j f k g hn hij w hE
  · have hm : 0 < eC j f k g := by omega
    rcases eC_vals i d j f with hn | hn | hn
    · by_cases hij : i = j
      · subst hij
        by_cases hdf : d = f
        · subst hdf; exact absurd hn (by rw [(eC_zero i d i d).2 ⟨rfl, rfl⟩]; decide)
        · exact endsOrder_ldb i d f k g hn hdf hm w hE
      · exact endsOrder_lib i d j f k g hn hij hm w hE
    · obtain ⟨rfl, rfl⟩ := (eC_zero _ _ _ _).1 hn
      exact endsOrder_eeb i d k g hm w hE
    · by_cases hij : i = j
      · subst hij
        by_cases hdf : d = f
        · subst hdf; exact absurd hn (by rw [(eC_zero i d i d).2 ⟨rfl, rfl⟩]; decide)
        · exact endsOrder_gdx i d f k g hn hdf w hE
      · exact endsOrder_gix i d j f k g hn hij w hE
end Go.Proofs.YtnibmofbalgobaaDoor
