/-
  WALKS OF circalaw01: IntsGcd returns true. (Printed by wip/gen/law1c.py.)
-/
import Derived.Test.YtnibmofbalgobaaDoorLawOneCN
import Derived.Test.YtnibmofbalgobaaDoorLawOneCN2
import Derived.Test.YtnibmofbalgobaaDoorLawOneCB
import Derived.Test.YtnibmofbalgobaaDoorLawOneCB2
import Derived.Test.YtnibmofbalgobaaDoorLawOneCF
import Derived.Test.YtnibmofbalgobaaDoorLawOneCF2
namespace Go.Proofs.YtnibmofbalgobaaDoor
open Go.RowKit
theorem intsGcd_neg (a b : Int) (n : Int) (hn : n < 0) (w : World) (ha : I64 a) (hb : I64 b) (hE : EnvI w) :
    Calls Tryd.prog 5 #[.int .i64 a, .int .i64 b, .int .i64 n] w fun e w' => e = .returned (.bool true) ∧ Dn w w' := by
  by_cases h1 : a = 0
  · subst h1
    by_cases h2 : b = 0
    · subst h2; exact igcdl_neg_z n hn w hE
    · by_cases h3 : b = -9223372036854775808
      · subst h3; exact igcdl_neg_o2 n hn w hE
      · exact igcdl_neg_pb b hb h2 h3 n hn w hE
  · by_cases h4 : a = -9223372036854775808
    · subst h4
      by_cases h2 : b = 0
      · subst h2; exact igcdl_neg_o1 n hn w hE
      · by_cases h3 : b = -9223372036854775808
        · subst h3; exact igcdl_neg_o3 n hn w hE
        · exact igcdl_neg_pc _ b ha hb rfl h2 h3 n hn w hE
    · exact igcdl_neg_pa a b ha hb h1 h4 n hn w hE
theorem intsGcd_big (a b : Int) (n : Int) (hn : 18 < n) (w : World) (ha : I64 a) (hb : I64 b) (hE : EnvI w) :
    Calls Tryd.prog 5 #[.int .i64 a, .int .i64 b, .int .i64 n] w fun e w' => e = .returned (.bool true) ∧ Dn w w' := by
  by_cases h1 : a = 0
  · subst h1
    by_cases h2 : b = 0
    · subst h2; exact igcdl_big_z n hn w hE
    · by_cases h3 : b = -9223372036854775808
      · subst h3; exact igcdl_big_o2 n hn w hE
      · exact igcdl_big_pb b hb h2 h3 n hn w hE
  · by_cases h4 : a = -9223372036854775808
    · subst h4
      by_cases h2 : b = 0
      · subst h2; exact igcdl_big_o1 n hn w hE
      · by_cases h3 : b = -9223372036854775808
        · subst h3; exact igcdl_big_o3 n hn w hE
        · exact igcdl_big_pc _ b ha hb rfl h2 h3 n hn w hE
    · exact igcdl_big_pa a b ha hb h1 h4 n hn w hE
theorem intsGcd_fit (a b : Int) (n : Nat) (hn : n ≤ 18) (w : World) (ha : I64 a) (hb : I64 b) (hE : EnvI w) :
    Calls Tryd.prog 5 #[.int .i64 a, .int .i64 b, .int .i64 (n : Int)] w fun e w' => e = .returned (.bool true) ∧ Dn w w' := by
  by_cases h1 : a = 0
  · subst h1
    by_cases h2 : b = 0
    · subst h2; exact igcdl_fit_z n hn w hE
    · by_cases h3 : b = -9223372036854775808
      · subst h3; exact igcdl_fit_o2 n hn w hE
      · exact igcdl_fit_pb b hb h2 h3 n hn w hE
  · by_cases h4 : a = -9223372036854775808
    · subst h4
      by_cases h2 : b = 0
      · subst h2; exact igcdl_fit_o1 n hn w hE
      · by_cases h3 : b = -9223372036854775808
        · subst h3; exact igcdl_fit_o3 n hn w hE
        · exact igcdl_fit_pc _ b ha hb rfl h2 h3 n hn w hE
    · exact igcdl_fit_pa a b ha hb h1 h4 n hn w hE
theorem intsGcd_true (a b n : Int) (w : World) (ha : I64 a) (hb : I64 b) (_hn : I64 n) (hE : EnvI w) :
    Calls Tryd.prog 5 #[.int .i64 a, .int .i64 b, .int .i64 n] w fun e w' => e = .returned (.bool true) ∧ Dn w w' := by
  by_cases h1 : n < 0
  · exact intsGcd_neg a b n h1 w ha hb hE
  · by_cases h2 : 18 < n
    · exact intsGcd_big a b n h2 w ha hb hE
    · obtain ⟨k, rfl⟩ : ∃ k : Nat, n = (k : Int) := ⟨n.toNat, by omega⟩
      exact intsGcd_fit a b k (by omega) w ha hb hE
end Go.Proofs.YtnibmofbalgobaaDoor
