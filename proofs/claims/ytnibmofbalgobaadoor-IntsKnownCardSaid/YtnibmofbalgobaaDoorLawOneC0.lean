/-
  WALKS OF circalaw01: IntsGcd returns true. (Printed by wip/gen/law1c.py.)
-/
import Derived.Test.YtnibmofbalgobaaDoorLawOneA
import Derived.IntWalk
namespace Go.Proofs.YtnibmofbalgobaaDoor
open Go.RowKit
theorem gcd_le (a b : Int) (ha : I64 a) (hb : I64 b) (h : a ≠ 0 ∧ a ≠ -9223372036854775808 ∨ b ≠ 0 ∧ b ≠ -9223372036854775808) :
    1 ≤ Nat.gcd a.natAbs b.natAbs ∧ Nat.gcd a.natAbs b.natAbs ≤ 9223372036854775807 := by
  unfold I64 at ha hb
  rcases h with ⟨h1, h2⟩ | ⟨h1, h2⟩
  · have p : 0 < a.natAbs := by omega
    have := Nat.gcd_le_left b.natAbs p
    have := Nat.gcd_pos_of_pos_left b.natAbs p
    omega
  · have p : 0 < b.natAbs := by omega
    have := Nat.gcd_le_right a.natAbs p
    have := Nat.gcd_pos_of_pos_right a.natAbs p
    omega
theorem dvd_tmod (a : Int) (g : Nat) (h : g ∣ a.natAbs) : a.tmod g = 0 := Int.tmod_eq_zero_of_dvd (Int.ofNat_dvd_left.2 h)
theorem tdiv_gcd (a b : Int) (g : Nat) (h : Nat.gcd a.natAbs b.natAbs = g) (hg : 1 ≤ g) : Nat.gcd (a.tdiv g).natAbs (b.tdiv g).natAbs = 1 := by
  rw [Int.natAbs_tdiv, Int.natAbs_tdiv]
  simp only [Int.natAbs_natCast]
  subst h
  have := Nat.gcd_div (m := a.natAbs) (n := b.natAbs) (Nat.gcd_dvd_left _ _) (Nat.gcd_dvd_right _ _)
  exact this.trans (Nat.div_self hg)
theorem tdiv_i64 (a : Int) (g : Nat) (ha : I64 a) (hg : 1 ≤ g) : I64 (a.tdiv g) := by
  have h : (a.tdiv g).natAbs = a.natAbs / g := Int.natAbs_tdiv a g
  have h2 := Nat.div_le_self a.natAbs g
  unfold I64 at *
  by_cases hg1 : g = 1
  · subst hg1; simpa using ha
  · have h3 : a.natAbs / g ≤ a.natAbs / 2 := Nat.div_le_div_left (by omega) (by omega)
    omega
end Go.Proofs.YtnibmofbalgobaaDoor
