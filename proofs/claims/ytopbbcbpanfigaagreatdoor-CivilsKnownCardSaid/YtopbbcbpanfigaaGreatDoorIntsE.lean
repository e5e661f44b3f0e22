/-
  CONTRACTS OF ints AND circaref01 IN THE FORMS THAT THE LAWS USE. (Printed by wip/gen/law1.py.)
-/
import Derived.Test.YtopbbcbpanfigaaGreatDoorIntsD
namespace Go.Proofs.YtopbbcbpanfigaaGreatDoor
open Go.RowKit
instance decOk (l : List UInt8) : Decidable (pOk l) := by unfold pOk Dg.isD; infer_instance
theorem iparse_ok (s : ByteArray) (n : Int) (w : World) (hs : s.size ≤ 1000) (hp : pOk s.data.toList) (hv : pVal s.data.toList = n) (hi : I64 n) (hE : EnvI w) :
    Calls Tryz.prog 73 #[.string s] w fun e w' => e = .returned (.tuple #[.int .i64 n, .int .i64 0]) ∧ Dn w w' := by
  subst hv
  refine (iparse s w hs hE).mono ?_
  rintro e w' ⟨hd, ⟨_, _, h⟩ | ⟨_, h, _⟩ | ⟨h, _⟩⟩
  · exact ⟨h, hd⟩
  · exact absurd hi h
  · exact absurd hp h
theorem iparse_over (s : ByteArray) (w : World) (hs : s.size ≤ 1000) (hp : pOk s.data.toList) (hi : ¬ I64 (pVal s.data.toList)) (hE : EnvI w) :
    Calls Tryz.prog 73 #[.string s] w fun e w' => e = .returned (.tuple #[.int .i64 0, .int .i64 15]) ∧ Dn w w' := by
  refine (iparse s w hs hE).mono ?_
  rintro e w' ⟨hd, ⟨_, h, _⟩ | ⟨_, _, h⟩ | ⟨h, _⟩⟩
  · exact absurd h hi
  · exact ⟨h, hd⟩
  · exact absurd hp h
theorem iparse_bad (s : ByteArray) (w : World) (hs : s.size ≤ 1000) (hp : ¬ pOk s.data.toList) (hE : EnvI w) :
    Calls Tryz.prog 73 #[.string s] w fun e w' => e = .returned (.tuple #[.int .i64 0, .int .i64 5]) ∧ Dn w w' := by
  refine (iparse s w hs hE).mono ?_
  rintro e w' ⟨hd, ⟨h, _⟩ | ⟨h, _⟩ | ⟨_, h⟩⟩
  · exact absurd h hp
  · exact absurd h hp
  · exact ⟨h, hd⟩
theorem rInt_no (v : Value) (x : Int) (w : World) (hx : IsN w v x) (hl : (Dg.dl x.natAbs).length ≤ 1000) (h : ¬ I64 x) :
    Calls Tryz.prog 55 #[v] w fun e w' => e = .returned (.tuple #[.int .i64 0, .bool false]) ∧ Dn w w' := by
  unfold I64 at h
  by_cases h1 : x < -9223372036854775808
  · exact rInt_low v x w hx hl h1
  · exact rInt_high v x w hx hl (by omega)
theorem idiv_at (a b q : Int) (w : World) (hq : fd a b = q) (ha : I64 a) (hb : I64 b) (h0 : b ≠ 0) (hm : ¬ (a = -9223372036854775808 ∧ b = -1)) :
    Calls Tryz.prog 81 #[.int .i64 a, .int .i64 b] w fun e w' => e = .returned (.tuple #[.int .i64 q, .int .i64 0]) ∧ w = w' := by
  subst hq; exact idiv_yes a b w ha hb h0 hm
theorem imod_at (a b q : Int) (w : World) (hq : fm a b = q) (ha : I64 a) (hb : I64 b) (h0 : b ≠ 0) :
    Calls Tryz.prog 57 #[.int .i64 a, .int .i64 b] w fun e w' => e = .returned (.tuple #[.int .i64 q, .int .i64 0]) ∧ w = w' := by
  subst hq; exact imod_yes a b w ha hb h0
end Go.Proofs.YtopbbcbpanfigaaGreatDoor
