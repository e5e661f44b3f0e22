/-
  THE CONTRACTS OF package years AT KNOWN RESULTS.
-/
import Derived.Test.YtopbbcbpanfigaaGreatDoorYearsB
namespace Go.Proofs.YtopbbcbpanfigaaGreatDoor
open Go.RowKit

theorem leap_is (y : Int) (b : Bool) (w : World) (hb : Cal.lp y = b) (hy : IsY y) (hE : Steps w) :
    Calls Tryz.prog 79 #[.int .i64 y] w fun e w' => e = .returned (.tuple #[.bool b, .int .i64 0]) ∧ Up w w' := by
  rw [← hb]; exact leap_yes y w hy hE
theorem ystart_is (y n : Int) (w : World) (hb : Cal.sy y = n) (hy : IsY y) (hE : Steps w) :
    Calls Tryz.prog 37 #[.int .i64 y] w fun e w' => e = .returned (.tuple #[.int .i64 n, .int .i64 0]) ∧ Up w w' := by
  rw [← hb]; exact ystart_yes y w hy hE
theorem of_is (d y : Int) (w : World) (hb : Cal.yr d = y) (hd : I64 d) (hy : IsY y) (hE : Steps w) :
    Calls Tryz.prog 66 #[.int .i64 d] w fun e w' => e = .returned (.tuple #[.int .i64 y, .int .i64 0]) ∧ Up w w' := by
  subst hb; exact of_yes d w hd hy hE
end Go.Proofs.YtopbbcbpanfigaaGreatDoor
