/-
  CONTRACTS OF THE SHELF AT THIS DUMP, IN PLAIN WORDS (laid by program).
-/
import Derived.Shelf.SlSorted.Search
import Derived.Test.YtnaoadmffnbalaaDoorProg
namespace Go.Proofs
open Go.Shelf
def Tryd.search_ren : Go.Shelf.Ren := ⟨fun | 16 => 61 | n => n, fun | 3 => 3 | 35 => 84 | 4 => 4 | 38 => 90 | n => n, fun | n => n⟩
theorem Tryd.search : Go.Proofs.SlLaysO.n16 Tryd.prog Tryd.search_ren := {
  mixed := by kernel_rfl
  f16 := Tryd.func61.trans (congrArg some (by kernel_rfl))
  t3 := Tryd.underlying3
  a3 := Tryd.isAgg3
  z3 := Tryd.sizeOf3
  v3 := Tryd.zeroValue3
  t4 := Tryd.underlying4
  a4 := Tryd.isAgg4
  z4 := Tryd.sizeOf4
  v4 := Tryd.zeroValue4
  t35 := Tryd.underlying84
  a35 := Tryd.isAgg84
  z35 := Tryd.sizeOf84
  v35 := Tryd.zeroValue84
  t38 := Tryd.underlying90
  a38 := Tryd.isAgg90
  z38 := Tryd.sizeOf90
  v38 := Tryd.zeroValue90 }
end Go.Proofs
