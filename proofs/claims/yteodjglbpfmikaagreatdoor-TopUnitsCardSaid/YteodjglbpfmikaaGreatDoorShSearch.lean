/-
  CONTRACTS OF THE SHELF AT THIS DUMP, IN PLAIN WORDS (laid by program).
-/
import Derived.Shelf.SlSorted.Search
import Derived.Test.YteodjglbpfmikaaGreatDoorProg
namespace Go.Proofs
open Go.Shelf
def Tryz.search_ren : Go.Shelf.Ren := ⟨fun | 16 => 78 | n => n, fun | 3 => 3 | 35 => 110 | 4 => 4 | 38 => 159 | n => n, fun | n => n⟩
theorem Tryz.search : Go.Proofs.SlLaysO.n16 Tryz.prog Tryz.search_ren := {
  mixed := by kernel_rfl
  f16 := Tryz.func78.trans (congrArg some (by kernel_rfl))
  t3 := Tryz.underlying3
  a3 := Tryz.isAgg3
  z3 := Tryz.sizeOf3
  v3 := Tryz.zeroValue3
  t4 := Tryz.underlying4
  a4 := Tryz.isAgg4
  z4 := Tryz.sizeOf4
  v4 := Tryz.zeroValue4
  t35 := Tryz.underlying110
  a35 := Tryz.isAgg110
  z35 := Tryz.sizeOf110
  v35 := Tryz.zeroValue110
  t38 := Tryz.underlying159
  a38 := Tryz.isAgg159
  z38 := Tryz.sizeOf159
  v38 := Tryz.zeroValue159 }
end Go.Proofs
