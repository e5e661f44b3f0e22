/-
  CONTRACTS OF THE SHELF AT THIS DUMP, IN PLAIN WORDS (laid by program).
-/
import Derived.Shelf.Spec.SlicesGrow
import Derived.Test.YteodjglbpfmikaaGreatDoorProg
namespace Go.Proofs
open Go.Shelf
end Go.Proofs
