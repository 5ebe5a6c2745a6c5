/-
  Part 23.
-/
import Derived.Test.YtnnapanbbbcalaaGreatDoorPe22
namespace Go.Proofs.YtnnapanbbbcalaaGreatDoor
set_option maxRecDepth 100000
theorem ari:false=Rows.evalRunsRow.goesBy Tryz.prog:=by kernel_rfl
end Go.Proofs.YtnnapanbbbcalaaGreatDoor
