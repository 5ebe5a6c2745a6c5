/-
  Part 23 of the proof: Je.
-/
import Derived.Test.YtnnapanbbbcalaaGreatDoorPd22
import Derived.Test.YtnnapanbbbcalaaGreatDoorRows
import Derived.Test.YtnnapanbbbcalaaGreatDoorProg
import Derived.SevenTiedAt
namespace Go.Proofs.YtnnapanbbbcalaaGreatDoor
set_option maxRecDepth 100000
theorem as0:false=Rows.evalDefsRow.goesBy Tryz.prog:=by kernel_rfl
end Go.Proofs.YtnnapanbbbcalaaGreatDoor
