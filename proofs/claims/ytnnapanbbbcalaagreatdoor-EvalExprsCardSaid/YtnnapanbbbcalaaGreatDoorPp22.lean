/-
  Part 22 of the proof: Je.
-/
import Derived.Test.YtnnapanbbbcalaaGreatDoorPp21
import Derived.Test.YtnnapanbbbcalaaGreatDoorRows
import Derived.Test.YtnnapanbbbcalaaGreatDoorProg
import Derived.SevenTiedAt
namespace Go.Proofs.YtnnapanbbbcalaaGreatDoor
set_option maxRecDepth 100000
theorem afE:false=Rows.evalExprsRow.goesBy Tryz.prog:=by kernel_rfl
end Go.Proofs.YtnnapanbbbcalaaGreatDoor
