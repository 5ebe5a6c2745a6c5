/-
  Part 22 of the proof: Je.
-/
import Derived.Test.YtnnapanbbbcalaaGreatDoorPr21
import Derived.Test.YtnnapanbbbcalaaGreatDoorRows
import Derived.Test.YtnnapanbbbcalaaGreatDoorProg
import Derived.SevenTiedAt
namespace Go.Proofs.YtnnapanbbbcalaaGreatDoor
set_option maxRecDepth 100000
theorem adr:false=Rows.evalSizesRow.goesBy Tryz.prog:=by kernel_rfl
end Go.Proofs.YtnnapanbbbcalaaGreatDoor
