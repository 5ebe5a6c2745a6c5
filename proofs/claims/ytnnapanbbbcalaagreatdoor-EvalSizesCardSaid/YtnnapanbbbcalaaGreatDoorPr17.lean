/-
  Part 17 of the proof: Ja.
-/
import Derived.Test.YtnnapanbbbcalaaGreatDoorPr16
import Derived.Test.YtnnapanbbbcalaaGreatDoorRows
import Derived.Test.YtnnapanbbbcalaaGreatDoorProg
import Derived.JoinedOf
namespace Go.Proofs.YtnnapanbbbcalaaGreatDoor
set_option maxRecDepth 100000
theorem ZX:(Rows.evalSizesRow.inPlace==Tryz.prog.inPlace 4)=true:=by kernel_rfl
theorem abh:(Rows.evalSizesRow.unfollowed==Tryz.prog.unfollowed 4)=true:=by kernel_rfl
end Go.Proofs.YtnnapanbbbcalaaGreatDoor
