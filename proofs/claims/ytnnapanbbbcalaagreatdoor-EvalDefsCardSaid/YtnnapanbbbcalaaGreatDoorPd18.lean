/-
  Part 18 of the proof: Ja.
-/
import Derived.Test.YtnnapanbbbcalaaGreatDoorPd17
import Derived.Test.YtnnapanbbbcalaaGreatDoorRows
import Derived.Test.YtnnapanbbbcalaaGreatDoorProg
import Derived.JoinedOf
namespace Go.Proofs.YtnnapanbbbcalaaGreatDoor
set_option maxRecDepth 100000
theorem ai9:(Rows.evalDefsRow.inPlace==Tryz.prog.inPlace 3)=true:=by kernel_rfl
theorem alT:(Rows.evalDefsRow.unfollowed==Tryz.prog.unfollowed 3)=true:=by kernel_rfl
end Go.Proofs.YtnnapanbbbcalaaGreatDoor
