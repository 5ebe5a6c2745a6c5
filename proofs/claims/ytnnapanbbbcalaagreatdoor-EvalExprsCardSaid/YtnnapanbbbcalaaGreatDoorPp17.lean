/-
  Part 17 of the proof: Ja.
-/
import Derived.Test.YtnnapanbbbcalaaGreatDoorPp16
import Derived.Test.YtnnapanbbbcalaaGreatDoorRows
import Derived.Test.YtnnapanbbbcalaaGreatDoorProg
import Derived.JoinedOf
namespace Go.Proofs.YtnnapanbbbcalaaGreatDoor
set_option maxRecDepth 100000
theorem ahu:(Rows.evalExprsRow.inPlace==Tryz.prog.inPlace 6)=true:=by kernel_rfl
theorem ah0:(Rows.evalExprsRow.unfollowed==Tryz.prog.unfollowed 6)=true:=by kernel_rfl
end Go.Proofs.YtnnapanbbbcalaaGreatDoor
