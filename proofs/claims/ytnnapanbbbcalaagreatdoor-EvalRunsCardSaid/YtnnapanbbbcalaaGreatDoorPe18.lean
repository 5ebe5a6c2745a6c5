/-
  Part 18.
-/
import Derived.Test.YtnnapanbbbcalaaGreatDoorPe17
namespace Go.Proofs.YtnnapanbbbcalaaGreatDoor
set_option maxRecDepth 100000
theorem as3:(Rows.evalRunsRow.inPlace==Tryz.prog.inPlace 5)=true:=by kernel_rfl
theorem asC:(Rows.evalRunsRow.unfollowed==Tryz.prog.unfollowed 5)=true:=by kernel_rfl
end Go.Proofs.YtnnapanbbbcalaaGreatDoor
