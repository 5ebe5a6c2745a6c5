/-
  Part 19.
-/
import Derived.Test.YtnnapanbbbcalaaGreatDoorPe18
namespace Go.Proofs.YtnnapanbbbcalaaGreatDoor
set_option maxRecDepth 100000
theorem ahV:(Rows.evalRunsRow.recurses==Tryz.prog.recurses 5)=true:=by kernel_rfl
theorem apJ:(Rows.evalRunsRow.named==Tryz.prog.varsNamed 5)=true:=by kernel_rfl
end Go.Proofs.YtnnapanbbbcalaaGreatDoor
