/-
  Part 18 of the proof: Jb.
-/
import Derived.Test.YtnnapanbbbcalaaGreatDoorPr17
import Derived.Test.YtnnapanbbbcalaaGreatDoorRows
import Derived.Test.YtnnapanbbbcalaaGreatDoorProg
import Derived.JoinedOf
namespace Go.Proofs.YtnnapanbbbcalaaGreatDoor
set_option maxRecDepth 100000
theorem Z5:(Rows.evalSizesRow.recurses==Tryz.prog.recurses 4)=true:=by kernel_rfl
theorem ade:(Rows.evalSizesRow.named==Tryz.prog.varsNamed 4)=true:=by kernel_rfl
end Go.Proofs.YtnnapanbbbcalaaGreatDoor
