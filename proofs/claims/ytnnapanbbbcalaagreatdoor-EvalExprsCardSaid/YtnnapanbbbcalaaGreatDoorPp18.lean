/-
  Part 18 of the proof: Jb.
-/
import Derived.Test.YtnnapanbbbcalaaGreatDoorPp17
import Derived.Test.YtnnapanbbbcalaaGreatDoorRows
import Derived.Test.YtnnapanbbbcalaaGreatDoorProg
import Derived.JoinedOf
namespace Go.Proofs.YtnnapanbbbcalaaGreatDoor
set_option maxRecDepth 100000
theorem akk:(Rows.evalExprsRow.recurses==Tryz.prog.recurses 6)=true:=by kernel_rfl
theorem ajH:(Rows.evalExprsRow.named==Tryz.prog.varsNamed 6)=true:=by kernel_rfl
end Go.Proofs.YtnnapanbbbcalaaGreatDoor
