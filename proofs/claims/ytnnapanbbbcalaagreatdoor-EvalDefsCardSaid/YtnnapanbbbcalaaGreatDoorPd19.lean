/-
  Part 19 of the proof: Jb.
-/
import Derived.Test.YtnnapanbbbcalaaGreatDoorPd18
import Derived.Test.YtnnapanbbbcalaaGreatDoorRows
import Derived.Test.YtnnapanbbbcalaaGreatDoorProg
import Derived.JoinedOf
namespace Go.Proofs.YtnnapanbbbcalaaGreatDoor
set_option maxRecDepth 100000
theorem ahe:(Rows.evalDefsRow.recurses==Tryz.prog.recurses 3)=true:=by kernel_rfl
theorem ait:(Rows.evalDefsRow.named==Tryz.prog.varsNamed 3)=true:=by kernel_rfl
end Go.Proofs.YtnnapanbbbcalaaGreatDoor
