/-
  Part 18 of the proof: Jb.
-/
import Derived.Test.YtpeecnpmcbnahaaGreatDoorPr17
import Derived.Test.YtpeecnpmcbnahaaGreatDoorRows
import Derived.Test.YtpeecnpmcbnahaaGreatDoorProg
import Derived.JoinedOf
namespace Go.Proofs.YtpeecnpmcbnahaaGreatDoor
set_option maxRecDepth 100000
theorem adh:(Rows.evalScansRow.recurses==Tryz.prog.recurses 4)=true:=by kernel_rfl
theorem aeC:(Rows.evalScansRow.named==Tryz.prog.varsNamed 4)=true:=by kernel_rfl
end Go.Proofs.YtpeecnpmcbnahaaGreatDoor
