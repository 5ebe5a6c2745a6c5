/-
  Part 18 of the proof: Jb.
-/
import Derived.Test.YtpeecnpmcbnahaaGreatDoorPp17
import Derived.Test.YtpeecnpmcbnahaaGreatDoorRows
import Derived.Test.YtpeecnpmcbnahaaGreatDoorProg
import Derived.JoinedOf
namespace Go.Proofs.YtpeecnpmcbnahaaGreatDoor
set_option maxRecDepth 100000
theorem amS:(Rows.evalIgnoresRow.recurses==Tryz.prog.recurses 3)=true:=by kernel_rfl
theorem acd:(Rows.evalIgnoresRow.named==Tryz.prog.varsNamed 3)=true:=by kernel_rfl
end Go.Proofs.YtpeecnpmcbnahaaGreatDoor
