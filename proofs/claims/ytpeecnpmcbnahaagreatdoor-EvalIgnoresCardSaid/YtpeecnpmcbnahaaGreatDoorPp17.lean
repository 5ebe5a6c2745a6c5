/-
  Part 17 of the proof: Ja.
-/
import Derived.Test.YtpeecnpmcbnahaaGreatDoorPp16
import Derived.Test.YtpeecnpmcbnahaaGreatDoorRows
import Derived.Test.YtpeecnpmcbnahaaGreatDoorProg
import Derived.JoinedOf
namespace Go.Proofs.YtpeecnpmcbnahaaGreatDoor
set_option maxRecDepth 100000
theorem ajt:(Rows.evalIgnoresRow.inPlace==Tryz.prog.inPlace 3)=true:=by kernel_rfl
theorem adh:(Rows.evalIgnoresRow.unfollowed==Tryz.prog.unfollowed 3)=true:=by kernel_rfl
end Go.Proofs.YtpeecnpmcbnahaaGreatDoor
