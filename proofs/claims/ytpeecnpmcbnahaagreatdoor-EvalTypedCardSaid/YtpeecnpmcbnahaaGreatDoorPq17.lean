/-
  Part 17 of the proof: Ja.
-/
import Derived.Test.YtpeecnpmcbnahaaGreatDoorPq16
import Derived.Test.YtpeecnpmcbnahaaGreatDoorRows
import Derived.Test.YtpeecnpmcbnahaaGreatDoorProg
import Derived.JoinedOf
namespace Go.Proofs.YtpeecnpmcbnahaaGreatDoor
set_option maxRecDepth 100000
theorem anG:(Rows.evalTypedRow.inPlace==Tryz.prog.inPlace 6)=true:=by kernel_rfl
theorem ag9:(Rows.evalTypedRow.unfollowed==Tryz.prog.unfollowed 6)=true:=by kernel_rfl
end Go.Proofs.YtpeecnpmcbnahaaGreatDoor
