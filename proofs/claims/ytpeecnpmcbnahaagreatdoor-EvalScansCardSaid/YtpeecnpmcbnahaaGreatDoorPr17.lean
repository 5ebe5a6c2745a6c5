/-
  Part 17 of the proof: Ja.
-/
import Derived.Test.YtpeecnpmcbnahaaGreatDoorPr16
import Derived.Test.YtpeecnpmcbnahaaGreatDoorRows
import Derived.Test.YtpeecnpmcbnahaaGreatDoorProg
import Derived.JoinedOf
namespace Go.Proofs.YtpeecnpmcbnahaaGreatDoor
set_option maxRecDepth 100000
theorem aeU:(Rows.evalScansRow.inPlace==Tryz.prog.inPlace 4)=true:=by kernel_rfl
theorem amk:(Rows.evalScansRow.unfollowed==Tryz.prog.unfollowed 4)=true:=by kernel_rfl
end Go.Proofs.YtpeecnpmcbnahaaGreatDoor
