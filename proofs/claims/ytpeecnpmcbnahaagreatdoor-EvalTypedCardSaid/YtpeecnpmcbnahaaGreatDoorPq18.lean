/-
  Part 18 of the proof: Jb.
-/
import Derived.Test.YtpeecnpmcbnahaaGreatDoorPq17
import Derived.Test.YtpeecnpmcbnahaaGreatDoorRows
import Derived.Test.YtpeecnpmcbnahaaGreatDoorProg
import Derived.JoinedOf
namespace Go.Proofs.YtpeecnpmcbnahaaGreatDoor
set_option maxRecDepth 100000
theorem aez:(Rows.evalTypedRow.recurses==Tryz.prog.recurses 6)=true:=by kernel_rfl
theorem alK:(Rows.evalTypedRow.named==Tryz.prog.varsNamed 6)=true:=by kernel_rfl
end Go.Proofs.YtpeecnpmcbnahaaGreatDoor
