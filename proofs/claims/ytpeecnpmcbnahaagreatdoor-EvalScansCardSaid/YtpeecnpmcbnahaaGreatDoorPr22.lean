/-
  Part 22 of the proof: Je.
-/
import Derived.Test.YtpeecnpmcbnahaaGreatDoorPr21
import Derived.Test.YtpeecnpmcbnahaaGreatDoorRows
import Derived.Test.YtpeecnpmcbnahaaGreatDoorProg
import Derived.SevenTiedAt
namespace Go.Proofs.YtpeecnpmcbnahaaGreatDoor
set_option maxRecDepth 100000
theorem ab6:false=Rows.evalScansRow.goesBy Tryz.prog:=by kernel_rfl
end Go.Proofs.YtpeecnpmcbnahaaGreatDoor
