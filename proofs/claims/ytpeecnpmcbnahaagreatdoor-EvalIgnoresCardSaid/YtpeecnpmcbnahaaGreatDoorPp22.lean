/-
  Part 22 of the proof: Je.
-/
import Derived.Test.YtpeecnpmcbnahaaGreatDoorPp21
import Derived.Test.YtpeecnpmcbnahaaGreatDoorRows
import Derived.Test.YtpeecnpmcbnahaaGreatDoorProg
import Derived.SevenTiedAt
namespace Go.Proofs.YtpeecnpmcbnahaaGreatDoor
set_option maxRecDepth 100000
theorem al4:false=Rows.evalIgnoresRow.goesBy Tryz.prog:=by kernel_rfl
end Go.Proofs.YtpeecnpmcbnahaaGreatDoor
