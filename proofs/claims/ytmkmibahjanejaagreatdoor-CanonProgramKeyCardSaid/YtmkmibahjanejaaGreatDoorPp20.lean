/-
  Part 20 of the proof: Je.
-/
import Derived.Test.YtmkmibahjanejaaGreatDoorPp19
import Derived.Test.YtmkmibahjanejaaGreatDoorRows
import Derived.Test.YtmkmibahjanejaaGreatDoorProg
import Derived.SevenTiedAt
namespace Go.Proofs.YtmkmibahjanejaaGreatDoor
set_option maxRecDepth 100000
theorem am3:false=Rows.canonProgramKeyRow.goesBy Tryz.prog:=by kernel_rfl
end Go.Proofs.YtmkmibahjanejaaGreatDoor
