/-
  Part 21 of the proof: Je.
-/
import Derived.Test.YtmkmibahjanejaaGreatDoorPp20
import Derived.Test.YtmkmibahjanejaaGreatDoorRows
import Derived.Test.YtmkmibahjanejaaGreatDoorProg
import Derived.SevenTiedAt
namespace Go.Proofs.YtmkmibahjanejaaGreatDoor
set_option maxRecDepth 100000
theorem Zz:false=Rows.canonNormalizeRow.goesBy Tryz.prog:=by kernel_rfl
end Go.Proofs.YtmkmibahjanejaaGreatDoor
