/-
  Part 16 of the proof: Ja.
-/
import Derived.Test.YtmkmibahjanejaaGreatDoorPp15
import Derived.Test.YtmkmibahjanejaaGreatDoorRows
import Derived.Test.YtmkmibahjanejaaGreatDoorProg
import Derived.JoinedOf
namespace Go.Proofs.YtmkmibahjanejaaGreatDoor
set_option maxRecDepth 100000
theorem UI:(Rows.canonNormalizeRow.inPlace==Tryz.prog.inPlace 3)=true:=by kernel_rfl
theorem Vn:(Rows.canonNormalizeRow.unfollowed==Tryz.prog.unfollowed 3)=true:=by kernel_rfl
end Go.Proofs.YtmkmibahjanejaaGreatDoor
