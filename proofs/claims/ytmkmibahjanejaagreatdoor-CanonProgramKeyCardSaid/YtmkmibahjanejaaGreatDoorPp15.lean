/-
  Part 15 of the proof: Ja.
-/
import Derived.Test.YtmkmibahjanejaaGreatDoorPp14
import Derived.Test.YtmkmibahjanejaaGreatDoorRows
import Derived.Test.YtmkmibahjanejaaGreatDoorProg
import Derived.JoinedOf
namespace Go.Proofs.YtmkmibahjanejaaGreatDoor
set_option maxRecDepth 100000
theorem aoV:(Rows.canonProgramKeyRow.inPlace==Tryz.prog.inPlace 4)=true:=by kernel_rfl
theorem ahl:(Rows.canonProgramKeyRow.unfollowed==Tryz.prog.unfollowed 4)=true:=by kernel_rfl
end Go.Proofs.YtmkmibahjanejaaGreatDoor
