/-
  Part 15 of the proof: Ja.
-/
import Derived.Test.YtmkmibahjanejaaGreatDoorPr14
import Derived.Test.YtmkmibahjanejaaGreatDoorRows
import Derived.Test.YtmkmibahjanejaaGreatDoorProg
import Derived.JoinedOf
namespace Go.Proofs.YtmkmibahjanejaaGreatDoor
set_option maxRecDepth 100000
theorem acQ:(Rows.canonRenamingRow.inPlace==Tryz.prog.inPlace 5)=true:=by kernel_rfl
theorem aiE:(Rows.canonRenamingRow.unfollowed==Tryz.prog.unfollowed 5)=true:=by kernel_rfl
end Go.Proofs.YtmkmibahjanejaaGreatDoor
