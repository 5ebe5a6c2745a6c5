/-
  Part 16 of the proof: Jb.
-/
import Derived.Test.YtmkmibahjanejaaGreatDoorPp15
import Derived.Test.YtmkmibahjanejaaGreatDoorRows
import Derived.Test.YtmkmibahjanejaaGreatDoorProg
import Derived.JoinedOf
namespace Go.Proofs.YtmkmibahjanejaaGreatDoor
set_option maxRecDepth 100000
theorem ad2:(Rows.canonProgramKeyRow.recurses==Tryz.prog.recurses 4)=true:=by kernel_rfl
theorem aht:(Rows.canonProgramKeyRow.named==Tryz.prog.varsNamed 4)=true:=by kernel_rfl
end Go.Proofs.YtmkmibahjanejaaGreatDoor
