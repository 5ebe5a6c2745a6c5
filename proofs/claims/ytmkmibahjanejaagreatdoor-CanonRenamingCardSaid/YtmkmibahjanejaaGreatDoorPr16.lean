/-
  Part 16 of the proof: Jb.
-/
import Derived.Test.YtmkmibahjanejaaGreatDoorPr15
import Derived.Test.YtmkmibahjanejaaGreatDoorRows
import Derived.Test.YtmkmibahjanejaaGreatDoorProg
import Derived.JoinedOf
namespace Go.Proofs.YtmkmibahjanejaaGreatDoor
set_option maxRecDepth 100000
theorem ad7:(Rows.canonRenamingRow.recurses==Tryz.prog.recurses 5)=true:=by kernel_rfl
theorem akD:(Rows.canonRenamingRow.named==Tryz.prog.varsNamed 5)=true:=by kernel_rfl
end Go.Proofs.YtmkmibahjanejaaGreatDoor
