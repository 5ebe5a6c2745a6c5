/-
  Part 17 of the proof: Jb.
-/
import Derived.Test.YtmkmibahjanejaaGreatDoorPp16
import Derived.Test.YtmkmibahjanejaaGreatDoorRows
import Derived.Test.YtmkmibahjanejaaGreatDoorProg
import Derived.JoinedOf
namespace Go.Proofs.YtmkmibahjanejaaGreatDoor
set_option maxRecDepth 100000
theorem adH:(Rows.canonNormalizeRow.recurses==Tryz.prog.recurses 3)=true:=by kernel_rfl
theorem afb:(Rows.canonNormalizeRow.named==Tryz.prog.varsNamed 3)=true:=by kernel_rfl
end Go.Proofs.YtmkmibahjanejaaGreatDoor
