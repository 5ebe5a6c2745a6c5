/-
  Part 18 of the proof: Jc.
-/
import Derived.Test.YtmkmibahjanejaaGreatDoorPp17
import Derived.Test.YtmkmibahjanejaaGreatDoorRows
import Derived.Test.YtmkmibahjanejaaGreatDoorProg
import Derived.JoinedOf
namespace Go.Proofs.YtmkmibahjanejaaGreatDoor
set_option maxRecDepth 100000
theorem YC:(Rows.canonNormalizeRow.plainKeys==Tryz.prog.plainKeys)=true:=by kernel_rfl
theorem Uw:Tryz.prog.stopsHeard=true:=by kernel_rfl
theorem ado:Tryz.prog.mayEnter=true:=by kernel_rfl
theorem acZ:(Rows.canonNormalizeRow.lifted==Tryz.prog.liftsFinal)=true:=by kernel_rfl
theorem TI:(Tryz.prog.make==some Rows.canonNormalizeRow.make)=true:=by kernel_rfl
end Go.Proofs.YtmkmibahjanejaaGreatDoor
