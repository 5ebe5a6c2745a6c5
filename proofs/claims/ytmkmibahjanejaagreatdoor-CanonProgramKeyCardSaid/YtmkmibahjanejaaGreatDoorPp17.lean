/-
  Part 17 of the proof: Jc.
-/
import Derived.Test.YtmkmibahjanejaaGreatDoorPp16
import Derived.Test.YtmkmibahjanejaaGreatDoorRows
import Derived.Test.YtmkmibahjanejaaGreatDoorProg
import Derived.JoinedOf
namespace Go.Proofs.YtmkmibahjanejaaGreatDoor
set_option maxRecDepth 100000
theorem ahO:(Rows.canonProgramKeyRow.plainKeys==Tryz.prog.plainKeys)=true:=by kernel_rfl
theorem afA:Tryz.prog.stopsHeard=true:=by kernel_rfl
theorem amk:Tryz.prog.mayEnter=true:=by kernel_rfl
theorem amQ:(Rows.canonProgramKeyRow.lifted==Tryz.prog.liftsFinal)=true:=by kernel_rfl
theorem apb:(Tryz.prog.make==some Rows.canonProgramKeyRow.make)=true:=by kernel_rfl
end Go.Proofs.YtmkmibahjanejaaGreatDoor
