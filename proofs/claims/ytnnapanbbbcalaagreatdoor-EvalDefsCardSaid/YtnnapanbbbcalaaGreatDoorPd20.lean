/-
  Part 20 of the proof: Jc.
-/
import Derived.Test.YtnnapanbbbcalaaGreatDoorPd19
import Derived.Test.YtnnapanbbbcalaaGreatDoorRows
import Derived.Test.YtnnapanbbbcalaaGreatDoorProg
import Derived.JoinedOf
namespace Go.Proofs.YtnnapanbbbcalaaGreatDoor
set_option maxRecDepth 100000
theorem akH:(Rows.evalDefsRow.plainKeys==Tryz.prog.plainKeys)=true:=by kernel_rfl
theorem aqh:Tryz.prog.stopsHeard=true:=by kernel_rfl
theorem ao5:Tryz.prog.mayEnter=true:=by kernel_rfl
theorem alM:(Rows.evalDefsRow.lifted==Tryz.prog.liftsFinal)=true:=by kernel_rfl
theorem am3:(Tryz.prog.make==some Rows.evalDefsRow.make)=true:=by kernel_rfl
end Go.Proofs.YtnnapanbbbcalaaGreatDoor
