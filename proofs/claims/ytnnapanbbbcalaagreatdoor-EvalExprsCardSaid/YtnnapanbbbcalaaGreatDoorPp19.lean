/-
  Part 19 of the proof: Jc.
-/
import Derived.Test.YtnnapanbbbcalaaGreatDoorPp18
import Derived.Test.YtnnapanbbbcalaaGreatDoorRows
import Derived.Test.YtnnapanbbbcalaaGreatDoorProg
import Derived.JoinedOf
namespace Go.Proofs.YtnnapanbbbcalaaGreatDoor
set_option maxRecDepth 100000
theorem alO:(Rows.evalExprsRow.plainKeys==Tryz.prog.plainKeys)=true:=by kernel_rfl
theorem ak1:Tryz.prog.stopsHeard=true:=by kernel_rfl
theorem ald:Tryz.prog.mayEnter=true:=by kernel_rfl
theorem aai:(Rows.evalExprsRow.lifted==Tryz.prog.liftsFinal)=true:=by kernel_rfl
theorem adZ:(Tryz.prog.make==some Rows.evalExprsRow.make)=true:=by kernel_rfl
end Go.Proofs.YtnnapanbbbcalaaGreatDoor
