/-
  Part 20.
-/
import Derived.Test.YtnnapanbbbcalaaGreatDoorPe19
namespace Go.Proofs.YtnnapanbbbcalaaGreatDoor
set_option maxRecDepth 100000
theorem aiP:(Rows.evalRunsRow.plainKeys==Tryz.prog.plainKeys)=true:=by kernel_rfl
theorem amY:Tryz.prog.stopsHeard=true:=by kernel_rfl
theorem alH:Tryz.prog.mayEnter=true:=by kernel_rfl
theorem ao5:(Rows.evalRunsRow.lifted==Tryz.prog.liftsFinal)=true:=by kernel_rfl
theorem aiI:(Tryz.prog.make==some Rows.evalRunsRow.make)=true:=by kernel_rfl
end Go.Proofs.YtnnapanbbbcalaaGreatDoor
