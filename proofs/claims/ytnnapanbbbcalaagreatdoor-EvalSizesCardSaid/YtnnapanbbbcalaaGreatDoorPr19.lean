/-
  Part 19 of the proof: Jc.
-/
import Derived.Test.YtnnapanbbbcalaaGreatDoorPr18
import Derived.Test.YtnnapanbbbcalaaGreatDoorRows
import Derived.Test.YtnnapanbbbcalaaGreatDoorProg
import Derived.JoinedOf
namespace Go.Proofs.YtnnapanbbbcalaaGreatDoor
set_option maxRecDepth 100000
theorem afL:(Rows.evalSizesRow.plainKeys==Tryz.prog.plainKeys)=true:=by kernel_rfl
theorem afb:Tryz.prog.stopsHeard=true:=by kernel_rfl
theorem ab9:Tryz.prog.mayEnter=true:=by kernel_rfl
theorem ZP:(Rows.evalSizesRow.lifted==Tryz.prog.liftsFinal)=true:=by kernel_rfl
theorem Yz:(Tryz.prog.make==some Rows.evalSizesRow.make)=true:=by kernel_rfl
end Go.Proofs.YtnnapanbbbcalaaGreatDoor
