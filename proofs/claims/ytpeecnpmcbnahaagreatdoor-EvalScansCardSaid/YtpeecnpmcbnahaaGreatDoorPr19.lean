/-
  Part 19 of the proof: Jc.
-/
import Derived.Test.YtpeecnpmcbnahaaGreatDoorPr18
import Derived.Test.YtpeecnpmcbnahaaGreatDoorRows
import Derived.Test.YtpeecnpmcbnahaaGreatDoorProg
import Derived.JoinedOf
namespace Go.Proofs.YtpeecnpmcbnahaaGreatDoor
set_option maxRecDepth 100000
theorem alq:(Rows.evalScansRow.plainKeys==Tryz.prog.plainKeys)=true:=by kernel_rfl
theorem acK:Tryz.prog.stopsHeard=true:=by kernel_rfl
theorem amq:Tryz.prog.mayEnter=true:=by kernel_rfl
theorem aki:(Rows.evalScansRow.lifted==Tryz.prog.liftsFinal)=true:=by kernel_rfl
theorem adT:(Tryz.prog.make==some Rows.evalScansRow.make)=true:=by kernel_rfl
end Go.Proofs.YtpeecnpmcbnahaaGreatDoor
