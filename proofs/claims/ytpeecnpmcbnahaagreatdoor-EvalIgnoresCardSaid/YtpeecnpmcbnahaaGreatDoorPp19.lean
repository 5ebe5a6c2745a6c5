/-
  Part 19 of the proof: Jc.
-/
import Derived.Test.YtpeecnpmcbnahaaGreatDoorPp18
import Derived.Test.YtpeecnpmcbnahaaGreatDoorRows
import Derived.Test.YtpeecnpmcbnahaaGreatDoorProg
import Derived.JoinedOf
namespace Go.Proofs.YtpeecnpmcbnahaaGreatDoor
set_option maxRecDepth 100000
theorem ahm:(Rows.evalIgnoresRow.plainKeys==Tryz.prog.plainKeys)=true:=by kernel_rfl
theorem ajQ:Tryz.prog.stopsHeard=true:=by kernel_rfl
theorem alG:Tryz.prog.mayEnter=true:=by kernel_rfl
theorem adU:(Rows.evalIgnoresRow.lifted==Tryz.prog.liftsFinal)=true:=by kernel_rfl
theorem ajq:(Tryz.prog.make==some Rows.evalIgnoresRow.make)=true:=by kernel_rfl
end Go.Proofs.YtpeecnpmcbnahaaGreatDoor
