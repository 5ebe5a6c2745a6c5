/-
  Part 19 of the proof: Jc.
-/
import Derived.Test.YtpeecnpmcbnahaaGreatDoorPq18
import Derived.Test.YtpeecnpmcbnahaaGreatDoorRows
import Derived.Test.YtpeecnpmcbnahaaGreatDoorProg
import Derived.JoinedOf
namespace Go.Proofs.YtpeecnpmcbnahaaGreatDoor
set_option maxRecDepth 100000
theorem aor:(Rows.evalTypedRow.plainKeys==Tryz.prog.plainKeys)=true:=by kernel_rfl
theorem ahX:Tryz.prog.stopsHeard=true:=by kernel_rfl
theorem agc:Tryz.prog.mayEnter=true:=by kernel_rfl
theorem anU:(Rows.evalTypedRow.lifted==Tryz.prog.liftsFinal)=true:=by kernel_rfl
theorem ajG:(Tryz.prog.make==some Rows.evalTypedRow.make)=true:=by kernel_rfl
end Go.Proofs.YtpeecnpmcbnahaaGreatDoor
