/-
  Part 19 of the proof: Jc.
-/
import Derived.Test.YtfdhojiehjfghaaGreatDoorPs18
import Derived.Test.YtfdhojiehjfghaaGreatDoorRows
import Derived.Test.YtfdhojiehjfghaaGreatDoorProg
import Derived.JoinedOf
namespace Go.Proofs.YtfdhojiehjfghaaGreatDoor
set_option maxRecDepth 100000
theorem ahG:(Rows.simplifySoundRow.plainKeys==Tryz.prog.plainKeys)=true:=by kernel_rfl
theorem ajw:Tryz.prog.stopsHeard=true:=by kernel_rfl
theorem adV:Tryz.prog.mayEnter=true:=by kernel_rfl
theorem aar:(Rows.simplifySoundRow.lifted==Tryz.prog.liftsFinal)=true:=by kernel_rfl
theorem acA:(Tryz.prog.make==some Rows.simplifySoundRow.make)=true:=by kernel_rfl
end Go.Proofs.YtfdhojiehjfghaaGreatDoor
