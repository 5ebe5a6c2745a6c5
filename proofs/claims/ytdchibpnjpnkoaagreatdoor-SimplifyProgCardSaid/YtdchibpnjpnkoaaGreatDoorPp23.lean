/-
  Part 23 of the proof: Jc.
-/
import Derived.Test.YtdchibpnjpnkoaaGreatDoorPp22
import Derived.Test.YtdchibpnjpnkoaaGreatDoorRows
import Derived.Test.YtdchibpnjpnkoaaGreatDoorProg
import Derived.JoinedOf
namespace Go.Proofs.YtdchibpnjpnkoaaGreatDoor
set_option maxRecDepth 100000
theorem amS:(Rows.simplifyProgRow.plainKeys==Tryz.prog.plainKeys)=true:=by kernel_rfl
theorem ano:Tryz.prog.stopsHeard=true:=by kernel_rfl
theorem aeg:Tryz.prog.mayEnter=true:=by kernel_rfl
theorem aqy:(Rows.simplifyProgRow.lifted==Tryz.prog.liftsFinal)=true:=by kernel_rfl
theorem aqj:(Tryz.prog.make==some Rows.simplifyProgRow.make)=true:=by kernel_rfl
end Go.Proofs.YtdchibpnjpnkoaaGreatDoor
