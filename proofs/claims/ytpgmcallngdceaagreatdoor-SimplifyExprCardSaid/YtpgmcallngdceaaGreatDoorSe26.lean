/-
  Part 26 of the proof: Jc.
-/
import Derived.Test.YtpgmcallngdceaaGreatDoorSe25
import Derived.Test.YtpgmcallngdceaaGreatDoorRows
import Derived.Test.YtpgmcallngdceaaGreatDoorProg
import Derived.JoinedOf
namespace Go.Proofs.YtpgmcallngdceaaGreatDoor
set_option maxRecDepth 100000
theorem ZG:(Rows.simplifyExprRow.plainKeys==Tryz.prog.plainKeys)=true:=by kernel_rfl
theorem aiH:Tryz.prog.stopsHeard=true:=by kernel_rfl
theorem Zd:Tryz.prog.mayEnter=true:=by kernel_rfl
theorem afA:(Rows.simplifyExprRow.lifted==Tryz.prog.liftsFinal)=true:=by kernel_rfl
theorem Zr:(Tryz.prog.make==some Rows.simplifyExprRow.make)=true:=by kernel_rfl
end Go.Proofs.YtpgmcallngdceaaGreatDoor
