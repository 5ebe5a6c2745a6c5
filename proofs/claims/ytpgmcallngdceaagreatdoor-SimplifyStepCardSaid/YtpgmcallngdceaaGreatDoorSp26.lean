/-
  Part 26 of the proof: Jc.
-/
import Derived.Test.YtpgmcallngdceaaGreatDoorSp25
import Derived.Test.YtpgmcallngdceaaGreatDoorRows
import Derived.Test.YtpgmcallngdceaaGreatDoorProg
import Derived.JoinedOf
namespace Go.Proofs.YtpgmcallngdceaaGreatDoor
set_option maxRecDepth 100000
theorem ahq:(Rows.simplifyStepRow.plainKeys==Tryz.prog.plainKeys)=true:=by kernel_rfl
theorem ahj:Tryz.prog.stopsHeard=true:=by kernel_rfl
theorem afn:Tryz.prog.mayEnter=true:=by kernel_rfl
theorem abo:(Rows.simplifyStepRow.lifted==Tryz.prog.liftsFinal)=true:=by kernel_rfl
theorem agC:(Tryz.prog.make==some Rows.simplifyStepRow.make)=true:=by kernel_rfl
end Go.Proofs.YtpgmcallngdceaaGreatDoor
