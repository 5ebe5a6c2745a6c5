/-
  Part 24 of the proof: Ja.
-/
import Derived.Test.YtpgmcallngdceaaGreatDoorSp23
import Derived.Test.YtpgmcallngdceaaGreatDoorRows
import Derived.Test.YtpgmcallngdceaaGreatDoorProg
import Derived.JoinedOf
namespace Go.Proofs.YtpgmcallngdceaaGreatDoor
set_option maxRecDepth 100000
theorem Xs:(Rows.simplifyStepRow.inPlace==Tryz.prog.inPlace 3)=true:=by kernel_rfl
theorem acA:(Rows.simplifyStepRow.unfollowed==Tryz.prog.unfollowed 3)=true:=by kernel_rfl
end Go.Proofs.YtpgmcallngdceaaGreatDoor
