/-
  Part 25 of the proof: Jb.
-/
import Derived.Test.YtpgmcallngdceaaGreatDoorSp24
import Derived.Test.YtpgmcallngdceaaGreatDoorRows
import Derived.Test.YtpgmcallngdceaaGreatDoorProg
import Derived.JoinedOf
namespace Go.Proofs.YtpgmcallngdceaaGreatDoor
set_option maxRecDepth 100000
theorem aaU:(Rows.simplifyStepRow.recurses==Tryz.prog.recurses 3)=true:=by kernel_rfl
theorem aho:(Rows.simplifyStepRow.named==Tryz.prog.varsNamed 3)=true:=by kernel_rfl
end Go.Proofs.YtpgmcallngdceaaGreatDoor
