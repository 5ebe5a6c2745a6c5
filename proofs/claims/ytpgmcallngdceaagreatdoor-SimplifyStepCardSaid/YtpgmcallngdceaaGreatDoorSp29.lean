/-
  Part 29 of the proof: Je.
-/
import Derived.Test.YtpgmcallngdceaaGreatDoorSp28
import Derived.Test.YtpgmcallngdceaaGreatDoorRows
import Derived.Test.YtpgmcallngdceaaGreatDoorProg
import Derived.SevenTiedAt
namespace Go.Proofs.YtpgmcallngdceaaGreatDoor
set_option maxRecDepth 100000
theorem agX:false=Rows.simplifyStepRow.goesBy Tryz.prog:=by kernel_rfl
end Go.Proofs.YtpgmcallngdceaaGreatDoor
