/-
  Part 29 of the proof: Je.
-/
import Derived.Test.YtpgmcallngdceaaGreatDoorSe28
import Derived.Test.YtpgmcallngdceaaGreatDoorRows
import Derived.Test.YtpgmcallngdceaaGreatDoorProg
import Derived.SevenTiedAt
namespace Go.Proofs.YtpgmcallngdceaaGreatDoor
set_option maxRecDepth 100000
theorem ae5:false=Rows.simplifyExprRow.goesBy Tryz.prog:=by kernel_rfl
end Go.Proofs.YtpgmcallngdceaaGreatDoor
