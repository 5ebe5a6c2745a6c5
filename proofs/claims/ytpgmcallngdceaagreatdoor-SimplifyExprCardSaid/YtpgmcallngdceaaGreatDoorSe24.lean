/-
  Part 24 of the proof: Ja.
-/
import Derived.Test.YtpgmcallngdceaaGreatDoorSe23
import Derived.Test.YtpgmcallngdceaaGreatDoorRows
import Derived.Test.YtpgmcallngdceaaGreatDoorProg
import Derived.JoinedOf
namespace Go.Proofs.YtpgmcallngdceaaGreatDoor
set_option maxRecDepth 100000
theorem ajj:(Rows.simplifyExprRow.inPlace==Tryz.prog.inPlace 4)=true:=by kernel_rfl
theorem aar:(Rows.simplifyExprRow.unfollowed==Tryz.prog.unfollowed 4)=true:=by kernel_rfl
end Go.Proofs.YtpgmcallngdceaaGreatDoor
