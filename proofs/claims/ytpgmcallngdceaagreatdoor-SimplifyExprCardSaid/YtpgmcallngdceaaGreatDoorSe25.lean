/-
  Part 25 of the proof: Jb.
-/
import Derived.Test.YtpgmcallngdceaaGreatDoorSe24
import Derived.Test.YtpgmcallngdceaaGreatDoorRows
import Derived.Test.YtpgmcallngdceaaGreatDoorProg
import Derived.JoinedOf
namespace Go.Proofs.YtpgmcallngdceaaGreatDoor
set_option maxRecDepth 100000
theorem Yt:(Rows.simplifyExprRow.recurses==Tryz.prog.recurses 4)=true:=by kernel_rfl
theorem aeR:(Rows.simplifyExprRow.named==Tryz.prog.varsNamed 4)=true:=by kernel_rfl
end Go.Proofs.YtpgmcallngdceaaGreatDoor
