/-
  Part 21 of the proof: Ja.
-/
import Derived.Test.YtdchibpnjpnkoaaGreatDoorPp20
import Derived.Test.YtdchibpnjpnkoaaGreatDoorRows
import Derived.Test.YtdchibpnjpnkoaaGreatDoorProg
import Derived.JoinedOf
namespace Go.Proofs.YtdchibpnjpnkoaaGreatDoor
set_option maxRecDepth 100000
theorem ahV:(Rows.simplifyProgRow.inPlace==Tryz.prog.inPlace 3)=true:=by kernel_rfl
theorem apq:(Rows.simplifyProgRow.unfollowed==Tryz.prog.unfollowed 3)=true:=by kernel_rfl
end Go.Proofs.YtdchibpnjpnkoaaGreatDoor
