/-
  Part 26 of the proof: Je.
-/
import Derived.Test.YtdchibpnjpnkoaaGreatDoorPp25
import Derived.Test.YtdchibpnjpnkoaaGreatDoorRows
import Derived.Test.YtdchibpnjpnkoaaGreatDoorProg
import Derived.SevenTiedAt
namespace Go.Proofs.YtdchibpnjpnkoaaGreatDoor
set_option maxRecDepth 100000
theorem anV:false=Rows.simplifyProgRow.goesBy Tryz.prog:=by kernel_rfl
end Go.Proofs.YtdchibpnjpnkoaaGreatDoor
