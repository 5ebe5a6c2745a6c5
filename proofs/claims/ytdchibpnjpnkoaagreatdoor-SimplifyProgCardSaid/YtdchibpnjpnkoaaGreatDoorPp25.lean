/-
  Part 25 of the proof: Jd.
-/
import Derived.Test.YtdchibpnjpnkoaaGreatDoorPp24
import Derived.Test.YtdchibpnjpnkoaaGreatDoorRows
import Derived.Test.YtdchibpnjpnkoaaGreatDoorProg
import Derived.SevenTiedAt
namespace Go.Proofs.YtdchibpnjpnkoaaGreatDoor
set_option maxRecDepth 100000
theorem ao9:Tryz.prog.mainIs=some (((true, "d06f0831e730437e2ef23d29fbca8f4448c2d146c534f0353ed9b1cd3e289f8a")).1,((true, "d06f0831e730437e2ef23d29fbca8f4448c2d146c534f0353ed9b1cd3e289f8a")).2.toList):=by kernel_rfl
theorem al1:false=Tryz.prog.looks []:=by kernel_rfl
end Go.Proofs.YtdchibpnjpnkoaaGreatDoor
