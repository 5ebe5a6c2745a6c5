/-
  Part 5 of the proof: AbsKw.
-/
import Derived.Test.YtdchibpnjpnkoaaGreatDoorPp4
namespace Go.Proofs.YtdchibpnjpnkoaaGreatDoor
open Go.RowKit
set_option maxRecDepth 1000000
set_option maxHeartbeats 0
end Go.Proofs.YtdchibpnjpnkoaaGreatDoor
