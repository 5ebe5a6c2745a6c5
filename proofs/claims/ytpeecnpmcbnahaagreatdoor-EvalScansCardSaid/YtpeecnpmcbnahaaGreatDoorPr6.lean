/-
  Part 6 of the proof: AbsKw.
-/
import Derived.Test.YtpeecnpmcbnahaaGreatDoorPr5
namespace Go.Proofs.YtpeecnpmcbnahaaGreatDoor
open Go.RowKit
set_option maxRecDepth 1000000
set_option maxHeartbeats 0
end Go.Proofs.YtpeecnpmcbnahaaGreatDoor
