/-
  Part 5 of the proof.
-/
import Derived.Test.YtjploedinjiflaaGreatDoorPi4
namespace Go.Proofs.YtjploedinjiflaaGreatDoor
open Go.RowKit
set_option maxRecDepth 1000000
set_option maxHeartbeats 0
end Go.Proofs.YtjploedinjiflaaGreatDoor
