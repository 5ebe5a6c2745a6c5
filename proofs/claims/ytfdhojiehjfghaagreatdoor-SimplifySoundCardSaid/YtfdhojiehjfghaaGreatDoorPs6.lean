/-
  Part 6 of the proof: AbsKw.
-/
import Derived.Test.YtfdhojiehjfghaaGreatDoorPs5
namespace Go.Proofs.YtfdhojiehjfghaaGreatDoor
open Go.RowKit
set_option maxRecDepth 1000000
set_option maxHeartbeats 0
end Go.Proofs.YtfdhojiehjfghaaGreatDoor
