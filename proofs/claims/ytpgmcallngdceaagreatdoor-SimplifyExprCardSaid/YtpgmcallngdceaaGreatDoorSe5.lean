/-
  Part 5 of the proof: AbsKw.
-/
import Derived.Test.YtpgmcallngdceaaGreatDoorSe4
namespace Go.Proofs.YtpgmcallngdceaaGreatDoor
open Go.RowKit
set_option maxRecDepth 1000000
set_option maxHeartbeats 0
end Go.Proofs.YtpgmcallngdceaaGreatDoor
