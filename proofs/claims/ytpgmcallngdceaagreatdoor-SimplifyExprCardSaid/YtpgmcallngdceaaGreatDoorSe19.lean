/-
  Part 19 of the proof: PQ10.
-/
import Derived.Test.YtpgmcallngdceaaGreatDoorSe18
namespace Go.Proofs.YtpgmcallngdceaaGreatDoor
open Go.RowKit
set_option maxRecDepth 100000
set_option maxHeartbeats 0
set_option linter.unusedVariables false
end Go.Proofs.YtpgmcallngdceaaGreatDoor
