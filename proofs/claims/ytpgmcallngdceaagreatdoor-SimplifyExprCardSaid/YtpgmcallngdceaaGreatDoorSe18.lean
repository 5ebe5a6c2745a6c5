/-
  Part 18 of the proof: PQ9.
-/
import Derived.Test.YtpgmcallngdceaaGreatDoorSe17
namespace Go.Proofs.YtpgmcallngdceaaGreatDoor
open Go.RowKit
set_option maxRecDepth 100000
set_option maxHeartbeats 0
set_option linter.unusedVariables false
end Go.Proofs.YtpgmcallngdceaaGreatDoor
