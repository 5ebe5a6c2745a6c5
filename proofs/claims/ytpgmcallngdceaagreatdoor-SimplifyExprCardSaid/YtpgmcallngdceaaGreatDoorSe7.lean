/-
  Part 7 of the proof: Dels.
-/
import Derived.Test.YtpgmcallngdceaaGreatDoorSe6
import Derived.Test.YtpgmcallngdceaaGreatDoorProg
import Derived.WalkKit
import Derived.WalkSpells
import Derived.WalkLawsBesides
import Derived.Deep.RegionHeld3
namespace Go.Proofs.YtpgmcallngdceaaGreatDoor.MK
open Go.RowKit
set_option maxRecDepth 100000
set_option linter.unusedVariables false
end Go.Proofs.YtpgmcallngdceaaGreatDoor.MK
namespace Go.Proofs.YtpgmcallngdceaaGreatDoor
open Go.RowKit
set_option maxRecDepth 100000
end Go.Proofs.YtpgmcallngdceaaGreatDoor
