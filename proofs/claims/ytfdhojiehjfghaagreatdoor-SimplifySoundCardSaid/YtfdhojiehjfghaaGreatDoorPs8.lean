/-
  Part 8 of the proof: Dels.
-/
import Derived.Test.YtfdhojiehjfghaaGreatDoorPs7
import Derived.Test.YtfdhojiehjfghaaGreatDoorProg
import Derived.WalkKit
import Derived.WalkSpells
import Derived.WalkLawsBesides
import Derived.Deep.RegionHeld3
namespace Go.Proofs.YtfdhojiehjfghaaGreatDoor.MK
open Go.RowKit
set_option maxRecDepth 100000
set_option linter.unusedVariables false
end Go.Proofs.YtfdhojiehjfghaaGreatDoor.MK
namespace Go.Proofs.YtfdhojiehjfghaaGreatDoor
open Go.RowKit
set_option maxRecDepth 100000
end Go.Proofs.YtfdhojiehjfghaaGreatDoor
