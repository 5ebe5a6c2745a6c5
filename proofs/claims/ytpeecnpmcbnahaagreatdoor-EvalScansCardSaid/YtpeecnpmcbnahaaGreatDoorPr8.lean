/-
  Part 8 of the proof: Dels.
-/
import Derived.Test.YtpeecnpmcbnahaaGreatDoorPr7
import Derived.Test.YtpeecnpmcbnahaaGreatDoorProg
import Derived.WalkKit
import Derived.WalkSpells
import Derived.WalkLawsBesides
import Derived.Deep.RegionHeld3
namespace Go.Proofs.YtpeecnpmcbnahaaGreatDoor.MK
open Go.RowKit
set_option maxRecDepth 100000
set_option linter.unusedVariables false
end Go.Proofs.YtpeecnpmcbnahaaGreatDoor.MK
namespace Go.Proofs.YtpeecnpmcbnahaaGreatDoor
open Go.RowKit
set_option maxRecDepth 100000
end Go.Proofs.YtpeecnpmcbnahaaGreatDoor
