/-
  Part 8 of the proof: Dels.
-/
import Derived.Test.YtnnapanbbbcalaaGreatDoorPe7
import Derived.Test.YtnnapanbbbcalaaGreatDoorProg
import Derived.WalkKit
import Derived.WalkSpells
import Derived.WalkLawsBesides
import Derived.Deep.RegionHeld3
namespace Go.Proofs.YtnnapanbbbcalaaGreatDoor.MK
open Go.RowKit
set_option maxRecDepth 100000
set_option linter.unusedVariables false
end Go.Proofs.YtnnapanbbbcalaaGreatDoor.MK
namespace Go.Proofs.YtnnapanbbbcalaaGreatDoor
open Go.RowKit
set_option maxRecDepth 100000
end Go.Proofs.YtnnapanbbbcalaaGreatDoor
