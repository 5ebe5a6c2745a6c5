/-
  Part 8 of the proof: Dels.
-/
import Derived.Test.YtmkmibahjanejaaGreatDoorPp7
import Derived.Test.YtmkmibahjanejaaGreatDoorProg
import Derived.WalkKit
import Derived.WalkSpells
import Derived.WalkLawsBesides
import Derived.Deep.RegionHeld3
namespace Go.Proofs.YtmkmibahjanejaaGreatDoor.MK
open Go.RowKit
set_option maxRecDepth 100000
set_option linter.unusedVariables false
end Go.Proofs.YtmkmibahjanejaaGreatDoor.MK
namespace Go.Proofs.YtmkmibahjanejaaGreatDoor
open Go.RowKit
set_option maxRecDepth 100000
end Go.Proofs.YtmkmibahjanejaaGreatDoor
