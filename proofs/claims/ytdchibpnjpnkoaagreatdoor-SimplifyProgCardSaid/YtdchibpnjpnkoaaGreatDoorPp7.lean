/-
  Part 7 of the proof: Dels.
-/
import Derived.Test.YtdchibpnjpnkoaaGreatDoorPp6
import Derived.Test.YtdchibpnjpnkoaaGreatDoorProg
import Derived.WalkKit
import Derived.WalkSpells
import Derived.WalkLawsBesides
import Derived.Deep.RegionHeld3
namespace Go.Proofs.YtdchibpnjpnkoaaGreatDoor.MK
open Go.RowKit
set_option maxRecDepth 100000
set_option linter.unusedVariables false
end Go.Proofs.YtdchibpnjpnkoaaGreatDoor.MK
namespace Go.Proofs.YtdchibpnjpnkoaaGreatDoor
open Go.RowKit
set_option maxRecDepth 100000
end Go.Proofs.YtdchibpnjpnkoaaGreatDoor
