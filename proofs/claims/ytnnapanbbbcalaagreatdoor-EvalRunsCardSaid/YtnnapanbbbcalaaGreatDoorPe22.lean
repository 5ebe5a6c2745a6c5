/-
  Part 22.
-/
import Derived.Test.YtnnapanbbbcalaaGreatDoorPe21
namespace Go.Proofs.YtnnapanbbbcalaaGreatDoor
set_option maxRecDepth 100000
theorem aj7:Tryz.prog.mainIs=some (((true, "8de75f30595147b7ab6c69379257be59d46f857319c58d0c2e56e3349c49194b")).1,((true, "8de75f30595147b7ab6c69379257be59d46f857319c58d0c2e56e3349c49194b")).2.toList):=by kernel_rfl
theorem akw:false=Tryz.prog.looks []:=by kernel_rfl
end Go.Proofs.YtnnapanbbbcalaaGreatDoor
