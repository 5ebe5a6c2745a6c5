/-
  Part 22 of the proof: Jd.
-/
import Derived.Test.YtnnapanbbbcalaaGreatDoorPd21
import Derived.Test.YtnnapanbbbcalaaGreatDoorRows
import Derived.Test.YtnnapanbbbcalaaGreatDoorProg
import Derived.SevenTiedAt
namespace Go.Proofs.YtnnapanbbbcalaaGreatDoor
set_option maxRecDepth 100000
theorem aqs:Tryz.prog.mainIs=some (((true, "8de75f30595147b7ab6c69379257be59d46f857319c58d0c2e56e3349c49194b")).1,((true, "8de75f30595147b7ab6c69379257be59d46f857319c58d0c2e56e3349c49194b")).2.toList):=by kernel_rfl
theorem ahb:false=Tryz.prog.looks []:=by kernel_rfl
end Go.Proofs.YtnnapanbbbcalaaGreatDoor
