/-
  Part 21 of the proof: Jd.
-/
import Derived.Test.YtfdhojiehjfghaaGreatDoorPs20
import Derived.Test.YtfdhojiehjfghaaGreatDoorRows
import Derived.Test.YtfdhojiehjfghaaGreatDoorProg
import Derived.SevenTiedAt
namespace Go.Proofs.YtfdhojiehjfghaaGreatDoor
set_option maxRecDepth 100000
theorem alh:Tryz.prog.mainIs=some (((true, "139ea44d4d2dcea45b487423c89fada0b5abf4f2b7ac6181893b4653642fc4b9")).1,((true, "139ea44d4d2dcea45b487423c89fada0b5abf4f2b7ac6181893b4653642fc4b9")).2.toList):=by kernel_rfl
theorem afM:false=Tryz.prog.looks []:=by kernel_rfl
end Go.Proofs.YtfdhojiehjfghaaGreatDoor
