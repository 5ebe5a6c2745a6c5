/-
  Part 22 of the proof: Je.
-/
import Derived.Test.YtfdhojiehjfghaaGreatDoorPs21
import Derived.Test.YtfdhojiehjfghaaGreatDoorRows
import Derived.Test.YtfdhojiehjfghaaGreatDoorProg
import Derived.SevenTiedAt
namespace Go.Proofs.YtfdhojiehjfghaaGreatDoor
set_option maxRecDepth 100000
theorem ajD:false=Rows.simplifySoundRow.goesBy Tryz.prog:=by kernel_rfl
end Go.Proofs.YtfdhojiehjfghaaGreatDoor
