/-
  Part 18 of the proof: Jb.
-/
import Derived.Test.YtfdhojiehjfghaaGreatDoorPs17
import Derived.Test.YtfdhojiehjfghaaGreatDoorRows
import Derived.Test.YtfdhojiehjfghaaGreatDoorProg
import Derived.JoinedOf
namespace Go.Proofs.YtfdhojiehjfghaaGreatDoor
set_option maxRecDepth 100000
theorem abO:(Rows.simplifySoundRow.recurses==Tryz.prog.recurses 4)=true:=by kernel_rfl
theorem ajc:(Rows.simplifySoundRow.named==Tryz.prog.varsNamed 4)=true:=by kernel_rfl
end Go.Proofs.YtfdhojiehjfghaaGreatDoor
