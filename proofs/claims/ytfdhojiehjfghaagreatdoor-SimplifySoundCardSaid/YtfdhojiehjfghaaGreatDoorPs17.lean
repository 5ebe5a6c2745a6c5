/-
  Part 17 of the proof: Ja.
-/
import Derived.Test.YtfdhojiehjfghaaGreatDoorPs16
import Derived.Test.YtfdhojiehjfghaaGreatDoorRows
import Derived.Test.YtfdhojiehjfghaaGreatDoorProg
import Derived.JoinedOf
namespace Go.Proofs.YtfdhojiehjfghaaGreatDoor
set_option maxRecDepth 100000
theorem alc:(Rows.simplifySoundRow.inPlace==Tryz.prog.inPlace 4)=true:=by kernel_rfl
theorem abY:(Rows.simplifySoundRow.unfollowed==Tryz.prog.unfollowed 4)=true:=by kernel_rfl
end Go.Proofs.YtfdhojiehjfghaaGreatDoor
