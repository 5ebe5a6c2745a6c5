/-
  Part 18 of the proof: Jb.
-/
import Derived.Test.YtjploedinjiflaaGreatDoorPi17
import Derived.Test.YtjploedinjiflaaGreatDoorRows
import Derived.Test.YtjploedinjiflaaGreatDoorProg
import Derived.JoinedOf
namespace Go.Proofs.YtjploedinjiflaaGreatDoor
set_option maxRecDepth 100000
theorem ana:(Rows.inlineSemanticsRow.recurses==Tryz.prog.recurses 3)=true:=by kernel_rfl
theorem arT:(Rows.inlineSemanticsRow.named==Tryz.prog.varsNamed 3)=true:=by kernel_rfl
end Go.Proofs.YtjploedinjiflaaGreatDoor
