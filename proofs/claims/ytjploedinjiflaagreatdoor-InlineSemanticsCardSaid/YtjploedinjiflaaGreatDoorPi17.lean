/-
  Part 17 of the proof: Ja.
-/
import Derived.Test.YtjploedinjiflaaGreatDoorPi16
import Derived.Test.YtjploedinjiflaaGreatDoorRows
import Derived.Test.YtjploedinjiflaaGreatDoorProg
import Derived.JoinedOf
namespace Go.Proofs.YtjploedinjiflaaGreatDoor
set_option maxRecDepth 100000
theorem apH:(Rows.inlineSemanticsRow.inPlace==Tryz.prog.inPlace 3)=true:=by kernel_rfl
theorem atc:(Rows.inlineSemanticsRow.unfollowed==Tryz.prog.unfollowed 3)=true:=by kernel_rfl
end Go.Proofs.YtjploedinjiflaaGreatDoor
