/-
  Part 22 of the proof: Je.
-/
import Derived.Test.YtjploedinjiflaaGreatDoorPi21
import Derived.Test.YtjploedinjiflaaGreatDoorRows
import Derived.Test.YtjploedinjiflaaGreatDoorProg
import Derived.SevenTiedAt
namespace Go.Proofs.YtjploedinjiflaaGreatDoor
set_option maxRecDepth 100000
theorem anq:false=Rows.inlineSemanticsRow.goesBy Tryz.prog:=by kernel_rfl
end Go.Proofs.YtjploedinjiflaaGreatDoor
