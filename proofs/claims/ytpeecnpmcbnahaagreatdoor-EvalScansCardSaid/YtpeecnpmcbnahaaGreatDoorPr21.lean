/-
  Part 21 of the proof: Jd.
-/
import Derived.Test.YtpeecnpmcbnahaaGreatDoorPr20
import Derived.Test.YtpeecnpmcbnahaaGreatDoorRows
import Derived.Test.YtpeecnpmcbnahaaGreatDoorProg
import Derived.SevenTiedAt
namespace Go.Proofs.YtpeecnpmcbnahaaGreatDoor
set_option maxRecDepth 100000
theorem abk:Tryz.prog.mainIs=some (((true, "ce75a87357adb777d1ce0d4b2607637a45c5b238998973a753972b5e9e78cb02")).1,((true, "ce75a87357adb777d1ce0d4b2607637a45c5b238998973a753972b5e9e78cb02")).2.toList):=by kernel_rfl
theorem agy:false=Tryz.prog.looks []:=by kernel_rfl
end Go.Proofs.YtpeecnpmcbnahaaGreatDoor
