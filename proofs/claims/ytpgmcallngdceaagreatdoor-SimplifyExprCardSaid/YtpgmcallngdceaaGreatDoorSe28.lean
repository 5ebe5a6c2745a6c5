/-
  Part 28 of the proof: Jd.
-/
import Derived.Test.YtpgmcallngdceaaGreatDoorSe27
import Derived.Test.YtpgmcallngdceaaGreatDoorRows
import Derived.Test.YtpgmcallngdceaaGreatDoorProg
import Derived.SevenTiedAt
namespace Go.Proofs.YtpgmcallngdceaaGreatDoor
set_option maxRecDepth 100000
theorem Y3:Tryz.prog.mainIs=some (((true, "ad078945e17d3820213e6ae7d9cde23a2a064cdbb6c67072d8fb01bf7214cd0c")).1,((true, "ad078945e17d3820213e6ae7d9cde23a2a064cdbb6c67072d8fb01bf7214cd0c")).2.toList):=by kernel_rfl
theorem aaZ:false=Tryz.prog.looks []:=by kernel_rfl
end Go.Proofs.YtpgmcallngdceaaGreatDoor
