/-
  Part 19 of the proof: Jd.
-/
import Derived.Test.YtmkmibahjanejaaGreatDoorPp18
import Derived.Test.YtmkmibahjanejaaGreatDoorRows
import Derived.Test.YtmkmibahjanejaaGreatDoorProg
import Derived.SevenTiedAt
namespace Go.Proofs.YtmkmibahjanejaaGreatDoor
set_option maxRecDepth 100000
theorem ah6:Tryz.prog.mainIs=some (((true, "1f9de551d8a1e0aad08e0188d0ac24af97e557ef0a66a3917b51709774f9e881")).1,((true, "1f9de551d8a1e0aad08e0188d0ac24af97e557ef0a66a3917b51709774f9e881")).2.toList):=by kernel_rfl
theorem ag9:false=Tryz.prog.looks []:=by kernel_rfl
end Go.Proofs.YtmkmibahjanejaaGreatDoor
