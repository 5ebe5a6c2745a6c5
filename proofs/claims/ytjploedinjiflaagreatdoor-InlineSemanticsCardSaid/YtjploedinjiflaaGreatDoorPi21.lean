/-
  Part 21 of the proof: Jd.
-/
import Derived.Test.YtjploedinjiflaaGreatDoorPi20
import Derived.Test.YtjploedinjiflaaGreatDoorRows
import Derived.Test.YtjploedinjiflaaGreatDoorProg
import Derived.SevenTiedAt
namespace Go.Proofs.YtjploedinjiflaaGreatDoor
set_option maxRecDepth 100000
theorem ap3:Tryz.prog.mainIs=some (((true, "77217ac81be036bf687508b18f9acc77e1ab45688cea8a751c27607866ff0f28")).1,((true, "77217ac81be036bf687508b18f9acc77e1ab45688cea8a751c27607866ff0f28")).2.toList):=by kernel_rfl
theorem atV:false=Tryz.prog.looks []:=by kernel_rfl
end Go.Proofs.YtjploedinjiflaaGreatDoor
