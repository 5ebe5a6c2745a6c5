/-
  Part 19 of the proof: Jc.
-/
import Derived.Test.YtjploedinjiflaaGreatDoorPi18
import Derived.Test.YtjploedinjiflaaGreatDoorRows
import Derived.Test.YtjploedinjiflaaGreatDoorProg
import Derived.JoinedOf
namespace Go.Proofs.YtjploedinjiflaaGreatDoor
set_option maxRecDepth 100000
theorem aup:(Rows.inlineSemanticsRow.plainKeys==Tryz.prog.plainKeys)=true:=by kernel_rfl
theorem ak8:Tryz.prog.stopsHeard=true:=by kernel_rfl
theorem ang:Tryz.prog.mayEnter=true:=by kernel_rfl
theorem apz:(Rows.inlineSemanticsRow.lifted==Tryz.prog.liftsFinal)=true:=by kernel_rfl
theorem aqI:(Tryz.prog.make==some Rows.inlineSemanticsRow.make)=true:=by kernel_rfl
end Go.Proofs.YtjploedinjiflaaGreatDoor
