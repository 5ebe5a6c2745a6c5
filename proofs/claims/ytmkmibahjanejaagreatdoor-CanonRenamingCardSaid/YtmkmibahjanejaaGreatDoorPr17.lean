/-
  Part 17 of the proof: Jc.
-/
import Derived.Test.YtmkmibahjanejaaGreatDoorPr16
import Derived.Test.YtmkmibahjanejaaGreatDoorRows
import Derived.Test.YtmkmibahjanejaaGreatDoorProg
import Derived.JoinedOf
namespace Go.Proofs.YtmkmibahjanejaaGreatDoor
set_option maxRecDepth 100000
theorem amu:(Rows.canonRenamingRow.plainKeys==Tryz.prog.plainKeys)=true:=by kernel_rfl
theorem ajH:Tryz.prog.stopsHeard=true:=by kernel_rfl
theorem afl:Tryz.prog.mayEnter=true:=by kernel_rfl
theorem aln:(Rows.canonRenamingRow.lifted==Tryz.prog.liftsFinal)=true:=by kernel_rfl
theorem amt:(Tryz.prog.make==some Rows.canonRenamingRow.make)=true:=by kernel_rfl
end Go.Proofs.YtmkmibahjanejaaGreatDoor
