/-
  Part 22 of the proof: Jb.
-/
import Derived.Test.YtdchibpnjpnkoaaGreatDoorPp21
import Derived.Test.YtdchibpnjpnkoaaGreatDoorRows
import Derived.Test.YtdchibpnjpnkoaaGreatDoorProg
import Derived.JoinedOf
namespace Go.Proofs.YtdchibpnjpnkoaaGreatDoor
set_option maxRecDepth 100000
theorem aeY:(Rows.simplifyProgRow.recurses==Tryz.prog.recurses 3)=true:=by kernel_rfl
theorem aln:(Rows.simplifyProgRow.named==Tryz.prog.varsNamed 3)=true:=by kernel_rfl
end Go.Proofs.YtdchibpnjpnkoaaGreatDoor
