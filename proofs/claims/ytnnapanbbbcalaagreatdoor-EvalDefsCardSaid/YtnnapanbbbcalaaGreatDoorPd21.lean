/-
  Part 21 of the proof: EvDefsCardb.
-/
import Derived.Test.YtnnapanbbbcalaaGreatDoorPd20
namespace Go.Proofs.YtnnapanbbbcalaaGreatDoor
open Go.ChangeShapes Go.WideShapes Go.ChangeAt Go.RowKit
open Go.ChangeMaps (open_string shut_string)
set_option maxRecDepth 100000
set_option linter.unusedVariables false
theorem akt:joinedFacts Tryz.prog 3 Tryz.f3 Rows.evalDefsSpec Rows.evalDefsRow=true:=by
 unfold joinedFacts;rw[Px,ai9,alT,ahe,ait,akH,aqh,ao5,alM,am3]
 kernel_rfl
theorem ajO:Rows.EvalDefsSaid:=
 OpenClaim.holds_of_wide 3 Tryz.f3 rfl rfl rfl rfl rfl rfl rfl ⟨rfl,rfl,rfl,rfl,rfl⟩ rfl rfl rfl rfl rfl (by kernel_rfl) Tryz.func3 akt
  (Vd (by kernel_rfl)) (by unfold Func.isWrapper;first|(rw[ZL (by decide+kernel)];kernel_rfl)|(rw[ZN (by decide+kernel)];exact⟨rfl,rfl⟩))
  (λos started H a _=>ahT os started H a)
end Go.Proofs.YtnnapanbbbcalaaGreatDoor
