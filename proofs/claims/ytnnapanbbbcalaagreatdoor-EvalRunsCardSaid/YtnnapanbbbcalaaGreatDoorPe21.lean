/-
  Part 21.
-/
import Derived.Test.YtnnapanbbbcalaaGreatDoorPe20
namespace Go.Proofs.YtnnapanbbbcalaaGreatDoor
open Go.ChangeShapes Go.WideShapes Go.ChangeAt Go.RowKit
open Go.ChangeMaps (open_string shut_string)
set_option maxRecDepth 100000
set_option linter.unusedVariables false
theorem apR:joinedFacts Tryz.prog 5 Tryz.f5 Rows.evalRunsSpec Rows.evalRunsRow=true:=by
 unfold joinedFacts;rw[KU,as3,asC,ahV,apJ,aiP,amY,alH,ao5,aiI]
 kernel_rfl
theorem aiO:Rows.EvalRunsSaid:=
 OpenClaim.holds_of_wide 5 Tryz.f5 rfl rfl rfl rfl rfl rfl rfl ⟨rfl,rfl,rfl,rfl,rfl⟩ rfl rfl rfl rfl rfl (by kernel_rfl) Tryz.func5 apR
  (U0 (by kernel_rfl)) (by unfold Func.isWrapper;first|(rw[ab (by decide+kernel)];kernel_rfl)|(rw[ae (by decide+kernel)];exact⟨rfl,rfl⟩))
  (λos started H a _=>alI os started H a)
end Go.Proofs.YtnnapanbbbcalaaGreatDoor
