/-
  Part 20 of the proof: EvExprsCardb.
-/
import Derived.Test.YtnnapanbbbcalaaGreatDoorPp19
namespace Go.Proofs.YtnnapanbbbcalaaGreatDoor
open Go.ChangeShapes Go.WideShapes Go.ChangeAt Go.RowKit
open Go.ChangeMaps (open_string shut_string)
set_option maxRecDepth 100000
set_option linter.unusedVariables false
theorem akI:joinedFacts Tryz.prog 6 Tryz.f6 Rows.evalExprsSpec Rows.evalExprsRow=true:=by
 unfold joinedFacts;rw[JN,ahu,ah0,akk,ajH,alO,ak1,ald,aai,adZ]
 kernel_rfl
theorem afw:Rows.EvalExprsSaid:=
 OpenClaim.holds_of_wide 6 Tryz.f6 rfl rfl rfl rfl rfl rfl rfl ⟨rfl,rfl,rfl,rfl,rfl⟩ rfl rfl rfl rfl rfl (by kernel_rfl) Tryz.func6 akI
  (of_decide_eq_true (by kernel_rfl)) (by unfold Func.isWrapper;first|(rw[if_pos (by decide+kernel)];kernel_rfl)|(rw[if_neg (by decide+kernel)];exact⟨rfl,rfl⟩))
  (λos started H enc _=>adO os started H enc)
end Go.Proofs.YtnnapanbbbcalaaGreatDoor
