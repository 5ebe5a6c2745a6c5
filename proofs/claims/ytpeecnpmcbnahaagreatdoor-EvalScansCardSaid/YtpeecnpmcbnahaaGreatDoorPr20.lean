/-
  Part 20 of the proof: EvScansCardb.
-/
import Derived.Test.YtpeecnpmcbnahaaGreatDoorPr19
namespace Go.Proofs.YtpeecnpmcbnahaaGreatDoor
open Go.ChangeShapes Go.WideShapes Go.ChangeAt Go.RowKit
open Go.ChangeMaps (open_string shut_string)
set_option maxRecDepth 100000
set_option linter.unusedVariables false
theorem akn:joinedFacts Tryz.prog 4 Tryz.f4 Rows.evalScansSpec Rows.evalScansRow=true:=by
 unfold joinedFacts;rw[Us,aeU,amk,adh,aeC,alq,acK,amq,aki,adT]
 kernel_rfl
theorem akl:Rows.EvalScansSaid:=
 OpenClaim.holds_of_wide 4 Tryz.f4 rfl rfl rfl rfl rfl rfl rfl ⟨rfl,rfl,rfl,rfl,rfl⟩ rfl rfl rfl rfl rfl (by kernel_rfl) Tryz.func4 akn
  (of_decide_eq_true (by kernel_rfl)) (by unfold Func.isWrapper;first|(rw[if_pos (by decide+kernel)];kernel_rfl)|(rw[if_neg (by decide+kernel)];exact⟨rfl,rfl⟩))
  (λos started H enc _=>ajv os started H enc)
end Go.Proofs.YtpeecnpmcbnahaaGreatDoor
