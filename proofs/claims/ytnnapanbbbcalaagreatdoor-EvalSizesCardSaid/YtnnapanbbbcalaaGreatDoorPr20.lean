/-
  Part 20 of the proof: EvSizesCardb.
-/
import Derived.Test.YtnnapanbbbcalaaGreatDoorPr19
namespace Go.Proofs.YtnnapanbbbcalaaGreatDoor
open Go.ChangeShapes Go.WideShapes Go.ChangeAt Go.RowKit
open Go.ChangeMaps (open_string shut_string)
set_option maxRecDepth 100000
set_option linter.unusedVariables false
theorem afT:joinedFacts Tryz.prog 4 Tryz.f4 Rows.evalSizesSpec Rows.evalSizesRow=true:=by
 unfold joinedFacts;rw[KU,ZX,abh,Z5,ade,afL,afb,ab9,ZP,Yz]
 kernel_rfl
theorem abR:Rows.EvalSizesSaid:=
 OpenClaim.holds_of_wide 4 Tryz.f4 rfl rfl rfl rfl rfl rfl rfl ⟨rfl,rfl,rfl,rfl,rfl⟩ rfl rfl rfl rfl rfl (by kernel_rfl) Tryz.func4 afT
  (of_decide_eq_true (by kernel_rfl)) (by unfold Func.isWrapper;first|(rw[if_pos (by decide+kernel)];kernel_rfl)|(rw[if_neg (by decide+kernel)];exact⟨rfl,rfl⟩))
  (λos started H enc _=>adt os started H enc)
end Go.Proofs.YtnnapanbbbcalaaGreatDoor
