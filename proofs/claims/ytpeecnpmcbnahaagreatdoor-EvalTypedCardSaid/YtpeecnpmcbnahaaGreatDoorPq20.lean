/-
  Part 20 of the proof: EvTypedCardb.
-/
import Derived.Test.YtpeecnpmcbnahaaGreatDoorPq19
namespace Go.Proofs.YtpeecnpmcbnahaaGreatDoor
open Go.ChangeShapes Go.WideShapes Go.ChangeAt Go.RowKit
open Go.ChangeMaps (open_string shut_string)
set_option maxRecDepth 100000
set_option linter.unusedVariables false
theorem ao6:joinedFacts Tryz.prog 6 Tryz.f6 Rows.evalTypedSpec Rows.evalTypedRow=true:=by
 unfold joinedFacts;rw[Jn,anG,ag9,aez,alK,aor,ahX,agc,anU,ajG]
 kernel_rfl
theorem adT:Rows.EvalTypedSaid:=
 OpenClaim.holds_of_wide 6 Tryz.f6 rfl rfl rfl rfl rfl rfl rfl ⟨rfl,rfl,rfl,rfl,rfl⟩ rfl rfl rfl rfl rfl (by kernel_rfl) Tryz.func6 ao6
  (of_decide_eq_true (by kernel_rfl)) (by unfold Func.isWrapper;first|(rw[if_pos (by decide+kernel)];kernel_rfl)|(rw[if_neg (by decide+kernel)];exact⟨rfl,rfl⟩))
  (λos started H enc _=>afN os started H enc)
end Go.Proofs.YtpeecnpmcbnahaaGreatDoor
