/-
  Part 27 of the proof: SmStepCardb.
-/
import Derived.Test.YtpgmcallngdceaaGreatDoorSp26
namespace Go.Proofs.YtpgmcallngdceaaGreatDoor
open Go.ChangeShapes Go.WideShapes Go.ChangeAt Go.RowKit
open Go.ChangeMaps (open_string shut_string)
set_option maxRecDepth 100000
set_option linter.unusedVariables false
theorem abZ:joinedFacts Tryz.prog 3 Tryz.f3 Rows.simplifyStepSpec Rows.simplifyStepRow=true:=by
 unfold joinedFacts;rw[OU,Xs,acA,aaU,aho,ahq,ahj,afn,abo,agC]
 kernel_rfl
theorem WY:Rows.SimplifyStepSaid:=
 OpenClaim.holds_of_wide 3 Tryz.f3 rfl rfl rfl rfl rfl rfl rfl ⟨rfl,rfl,rfl,rfl,rfl⟩ rfl rfl rfl rfl rfl (by kernel_rfl) Tryz.func3 abZ
  (of_decide_eq_true (by kernel_rfl)) (by unfold Func.isWrapper;first|(rw[if_pos (by decide+kernel)];kernel_rfl)|(rw[if_neg (by decide+kernel)];exact⟨rfl,rfl⟩))
  (fun os started H enc _=>ZW os started H enc)
end Go.Proofs.YtpgmcallngdceaaGreatDoor
