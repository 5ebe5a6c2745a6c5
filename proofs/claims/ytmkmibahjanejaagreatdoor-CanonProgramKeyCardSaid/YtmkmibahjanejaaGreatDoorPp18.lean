/-
  Part 18 of the proof: CnKeyCardb.
-/
import Derived.Test.YtmkmibahjanejaaGreatDoorPp17
namespace Go.Proofs.YtmkmibahjanejaaGreatDoor
open Go.ChangeShapes Go.WideShapes Go.ChangeAt Go.RowKit
open Go.ChangeMaps (open_string shut_string)
set_option maxRecDepth 100000
set_option linter.unusedVariables false
theorem afP:joinedFacts Tryz.prog 4 Tryz.f4 Rows.canonProgramKeySpec Rows.canonProgramKeyRow=true:=by
 unfold joinedFacts;rw[Sg,aoV,ahl,ad2,aht,ahO,afA,amk,amQ,apb]
 kernel_rfl
theorem ael:Rows.CanonProgramKeySaid:=
 OpenClaim.holds_of_wide 4 Tryz.f4 rfl rfl rfl rfl rfl rfl rfl ⟨rfl,rfl,rfl,rfl,rfl⟩ rfl rfl rfl rfl rfl (by kernel_rfl) Tryz.func4 afP
  (of_decide_eq_true (by kernel_rfl)) (by unfold Func.isWrapper;first|(rw[if_pos (by decide+kernel)];kernel_rfl)|(rw[if_neg (by decide+kernel)];exact⟨rfl,rfl⟩))
  (λos started H enc _=>aiD os started H enc)
end Go.Proofs.YtmkmibahjanejaaGreatDoor
