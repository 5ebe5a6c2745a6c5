/-
  Part 19 of the proof: CnNormCardb.
-/
import Derived.Test.YtmkmibahjanejaaGreatDoorPp18
namespace Go.Proofs.YtmkmibahjanejaaGreatDoor
open Go.ChangeShapes Go.WideShapes Go.ChangeAt Go.RowKit
open Go.ChangeMaps (open_string shut_string)
set_option maxRecDepth 100000
set_option linter.unusedVariables false
theorem UN:joinedFacts Tryz.prog 3 Tryz.f3 Rows.canonNormalizeSpec Rows.canonNormalizeRow=true:=by
 unfold joinedFacts;rw[QT,UI,Vn,adH,afb,YC,Uw,ado,acZ,TI]
 kernel_rfl
theorem abQ:Rows.CanonNormalizeSaid:=
 OpenClaim.holds_of_wide 3 Tryz.f3 rfl rfl rfl rfl rfl rfl rfl ⟨rfl,rfl,rfl,rfl,rfl⟩ rfl rfl rfl rfl rfl (by kernel_rfl) Tryz.func3 UN
  (of_decide_eq_true (by kernel_rfl)) (by unfold Func.isWrapper;first|(rw[if_pos (by decide+kernel)];kernel_rfl)|(rw[if_neg (by decide+kernel)];exact⟨rfl,rfl⟩))
  (λos started H enc _=>afk os started H enc)
end Go.Proofs.YtmkmibahjanejaaGreatDoor
