/-
  Part 18 of the proof: CnRenCardb.
-/
import Derived.Test.YtmkmibahjanejaaGreatDoorPr17
namespace Go.Proofs.YtmkmibahjanejaaGreatDoor
open Go.ChangeShapes Go.WideShapes Go.ChangeAt Go.RowKit
open Go.ChangeMaps (open_string shut_string)
set_option maxRecDepth 100000
set_option linter.unusedVariables false
theorem aeB:joinedFacts Tryz.prog 5 Tryz.f5 Rows.canonRenamingSpec Rows.canonRenamingRow=true:=by
 unfold joinedFacts;rw[OU,acQ,aiE,ad7,akD,amu,ajH,afl,aln,amt]
 kernel_rfl
theorem aff:Rows.CanonRenamingSaid:=
 OpenClaim.holds_of_wide 5 Tryz.f5 rfl rfl rfl rfl rfl rfl rfl ⟨rfl,rfl,rfl,rfl,rfl⟩ rfl rfl rfl rfl rfl (by kernel_rfl) Tryz.func5 aeB
  (of_decide_eq_true (by kernel_rfl)) (by unfold Func.isWrapper;first|(rw[if_pos (by decide+kernel)];kernel_rfl)|(rw[if_neg (by decide+kernel)];exact⟨rfl,rfl⟩))
  (λos started H enc _=>an1 os started H enc)
end Go.Proofs.YtmkmibahjanejaaGreatDoor
