/-
  Part 24 of the proof: SmProgCardb.
-/
import Derived.Test.YtdchibpnjpnkoaaGreatDoorPp23
namespace Go.Proofs.YtdchibpnjpnkoaaGreatDoor
open Go.ChangeShapes Go.WideShapes Go.ChangeAt Go.RowKit
open Go.ChangeMaps (open_string shut_string)
set_option maxRecDepth 100000
set_option linter.unusedVariables false
theorem ae8:joinedFacts Tryz.prog 3 Tryz.f3 Rows.simplifyProgSpec Rows.simplifyProgRow=true:=by
 unfold joinedFacts;rw[UU,ahV,apq,aeY,aln,amS,ano,aeg,aqy,aqj]
 kernel_rfl
theorem ajd:Rows.SimplifyProgSaid:=
 OpenClaim.holds_of_wide 3 Tryz.f3 rfl rfl rfl rfl rfl rfl rfl ⟨rfl,rfl,rfl,rfl,rfl⟩ rfl rfl rfl rfl rfl (by kernel_rfl) Tryz.func3 ae8
  (of_decide_eq_true (by kernel_rfl)) (by unfold Func.isWrapper;first|(rw[if_pos (by decide+kernel)];kernel_rfl)|(rw[if_neg (by decide+kernel)];exact⟨rfl,rfl⟩))
  (λos started H enc _=>aiW os started H enc)
end Go.Proofs.YtdchibpnjpnkoaaGreatDoor
