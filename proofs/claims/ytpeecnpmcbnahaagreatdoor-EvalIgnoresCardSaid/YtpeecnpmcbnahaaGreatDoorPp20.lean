/-
  Part 20 of the proof: EvIgnoresCardb.
-/
import Derived.Test.YtpeecnpmcbnahaaGreatDoorPp19
namespace Go.Proofs.YtpeecnpmcbnahaaGreatDoor
open Go.ChangeShapes Go.WideShapes Go.ChangeAt Go.RowKit
open Go.ChangeMaps (open_string shut_string)
set_option maxRecDepth 100000
set_option linter.unusedVariables false
theorem afa:joinedFacts Tryz.prog 3 Tryz.f3 Rows.evalIgnoresSpec Rows.evalIgnoresRow=true:=by
 unfold joinedFacts;rw[Hj,ajt,adh,amS,acd,ahm,ajQ,alG,adU,ajq]
 kernel_rfl
theorem ag4:Rows.EvalIgnoresSaid:=
 OpenClaim.holds_of_wide 3 Tryz.f3 rfl rfl rfl rfl rfl rfl rfl ⟨rfl,rfl,rfl,rfl,rfl⟩ rfl rfl rfl rfl rfl (by kernel_rfl) Tryz.func3 afa
  (of_decide_eq_true (by kernel_rfl)) (by unfold Func.isWrapper;first|(rw[if_pos (by decide+kernel)];kernel_rfl)|(rw[if_neg (by decide+kernel)];exact⟨rfl,rfl⟩))
  (λos started H enc _=>aie os started H enc)
end Go.Proofs.YtpeecnpmcbnahaaGreatDoor
