/-
  Part 20 of the proof: IsCardb.
-/
import Derived.Test.YtjploedinjiflaaGreatDoorPi19
namespace Go.Proofs.YtjploedinjiflaaGreatDoor
open Go.ChangeShapes Go.WideShapes Go.ChangeAt Go.RowKit
open Go.ChangeMaps (open_string shut_string)
set_option maxRecDepth 100000
set_option linter.unusedVariables false
theorem aue:joinedFacts Tryz.prog 3 Tryz.f3 Rows.inlineSemanticsSpec Rows.inlineSemanticsRow=true:=by
 unfold joinedFacts;rw[Pe,apH,atc,ana,arT,aup,ak8,ang,apz,aqI]
 kernel_rfl
theorem aug:Rows.InlineSemanticsSaid:=
 OpenClaim.holds_of_wide 3 Tryz.f3 rfl rfl rfl rfl rfl rfl rfl ⟨rfl,rfl,rfl,rfl,rfl⟩ rfl rfl rfl rfl rfl (by kernel_rfl) Tryz.func3 aue
  (Tr (by kernel_rfl)) (by unfold Func.isWrapper;first|(rw[ae (by decide+kernel)];kernel_rfl)|(rw[af (by decide+kernel)];exact⟨rfl,rfl⟩))
  (λos started H a _=>amW os started H a)
end Go.Proofs.YtjploedinjiflaaGreatDoor
