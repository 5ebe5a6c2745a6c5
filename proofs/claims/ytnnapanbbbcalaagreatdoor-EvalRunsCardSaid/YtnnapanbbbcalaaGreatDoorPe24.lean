/-
  The statement EvalRuns: for every input the law answers true, and each argument reads afterwards as it read before; the listed tables hold what the program's text lays in them (the card ties that). No other condition.
-/
import Derived.Test.YtnnapanbbbcalaaGreatDoorPe23
namespace Go.Proofs.YtnnapanbbbcalaaGreatDoor
open Go.ChangeShapes Go.WideShapes Go.ChangeAt Go.RowKit
open Go.ChangeMaps (open_string shut_string)
set_option maxRecDepth 100000
set_option linter.unusedVariables false
theorem evalRuns_proved:Rows.EvalRunsCardSaid:=
 Claim7.holds_tied_plain_at .later [] [.listed,.data] true (true, "8de75f30595147b7ab6c69379257be59d46f857319c58d0c2e56e3349c49194b") false
  aiO (λ_ h=>by cases h) (by kernel_rfl) (λ_ h=>by cases h) evalRuns_row_tie rfl ⟨rfl,rfl⟩ aj7 rfl
  (λf c d b=>by
   obtain rfl:f=5:=(Zw ((show Tryz.prog.funcNamed "brocade/brocadelaw19.EvalRuns" =some 5 by kernel_rfl).symm.trans d)).symm;obtain rfl:c=Tryz.f5:=(Zw (Tryz.func5.symm.trans b)).symm;refine⟨akw,λj t a=> ?_⟩;rw[Tryz.params5]at a
   match j with
   |0=>cases a;exact(show Tryz.prog.wantsStandIn 27=false by kernel_rfl)
   |1=>cases a;exact(show Tryz.prog.wantsStandIn 28=false by kernel_rfl)
   |2=>cases a;exact(show Tryz.prog.wantsStandIn 29=false by kernel_rfl)
   |j+3=>simp at a)
  ari
#print axioms evalRuns_proved
end Go.Proofs.YtnnapanbbbcalaaGreatDoor
