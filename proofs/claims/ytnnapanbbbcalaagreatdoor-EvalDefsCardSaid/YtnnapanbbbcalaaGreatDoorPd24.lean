/-
  The statement EvalDefs: for every input the law answers true, and each argument reads afterwards as it read before; the listed tables hold what the program's text lays in them (the card ties that). No other condition.
-/
import Derived.Test.YtnnapanbbbcalaaGreatDoorPd23
namespace Go.Proofs.YtnnapanbbbcalaaGreatDoor
open Go.ChangeShapes Go.WideShapes Go.ChangeAt Go.RowKit
open Go.ChangeMaps (open_string shut_string)
set_option maxRecDepth 100000
set_option linter.unusedVariables false
theorem evalDefs_proved:Rows.EvalDefsCardSaid:=
 Claim7.holds_tied_plain_at .later [] [.listed,.data] true (true, "8de75f30595147b7ab6c69379257be59d46f857319c58d0c2e56e3349c49194b") false
  ajO (λ_ h=>by cases h) (by kernel_rfl) (λ_ h=>by cases h) evalDefs_row_tie rfl ⟨rfl,rfl⟩ aqs rfl
  (λf c d b=>by
   obtain rfl:f=3:=(Zs ((show Tryz.prog.funcNamed "brocade/brocadelaw19.EvalDefs" =some 3 by kernel_rfl).symm.trans d)).symm;obtain rfl:c=Tryz.f3:=(Zs (Tryz.func3.symm.trans b)).symm;refine⟨ahb,λj t a=> ?_⟩;rw[Tryz.params3]at a
   match j with
   |0=>cases a;exact(show Tryz.prog.wantsStandIn 27=false by kernel_rfl)
   |1=>cases a;exact(show Tryz.prog.wantsStandIn 28=false by kernel_rfl)
   |2=>cases a;exact(show Tryz.prog.wantsStandIn 29=false by kernel_rfl)
   |j+3=>simp at a)
  as0
#print axioms evalDefs_proved
end Go.Proofs.YtnnapanbbbcalaaGreatDoor
