/-
  The statement EvalExprs: for every input the law answers true, and each argument reads afterwards as it read before; the listed tables hold what the program's text lays in them (the card ties that). No other condition.
-/
import Derived.Test.YtnnapanbbbcalaaGreatDoorPp22
namespace Go.Proofs.YtnnapanbbbcalaaGreatDoor
open Go.ChangeShapes Go.WideShapes Go.ChangeAt Go.RowKit
open Go.ChangeMaps (open_string shut_string)
set_option maxRecDepth 100000
set_option linter.unusedVariables false
theorem evalExprs_proved:Rows.EvalExprsCardSaid:=
 Claim7.holds_tied_plain_at .later [] [.listed, .data] true (true, "8de75f30595147b7ab6c69379257be59d46f857319c58d0c2e56e3349c49194b") false
  afw (λ_ h=>by cases h) (by kernel_rfl) (λ_ h=>by cases h) evalExprs_row_tie rfl ⟨rfl,rfl⟩ aca rfl
  (λf fn hf hfn=>by
   obtain rfl:f=6:=(amo ((show Tryz.prog.funcNamed "brocade/brocadelaw19.EvalExprs" =some 6 by kernel_rfl).symm.trans hf)).symm;obtain rfl:fn=Tryz.f6:=(amo (Tryz.func6.symm.trans hfn)).symm;refine⟨akd,λj t ht=> ?_⟩;rw[Tryz.params6]at ht
   match j with
   |0=>cases ht;exact(show Tryz.prog.wantsStandIn 29=false by kernel_rfl)
   |1=>cases ht;exact(show Tryz.prog.wantsStandIn 28=false by kernel_rfl)
   |2=>cases ht;exact(show Tryz.prog.wantsStandIn 52=false by kernel_rfl)
   |j+3=>simp at ht)
  afE
#print axioms evalExprs_proved
end Go.Proofs.YtnnapanbbbcalaaGreatDoor
