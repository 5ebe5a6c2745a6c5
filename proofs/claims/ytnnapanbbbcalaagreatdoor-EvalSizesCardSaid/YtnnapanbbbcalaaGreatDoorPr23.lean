/-
  The statement EvalSizes: for every input the law answers true, and each argument reads afterwards as it read before; the listed tables hold what the program's text lays in them (the card ties that). No other condition.
-/
import Derived.Test.YtnnapanbbbcalaaGreatDoorPr22
namespace Go.Proofs.YtnnapanbbbcalaaGreatDoor
open Go.ChangeShapes Go.WideShapes Go.ChangeAt Go.RowKit
open Go.ChangeMaps (open_string shut_string)
set_option maxRecDepth 100000
set_option linter.unusedVariables false
theorem evalSizes_proved:Rows.EvalSizesCardSaid:=
 Claim7.holds_tied_plain_at .later [] [.listed, .data] true (true, "8de75f30595147b7ab6c69379257be59d46f857319c58d0c2e56e3349c49194b") false
  abR (λ_ h=>by cases h) (by kernel_rfl) (λ_ h=>by cases h) evalSizes_row_tie rfl ⟨rfl,rfl⟩ aaE rfl
  (λf fn hf hfn=>by
   obtain rfl:f=4:=(akz ((show Tryz.prog.funcNamed "brocade/brocadelaw19.EvalSizes" =some 4 by kernel_rfl).symm.trans hf)).symm;obtain rfl:fn=Tryz.f4:=(akz (Tryz.func4.symm.trans hfn)).symm;refine⟨adT,λj t ht=> ?_⟩;rw[Tryz.params4]at ht
   match j with
   |0=>cases ht;exact(show Tryz.prog.wantsStandIn 27=false by kernel_rfl)
   |1=>cases ht;exact(show Tryz.prog.wantsStandIn 28=false by kernel_rfl)
   |2=>cases ht;exact(show Tryz.prog.wantsStandIn 9=false by kernel_rfl)
   |j+3=>simp at ht)
  adr
#print axioms evalSizes_proved
end Go.Proofs.YtnnapanbbbcalaaGreatDoor
