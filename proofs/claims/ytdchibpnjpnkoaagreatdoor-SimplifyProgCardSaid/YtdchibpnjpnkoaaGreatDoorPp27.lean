/-
  The statement SimplifyProg: for every input the law answers true, and each argument reads afterwards as it read before; the listed tables hold what the program's text lays in them (the card ties that). No other condition.
-/
import Derived.Test.YtdchibpnjpnkoaaGreatDoorPp26
namespace Go.Proofs.YtdchibpnjpnkoaaGreatDoor
open Go.ChangeShapes Go.WideShapes Go.ChangeAt Go.RowKit
open Go.ChangeMaps (open_string shut_string)
set_option maxRecDepth 100000
set_option linter.unusedVariables false
theorem simplifyProg_proved:Rows.SimplifyProgCardSaid:=
 Claim7.holds_tied_plain_at .later [] [.listed, .data] true (true, "d06f0831e730437e2ef23d29fbca8f4448c2d146c534f0353ed9b1cd3e289f8a") false
  ajd (λ_ h=>by cases h) (by kernel_rfl) (λ_ h=>by cases h) simplifyProg_row_tie rfl ⟨rfl,rfl⟩ ao9 rfl
  (λf fn hf hfn=>by
   obtain rfl:f=3:=(arR ((show Tryz.prog.funcNamed "brocade/brocadelaw21.SimplifyProg" =some 3 by kernel_rfl).symm.trans hf)).symm;obtain rfl:fn=Tryz.f3:=(arR (Tryz.func3.symm.trans hfn)).symm;refine⟨al1,λj t ht=> ?_⟩;rw[Tryz.params3]at ht
   match j with
   |0=>cases ht;exact(show Tryz.prog.wantsStandIn 27=false by kernel_rfl)
   |j+1=>simp at ht)
  anV
#print axioms simplifyProg_proved
end Go.Proofs.YtdchibpnjpnkoaaGreatDoor
