/-
  The statement SimplifyExpr: for every input the law answers true, and each argument reads afterwards as it read before; the listed tables hold what the program's text lays in them (the card ties that). No other condition.
-/
import Derived.Test.YtpgmcallngdceaaGreatDoorSe29
namespace Go.Proofs.YtpgmcallngdceaaGreatDoor
open Go.ChangeShapes Go.WideShapes Go.ChangeAt Go.RowKit
open Go.ChangeMaps (open_string shut_string)
set_option maxRecDepth 100000
set_option linter.unusedVariables false
theorem simplifyExpr_proved:Rows.SimplifyExprCardSaid:=
 Claim7.holds_tied_plain_at .later [] [.listed, .data] true (true, "ad078945e17d3820213e6ae7d9cde23a2a064cdbb6c67072d8fb01bf7214cd0c") false
  ac4 (fun _ h=>by cases h) (by kernel_rfl) (fun _ h=>by cases h) simplifyExpr_row_tie rfl ⟨rfl,rfl⟩ Y3 rfl
  (fun f fn hf hfn=>by
   obtain rfl:f=4:=(aky ((show Tryz.prog.funcNamed "brocade/brocadelaw21.SimplifyExpr" =some 4 by kernel_rfl).symm.trans hf)).symm;obtain rfl:fn=Tryz.f4:=(aky (Tryz.func4.symm.trans hfn)).symm;refine⟨aaZ,fun j t ht=> ?_⟩;rw[Tryz.params4]at ht
   match j with
   |0=>cases ht;exact(show Tryz.prog.wantsStandIn 23=false by kernel_rfl)
   |1=>cases ht;exact(show Tryz.prog.wantsStandIn 32=false by kernel_rfl)
   |j+2=>simp at ht)
  ae5
#print axioms simplifyExpr_proved
end Go.Proofs.YtpgmcallngdceaaGreatDoor
