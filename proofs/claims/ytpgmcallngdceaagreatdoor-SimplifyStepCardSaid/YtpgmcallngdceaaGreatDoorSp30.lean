/-
  The statement SimplifyStep: for every input the law answers true, and each argument reads afterwards as it read before; the listed tables hold what the program's text lays in them (the card ties that). No other condition.
-/
import Derived.Test.YtpgmcallngdceaaGreatDoorSp29
namespace Go.Proofs.YtpgmcallngdceaaGreatDoor
open Go.ChangeShapes Go.WideShapes Go.ChangeAt Go.RowKit
open Go.ChangeMaps (open_string shut_string)
set_option maxRecDepth 100000
set_option linter.unusedVariables false
theorem simplifyStep_proved:Rows.SimplifyStepCardSaid:=
 Claim7.holds_tied_plain_at .later [] [.listed, .data] true (true, "ad078945e17d3820213e6ae7d9cde23a2a064cdbb6c67072d8fb01bf7214cd0c") false
  WY (fun _ h=>by cases h) (by kernel_rfl) (fun _ h=>by cases h) simplifyStep_row_tie rfl ⟨rfl,rfl⟩ YJ rfl
  (fun f fn hf hfn=>by
   obtain rfl:f=3:=(ajG ((show Tryz.prog.funcNamed "brocade/brocadelaw21.SimplifyStep" =some 3 by kernel_rfl).symm.trans hf)).symm;obtain rfl:fn=Tryz.f3:=(ajG (Tryz.func3.symm.trans hfn)).symm;refine⟨abE,fun j t ht=> ?_⟩;rw[Tryz.params3]at ht
   match j with
   |0=>cases ht;exact(show Tryz.prog.wantsStandIn 23=false by kernel_rfl)
   |1=>cases ht;exact(show Tryz.prog.wantsStandIn 32=false by kernel_rfl)
   |j+2=>simp at ht)
  agX
#print axioms simplifyStep_proved
end Go.Proofs.YtpgmcallngdceaaGreatDoor
