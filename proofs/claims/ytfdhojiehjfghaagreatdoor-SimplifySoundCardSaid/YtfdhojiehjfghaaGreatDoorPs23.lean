/-
  The statement SimplifySound: for every input the law answers true, and each argument reads afterwards as it read before; the listed tables hold what the program's text lays in them (the card ties that). No other condition.
-/
import Derived.Test.YtfdhojiehjfghaaGreatDoorPs22
namespace Go.Proofs.YtfdhojiehjfghaaGreatDoor
open Go.ChangeShapes Go.WideShapes Go.ChangeAt Go.RowKit
open Go.ChangeMaps (open_string shut_string)
set_option maxRecDepth 100000
set_option linter.unusedVariables false
theorem simplifySound_proved:Rows.SimplifySoundCardSaid:=
 Claim7.holds_tied_plain_at .later [] [.listed, .data] true (true, "139ea44d4d2dcea45b487423c89fada0b5abf4f2b7ac6181893b4653642fc4b9") false
  aaW (λ_ h=>by cases h) (by kernel_rfl) (λ_ h=>by cases h) simplifySound_row_tie rfl ⟨rfl,rfl⟩ alh rfl
  (λf fn hf hfn=>by
   obtain rfl:f=4:=(am6 ((show Tryz.prog.funcNamed "brocade/brocadelaw21.SimplifySound" =some 4 by kernel_rfl).symm.trans hf)).symm;obtain rfl:fn=Tryz.f4:=(am6 (Tryz.func4.symm.trans hfn)).symm;refine⟨afM,λj t ht=> ?_⟩;rw[Tryz.params4]at ht
   match j with
   |0=>cases ht;exact(show Tryz.prog.wantsStandIn 41=false by kernel_rfl)
   |1=>cases ht;exact(show Tryz.prog.wantsStandIn 42=false by kernel_rfl)
   |2=>cases ht;exact(show Tryz.prog.wantsStandIn 32=false by kernel_rfl)
   |j+3=>simp at ht)
  ajD
#print axioms simplifySound_proved
end Go.Proofs.YtfdhojiehjfghaaGreatDoor
