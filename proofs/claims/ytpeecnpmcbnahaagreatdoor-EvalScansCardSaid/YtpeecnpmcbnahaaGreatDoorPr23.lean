/-
  The statement EvalScans: for every input the law answers true, and each argument reads afterwards as it read before; the listed tables hold what the program's text lays in them (the card ties that). No other condition.
-/
import Derived.Test.YtpeecnpmcbnahaaGreatDoorPr22
namespace Go.Proofs.YtpeecnpmcbnahaaGreatDoor
open Go.ChangeShapes Go.WideShapes Go.ChangeAt Go.RowKit
open Go.ChangeMaps (open_string shut_string)
set_option maxRecDepth 100000
set_option linter.unusedVariables false
theorem evalScans_proved:Rows.EvalScansCardSaid:=
 Claim7.holds_tied_plain_at .later [] [.listed, .data] true (true, "ce75a87357adb777d1ce0d4b2607637a45c5b238998973a753972b5e9e78cb02") false
  akl (λ_ h=>by cases h) (by kernel_rfl) (λ_ h=>by cases h) evalScans_row_tie rfl ⟨rfl,rfl⟩ abk rfl
  (λf fn hf hfn=>by
   obtain rfl:f=4:=(anx ((show Tryz.prog.funcNamed "brocade/brocadelaw19.EvalScans" =some 4 by kernel_rfl).symm.trans hf)).symm;obtain rfl:fn=Tryz.f4:=(anx (Tryz.func4.symm.trans hfn)).symm;refine⟨agy,λj t ht=> ?_⟩;rw[Tryz.params4]at ht
   match j with
   |0=>cases ht;exact(show Tryz.prog.wantsStandIn 36=false by kernel_rfl)
   |j+1=>simp at ht)
  ab6
#print axioms evalScans_proved
end Go.Proofs.YtpeecnpmcbnahaaGreatDoor
