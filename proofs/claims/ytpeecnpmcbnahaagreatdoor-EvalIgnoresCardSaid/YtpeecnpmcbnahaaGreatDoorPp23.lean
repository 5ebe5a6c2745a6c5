/-
  The statement EvalIgnores: for every input the law answers true, and each argument reads afterwards as it read before; the listed tables hold what the program's text lays in them (the card ties that). No other condition.
-/
import Derived.Test.YtpeecnpmcbnahaaGreatDoorPp22
namespace Go.Proofs.YtpeecnpmcbnahaaGreatDoor
open Go.ChangeShapes Go.WideShapes Go.ChangeAt Go.RowKit
open Go.ChangeMaps (open_string shut_string)
set_option maxRecDepth 100000
set_option linter.unusedVariables false
theorem evalIgnores_proved:Rows.EvalIgnoresCardSaid:=
 Claim7.holds_tied_plain_at .later [] [.listed, .data] true (true, "ce75a87357adb777d1ce0d4b2607637a45c5b238998973a753972b5e9e78cb02") false
  ag4 (λ_ h=>by cases h) (by kernel_rfl) (λ_ h=>by cases h) evalIgnores_row_tie rfl ⟨rfl,rfl⟩ amI rfl
  (λf fn hf hfn=>by
   obtain rfl:f=3:=(aoK ((show Tryz.prog.funcNamed "brocade/brocadelaw19.EvalIgnores" =some 3 by kernel_rfl).symm.trans hf)).symm;obtain rfl:fn=Tryz.f3:=(aoK (Tryz.func3.symm.trans hfn)).symm;refine⟨ade,λj t ht=> ?_⟩;rw[Tryz.params3]at ht
   match j with
   |0=>cases ht;exact(show Tryz.prog.wantsStandIn 27=false by kernel_rfl)
   |1=>cases ht;exact(show Tryz.prog.wantsStandIn 28=false by kernel_rfl)
   |2=>cases ht;exact(show Tryz.prog.wantsStandIn 29=false by kernel_rfl)
   |j+3=>simp at ht)
  al4
#print axioms evalIgnores_proved
end Go.Proofs.YtpeecnpmcbnahaaGreatDoor
