/-
  The statement InlineSemantics: for every input the law answers true, and each argument reads afterwards as it read before; the listed tables hold what the program's text lays in them (the card ties that). No other condition.
-/
import Derived.Test.YtjploedinjiflaaGreatDoorPi22
namespace Go.Proofs.YtjploedinjiflaaGreatDoor
open Go.ChangeShapes Go.WideShapes Go.ChangeAt Go.RowKit
open Go.ChangeMaps (open_string shut_string)
set_option maxRecDepth 100000
set_option linter.unusedVariables false
theorem inlineSemantics_proved:Rows.InlineSemanticsCardSaid:=
 Claim7.holds_tied_plain_at .later [] [.listed,.data] true (true, "77217ac81be036bf687508b18f9acc77e1ab45688cea8a751c27607866ff0f28") false
  aug (λ_ h=>by cases h) (by kernel_rfl) (λ_ h=>by cases h) inlineSemantics_row_tie rfl ⟨rfl,rfl⟩ ap3 rfl
  (λf c d b=>by
   obtain rfl:f=3:=(Zl ((show Tryz.prog.funcNamed "brocade/brocadelaw24.InlineSemantics" =some 3 by kernel_rfl).symm.trans d)).symm;obtain rfl:c=Tryz.f3:=(Zl (Tryz.func3.symm.trans b)).symm;refine⟨atV,λj t a=> ?_⟩;rw[Tryz.params3]at a
   match j with
   |0=>cases a;exact(show Tryz.prog.wantsStandIn 27=false by kernel_rfl)
   |1=>cases a;exact(show Tryz.prog.wantsStandIn 28=false by kernel_rfl)
   |2=>cases a;exact(show Tryz.prog.wantsStandIn 29=false by kernel_rfl)
   |3=>cases a;exact(show Tryz.prog.wantsStandIn 9=false by kernel_rfl)
   |4=>cases a;exact(show Tryz.prog.wantsStandIn 3=false by kernel_rfl)
   |j+5=>simp at a)
  anq
#print axioms inlineSemantics_proved
end Go.Proofs.YtjploedinjiflaaGreatDoor
