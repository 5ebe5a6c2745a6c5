/-
  The statement CanonRenaming: for every input the law answers true, and each argument reads afterwards as it read before; the listed tables hold what the program's text lays in them (the card ties that). No other condition.
-/
import Derived.Test.YtmkmibahjanejaaGreatDoorPr20
namespace Go.Proofs.YtmkmibahjanejaaGreatDoor
open Go.ChangeShapes Go.WideShapes Go.ChangeAt Go.RowKit
open Go.ChangeMaps (open_string shut_string)
set_option maxRecDepth 100000
set_option linter.unusedVariables false
theorem canonRenaming_proved:Rows.CanonRenamingCardSaid:=
 Claim7.holds_tied_plain_at .later [] [.data, .data, .data, .listed, .data] true (true, "1f9de551d8a1e0aad08e0188d0ac24af97e557ef0a66a3917b51709774f9e881") false
  aff (λ_ h=>by cases h) (by kernel_rfl) (λ_ h=>by cases h) canonRenaming_row_tie rfl ⟨rfl,rfl⟩ ah4 rfl
  (λf fn hf hfn=>by
   obtain rfl:f=5:=(apb ((show Tryz.prog.funcNamed "brocade/brocadelaw55.CanonRenaming" =some 5 by kernel_rfl).symm.trans hf)).symm;obtain rfl:fn=Tryz.f5:=(apb (Tryz.func5.symm.trans hfn)).symm;refine⟨ae0,λj t ht=> ?_⟩;rw[Tryz.params5]at ht
   match j with
   |0=>cases ht;exact(show Tryz.prog.wantsStandIn 27=false by kernel_rfl)
   |1=>cases ht;exact(show Tryz.prog.wantsStandIn 35=false by kernel_rfl)
   |2=>cases ht;exact(show Tryz.prog.wantsStandIn 5=false by kernel_rfl)
   |j+3=>simp at ht)
  alJ
#print axioms canonRenaming_proved
end Go.Proofs.YtmkmibahjanejaaGreatDoor
