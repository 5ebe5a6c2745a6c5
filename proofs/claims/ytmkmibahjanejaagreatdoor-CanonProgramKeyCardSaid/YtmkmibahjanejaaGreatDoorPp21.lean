/-
  The statement CanonProgramKey: for every input the law answers true, and each argument reads afterwards as it read before; the listed tables hold what the program's text lays in them (the card ties that). No other condition.
-/
import Derived.Test.YtmkmibahjanejaaGreatDoorPp20
namespace Go.Proofs.YtmkmibahjanejaaGreatDoor
open Go.ChangeShapes Go.WideShapes Go.ChangeAt Go.RowKit
open Go.ChangeMaps (open_string shut_string)
set_option maxRecDepth 100000
set_option linter.unusedVariables false
theorem canonProgramKey_proved:Rows.CanonProgramKeyCardSaid:=
 Claim7.holds_tied_plain_at .later [] [.data, .data, .data, .listed, .data] true (true, "1f9de551d8a1e0aad08e0188d0ac24af97e557ef0a66a3917b51709774f9e881") false
  ael (λ_ h=>by cases h) (by kernel_rfl) (λ_ h=>by cases h) canonProgramKey_row_tie rfl ⟨rfl,rfl⟩ ah6 rfl
  (λf fn hf hfn=>by
   obtain rfl:f=4:=(ap2 ((show Tryz.prog.funcNamed "brocade/brocadelaw55.CanonProgramKey" =some 4 by kernel_rfl).symm.trans hf)).symm;obtain rfl:fn=Tryz.f4:=(ap2 (Tryz.func4.symm.trans hfn)).symm;refine⟨ag9,λj t ht=> ?_⟩;rw[Tryz.params4]at ht
   match j with
   |0=>cases ht;exact(show Tryz.prog.wantsStandIn 27=false by kernel_rfl)
   |1=>cases ht;exact(show Tryz.prog.wantsStandIn 35=false by kernel_rfl)
   |j+2=>simp at ht)
  am3
#print axioms canonProgramKey_proved
end Go.Proofs.YtmkmibahjanejaaGreatDoor
