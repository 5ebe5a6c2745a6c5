/-
  The statement CanonNormalize: for every input the law answers true, and each argument reads afterwards as it read before; the listed tables hold what the program's text lays in them (the card ties that). No other condition.
-/
import Derived.Test.YtmkmibahjanejaaGreatDoorPp21
namespace Go.Proofs.YtmkmibahjanejaaGreatDoor
open Go.ChangeShapes Go.WideShapes Go.ChangeAt Go.RowKit
open Go.ChangeMaps (open_string shut_string)
set_option maxRecDepth 100000
set_option linter.unusedVariables false
theorem canonNormalize_proved:Rows.CanonNormalizeCardSaid:=
 Claim7.holds_tied_plain_at .later [] [.data, .data, .data, .listed, .data] true (true, "1f9de551d8a1e0aad08e0188d0ac24af97e557ef0a66a3917b51709774f9e881") false
  abQ (λ_ h=>by cases h) (by kernel_rfl) (λ_ h=>by cases h) canonNormalize_row_tie rfl ⟨rfl,rfl⟩ Zd rfl
  (λf fn hf Zk=>by
   obtain rfl:f=3:=(age ((show Tryz.prog.funcNamed "brocade/brocadelaw55.CanonNormalize" =some 3 by kernel_rfl).symm.trans hf)).symm;obtain rfl:fn=Tryz.f3:=(age (Tryz.func3.symm.trans Zk)).symm;refine⟨aaF,λj t ht=> ?_⟩;rw[Tryz.params3]at ht
   match j with
   |0=>cases ht;exact(show Tryz.prog.wantsStandIn 27=false by kernel_rfl)
   |j+1=>simp at ht)
  Zz
#print axioms canonNormalize_proved
end Go.Proofs.YtmkmibahjanejaaGreatDoor
