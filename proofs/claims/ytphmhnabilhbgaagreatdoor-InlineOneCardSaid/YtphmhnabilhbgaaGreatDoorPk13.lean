/-
  Part 13 of the proof: PQ5.
-/
import Derived.Test.YtphmhnabilhbgaaGreatDoorPk12
namespace Go.Proofs.YtphmhnabilhbgaaGreatDoor
open Go.RowKit
set_option maxRecDepth 100000
set_option maxHeartbeats 0
set_option linter.unusedVariables false
def qB:aY:=⟨[],[],[],[],[]⟩
def mL(N:Nat)(v4:(List ByteArray)×(List cF)×(List cq)×Nat×(List ByteArray)×(List aL))(v6:aL)(v2:ByteArray)(v5:Int):Nat→Int→(List aL)→Option (aY×Int)
 |0,_,_=>none
 |v7+1,v8,v9=>
  bif (decide (v8<(v4.2.2.2.1:Int)))then
   bif (Nat.beq v9.length v4.2.2.2.1)then
   bif (decide ((0:Int)≤v8))then
   Option.bind (v9[(v8).toNat]?) fun v10=>
   Option.bind (Ew N v10.bE v6) fun v11=>
   bif (v11.2 !=(0:Int))then
    some (qB,v11.2)
   else
    (fun ck eQ=>mL N v4 v6 v2 v5 v7 ck eQ) (a7 (v8+(1:Int))) (v9.set ((v8).toNat) (⟨v10.aq,v10.aB,v10.aJ,v10.bG,v10.cP,v11.1⟩:aL))
   else none
   else none
  else
   Option.bind (sh N v4.2.2.2.2.1 v2) fun aC=>
   bif aC then
    bif (Nat.beq v9.length v4.2.2.2.1)then
    Option.bind (tq N (⟨v4.1,v4.2.1,v4.2.2.1,v9,v4.2.2.2.2.1⟩:aY)) fun aI=>
    bif (aI.2 !=(0:Int))then
     some (qB,aI.2)
    else
     Option.bind (rM N (⟨v4.1,v4.2.1,v4.2.2.1,v9,v4.2.2.2.2.1⟩:aY)) fun aD=>
     bif (Nat.beq aD.2.2.2.2.2.length aD.2.2.2.1)then
     some ((⟨aD.1,aD.2.1,aD.2.2.1,aD.2.2.2.2.2,aD.2.2.2.2.1⟩:aY),(0:Int))
     else none
    else none
   else
    Option.bind (GR N v9 v5 v4.2.2.2.1) fun aP=>
    bif (Nat.beq (aP.length+1) v4.2.2.2.1)then
    bif (Nat.beq aP.length (v4.2.2.2.1-1))then
    Option.bind (tq N (⟨v4.1,v4.2.1,v4.2.2.1,aP,v4.2.2.2.2.1⟩:aY)) fun aW=>
    bif (aW.2 !=(0:Int))then
     some (qB,aW.2)
    else
     Option.bind (rM N (⟨v4.1,v4.2.1,v4.2.2.1,aP,v4.2.2.2.2.1⟩:aY)) fun aH=>
     bif (Nat.beq aH.2.2.2.2.2.length aH.2.2.2.1)then
     some ((⟨aH.1,aH.2.1,aH.2.2.1,aH.2.2.2.2.2,aH.2.2.2.2.1⟩:aY),(0:Int))
     else none
    else none
    else none
def wM(N:Nat)(v1:aY)(v2:ByteArray):Option (aY×Int):=
 Option.bind (Aw N v1 v2) fun v3=>
 bif (v3 !=(0:Int))then
  some (qB,v3)
 else
  Option.bind (rM N v1) fun v4=>
  Option.bind (g_program_IndexOf_n1 N v4.1 v4.2.1 v4.2.2.1 v4.2.2.2.1 v4.2.2.2.2.1 v2 v4.2.2.2.2.2) fun v5=>
  bif (Nat.beq v4.2.2.2.2.2.length v4.2.2.2.1)then
  bif (decide ((0:Int)≤v5))then
  bif (decide (v5<(v4.2.2.2.1:Int)))then
  Option.bind (v4.2.2.2.2.2[(v5).toNat]?) fun v6=>
  mL N v4 v6 v2 v5 N (0:Int) v4.2.2.2.2.2
  else none
  else none
  else none
theorem TU(N:Nat)(v1:aY)(v2:ByteArray)(r:aY×Int)(J:wM N v1 v2=some r):bm Tryz.prog 8 [(aX v1),(bq v2)] (·=(.bX [(aX r.1),(an r.2)])):=by
 rw[wM]at J;refine pY Tryz.func8 rfl (by kernel_rfl) ?_;refine gP [0,1] 0 (agE _) (s':=⟨83,[(0,(aX v1)),(1,(bq v2))],[]⟩) (by kernel_rfl) ?_;refine aN ?_;refine rg [] [(2,(.ptr 0 0)),(4,(.ptr 1 0))] [.cells (aX v1).cells, .cells dy] (by kernel_rfl) ?_;refine aN ?_;refine aN ?_;obtain⟨v3,h1,J⟩:=ar J;refine rg [(7,cL (A3 N v1 v2 v3 h1))] [(6,(an v3))] [.cells (aX v1).cells, .cells dy] (by kernel_rfl) ?_;refine aN ?_;refine rg [] [(19,(aM (v3 !=(0:Int))))] [.cells (aX v1).cells, .cells dy] (by kernel_rfl) ?_;rcases fP (v3 !=(0:Int))with h2|h2
 ·replace J:=(dx h2).symm.trans J;refine fz (t:=(v3 !=(0:Int))) (by kernel_rfl) h2 ?_;refine aN ?_;refine rg [] [(5,(an v3))] [.cells (aX v1).cells, .cells dy] (by kernel_rfl) ?_;refine dM (ej ?_);have hr:=agM J;subst hr;exact gi (by kernel_rfl)
 replace J:=(fR h2).symm.trans J;refine ft (t:=(v3 !=(0:Int))) (by kernel_rfl) h2 ?_;refine et ?_;refine cm ?_;refine aN ?_;obtain⟨v4,h3,J⟩:=ar J;refine rg [(4,⟨_,_, .l7 hX (sw (yq (sw (rX (rX (kF (xs:=(v4.2.2.2.2.2.map cw)) hX)))))) (db:=[(aX v1)]) (h:=[.cells (aX v1).cells, .cells dy]) (l:=[]) (by kernel_rfl) (by kernel_rfl) (by kernel_rfl) (by kernel_rfl) (Fk N v1 v4 h3)⟩)] [(7,(.ptr 8 0))] [.cells (aX v1).cells, .cells dy, .gone, .cells [(.d (.sl (ax v4.1))),(.own 5 (bJ v4.2.1)),(.own 6 (bN v4.2.2.1)),(.vec 7 0 v4.2.2.2.1 v4.2.2.2.1 22),(.d (.sl (ax v4.2.2.2.2.1)))], .gone, .front 57 3 v4.2.1.length, .front 60 7 v4.2.2.1.length, .vec 54 22 (aK (v4.2.2.2.2.2.map cw)), .cells [(.d (.sl (ax v4.1))),(.own 5 (bJ v4.2.1)),(.own 6 (bN v4.2.2.1)),(.vec 7 0 v4.2.2.2.1 v4.2.2.2.1 22),(.d (.sl (ax v4.2.2.2.2.1)))]] (by kernel_rfl) ?_;refine aN ?_;obtain⟨v5,h4,J⟩:=ar J;refine rg [(7,⟨_,_, .l7 (kF (xs:=(v4.2.2.2.2.2.map cw)) hX) (kF (xs:=(v4.2.2.2.2.2.map cw)) hX) (db:=[(.agg [(.d (.sl (ax v4.1))),(.d (.sl (bJ v4.2.1))),(.d (.sl (bN v4.2.2.1))),(.vec 7 0 v4.2.2.2.1 v4.2.2.2.1 22),(.d (.sl (ax v4.2.2.2.2.1)))]),(bq v2)]) (h:=[.cells (aX v1).cells, .cells dy, .gone, .cells [(.d (.sl (ax v4.1))),(.own 5 (bJ v4.2.1)),(.own 6 (bN v4.2.2.1)),(.vec 7 0 v4.2.2.2.1 v4.2.2.2.1 22),(.d (.sl (ax v4.2.2.2.2.1)))], .gone, .front 57 3 v4.2.1.length, .front 60 7 v4.2.2.1.length, .vec 54 22 (aK (v4.2.2.2.2.2.map cw)), .cells [(.d (.sl (ax v4.1))),(.own 5 (bJ v4.2.1)),(.own 6 (bN v4.2.2.1)),(.vec 7 0 v4.2.2.2.1 v4.2.2.2.1 22),(.d (.sl (ax v4.2.2.2.2.1)))]]) (l:=[7]) (by kernel_rfl) (by kernel_rfl) (by kernel_rfl) (by kernel_rfl) (Yb N v4.1 v4.2.1 v4.2.2.1 v4.2.2.2.1 v4.2.2.2.2.1 v2 v4.2.2.2.2.2 v5 h4)⟩)] [(8,(an v5))] [.cells (aX v1).cells, .cells dy, .gone, .cells [(.d (.sl (ax v4.1))),(.own 5 (bJ v4.2.1)),(.own 6 (bN v4.2.2.1)),(.vec 7 0 v4.2.2.2.1 v4.2.2.2.1 22),(.d (.sl (ax v4.2.2.2.2.1)))], .gone, .front 57 3 v4.2.1.length, .front 60 7 v4.2.2.1.length, .vec 54 22 (aK (v4.2.2.2.2.2.map cw)), .cells [(.d (.sl (ax v4.1))),(.own 5 (bJ v4.2.1)),(.own 6 (bN v4.2.2.1)),(.vec 7 0 v4.2.2.2.1 v4.2.2.2.1 22),(.d (.sl (ax v4.2.2.2.2.1)))]] (by kernel_rfl) ?_
 refine aN ?_;have h5:=fv J;replace J:=(dx h5).symm.trans J;have h6:=fv J;replace J:=(dx h6).symm.trans J;have h7:=fv J;replace J:=(dx h7).symm.trans J;obtain⟨v6,h8,J⟩:=ar J;refine rg [(10,⟨_,_, .pr (.ix ((v5).toNat)) (kS (gQ (f:=cw) (agH h5)) (of_decide_eq_true h6) (of_decide_eq_true h7) rfl)⟩),(13,⟨_,_, .pr (.el ((cw v6).map AV.d)) (ua (f:=cw) (agH h5) h8)⟩)] [(9,(.ptr 9 0))] [.cells (aX v1).cells, .cells dy, .gone, .cells [(.d (.sl (ax v4.1))),(.own 5 (bJ v4.2.1)),(.own 6 (bN v4.2.2.1)),(.vec 7 0 v4.2.2.2.1 v4.2.2.2.1 22),(.d (.sl (ax v4.2.2.2.2.1)))], .gone, .front 57 3 v4.2.1.length, .front 60 7 v4.2.2.1.length, .vec 54 22 (aK (v4.2.2.2.2.2.map cw)), .cells [(.d (.sl (ax v4.1))),(.own 5 (bJ v4.2.1)),(.own 6 (bN v4.2.2.1)),(.vec 7 0 v4.2.2.2.1 v4.2.2.2.1 22),(.d (.sl (ax v4.2.2.2.2.1)))], .cells (cE v6).cells] (by kernel_rfl) ?_;refine aN ?_;refine aN ?_;refine rg [(7,⟨_,_, .pr .no (gQ (f:=cw) (agH h5))⟩)] [(34,(an (v4.2.2.2.1:Int))),(35,(an (0:Int)))] [.cells (aX v1).cells, .cells dy, .gone, .cells [(.d (.sl (ax v4.1))),(.own 5 (bJ v4.2.1)),(.own 6 (bN v4.2.2.1)),(.vec 7 0 v4.2.2.2.1 v4.2.2.2.1 22),(.d (.sl (ax v4.2.2.2.2.1)))], .gone, .front 57 3 v4.2.1.length, .front 60 7 v4.2.2.1.length, .vec 54 22 (aK (v4.2.2.2.2.2.map cw)), .cells [(.d (.sl (ax v4.1))),(.own 5 (bJ v4.2.1)),(.own 6 (bN v4.2.2.1)),(.vec 7 0 v4.2.2.2.1 v4.2.2.2.1 22),(.d (.sl (ax v4.2.2.2.2.1)))], .cells (cE v6).cells] (by kernel_rfl) ?_
 refine e6 ?_;refine pc [1,4,7,8,9,34,35] 10 [] [(1,0),(1,1),(1,2),(1,3),(1,4)] (fun((v7,v8,v9):Nat×Int×(List aL))=>⟨83,[(1,(bq v2)),(4,(.ptr 1 0)),(7,(.ptr 8 0)),(8,(an v5)),(9,(.ptr 9 0)),(34,(an (v4.2.2.2.1:Int))),(35,(an v8))],[.cells (aX v1).cells, .cells dy, .gone, .cells [(.d (.sl (ax v4.1))),(.own 5 (bJ v4.2.1)),(.own 6 (bN v4.2.2.1)),(.vec 7 0 v4.2.2.2.1 v4.2.2.2.1 22),(.d (.sl (ax v4.2.2.2.2.1)))], .gone, .front 57 3 v4.2.1.length, .front 60 7 v4.2.2.1.length, .vec 54 22 (aK (v9.map cw)), .cells [(.d (.sl (ax v4.1))),(.own 5 (bJ v4.2.1)),(.own 6 (bN v4.2.2.1)),(.vec 7 0 v4.2.2.2.1 v4.2.2.2.1 22),(.d (.sl (ax v4.2.2.2.2.1)))], .cells (cE v6).cells]⟩) (fun((v7,v8,v9):Nat×Int×(List aL))=>mL N v4 v6 v2 v5 v7 v8 v9=some r) (fun((v7,v8,v9):Nat×Int×(List aL))=>v7) (N,(0:Int),v4.2.2.2.2.2) (agB rfl) ⟨(dQ trivial (dQ trivial (dQ trivial (dQ trivial (dQ trivial (dQ trivial (dQ trivial (gb (xs:=(v4.2.2.2.2.2.map cw)) (dQ trivial (dQ trivial fh)))))))))),by kernel_rfl⟩ J ?_;rintro⟨v7,v8,v9⟩ J
 try dsimp only at J
 cases v7 with
 |zero=>
  rw[mL]at J;cases J
 |succ v7=>
  rw[mL]at J;refine aN ?_;refine rg [] [(36,(aM (decide (v8<(v4.2.2.2.1:Int)))))] [.cells (aX v1).cells, .cells dy, .gone, .cells [(.d (.sl (ax v4.1))),(.own 5 (bJ v4.2.1)),(.own 6 (bN v4.2.2.1)),(.vec 7 0 v4.2.2.2.1 v4.2.2.2.1 22),(.d (.sl (ax v4.2.2.2.2.1)))], .gone, .front 57 3 v4.2.1.length, .front 60 7 v4.2.2.1.length, .vec 54 22 (aK (v9.map cw)), .cells [(.d (.sl (ax v4.1))),(.own 5 (bJ v4.2.1)),(.own 6 (bN v4.2.2.1)),(.vec 7 0 v4.2.2.2.1 v4.2.2.2.1 22),(.d (.sl (ax v4.2.2.2.2.1)))], .cells (cE v6).cells] (by kernel_rfl) ?_;refine aN ?_;rcases fP (decide (v8<(v4.2.2.2.1:Int)))with h9|h9
  ·replace J:=(dx h9).symm.trans J;refine fz (t:=(decide (v8<(v4.2.2.2.1:Int)))) (by kernel_rfl) h9 ?_;refine et ?_;refine cm ?_;refine aN ?_;refine e6 ?_;refine aN ?_;refine rg [] [(10,(an v8))] [.cells (aX v1).cells, .cells dy, .gone, .cells [(.d (.sl (ax v4.1))),(.own 5 (bJ v4.2.1)),(.own 6 (bN v4.2.2.1)),(.vec 7 0 v4.2.2.2.1 v4.2.2.2.1 22),(.d (.sl (ax v4.2.2.2.2.1)))], .gone, .front 57 3 v4.2.1.length, .front 60 7 v4.2.2.1.length, .vec 54 22 (aK (v9.map cw)), .cells [(.d (.sl (ax v4.1))),(.own 5 (bJ v4.2.1)),(.own 6 (bN v4.2.2.1)),(.vec 7 0 v4.2.2.2.1 v4.2.2.2.1 22),(.d (.sl (ax v4.2.2.2.2.1)))], .cells (cE v6).cells] (by kernel_rfl) ?_;refine aN ?_;have az:=fv J;replace J:=(dx az).symm.trans J;have aZ:=fv J;replace J:=(dx aZ).symm.trans J;obtain⟨v10,bf,J⟩:=ar J;obtain⟨v11,b5,J⟩:=ar J;refine rd ai (by kernel_rfl) [(10,⟨_,_, .pr (.ix ((v8).toNat)) (kS (gQ (f:=cw) (agH az)) (of_decide_eq_true aZ) (of_decide_eq_true h9) rfl)⟩),(13,⟨_,_, .pr .no trivial⟩),(16,⟨_,_, .pr (.el ((cw v10).map AV.d)) (ua (f:=cw) (agH az) bf)⟩),(22,cL (afS N v10.bE v6 v11 b5))] [(11,(.ptr 10 0)),(12,(an v11.2))] [.cells (aX v1).cells, .cells dy, .gone, .cells [(.d (.sl (ax v4.1))),(.own 5 (bJ v4.2.1)),(.own 6 (bN v4.2.2.1)),(.vec 7 0 v4.2.2.2.1 v4.2.2.2.1 22),(.d (.sl (ax v4.2.2.2.2.1)))], .gone, .front 57 3 v4.2.1.length, .front 60 7 v4.2.2.1.length, .vec 54 22 (aK (v9.map cw)), .cells [(.d (.sl (ax v4.1))),(.own 5 (bJ v4.2.1)),(.own 6 (bN v4.2.2.1)),(.vec 7 0 v4.2.2.2.1 v4.2.2.2.1 22),(.d (.sl (ax v4.2.2.2.2.1)))], .cells (cE v6).cells, .cells (aE v11.1).cells] (by kernel_rfl) ?_
   refine aN ?_;refine aN ?_;refine rg [] [(50,(aM (v11.2 !=(0:Int))))] [.cells (aX v1).cells, .cells dy, .gone, .cells [(.d (.sl (ax v4.1))),(.own 5 (bJ v4.2.1)),(.own 6 (bN v4.2.2.1)),(.vec 7 0 v4.2.2.2.1 v4.2.2.2.1 22),(.d (.sl (ax v4.2.2.2.2.1)))], .gone, .front 57 3 v4.2.1.length, .front 60 7 v4.2.2.1.length, .vec 54 22 (aK (v9.map cw)), .cells [(.d (.sl (ax v4.1))),(.own 5 (bJ v4.2.1)),(.own 6 (bN v4.2.2.1)),(.vec 7 0 v4.2.2.2.1 v4.2.2.2.1 22),(.d (.sl (ax v4.2.2.2.2.1)))], .cells (cE v6).cells, .cells (aE v11.1).cells] (by kernel_rfl) ?_;rcases fP (v11.2 !=(0:Int))with a8|a8
   ·replace J:=(dx a8).symm.trans J;refine fz (t:=(v11.2 !=(0:Int))) (by kernel_rfl) a8 ?_;refine aN ?_;refine rg [] [(5,(an v11.2))] [.cells (aX v1).cells, .cells dy, .gone, .cells [(.d (.sl (ax v4.1))),(.own 5 (bJ v4.2.1)),(.own 6 (bN v4.2.2.1)),(.vec 7 0 v4.2.2.2.1 v4.2.2.2.1 22),(.d (.sl (ax v4.2.2.2.2.1)))], .gone, .front 57 3 v4.2.1.length, .front 60 7 v4.2.2.1.length, .vec 54 22 (aK (v9.map cw)), .cells [(.d (.sl (ax v4.1))),(.own 5 (bJ v4.2.1)),(.own 6 (bN v4.2.2.1)),(.vec 7 0 v4.2.2.2.1 v4.2.2.2.1 22),(.d (.sl (ax v4.2.2.2.2.1)))], .cells (cE v6).cells, .cells (aE v11.1).cells] (by kernel_rfl) ?_;refine dM (ej (fg (ej (ej (fg (ej ?_))))));have hr:=agM J;subst hr;exact gi (by kernel_rfl)
   replace J:=(fR a8).symm.trans J;refine ft (t:=(v11.2 !=(0:Int))) (by kernel_rfl) a8 ?_;refine et ?_;refine cm ?_;refine re [(13,⟨_,_, .pr (.ix ((v8).toNat)) (kS (gQ (f:=cw) (agH az)) (of_decide_eq_true aZ) (of_decide_eq_true h9) rfl)⟩),(16,⟨_,_, .pr .no trivial⟩),(19,⟨_,_, .pr (.st ((cw v10).map AV.d) (aK ((v9.set ((v8).toNat) (⟨v10.aq,v10.aB,v10.aJ,v10.bG,v10.cP,v11.1⟩:aL)).map cw))) (At (f:=cw) (j:=9) (y:=(⟨v10.aq,v10.aB,v10.aJ,v10.bG,v10.cP,v11.1⟩:aL)) (zs:=[(an v11.1.bg),(bq v11.1.aq),(bt v11.1.dK.xN),(bt v11.1.dK.xD),(an v11.1.aB.cA),(an v11.1.aB.cD),(an v11.1.aB.dg),(an v11.1.aB.de),(an v11.1.aB.dc),(bt v11.1.aQ.xK),(.d (.sl (bP v11.1.aQ.xL))),(.d (.sl (bM v11.1.xIdx))),(.d (.sl (cW v11.1.aT)))]) (agH az) bf rfl)⟩)] [(58,(.di 7 ((v8).toNat) 9 v4.2.2.2.1 22)),(57,(.di 7 ((v8).toNat) 0 v4.2.2.2.1 22)),(56,(aE v11.1)),(55,(an v8)),(54,(.vec 7 0 v4.2.2.2.1 v4.2.2.2.1 22)),(53,(.ptr 8 3))] [.cells (aX v1).cells, .cells dy, .gone, .cells [(.d (.sl (ax v4.1))),(.own 5 (bJ v4.2.1)),(.own 6 (bN v4.2.2.1)),(.vec 7 0 v4.2.2.2.1 v4.2.2.2.1 22),(.d (.sl (ax v4.2.2.2.2.1)))], .gone, .front 57 3 v4.2.1.length, .front 60 7 v4.2.2.1.length, .vec 54 22 (aK ((v9.set ((v8).toNat) (⟨v10.aq,v10.aB,v10.aJ,v10.bG,v10.cP,v11.1⟩:aL)).map cw)), .cells [(.d (.sl (ax v4.1))),(.own 5 (bJ v4.2.1)),(.own 6 (bN v4.2.2.1)),(.vec 7 0 v4.2.2.2.1 v4.2.2.2.1 22),(.d (.sl (ax v4.2.2.2.2.1)))], .cells (cE v6).cells, .cells (aE v11.1).cells] (by kernel_rfl) ?_
   refine iJ ?_;refine cm ?_;refine re [] [(35,(an (a7 (v8+(1:Int))))),(59,(an (a7 (v8+(1:Int)))))] [.cells (aX v1).cells, .cells dy, .gone, .cells [(.d (.sl (ax v4.1))),(.own 5 (bJ v4.2.1)),(.own 6 (bN v4.2.2.1)),(.vec 7 0 v4.2.2.2.1 v4.2.2.2.1 22),(.d (.sl (ax v4.2.2.2.2.1)))], .gone, .front 57 3 v4.2.1.length, .front 60 7 v4.2.2.1.length, .vec 54 22 (aK ((v9.set ((v8).toNat) (⟨v10.aq,v10.aB,v10.aJ,v10.bG,v10.cP,v11.1⟩:aL)).map cw)), .cells [(.d (.sl (ax v4.1))),(.own 5 (bJ v4.2.1)),(.own 6 (bN v4.2.2.1)),(.vec 7 0 v4.2.2.2.1 v4.2.2.2.1 22),(.d (.sl (ax v4.2.2.2.2.1)))], .cells (cE v6).cells, .cells (aE v11.1).cells] (by kernel_rfl) ?_;refine cm ?_;exact⟨(v7,(a7 (v8+(1:Int))),(v9.set ((v8).toNat) (⟨v10.aq,v10.aB,v10.aJ,v10.bG,v10.cP,v11.1⟩:aL))),⟨(dQ trivial (dQ trivial (dQ trivial (dQ trivial (dQ trivial (dQ trivial (dQ trivial (gb (xs:=((v9.set ((v8).toNat) (⟨v10.aq,v10.aB,v10.aJ,v10.bG,v10.cP,v11.1⟩:aL)).map cw)) (dQ trivial (dQ trivial fh)))))))))),by kernel_rfl⟩,J,ahf _⟩
  replace J:=(fR h9).symm.trans J;refine ft (t:=(decide (v8<(v4.2.2.2.1:Int)))) (by kernel_rfl) h9 ?_;refine jZ (gK (gK (kZ rfl ?_)));refine cm ?_;refine aN ?_;refine aN ?_;obtain⟨aC,bA,J⟩:=ar J;refine rg [(10,cL (IB N v4.2.2.2.2.1 v2 aC bA))] [(64,(aM (!aC)))] [.cells (aX v1).cells, .cells dy, .gone, .cells [(.d (.sl (ax v4.1))),(.own 5 (bJ v4.2.1)),(.own 6 (bN v4.2.2.1)),(.vec 7 0 v4.2.2.2.1 v4.2.2.2.1 22),(.d (.sl (ax v4.2.2.2.2.1)))], .gone, .front 57 3 v4.2.1.length, .front 60 7 v4.2.2.1.length, .vec 54 22 (aK (v9.map cw)), .cells [(.d (.sl (ax v4.1))),(.own 5 (bJ v4.2.1)),(.own 6 (bN v4.2.2.1)),(.vec 7 0 v4.2.2.2.1 v4.2.2.2.1 22),(.d (.sl (ax v4.2.2.2.2.1)))], .cells (cE v6).cells] (by kernel_rfl) ?_;rcases fP aC with a9|a9
  ·replace J:=(dx a9).symm.trans J;refine ft (t:=(!aC)) (by kernel_rfl) (cG a9) ?_;refine et ?_;refine cm ?_;refine aN ?_;refine aN ?_;have cv:=fv J;replace J:=(dx cv).symm.trans J;refine HT [4,7] 7 (v9.map cw) (cg v9) (L:=v4.2.2.2.1) [.cells (aX v1).cells, .cells dy, .gone, .cells [(.d (.sl (ax v4.1))),(.own 5 (bJ v4.2.1)),(.own 6 (bN v4.2.2.1)),(.d (.sl (cg v9))),(.d (.sl (ax v4.2.2.2.2.1)))], .gone, .front 57 3 v4.2.1.length, .front 60 7 v4.2.2.1.length, .vec 54 22 (aK (v9.map cw)), .cells [(.d (.sl (ax v4.1))),(.own 5 (bJ v4.2.1)),(.own 6 (bN v4.2.2.1)),(.d (.sl (cg v9))),(.d (.sl (ax v4.2.2.2.2.1)))], .cells (cE v6).cells] 0 rfl (oY (fun _=>rfl) _) (pW (agH cv)) (lz _) (by kernel_rfl) (.cells 0 rfl (by kernel_rfl) (.cells 0 rfl (by kernel_rfl) (.gone (.cells 1 (by kernel_rfl) (by kernel_rfl) (.gone (.front (.front (.iE (.cells 1 (by kernel_rfl) (by kernel_rfl) (.cells 0 rfl (by kernel_rfl) .nil)))))))))) ?_;refine lS (s':=⟨83,[(4,(.ptr 1 0)),(7,(.ptr 8 0))],[.cells (aX v1).cells, .cells dy, .gone, .cells [(.d (.sl (ax v4.1))),(.own 5 (bJ v4.2.1)),(.own 6 (bN v4.2.2.1)),(.d (.sl (cg v9))),(.d (.sl (ax v4.2.2.2.2.1)))], .gone, .front 57 3 v4.2.1.length, .front 60 7 v4.2.2.1.length, .gone, .cells [(.d (.sl (ax v4.1))),(.own 5 (bJ v4.2.1)),(.own 6 (bN v4.2.2.1)),(.d (.sl (cg v9))),(.d (.sl (ax v4.2.2.2.2.1)))], .cells (cE v6).cells]⟩) (by kernel_rfl) ?_
   obtain⟨aI,bQ,J⟩:=ar J;refine rg [(4,cL (HS N (⟨v4.1,v4.2.1,v4.2.2.1,v9,v4.2.2.2.2.1⟩:aY) aI bQ))] [(14,(an aI.2))] [.cells (aX v1).cells, .cells dy, .gone, .cells [(.d (.sl (ax v4.1))),(.own 5 (bJ v4.2.1)),(.own 6 (bN v4.2.2.1)),(.d (.sl (cg v9))),(.d (.sl (ax v4.2.2.2.2.1)))], .gone, .front 57 3 v4.2.1.length, .front 60 7 v4.2.2.1.length, .gone, .cells [(.d (.sl (ax v4.1))),(.own 5 (bJ v4.2.1)),(.own 6 (bN v4.2.2.1)),(.d (.sl (cg v9))),(.d (.sl (ax v4.2.2.2.2.1)))], .cells (cE v6).cells] (by kernel_rfl) ?_;refine aN ?_;refine rg [] [(78,(aM (aI.2 !=(0:Int))))] [.cells (aX v1).cells, .cells dy, .gone, .cells [(.d (.sl (ax v4.1))),(.own 5 (bJ v4.2.1)),(.own 6 (bN v4.2.2.1)),(.d (.sl (cg v9))),(.d (.sl (ax v4.2.2.2.2.1)))], .gone, .front 57 3 v4.2.1.length, .front 60 7 v4.2.2.1.length, .gone, .cells [(.d (.sl (ax v4.1))),(.own 5 (bJ v4.2.1)),(.own 6 (bN v4.2.2.1)),(.d (.sl (cg v9))),(.d (.sl (ax v4.2.2.2.2.1)))], .cells (cE v6).cells] (by kernel_rfl) ?_;rcases fP (aI.2 !=(0:Int))with dk|dk
   ·replace J:=(dx dk).symm.trans J;refine fz (t:=(aI.2 !=(0:Int))) (by kernel_rfl) dk ?_;refine aN ?_;refine rg [] [(5,(an aI.2))] [.cells (aX v1).cells, .cells dy, .gone, .cells [(.d (.sl (ax v4.1))),(.own 5 (bJ v4.2.1)),(.own 6 (bN v4.2.2.1)),(.d (.sl (cg v9))),(.d (.sl (ax v4.2.2.2.2.1)))], .gone, .front 57 3 v4.2.1.length, .front 60 7 v4.2.2.1.length, .gone, .cells [(.d (.sl (ax v4.1))),(.own 5 (bJ v4.2.1)),(.own 6 (bN v4.2.2.1)),(.d (.sl (cg v9))),(.d (.sl (ax v4.2.2.2.2.1)))], .cells (cE v6).cells] (by kernel_rfl) ?_;refine dM (ej ?_);have hr:=agM J;subst hr;exact gi (by kernel_rfl)
   replace J:=(fR dk).symm.trans J;refine ft (t:=(aI.2 !=(0:Int))) (by kernel_rfl) dk ?_;refine et ?_;refine cm ?_;refine aN ?_;obtain⟨aD,dJ,J⟩:=ar J;refine rg [(4,⟨_,_, .l7 hX (sw (yq (sw (rX (rX (kF (xs:=(aD.2.2.2.2.2.map cw)) hX)))))) (db:=[(aX (⟨v4.1,v4.2.1,v4.2.2.1,v9,v4.2.2.2.2.1⟩:aY))]) (h:=[.cells (aX v1).cells, .cells dy, .gone, .cells [(.d (.sl (ax v4.1))),(.own 5 (bJ v4.2.1)),(.own 6 (bN v4.2.2.1)),(.d (.sl (cg v9))),(.d (.sl (ax v4.2.2.2.2.1)))], .gone, .front 57 3 v4.2.1.length, .front 60 7 v4.2.2.1.length, .gone, .cells [(.d (.sl (ax v4.1))),(.own 5 (bJ v4.2.1)),(.own 6 (bN v4.2.2.1)),(.d (.sl (cg v9))),(.d (.sl (ax v4.2.2.2.2.1)))], .cells (cE v6).cells]) (l:=[]) (by kernel_rfl) (by kernel_rfl) (by kernel_rfl) (by kernel_rfl) (Fk N (⟨v4.1,v4.2.1,v4.2.2.1,v9,v4.2.2.2.2.1⟩:aY) aD dJ)⟩)] [(5,(an (0:Int)))] [.cells (aX v1).cells, .cells [(.d (.sl (ax aD.1))),(.own 13 (bJ aD.2.1)),(.own 14 (bN aD.2.2.1)),(.vec 15 0 aD.2.2.2.1 aD.2.2.2.1 22),(.d (.sl (ax aD.2.2.2.2.1)))], .gone, .cells [(.d (.sl (ax v4.1))),(.own 5 (bJ v4.2.1)),(.own 6 (bN v4.2.2.1)),(.d (.sl (cg v9))),(.d (.sl (ax v4.2.2.2.2.1)))], .gone, .front 57 3 v4.2.1.length, .front 60 7 v4.2.2.1.length, .gone, .cells [(.d (.sl (ax v4.1))),(.own 5 (bJ v4.2.1)),(.own 6 (bN v4.2.2.1)),(.d (.sl (cg v9))),(.d (.sl (ax v4.2.2.2.2.1)))], .cells (cE v6).cells, .gone, .cells [(.d (.sl (ax aD.1))),(.own 13 (bJ aD.2.1)),(.own 14 (bN aD.2.2.1)),(.vec 15 0 aD.2.2.2.1 aD.2.2.2.1 22),(.d (.sl (ax aD.2.2.2.2.1)))], .gone, .front 57 3 aD.2.1.length, .front 60 7 aD.2.2.1.length, .vec 54 22 (aK (aD.2.2.2.2.2.map cw))] (by kernel_rfl) ?_
   have eG:=fv J;replace J:=(dx eG).symm.trans J;refine HT [4,5] 15 (aD.2.2.2.2.2.map cw) (cg aD.2.2.2.2.2) (L:=aD.2.2.2.1) [.cells (aX v1).cells, .cells [(.d (.sl (ax aD.1))),(.own 13 (bJ aD.2.1)),(.own 14 (bN aD.2.2.1)),(.d (.sl (cg aD.2.2.2.2.2))),(.d (.sl (ax aD.2.2.2.2.1)))], .gone, .cells [(.d (.sl (ax v4.1))),(.own 5 (bJ v4.2.1)),(.own 6 (bN v4.2.2.1)),(.d (.sl (cg v9))),(.d (.sl (ax v4.2.2.2.2.1)))], .gone, .front 57 3 v4.2.1.length, .front 60 7 v4.2.2.1.length, .gone, .cells [(.d (.sl (ax v4.1))),(.own 5 (bJ v4.2.1)),(.own 6 (bN v4.2.2.1)),(.d (.sl (cg v9))),(.d (.sl (ax v4.2.2.2.2.1)))], .cells (cE v6).cells, .gone, .cells [(.d (.sl (ax aD.1))),(.own 13 (bJ aD.2.1)),(.own 14 (bN aD.2.2.1)),(.d (.sl (cg aD.2.2.2.2.2))),(.d (.sl (ax aD.2.2.2.2.1)))], .gone, .front 57 3 aD.2.1.length, .front 60 7 aD.2.2.1.length, .vec 54 22 (aK (aD.2.2.2.2.2.map cw))] 0 rfl (oY (fun _=>rfl) _) (pW (agH eG)) (lz _) (by kernel_rfl) (.cells 0 rfl (by kernel_rfl) (.cells 1 (by kernel_rfl) (by kernel_rfl) (.gone (.cells 0 rfl (by kernel_rfl) (.gone (.front (.front (.gone (.cells 0 rfl (by kernel_rfl) (.cells 0 rfl (by kernel_rfl) (.gone (.cells 1 (by kernel_rfl) (by kernel_rfl) (.gone (.front (.front (.iE .nil)))))))))))))))) ?_;refine lS (s':=⟨83,[(4,(.ptr 1 0)),(5,(an (0:Int)))],[.cells (aX v1).cells, .cells [(.d (.sl (ax aD.1))),(.own 13 (bJ aD.2.1)),(.own 14 (bN aD.2.2.1)),(.d (.sl (cg aD.2.2.2.2.2))),(.d (.sl (ax aD.2.2.2.2.1)))], .gone, .cells [(.d (.sl (ax v4.1))),(.own 5 (bJ v4.2.1)),(.own 6 (bN v4.2.2.1)),(.d (.sl (cg v9))),(.d (.sl (ax v4.2.2.2.2.1)))], .gone, .front 57 3 v4.2.1.length, .front 60 7 v4.2.2.1.length, .gone, .cells [(.d (.sl (ax v4.1))),(.own 5 (bJ v4.2.1)),(.own 6 (bN v4.2.2.1)),(.d (.sl (cg v9))),(.d (.sl (ax v4.2.2.2.2.1)))], .cells (cE v6).cells, .gone, .cells [(.d (.sl (ax aD.1))),(.own 13 (bJ aD.2.1)),(.own 14 (bN aD.2.2.1)),(.d (.sl (cg aD.2.2.2.2.2))),(.d (.sl (ax aD.2.2.2.2.1)))], .gone, .front 57 3 aD.2.1.length, .front 60 7 aD.2.2.1.length, .gone]⟩) (by kernel_rfl) ?_
   refine dM ?_;have hr:=agM J;subst hr;exact gi (by kernel_rfl)
  replace J:=(fR a9).symm.trans J;refine fz (t:=(!aC)) (by kernel_rfl) (cT a9) ?_;obtain⟨aP,fe,J⟩:=ar J;refine rg [(16,⟨_,_, .l7 (kF (xs:=(v9.map cw)) hX) (vdP (xs:=(aP.map cw)) hX) (db:=[(.vec 7 0 v4.2.2.2.1 v4.2.2.2.1 22),(an v5),(an (a7 (v5+(1:Int))))]) (h:=[.cells (aX v1).cells, .cells dy, .gone, .cells [(.d (.sl (ax v4.1))),(.own 5 (bJ v4.2.1)),(.own 6 (bN v4.2.2.1)),(.vec 7 0 v4.2.2.2.1 v4.2.2.2.1 22),(.d (.sl (ax v4.2.2.2.2.1)))], .gone, .front 57 3 v4.2.1.length, .front 60 7 v4.2.2.1.length, .vec 54 22 (aK (v9.map cw)), .cells [(.d (.sl (ax v4.1))),(.own 5 (bJ v4.2.1)),(.own 6 (bN v4.2.2.1)),(.vec 7 0 v4.2.2.2.1 v4.2.2.2.1 22),(.d (.sl (ax v4.2.2.2.2.1)))], .cells (cE v6).cells]) (l:=[7]) (by kernel_rfl) (by kernel_rfl) (by kernel_rfl) (by kernel_rfl) (afG N v9 v5 v4.2.2.2.1 aP fe)⟩)] [] [.cells (aX v1).cells, .cells dy, .gone, .cells [(.d (.sl (ax v4.1))),(.own 5 (bJ v4.2.1)),(.own 6 (bN v4.2.2.1)),(.vec 7 0 v4.2.2.2.1 v4.2.2.2.1 22),(.d (.sl (ax v4.2.2.2.2.1)))], .gone, .front 57 3 v4.2.1.length, .front 60 7 v4.2.2.1.length, .vec 54 22 (aK (aP.map cw)++[List.replicate 22 .dead]), .cells [(.d (.sl (ax v4.1))),(.own 5 (bJ v4.2.1)),(.own 6 (bN v4.2.2.1)),(.vec 7 0 (v4.2.2.2.1-1) v4.2.2.2.1 22),(.d (.sl (ax v4.2.2.2.2.1)))], .cells (cE v6).cells] (by kernel_rfl) ?_
  refine aN ?_;refine aN ?_;have fb:=fv J;replace J:=(dx fb).symm.trans J;have eN:=fv J;replace J:=(dx eN).symm.trans J;refine aeM [4,7] 7 (aP.map cw) (cg aP) (ln:=(v4.2.2.2.1-1)) (L:=v4.2.2.2.1) [.cells (aX v1).cells, .cells dy, .gone, .gone, .gone, .front 57 3 v4.2.1.length, .front 60 7 v4.2.2.1.length, .gone, .cells [(.d (.sl (ax v4.1))),(.own 5 (bJ v4.2.1)),(.own 6 (bN v4.2.2.1)),(.d (.sl (cg aP))),(.d (.sl (ax v4.2.2.2.2.1)))], .cells (cE v6).cells] 0 rfl (VO (agH fb)) abp (oY (fun _=>rfl) _) (pW (agH eN)) (lz _) rfl (by kernel_rfl) (.cells 0 rfl (by kernel_rfl) (.cells 0 rfl (by kernel_rfl) (.gone (.drop (.gone (.front (.front (.drop (.cells 1 (by kernel_rfl) (by kernel_rfl) (.cells 0 rfl (by kernel_rfl) .nil)))))))))) ?_;refine lS (s':=⟨83,[(4,(.ptr 1 0)),(7,(.ptr 8 0))],[.cells (aX v1).cells, .cells dy, .gone, .gone, .gone, .front 57 3 v4.2.1.length, .front 60 7 v4.2.2.1.length, .gone, .cells [(.d (.sl (ax v4.1))),(.own 5 (bJ v4.2.1)),(.own 6 (bN v4.2.2.1)),(.d (.sl (cg aP))),(.d (.sl (ax v4.2.2.2.2.1)))], .cells (cE v6).cells]⟩) (by kernel_rfl) ?_;obtain⟨aW,fp,J⟩:=ar J;refine rg [(4,cL (HS N (⟨v4.1,v4.2.1,v4.2.2.1,aP,v4.2.2.2.2.1⟩:aY) aW fp))] [(14,(an aW.2))] [.cells (aX v1).cells, .cells dy, .gone, .gone, .gone, .front 57 3 v4.2.1.length, .front 60 7 v4.2.2.1.length, .gone, .cells [(.d (.sl (ax v4.1))),(.own 5 (bJ v4.2.1)),(.own 6 (bN v4.2.2.1)),(.d (.sl (cg aP))),(.d (.sl (ax v4.2.2.2.2.1)))], .cells (cE v6).cells] (by kernel_rfl) ?_
  refine aN ?_;refine rg [] [(78,(aM (aW.2 !=(0:Int))))] [.cells (aX v1).cells, .cells dy, .gone, .gone, .gone, .front 57 3 v4.2.1.length, .front 60 7 v4.2.2.1.length, .gone, .cells [(.d (.sl (ax v4.1))),(.own 5 (bJ v4.2.1)),(.own 6 (bN v4.2.2.1)),(.d (.sl (cg aP))),(.d (.sl (ax v4.2.2.2.2.1)))], .cells (cE v6).cells] (by kernel_rfl) ?_;rcases fP (aW.2 !=(0:Int))with h26|h26
  ·replace J:=(dx h26).symm.trans J;refine fz (t:=(aW.2 !=(0:Int))) (by kernel_rfl) h26 ?_;refine aN ?_;refine rg [] [(5,(an aW.2))] [.cells (aX v1).cells, .cells dy, .gone, .gone, .gone, .front 57 3 v4.2.1.length, .front 60 7 v4.2.2.1.length, .gone, .cells [(.d (.sl (ax v4.1))),(.own 5 (bJ v4.2.1)),(.own 6 (bN v4.2.2.1)),(.d (.sl (cg aP))),(.d (.sl (ax v4.2.2.2.2.1)))], .cells (cE v6).cells] (by kernel_rfl) ?_;refine dM (ej ?_);have hr:=agM J;subst hr;exact gi (by kernel_rfl)
  replace J:=(fR h26).symm.trans J;refine ft (t:=(aW.2 !=(0:Int))) (by kernel_rfl) h26 ?_;refine et ?_;refine cm ?_;refine aN ?_;obtain⟨aH,jg,J⟩:=ar J;refine rg [(4,⟨_,_, .l7 hX (sw (yq (sw (rX (rX (kF (xs:=(aH.2.2.2.2.2.map cw)) hX)))))) (db:=[(aX (⟨v4.1,v4.2.1,v4.2.2.1,aP,v4.2.2.2.2.1⟩:aY))]) (h:=[.cells (aX v1).cells, .cells dy, .gone, .gone, .gone, .front 57 3 v4.2.1.length, .front 60 7 v4.2.2.1.length, .gone, .cells [(.d (.sl (ax v4.1))),(.own 5 (bJ v4.2.1)),(.own 6 (bN v4.2.2.1)),(.d (.sl (cg aP))),(.d (.sl (ax v4.2.2.2.2.1)))], .cells (cE v6).cells]) (l:=[]) (by kernel_rfl) (by kernel_rfl) (by kernel_rfl) (by kernel_rfl) (Fk N (⟨v4.1,v4.2.1,v4.2.2.1,aP,v4.2.2.2.2.1⟩:aY) aH jg)⟩)] [(5,(an (0:Int)))] [.cells (aX v1).cells, .cells [(.d (.sl (ax aH.1))),(.own 13 (bJ aH.2.1)),(.own 14 (bN aH.2.2.1)),(.vec 15 0 aH.2.2.2.1 aH.2.2.2.1 22),(.d (.sl (ax aH.2.2.2.2.1)))], .gone, .gone, .gone, .front 57 3 v4.2.1.length, .front 60 7 v4.2.2.1.length, .gone, .cells [(.d (.sl (ax v4.1))),(.own 5 (bJ v4.2.1)),(.own 6 (bN v4.2.2.1)),(.d (.sl (cg aP))),(.d (.sl (ax v4.2.2.2.2.1)))], .cells (cE v6).cells, .gone, .cells [(.d (.sl (ax aH.1))),(.own 13 (bJ aH.2.1)),(.own 14 (bN aH.2.2.1)),(.vec 15 0 aH.2.2.2.1 aH.2.2.2.1 22),(.d (.sl (ax aH.2.2.2.2.1)))], .gone, .front 57 3 aH.2.1.length, .front 60 7 aH.2.2.1.length, .vec 54 22 (aK (aH.2.2.2.2.2.map cw))] (by kernel_rfl) ?_
  have lL:=fv J;replace J:=(dx lL).symm.trans J;refine HT [4,5] 15 (aH.2.2.2.2.2.map cw) (cg aH.2.2.2.2.2) (L:=aH.2.2.2.1) [.cells (aX v1).cells, .cells [(.d (.sl (ax aH.1))),(.own 13 (bJ aH.2.1)),(.own 14 (bN aH.2.2.1)),(.d (.sl (cg aH.2.2.2.2.2))),(.d (.sl (ax aH.2.2.2.2.1)))], .gone, .gone, .gone, .front 57 3 v4.2.1.length, .front 60 7 v4.2.2.1.length, .gone, .cells [(.d (.sl (ax v4.1))),(.own 5 (bJ v4.2.1)),(.own 6 (bN v4.2.2.1)),(.d (.sl (cg aP))),(.d (.sl (ax v4.2.2.2.2.1)))], .cells (cE v6).cells, .gone, .cells [(.d (.sl (ax aH.1))),(.own 13 (bJ aH.2.1)),(.own 14 (bN aH.2.2.1)),(.d (.sl (cg aH.2.2.2.2.2))),(.d (.sl (ax aH.2.2.2.2.1)))], .gone, .front 57 3 aH.2.1.length, .front 60 7 aH.2.2.1.length, .vec 54 22 (aK (aH.2.2.2.2.2.map cw))] 0 rfl (oY (fun _=>rfl) _) (pW (agH lL)) (lz _) (by kernel_rfl) (.cells 0 rfl (by kernel_rfl) (.cells 1 (by kernel_rfl) (by kernel_rfl) (.gone (.gone (.gone (.front (.front (.gone (.cells 0 rfl (by kernel_rfl) (.cells 0 rfl (by kernel_rfl) (.gone (.cells 1 (by kernel_rfl) (by kernel_rfl) (.gone (.front (.front (.iE .nil)))))))))))))))) ?_;refine lS (s':=⟨83,[(4,(.ptr 1 0)),(5,(an (0:Int)))],[.cells (aX v1).cells, .cells [(.d (.sl (ax aH.1))),(.own 13 (bJ aH.2.1)),(.own 14 (bN aH.2.2.1)),(.d (.sl (cg aH.2.2.2.2.2))),(.d (.sl (ax aH.2.2.2.2.1)))], .gone, .gone, .gone, .front 57 3 v4.2.1.length, .front 60 7 v4.2.2.1.length, .gone, .cells [(.d (.sl (ax v4.1))),(.own 5 (bJ v4.2.1)),(.own 6 (bN v4.2.2.1)),(.d (.sl (cg aP))),(.d (.sl (ax v4.2.2.2.2.1)))], .cells (cE v6).cells, .gone, .cells [(.d (.sl (ax aH.1))),(.own 13 (bJ aH.2.1)),(.own 14 (bN aH.2.2.1)),(.d (.sl (cg aH.2.2.2.2.2))),(.d (.sl (ax aH.2.2.2.2.1)))], .gone, .front 57 3 aH.2.1.length, .front 60 7 aH.2.2.1.length, .gone]⟩) (by kernel_rfl) ?_
  refine dM ?_;have hr:=agM J;subst hr;exact gi (by kernel_rfl)
def zf(N:Nat):List ay→Nat→Int→Option Int
 |[],_,v7=>
  some (a7 ((1:Int)+v7))
 |v5::v6,v3,v7=>
  bif (bL v5.bp==bL (bs []))then
   (fun fS=>zf N v6 (v3+1) fS) v7
  else
   (fun fS=>zf N v6 (v3+1) fS) (a7 (v7+(1:Int)))
def DM(N:Nat)(EM:ao→Option Int):List ao→Nat→Int→Option Int
 |[],_,aC=>
  some (a7 ((1:Int)+aC))
 |v10::v11,v8,aC=>
  Option.bind (EM v10) fun aI=>
  (fun lD=>DM N EM v11 (v8+1) lD) (a7 (aC+aI))
def EZ(N:Nat)(v1:ao)(EM:ao→Option Int)(v2:Bool):Option Int:=
 bif v2 then
  some (0:Int)
 else
  bif (v1.bg==(3:Int))then
   zf N v1.xIdx 0 (0:Int)
  else
   DM N EM v1.aT 0 (0:Int)
def rP(N:Nat):Nat→ao→Option Int
 |0,_=>none
 |d+1,v1=>
  bif (v1.bg==(1:Int))then
   EZ N v1 (rP N d) (v1.bg==(1:Int))
  else
   EZ N v1 (rP N d) (v1.bg==(2:Int))
def Rh(N:Nat)(v1:ao):Option Int:=rP N N v1
theorem afH(N:Nat):∀d:Nat,(∀(v1:ao)(r:Int),rP N d v1=some r→bm Tryz.prog 42 [(aE v1)] (·=(an r))):=by
 intro d
 induction d with
 |zero=>intro v1 r J;rw[rP]at J;cases J
 |succ d ih=>
  have Xw:=ih;intro v1 r J;rw[rP]at J;refine bK Tryz.func42 (by kernel_rfl) (by kernel_rfl) ?_;refine ma ai 1 [[],[],[],[]] [1,3,9,10] 1 (fun(v2:Bool)=>⟨44,[(1,(.ptr 0 0)),(3,(an (0:Int))),(9,(an v1.bg)),(10,(aM v2))],[.cells (aE v1).cells]⟩) (fun(v2:Bool)=>EZ N v1 (rP N d) v2=some r) ?_ ?_
  ·intro f1 aV;refine bc J (fun aZ J=> ?_) fun aZ J=> ?_
   ·exact dT ai aV (v1.bg==(1:Int)) [[(0,bT aZ)]] J
   exact dT ai aV (v1.bg==(2:Int)) [[(0,bF aZ)],[]] J
  rintro v2 J
  try dsimp only at J
  rw[EZ]at J;refine bc J (fun h1 J=> ?_) fun h1 J=> ?_
  ·obtain rfl:=sj J;exact wr ai [[(0,bT h1)],[]]
  refine au ai [[(0,bF h1)],[]] ?_;refine bc J (fun h2 J=> ?_) fun h2 J=> ?_
  ·refine au ai [[(0,bT h2)],[(7,oL v1.xIdx cn)]] ?_;refine dP 16 (bM v1.xIdx) (by kernel_rfl) fun h3=> ?_;have h4:=cr cn h3;refine cC ai 2 [] [3,16,17,18] 1 (fun((v3,v4,v7):Nat×(List ay)×Int)=>⟨44,[(3,(an v7)),(16,(.d (.sl (bM v1.xIdx)))),(17,(an (v1.xIdx.length:Int))),(18,(an (v3:Int)))],[.cells (aE v1).cells]⟩) (fun((v3,v4,v7):Nat×(List ay)×Int)=>v1.xIdx.drop v3=v4∧zf N v4 v3 v7=some r) (fun((v3,v4,v7):Nat×(List ay)×Int)=>v4.length) (0,v1.xIdx,(0:Int)) ⟨rfl,J⟩ ?_;rintro⟨v3,v4,v7⟩ ⟨h5,J⟩ f2 dX;cases v4 with
   |nil=>
    rw[zf]at J;obtain rfl:=sj J;exact wr ai [[],[(0,bF (bS h5))],[]]
   |cons v5 v6=>
    rw[zf]at J;refine au ai [[],[(0,bT (bR h5))],[(1,oE (eM (bj h5)))],[]] ?_;refine bc J (fun h6 J=> ?_) fun h6 J=> ?_
    ·exact cx ai dX (v3+1,v6,v7) [[(0,bF (cG h6))],[(2,oq (b8 h5 rfl h4))]] ⟨b7 h5,J⟩
    exact cx ai dX (v3+1,v6,(a7 (v7+(1:Int)))) [[(0,bT (cT h6))],[],[(2,oq (b8 h5 rfl h4))]] ⟨b7 h5,J⟩
  refine au ai [[(0,bF h2)],[(7,oL v1.aT ca)]] ?_;refine dP 31 (cW v1.aT) (by kernel_rfl) fun h7=> ?_;have h8:=cr ca h7;refine cC ai 3 [] [3,31,32,33] 1 (fun((v8,v9,aC):Nat×(List ao)×Int)=>⟨44,[(3,(an aC)),(31,(.d (.sl (cW v1.aT)))),(32,(an (v1.aT.length:Int))),(33,(an (v8:Int)))],[.cells (aE v1).cells]⟩) (fun((v8,v9,aC):Nat×(List ao)×Int)=>v1.aT.drop v8=v9∧DM N (rP N d) v9 v8 aC=some r) (fun((v8,v9,aC):Nat×(List ao)×Int)=>v9.length) (0,v1.aT,(0:Int)) ⟨rfl,J⟩ ?_;rintro⟨v8,v9,aC⟩ ⟨h9,J⟩ f3 jA;cases v9 with
  |nil=>
   rw[DM]at J;obtain rfl:=sj J;exact wr ai [[],[(0,bF (bS h9))],[]]
  |cons v10 v11=>
   rw[DM]at J;obtain⟨aI,az,J⟩:=ar J;exact cx ai jA (v8+1,v11,(a7 (aC+aI))) [[],[(0,bT (bR h9))],[(1,oE (jn (bj h9)))],[(7,cL (Xw v10 aI az))],[(2,oq (b8 h9 rfl h8))]] ⟨b7 h9,J⟩
theorem Xs(N:Nat)(v1:ao)(r:Int)(J:Rh N v1=some r):bm Tryz.prog 42 [(aE v1)] (·=(an r)):=(afH N N) v1 r J
def Dy(N:Nat)(v3:(List ByteArray)×(List cF)×(List cq)×Nat×(List ByteArray)×(List aL))(v2:Int):List aL→Nat→Option (aY×Int)
 |[],_=>
  some ((⟨v3.1,v3.2.1,v3.2.2.1,v3.2.2.2.2.2,v3.2.2.2.2.1⟩:aY),(0:Int))
 |v7::v8,v5=>
  Option.bind (xw N (⟨v3.1,v3.2.1,v3.2.2.1,v3.2.2.2.2.2,v3.2.2.2.2.1⟩:aY) v7.aq) fun v9=>
  Option.bind (bif (decide (v9<(0:Int)))then some true else bif (decide ((0:Int)≤v9))then
  Option.bind (v3.2.2.2.2.2[(v9).toNat]?) fun v10=>
  Option.bind (Rh N v10.bE) fun v11=>
  some (decide (v11>v2))
  else none) fun aC=>
  bif aC then
   (Dy N v3 v2 v8 (v5+1))
  else
   Option.bind (wM N (⟨v3.1,v3.2.1,v3.2.2.1,v3.2.2.2.2.2,v3.2.2.2.2.1⟩:aY) v7.aq) fun aI=>
   none
def Ke(N:Nat)(v1:aY)(v2:Int):Option (aY×Int):=
 Option.bind (rM N v1) fun v3=>
 bif (Nat.beq v3.2.2.2.2.2.length v3.2.2.2.1)then
 Option.bind (tq N v1) fun v4=>
 bif (v4.2 !=(0:Int))then
  some ((⟨v3.1,v3.2.1,v3.2.2.1,v3.2.2.2.2.2,v3.2.2.2.2.1⟩:aY),(0:Int))
 else
  Dy N v3 v2 v1.aA 0
 else none
theorem aer(N:Nat)(v1:aY)(v2:Int)(r:aY×Int)(J:Ke N v1 v2=some r):bm Tryz.prog 13 [(aX v1),(an v2)] (·=(.bX [(aX r.1),(an r.2)])):=by
 rw[Ke]at J;refine bK Tryz.func13 (by kernel_rfl) (by kernel_rfl) ?_;obtain⟨v3,h1,J⟩:=ar J;obtain⟨h2,J⟩:=c8 J;refine au ai [[],[(4,⟨_,_, .l7 hX (sw (yq (sw (rX (rX (kF (xs:=(v3.2.2.2.2.2.map cw)) hX)))))) (db:=[(aX v1)]) (h:=[.cells (aX v1).cells, .cells dy]) (l:=[]) (by kernel_rfl) (by kernel_rfl) (by kernel_rfl) (by kernel_rfl) (Fk N v1 v3 h1)⟩)]] ?_;refine Hx [1,2,4,6] 7 (cg v3.2.2.2.2.2) v3.2.2.2.1 2 54 22 [.iE (v3.2.2.2.2.2.map cw)] (pW (agH h2)) (lz _) (oY (fun _=>rfl) _) ?_;obtain⟨v4,h3,J⟩:=ar J;refine au ai [[(4,cL (HS N v1 v4 h3))],[]] ?_;refine bc J (fun h4 J=> ?_) fun h4 J=> ?_
 ·obtain rfl:=sj J;exact wr ai [[(0,bT h4)],[]]
 refine au ai [[(0,bF h4)],[],[(7,oL v1.aA dB)]] ?_;refine dP 26 (cg v1.aA) (by kernel_rfl) fun h5=> ?_;have h6:=cr dB h5;refine jQ ai 1 [] [1,4,6,9,26,27,28] 9 [] [(1,0),(1,1),(1,2),(1,3),(1,4)] (fun((v5,v6):Nat×(List aL))=>⟨70,[(1,(an v2)),(4,(.ptr 1 0)),(6,(.ptr 8 0)),(9,(an (0:Int))),(26,(.d (.sl (cg v1.aA)))),(27,(an (v1.aA.length:Int))),(28,(an (v5:Int)))],[.cells (aX v1).cells, .cells dy, .gone, .cells [(.d (.sl (ax v3.1))),(.own 5 (bJ v3.2.1)),(.own 6 (bN v3.2.2.1)),(.d (.sl (cg v3.2.2.2.2.2))),(.d (.sl (ax v3.2.2.2.2.1)))], .gone, .front 57 3 v3.2.1.length, .front 60 7 v3.2.2.1.length, .gone, .cells [(.d (.sl (ax v3.1))),(.own 5 (bJ v3.2.1)),(.own 6 (bN v3.2.2.1)),(.d (.sl (cg v3.2.2.2.2.2))),(.d (.sl (ax v3.2.2.2.2.1)))]]⟩) (fun((v5,v6):Nat×(List aL))=>v1.aA.drop v5=v6∧Dy N v3 v2 v6 v5=some r) (fun((v5,v6):Nat×(List aL))=>v6.length) (0,v1.aA) ⟨rfl,J⟩ ?_;rintro⟨v5,v6⟩ ⟨h7,J⟩ f1 aV;cases v6 with
 |nil=>
  rw[Dy]at J;obtain rfl:=sj J;exact wr ai [[],[(0,bF (bS h7))],[]]
 |cons v7 v8=>
  rw[Dy]at J;obtain⟨v9,h8,J⟩:=ar J;refine au ai [[],[(0,bT (bR h7))],[(1,oE (gA (bj h7)))],[(10,cL (JT N (⟨v3.1,v3.2.1,v3.2.2.1,v3.2.2.2.2.2,v3.2.2.2.2.1⟩:aY) v7.aq v9 h8))]] ?_;obtain⟨aC,b5,J⟩:=ar J;refine cN ai [(48,(aM aC))] [.cells (aX v1).cells, .cells dy, .gone, .cells [(.d (.sl (ax v3.1))),(.own 5 (bJ v3.2.1)),(.own 6 (bN v3.2.2.1)),(.d (.sl (cg v3.2.2.2.2.2))),(.d (.sl (ax v3.2.2.2.2.1)))], .gone, .front 57 3 v3.2.1.length, .front 60 7 v3.2.2.1.length, .gone, .cells [(.d (.sl (ax v3.1))),(.own 5 (bJ v3.2.1)),(.own 6 (bN v3.2.2.1)),(.d (.sl (cg v3.2.2.2.2.2))),(.d (.sl (ax v3.2.2.2.2.1)))], .cells (cE v7).cells] ?_ ?_
  ·refine bc b5 (fun h9 b5=> ?_) fun h9 b5=> ?_
   ·obtain rfl:=sj b5;exact⟨so (os [9,12,15,18,21,24,27,30,33,37] (bT h9) []),by kernel_rfl⟩
   obtain⟨aZ,b5⟩:=c8 b5;obtain⟨v10,az,b5⟩:=ar b5;obtain⟨v11,bf,b5⟩:=ar b5;obtain rfl:=sj b5;exact⟨so (os [9,12,15,18,21,24,27,30,33,37] (bF h9) [(19,⟨_,_, .el (xs:=cg v3.2.2.2.2.2) (i:=v9) (of_decide_eq_true aZ) (gA az)⟩),(28,cL (Xs N v10.bE v11 bf))]),by kernel_rfl⟩
  refine bc J (fun a8 J=> ?_) fun a8 J=> ?_
  ·exact iQ ai aV (v5+1,v8) [[(0,bT a8)],[(2,oq (b8 h7 rfl h6))]] ⟨b7 h7,J⟩
  obtain⟨aI,bA,J⟩:=ar J;cases J
def uk(N:Nat)(v2:aw):List aF→Nat→Option Bool
 |[],_=>
  some true
 |v6::v7,v4=>
  Option.bind (v2.xL[((v4:Int)).toNat]?) fun v8=>
  bif ((bL v6.aq==bL v8.aq)&&((v6.dq.toInt==v8.dq.toInt)&&true))then
   (uk N v2 v7 (v4+1))
  else
   some false
def qR(N:Nat)(v1:aw)(v2:aw):Option Bool:=
 Option.bind (bif (v1.xK.toInt !=v2.xK.toInt)then some true else some ((v1.xL.length:Int) !=(v2.xL.length:Int))) fun v3=>
 bif v3 then
  some false
 else
  uk N v2 v1.xL 0
theorem th(N:Nat)(v1:aw)(v2:aw)(r:Bool)(J:qR N v1 v2=some r):bm Tryz.prog 48 [(b9 v1),(b9 v2)] (·=(aM r)):=by
 rw[qR]at J;refine bK Tryz.func48 (by kernel_rfl) (by kernel_rfl) ?_;refine au ai [[]] ?_;obtain⟨v3,h2,J⟩:=ar J;refine cN ai [(19,(aM v3))] [.cells (b9 v1).cells, .cells (b9 v2).cells] ?_ ?_
 ·refine bc h2 (fun h1 h2=> ?_) fun h1 h2=> ?_
  ·obtain rfl:=sj h2;exact⟨so (os [18,21,24,27,30,33,36,40] (bT h1) []),by kernel_rfl⟩
  obtain rfl:=sj h2;exact⟨so (os [18,21,24,27,30,33,36,40] (bF h1) [(25,oL v1.xL b6),(34,oL v2.xL b6)]),by kernel_rfl⟩
 refine bc J (fun h3 J=> ?_) fun h3 J=> ?_
 ·obtain rfl:=sj J;exact wr ai [[(0,bT h3)],[]]
 refine au ai [[(0,bF h3)],[]] ?_;refine eo 0 1 (bP v1.xL) (by kernel_rfl) fun h4=> ?_;have h5:=cr b6 h4;refine cC ai 1 [] [2,3,5] 2 (fun((v4,v5):Nat×(List aF))=>⟨38,[(2,(.ptr 0 0)),(3,(.ptr 1 0)),(5,(an (v4:Int)))],[.cells (b9 v1).cells, .cells (b9 v2).cells]⟩) (fun((v4,v5):Nat×(List aF))=>v1.xL.drop v4=v5∧uk N v2 v5 v4=some r) (fun((v4,v5):Nat×(List aF))=>v5.length) (0,v1.xL) ⟨rfl,J⟩ ?_;rintro⟨v4,v5⟩ ⟨h6,J⟩ f1 aV;cases v5 with
 |nil=>
  rw[uk]at J;obtain rfl:=sj J;exact wr ai [[(10,oL v1.xL b6)],[(0,bF (bS h6))],[]]
 |cons v6 v7=>
  rw[uk]at J;obtain⟨v8,h7,J⟩:=ar J;refine au ai [[(10,oL v1.xL b6)],[(0,bT (bR h6))],[(10,oE (fu (bj h6))),(25,oE (fu h7))]] ?_;refine bc J (fun h9 J=> ?_) fun h9 J=> ?_
  ·exact cx ai aV (v4+1,v7) [[(0,bF (cG h9))],[(5,oq (b8 h6 rfl h5))]] ⟨b7 h6,J⟩
  obtain rfl:=sj J;exact wr ai [[(0,bT (cT h9))],[]]
def vr(N:Nat)(v2:List aw):List aw→Nat→Option Bool
 |[],_=>
  some true
 |v5::v6,v3=>
  Option.bind (v2[((v3:Int)).toNat]?) fun v7=>
  Option.bind (qR N v5 v7) fun v8=>
  bif v8 then
   (vr N v2 v6 (v3+1))
  else
   some false
def yl(N:Nat)(v1:List aw)(v2:List aw):Option Bool:=
 bif ((v1.length:Int) !=(v2.length:Int))then
  some false
 else
  vr N v2 v1 0
theorem OZ(N:Nat)(v1:List aw)(v2:List aw)(r:Bool)(J:yl N v1 v2=some r):bm Tryz.prog 40 [(.d (.sl (cS v1))),(.d (.sl (cS v2)))] (·=(aM r)):=by
 rw[yl]at J;refine bK Tryz.func40 (by kernel_rfl) (by kernel_rfl) ?_;refine au ai [[],[(4,oL v1 bO),(10,oL v2 bO)]] ?_;refine bc J (fun h1 J=> ?_) fun h1 J=> ?_
 ·obtain rfl:=sj J;exact wr ai [[(0,bT h1)],[]]
 refine au ai [[(0,bF h1)],[]] ?_;refine dP 0 (cS v1) (by kernel_rfl) fun h2=> ?_;have h3:=cr bO h2;refine cC ai 1 [] [0,1,5] 0 (fun((v3,v4):Nat×(List aw))=>⟨27,[(0,(.d (.sl (cS v1)))),(1,(.d (.sl (cS v2)))),(5,(an (v3:Int)))],[]⟩) (fun((v3,v4):Nat×(List aw))=>v1.drop v3=v4∧vr N v2 v4 v3=some r) (fun((v3,v4):Nat×(List aw))=>v4.length) (0,v1) ⟨rfl,J⟩ ?_;rintro⟨v3,v4⟩ ⟨h4,J⟩ f1 aV;cases v4 with
 |nil=>
  rw[vr]at J;obtain rfl:=sj J;exact wr ai [[(7,oL v1 bO)],[(0,bF (bS h4))],[]]
 |cons v5 v6=>
  rw[vr]at J;obtain⟨v7,h5,J⟩:=ar J;obtain⟨v8,h7,J⟩:=ar J;refine au ai [[(7,oL v1 bO)],[(0,bT (bR h4))],[(7,oE (jv (bj h4))),(19,oE (jv h5)),(25,cL (th N v5 v7 v8 h7))]] ?_;refine bc J (fun h8 J=> ?_) fun h8 J=> ?_
  ·exact cx ai aV (v3+1,v6) [[(0,bF (cG h8))],[(5,oq (b8 h4 rfl h3))]] ⟨b7 h4,J⟩
  obtain rfl:=sj J;exact wr ai [[(0,bT (cT h8))],[]]
def DS(N:Nat)(v1:ay)(v2:ay):Option Bool:=
 Option.bind (bif (bL v1.bp==bL v2.bp)then Option.bind (qR N v1.aQ v2.aQ) fun v3=>
 (bif v3 then Option.bind (yl N v1.bw v2.bw) fun v4=>
 some v4 else some false)else some false) fun v5=>
 some v5
theorem ae9(N:Nat)(v1:ay)(v2:ay)(r:Bool)(J:DS N v1 v2=some r):bm Tryz.prog 84 [(fX v1),(fX v2)] (·=(aM r)):=by
 rw[DS]at J;refine bK Tryz.func84 (by kernel_rfl) (by kernel_rfl) ?_;refine au ai [[]] ?_;obtain⟨v5,h5,J⟩:=ar J;refine cN ai [(4,(aM v5))] [.cells (fX v1).cells, .cells (fX v2).cells] ?_ ?_
 ·refine bc h5 (fun h1 h5=> ?_) fun h1 h5=> ?_
  ·obtain⟨v3,h2,h5⟩:=ar h5;refine bc h5 (fun h3 h5=> ?_) fun h3 h5=> ?_
   ·obtain⟨v4,h4,h5⟩:=ar h5;obtain rfl:=sj h5;exact⟨so (os [18,21,24,27,30,34] (bT h1) (os [39,42,45,48,51,55] (bT h3) [(31,cL (th N v1.aQ v2.aQ v3 h2)),(52,cL (OZ N v1.bw v2.bw v4 h4))])),by kernel_rfl⟩
   obtain rfl:=sj h5;exact⟨so (os [18,21,24,27,30,34] (bT h1) (os [39,42,45,48,51,55] (bF h3) [(31,cL (th N v1.aQ v2.aQ v3 h2))])),by kernel_rfl⟩
  obtain rfl:=sj h5;exact⟨so (os [18,21,24,27,30,34] (bF h1) (os [39,42,45,48,51,55] (bF rfl) [])),by kernel_rfl⟩
 obtain rfl:=sj J;exact wr ai []
def uP(N:Nat)(v2:List ay):List ay→Nat→Option Bool
 |[],_=>
  some true
 |v5::v6,v3=>
  Option.bind (v2[((v3:Int)).toNat]?) fun v7=>
  Option.bind (DS N v5 v7) fun v8=>
  bif v8 then
   (uP N v2 v6 (v3+1))
  else
   some false
def B3(N:Nat)(v1:List ay)(v2:List ay):Option Bool:=
 bif ((v1.length:Int) !=(v2.length:Int))then
  some false
 else
  uP N v2 v1 0
theorem Oi(N:Nat)(v1:List ay)(v2:List ay)(r:Bool)(J:B3 N v1 v2=some r):bm Tryz.prog 49 [(.d (.sl (bM v1))),(.d (.sl (bM v2)))] (·=(aM r)):=by
 rw[B3]at J;refine bK Tryz.func49 (by kernel_rfl) (by kernel_rfl) ?_;refine au ai [[],[(4,oL v1 cn),(10,oL v2 cn)]] ?_;refine bc J (fun h1 J=> ?_) fun h1 J=> ?_
 ·obtain rfl:=sj J;exact wr ai [[(0,bT h1)],[]]
 refine au ai [[(0,bF h1)],[]] ?_;refine dP 0 (bM v1) (by kernel_rfl) fun h2=> ?_;have h3:=cr cn h2;refine cC ai 1 [] [0,1,5] 0 (fun((v3,v4):Nat×(List ay))=>⟨27,[(0,(.d (.sl (bM v1)))),(1,(.d (.sl (bM v2)))),(5,(an (v3:Int)))],[]⟩) (fun((v3,v4):Nat×(List ay))=>v1.drop v3=v4∧uP N v2 v4 v3=some r) (fun((v3,v4):Nat×(List ay))=>v4.length) (0,v1) ⟨rfl,J⟩ ?_;rintro⟨v3,v4⟩ ⟨h4,J⟩ f1 aV;cases v4 with
 |nil=>
  rw[uP]at J;obtain rfl:=sj J;exact wr ai [[(7,oL v1 cn)],[(0,bF (bS h4))],[]]
 |cons v5 v6=>
  rw[uP]at J;obtain⟨v7,h5,J⟩:=ar J;obtain⟨v8,h7,J⟩:=ar J;refine au ai [[(7,oL v1 cn)],[(0,bT (bR h4))],[(7,oE (eM (bj h4))),(19,oE (eM h5)),(25,cL (ae9 N v5 v7 v8 h7))]] ?_;refine bc J (fun h8 J=> ?_) fun h8 J=> ?_
  ·exact cx ai aV (v3+1,v6) [[(0,bF (cG h8))],[(5,oq (b8 h4 rfl h3))]] ⟨b7 h4,J⟩
  obtain rfl:=sj J;exact wr ai [[(0,bT (cT h8))],[]]
def wX(N:Nat)(v2:List ao)(Oy:ao→ao→Option Bool):List ao→Nat→Option Bool
 |[],_=>
  some true
 |v5::v6,v3=>
  Option.bind (v2[((v3:Int)).toNat]?) fun v7=>
  Option.bind (Oy v5 v7) fun v8=>
  bif v8 then
   (wX N v2 Oy v6 (v3+1))
  else
   some false
mutual
def tw(N:Nat):Nat→ao→ao→Option Bool
 |0,_,_=>none
 |d+1,v1,v2=>
  Option.bind (bif (v1.bg==v2.bg)then(bif (bL v1.aq==bL v2.aq)then(bif ((v1.dK.xN.toInt==v2.dK.xN.toInt)&&((v1.dK.xD.toInt==v2.dK.xD.toInt)&&true))then(bif ((v1.aB.cA==v2.aB.cA)&&((v1.aB.cD==v2.aB.cD)&&((v1.aB.dg==v2.aB.dg)&&((v1.aB.de==v2.aB.de)&&((v1.aB.dc==v2.aB.dc)&&true)))))then Option.bind (qR N v1.aQ v2.aQ) fun v3=>
  (bif v3 then Option.bind (B3 N v1.xIdx v2.xIdx) fun v4=>
  (bif v4 then Option.bind ((BS N d) v1.aT v2.aT) fun v5=>
  some v5 else some false)else some false)else some false)else some false)else some false)else some false) fun v6=>
  some v6
def BS(N:Nat):Nat→(List ao)→(List ao)→Option Bool
 |0,_,_=>none
 |d+1,v1,v2=>
  bif ((v1.length:Int) !=(v2.length:Int))then
   some false
  else
   wX N v2 (tw N d) v1 0
end
def GI(N:Nat)(v1:ao)(v2:ao):Option Bool:=tw N N v1 v2
theorem X6(N:Nat):∀d:Nat,(∀(v1:ao)(v2:ao)(r:Bool),tw N d v1 v2=some r→bm Tryz.prog 25 [(aE v1),(aE v2)] (·=(aM r)))∧(∀(v1:List ao)(v2:List ao)(r:Bool),BS N d v1 v2=some r→bm Tryz.prog 50 [(.d (.sl (cW v1))),(.d (.sl (cW v2)))] (·=(aM r))):=by
 intro d
 induction d with
 |zero=>exact⟨fun v1 v2 r J=>(by rw[tw]at J;cases J),fun v1 v2 r J=>(by rw[BS]at J;cases J)⟩
 |succ d ih=>
  have Ym:=ih.1;have aex:=ih.2;refine⟨?_,?_⟩
  ·intro v1 v2 r J;rw[tw]at J;refine bK Tryz.func25 (by kernel_rfl) (by kernel_rfl) ?_;refine au ai [[]] ?_;obtain⟨v6,az,J⟩:=ar J;refine cN ai [(4,(aM v6))] [.cells (aE v1).cells, .cells (aE v2).cells] ?_ ?_
   ·refine bc az (fun h1 az=> ?_) fun h1 az=> ?_
    ·refine bc az (fun h2 az=> ?_) fun h2 az=> ?_
     ·refine bc az (fun h3 az=> ?_) fun h3 az=> ?_
      ·refine bc az (fun h4 az=> ?_) fun h4 az=> ?_
       ·obtain⟨v3,h5,az⟩:=ar az;refine bc az (fun h6 az=> ?_) fun h6 az=> ?_
        ·obtain⟨v4,h7,az⟩:=ar az;refine bc az (fun h8 az=> ?_) fun h8 az=> ?_
         ·obtain⟨v5,h9,az⟩:=ar az;obtain rfl:=sj az;exact⟨so (os [18,21,24,27,30,34] (bT h1) (os [39,42,45,48,51,55] (bT h2) (os [60,63,66,69,72,76] (bT h3) (os [81,84,87,90,93,97] (bT h4) (os [102,105,108,111,114,118] (bT h6) (os [123,126,129,132,135,139] (bT h8) [(94,cL (th N v1.aQ v2.aQ v3 h5)),(115,cL (Oi N v1.xIdx v2.xIdx v4 h7)),(136,cL (aex v1.aT v2.aT v5 h9))])))))),by kernel_rfl⟩
         obtain rfl:=sj az;exact⟨so (os [18,21,24,27,30,34] (bT h1) (os [39,42,45,48,51,55] (bT h2) (os [60,63,66,69,72,76] (bT h3) (os [81,84,87,90,93,97] (bT h4) (os [102,105,108,111,114,118] (bT h6) (os [123,126,129,132,135,139] (bF h8) [(94,cL (th N v1.aQ v2.aQ v3 h5)),(115,cL (Oi N v1.xIdx v2.xIdx v4 h7))])))))),by kernel_rfl⟩
        obtain rfl:=sj az;exact⟨so (os [18,21,24,27,30,34] (bT h1) (os [39,42,45,48,51,55] (bT h2) (os [60,63,66,69,72,76] (bT h3) (os [81,84,87,90,93,97] (bT h4) (os [102,105,108,111,114,118] (bF h6) (os [123,126,129,132,135,139] (bF rfl) [(94,cL (th N v1.aQ v2.aQ v3 h5))])))))),by kernel_rfl⟩
       obtain rfl:=sj az;exact⟨so (os [18,21,24,27,30,34] (bT h1) (os [39,42,45,48,51,55] (bT h2) (os [60,63,66,69,72,76] (bT h3) (os [81,84,87,90,93,97] (bF h4) (os [102,105,108,111,114,118,123,126,129,132,135,139] (bF rfl) []))))),by kernel_rfl⟩
      obtain rfl:=sj az;exact⟨so (os [18,21,24,27,30,34] (bT h1) (os [39,42,45,48,51,55] (bT h2) (os [60,63,66,69,72,76] (bF h3) (os [81,84,87,90,93,97,102,105,108,111,114,118,123,126,129,132,135,139] (bF rfl) [])))),by kernel_rfl⟩
     obtain rfl:=sj az;exact⟨so (os [18,21,24,27,30,34] (bT h1) (os [39,42,45,48,51,55] (bF h2) (os [60,63,66,69,72,76,81,84,87,90,93,97,102,105,108,111,114,118,123,126,129,132,135,139] (bF rfl) []))),by kernel_rfl⟩
    obtain rfl:=sj az;exact⟨so (os [18,21,24,27,30,34] (bF h1) (os [39,42,45,48,51,55,60,63,66,69,72,76,81,84,87,90,93,97,102,105,108,111,114,118,123,126,129,132,135,139] (bF rfl) [])),by kernel_rfl⟩
   obtain rfl:=sj J;exact wr ai []
  intro v1 v2 r J;rw[BS]at J;refine bK Tryz.func50 (by kernel_rfl) (by kernel_rfl) ?_;refine au ai [[],[(4,oL v1 ca),(10,oL v2 ca)]] ?_;refine bc J (fun h1 J=> ?_) fun h1 J=> ?_
  ·obtain rfl:=sj J;exact wr ai [[(0,bT h1)],[]]
  refine au ai [[(0,bF h1)],[]] ?_;refine dP 0 (cW v1) (by kernel_rfl) fun h2=> ?_;have h3:=cr ca h2;refine cC ai 1 [] [0,1,5] 0 (fun((v3,v4):Nat×(List ao))=>⟨27,[(0,(.d (.sl (cW v1)))),(1,(.d (.sl (cW v2)))),(5,(an (v3:Int)))],[]⟩) (fun((v3,v4):Nat×(List ao))=>v1.drop v3=v4∧wX N v2 (tw N d) v4 v3=some r) (fun((v3,v4):Nat×(List ao))=>v4.length) (0,v1) ⟨rfl,J⟩ ?_;rintro⟨v3,v4⟩ ⟨h4,J⟩ f1 aV;cases v4 with
  |nil=>
   rw[wX]at J;obtain rfl:=sj J;exact wr ai [[(7,oL v1 ca)],[(0,bF (bS h4))],[]]
  |cons v5 v6=>
   rw[wX]at J;obtain⟨v7,h5,J⟩:=ar J;obtain⟨v8,h7,J⟩:=ar J;refine au ai [[(7,oL v1 ca)],[(0,bT (bR h4))],[(7,oE (jn (bj h4))),(19,oE (jn h5)),(25,cL (Ym v5 v7 v8 h7))]] ?_;refine bc J (fun h8 J=> ?_) fun h8 J=> ?_
   ·exact cx ai aV (v3+1,v6) [[(0,bF (cG h8))],[(5,oq (b8 h4 rfl h3))]] ⟨b7 h4,J⟩
   obtain rfl:=sj J;exact wr ai [[(0,bT (cT h8))],[]]
theorem KL(N:Nat)(v1:ao)(v2:ao)(r:Bool)(J:GI N v1 v2=some r):bm Tryz.prog 25 [(aE v1),(aE v2)] (·=(aM r)):=(X6 N N).1 v1 v2 r J
def yt(N:Nat):Option Bool:=
 Option.bind (Ia N (bs [110])) fun v1=>
 Option.bind (Ia N (bs [105])) fun v2=>
 Option.bind (Br N v2 (1:Int) (bs []) (⟨(1:Int64),(1:Int64)⟩:gj) (⟨(1:Int),(0:Int),(0:Int),(0:Int),(0:Int)⟩:bB) (0:Int64)) fun v3=>
 Option.bind (BE N (bs [118]) [v2]) fun v4=>
 Option.bind (BE N (bs [118]) ([dV])) fun v5=>
 Option.bind (EB N v4 v5) fun v6=>
 Option.bind (wM N (⟨[(bs [110])],[],[(⟨(bs [97]),(⟨(1:Int),(0:Int),(0:Int),(0:Int),(0:Int)⟩:bB),[v1]⟩:cq)],[(⟨(bs [118]),(⟨(1:Int),(0:Int),(0:Int),(0:Int),(0:Int)⟩:bB),[(⟨(bs [105]),v1⟩:bk)],[],(0:Int),v3⟩:aL),(⟨(bs [119]),(⟨(1:Int),(0:Int),(0:Int),(0:Int),(0:Int)⟩:bB),[(⟨(bs [105]),v1⟩:bk)],[],(0:Int),v6⟩:aL)],[(bs [119])]⟩:aY) (bs [118])) fun v7=>
 Option.bind (Ke N (⟨[(bs [110])],[],[(⟨(bs [97]),(⟨(1:Int),(0:Int),(0:Int),(0:Int),(0:Int)⟩:bB),[v1]⟩:cq)],[(⟨(bs [118]),(⟨(1:Int),(0:Int),(0:Int),(0:Int),(0:Int)⟩:bB),[(⟨(bs [105]),v1⟩:bk)],[],(0:Int),v3⟩:aL),(⟨(bs [119]),(⟨(1:Int),(0:Int),(0:Int),(0:Int),(0:Int)⟩:bB),[(⟨(bs [105]),v1⟩:bk)],[],(0:Int),v6⟩:aL)],[(bs [119])]⟩:aY) (1:Int)) fun v8=>
 Option.bind (bif (v7.2==(0:Int))then(bif ((v7.1.aA.length:Int)==(1:Int))then Option.bind (v7.1.aA[0]?) fun v9=>
 Option.bind (Br N v2 (1:Int) (bs []) (⟨(1:Int64),(1:Int64)⟩:gj) (⟨(1:Int),(0:Int),(0:Int),(0:Int),(0:Int)⟩:bB) (0:Int64)) fun v10=>
 Option.bind (Br N dV (1:Int) (bs []) (⟨(1:Int64),(1:Int64)⟩:gj) (⟨(1:Int),(0:Int),(0:Int),(0:Int),(0:Int)⟩:bB) (0:Int64)) fun v11=>
 Option.bind (EB N v10 v11) fun aC=>
 Option.bind (GI N v9.bE aC) fun aI=>
 (bif aI then some (v8.2==(0:Int))else some false)else some false)else some false) fun aD=>
 some aD
theorem Nb(N:Nat)(r:Bool)(J:yt N=some r):bm Tryz.prog 7 [] (·=(aM r)):=by
 rw[yt]at J;refine bK Tryz.func7 (by kernel_rfl) (by kernel_rfl) ?_;obtain⟨v1,h1,J⟩:=ar J;obtain⟨v2,h2,J⟩:=ar J;obtain⟨v3,h3,J⟩:=ar J;obtain⟨v4,h4,J⟩:=ar J;obtain⟨v5,h5,J⟩:=ar J;obtain⟨v6,h6,J⟩:=ar J;obtain⟨v7,h7,J⟩:=ar J;obtain⟨v8,h8,J⟩:=ar J;refine au ai [[],[(4,cL (Ru N (bs [110]) v1 h1))],[],[],[],[],[(1,cL (Ru N (bs [105]) v2 h2))]] ?_;refine aeB [0,1,2,3,5,6,7,8] 5 ⟨89,[(0,(aM false)),(1,(.ptr 0 0)),(2,(.ptr 1 0)),(3,(.d (.sl (cy [(⟨(bs [105]),v1⟩:bk)])))),(5,(.fn 22 [(.ptr 2 0)])),(6,(.fn 24 [])),(7,(.ptr 3 0)),(8,(.ptr 4 0))],[.cells [(an (1:Int)),(an (0:Int)),(an (0:Int)),(an (0:Int)),(an (0:Int))], .cells (b9 v1).cells, .cells [(an (1:Int)),(bq (bs [])),(bt (1:Int64)),(bt (1:Int64)),(an (1:Int)),(an (0:Int)),(an (0:Int)),(an (0:Int)),(an (0:Int)),(bt (0:Int64)),(.d (.sl [])),(.d (.sl [])),(.d (.sl []))], .cells (b9 v2).cells, .cells [(bt (0:Int64)),(.d (.sl []))]]⟩ (agB rfl) ?_;refine au ai [[(31,⟨_,_, .rq (db:=[(b9 v2),(.ptr 2 0)]) (h:=[.cells [(an (1:Int)),(an (0:Int)),(an (0:Int)),(an (0:Int)),(an (0:Int))], .cells (b9 v1).cells, .cells [(an (1:Int)),(bq (bs [])),(bt (1:Int64)),(bt (1:Int64)),(an (1:Int)),(an (0:Int)),(an (0:Int)),(an (0:Int)),(an (0:Int)),(bt (0:Int64)),(.d (.sl [])),(.d (.sl [])),(.d (.sl []))], .cells (b9 v2).cells, .cells [(bt (0:Int64)),(.d (.sl []))]]) (l:=[2]) (by kernel_rfl) (by kernel_rfl) (by kernel_rfl) (by kernel_rfl) (Ch N v2 (1:Int) (bs []) (⟨(1:Int64),(1:Int64)⟩:gj) (⟨(1:Int),(0:Int),(0:Int),(0:Int),(0:Int)⟩:bB) (0:Int64) v3 h3)⟩),(52,cL (L4 N (bs [118]) [v2] v4 h4)),(61,cL (L4 N (bs [118]) ([dV]) v5 h5)),(64,cL (Jw N v4 v5 v6 h6))],[(4,cL (TU N (⟨[(bs [110])],[],[(⟨(bs [97]),(⟨(1:Int),(0:Int),(0:Int),(0:Int),(0:Int)⟩:bB),[v1]⟩:cq)],[(⟨(bs [118]),(⟨(1:Int),(0:Int),(0:Int),(0:Int),(0:Int)⟩:bB),[(⟨(bs [105]),v1⟩:bk)],[],(0:Int),v3⟩:aL),(⟨(bs [119]),(⟨(1:Int),(0:Int),(0:Int),(0:Int),(0:Int)⟩:bB),[(⟨(bs [105]),v1⟩:bk)],[],(0:Int),v6⟩:aL)],[(bs [119])]⟩:aY) (bs [118]) v7 h7))],[(4,cL (aer N (⟨[(bs [110])],[],[(⟨(bs [97]),(⟨(1:Int),(0:Int),(0:Int),(0:Int),(0:Int)⟩:bB),[v1]⟩:cq)],[(⟨(bs [118]),(⟨(1:Int),(0:Int),(0:Int),(0:Int),(0:Int)⟩:bB),[(⟨(bs [105]),v1⟩:bk)],[],(0:Int),v3⟩:aL),(⟨(bs [119]),(⟨(1:Int),(0:Int),(0:Int),(0:Int),(0:Int)⟩:bB),[(⟨(bs [105]),v1⟩:bk)],[],(0:Int),v6⟩:aL)],[(bs [119])]⟩:aY) (1:Int) v8 h8))]] ?_
 obtain⟨aD,cv,J⟩:=ar J;refine cN ai [(0,(aM aD))] [.cells [(an (1:Int)),(an (0:Int)),(an (0:Int)),(an (0:Int)),(an (0:Int))], .cells (b9 v1).cells, .cells [(an (1:Int)),(bq (bs [])),(bt (1:Int64)),(bt (1:Int64)),(an (1:Int)),(an (0:Int)),(an (0:Int)),(an (0:Int)),(an (0:Int)),(bt (0:Int64)),(.d (.sl [])),(.d (.sl [])),(.d (.sl []))], .cells (b9 v2).cells, .cells [(bt (0:Int64)),(.d (.sl []))], .cells [(.full (ax [(bs [110])])),(.d (.v (.slice none 0 0))),(.full (bN [(⟨(bs [97]),(⟨(1:Int),(0:Int),(0:Int),(0:Int),(0:Int)⟩:bB),[v1]⟩:cq)])),(.full (cg [(⟨(bs [118]),(⟨(1:Int),(0:Int),(0:Int),(0:Int),(0:Int)⟩:bB),[(⟨(bs [105]),v1⟩:bk)],[],(0:Int),v3⟩:aL),(⟨(bs [119]),(⟨(1:Int),(0:Int),(0:Int),(0:Int),(0:Int)⟩:bB),[(⟨(bs [105]),v1⟩:bk)],[],(0:Int),v6⟩:aL)])),(.full (ax [(bs [119])]))], .cells (aX v7.1).cells, .cells (aX v8.1).cells] ?_ ?_
 ·refine bc cv (fun h9 cv=> ?_) fun h9 cv=> ?_
  ·refine bc cv (fun az cv=> ?_) fun az cv=> ?_
   ·obtain⟨v9,aZ,cv⟩:=ar cv;obtain⟨v10,bf,cv⟩:=ar cv;obtain⟨v11,b5,cv⟩:=ar cv;obtain⟨aC,a8,cv⟩:=ar cv;obtain⟨aI,bA,cv⟩:=ar cv;refine bc cv (fun a9 cv=> ?_) fun a9 cv=> ?_
    ·obtain rfl:=sj cv;exact⟨so (os [9,12,15,18,22] (bT h9) (os [27,30,33,36,39,42,45,48,51,54,57,60,63,66,70] (bT az) (os [75,78,82] (bT a9) [(16,oL v7.1.aA dB),(34,oE (k:=0) (gA aZ)),(52,⟨_,_, .rq (db:=[(b9 v2),(.ptr 2 0)]) (h:=[.cells [(an (1:Int)),(an (0:Int)),(an (0:Int)),(an (0:Int)),(an (0:Int))], .cells (b9 v1).cells, .cells [(an (1:Int)),(bq (bs [])),(bt (1:Int64)),(bt (1:Int64)),(an (1:Int)),(an (0:Int)),(an (0:Int)),(an (0:Int)),(an (0:Int)),(bt (0:Int64)),(.d (.sl [])),(.d (.sl [])),(.d (.sl []))], .cells (b9 v2).cells, .cells [(bt (0:Int64)),(.d (.sl []))], .cells [(.full (ax [(bs [110])])),(.d (.v (.slice none 0 0))),(.full (bN [(⟨(bs [97]),(⟨(1:Int),(0:Int),(0:Int),(0:Int),(0:Int)⟩:bB),[v1]⟩:cq)])),(.full (cg [(⟨(bs [118]),(⟨(1:Int),(0:Int),(0:Int),(0:Int),(0:Int)⟩:bB),[(⟨(bs [105]),v1⟩:bk)],[],(0:Int),v3⟩:aL),(⟨(bs [119]),(⟨(1:Int),(0:Int),(0:Int),(0:Int),(0:Int)⟩:bB),[(⟨(bs [105]),v1⟩:bk)],[],(0:Int),v6⟩:aL)])),(.full (ax [(bs [119])]))], .cells (aX v7.1).cells, .cells (aX v8.1).cells]) (l:=[2]) (by kernel_rfl) (by kernel_rfl) (by kernel_rfl) (by kernel_rfl) (Ch N v2 (1:Int) (bs []) (⟨(1:Int64),(1:Int64)⟩:gj) (⟨(1:Int),(0:Int),(0:Int),(0:Int),(0:Int)⟩:bB) (0:Int64) v10 bf)⟩),(61,⟨_,_, .rq (db:=[(b9 dV),(.ptr 2 0)]) (h:=[.cells [(an (1:Int)),(an (0:Int)),(an (0:Int)),(an (0:Int)),(an (0:Int))], .cells (b9 v1).cells, .cells [(an (1:Int)),(bq (bs [])),(bt (1:Int64)),(bt (1:Int64)),(an (1:Int)),(an (0:Int)),(an (0:Int)),(an (0:Int)),(an (0:Int)),(bt (0:Int64)),(.d (.sl [])),(.d (.sl [])),(.d (.sl []))], .cells (b9 v2).cells, .cells [(bt (0:Int64)),(.d (.sl []))], .cells [(.full (ax [(bs [110])])),(.d (.v (.slice none 0 0))),(.full (bN [(⟨(bs [97]),(⟨(1:Int),(0:Int),(0:Int),(0:Int),(0:Int)⟩:bB),[v1]⟩:cq)])),(.full (cg [(⟨(bs [118]),(⟨(1:Int),(0:Int),(0:Int),(0:Int),(0:Int)⟩:bB),[(⟨(bs [105]),v1⟩:bk)],[],(0:Int),v3⟩:aL),(⟨(bs [119]),(⟨(1:Int),(0:Int),(0:Int),(0:Int),(0:Int)⟩:bB),[(⟨(bs [105]),v1⟩:bk)],[],(0:Int),v6⟩:aL)])),(.full (ax [(bs [119])]))], .cells (aX v7.1).cells, .cells (aX v8.1).cells]) (l:=[2]) (by kernel_rfl) (by kernel_rfl) (by kernel_rfl) (by kernel_rfl) (Ch N dV (1:Int) (bs []) (⟨(1:Int64),(1:Int64)⟩:gj) (⟨(1:Int),(0:Int),(0:Int),(0:Int),(0:Int)⟩:bB) (0:Int64) v11 b5)⟩),(64,cL (Jw N v10 v11 aC a8)),(67,cL (KL N v9.bE aC aI bA))]))),by kernel_rfl⟩
    obtain rfl:=sj cv;exact⟨so (os [9,12,15,18,22] (bT h9) (os [27,30,33,36,39,42,45,48,51,54,57,60,63,66,70] (bT az) (os [75,78,82] (bF a9) [(16,oL v7.1.aA dB),(34,oE (k:=0) (gA aZ)),(52,⟨_,_, .rq (db:=[(b9 v2),(.ptr 2 0)]) (h:=[.cells [(an (1:Int)),(an (0:Int)),(an (0:Int)),(an (0:Int)),(an (0:Int))], .cells (b9 v1).cells, .cells [(an (1:Int)),(bq (bs [])),(bt (1:Int64)),(bt (1:Int64)),(an (1:Int)),(an (0:Int)),(an (0:Int)),(an (0:Int)),(an (0:Int)),(bt (0:Int64)),(.d (.sl [])),(.d (.sl [])),(.d (.sl []))], .cells (b9 v2).cells, .cells [(bt (0:Int64)),(.d (.sl []))], .cells [(.full (ax [(bs [110])])),(.d (.v (.slice none 0 0))),(.full (bN [(⟨(bs [97]),(⟨(1:Int),(0:Int),(0:Int),(0:Int),(0:Int)⟩:bB),[v1]⟩:cq)])),(.full (cg [(⟨(bs [118]),(⟨(1:Int),(0:Int),(0:Int),(0:Int),(0:Int)⟩:bB),[(⟨(bs [105]),v1⟩:bk)],[],(0:Int),v3⟩:aL),(⟨(bs [119]),(⟨(1:Int),(0:Int),(0:Int),(0:Int),(0:Int)⟩:bB),[(⟨(bs [105]),v1⟩:bk)],[],(0:Int),v6⟩:aL)])),(.full (ax [(bs [119])]))], .cells (aX v7.1).cells, .cells (aX v8.1).cells]) (l:=[2]) (by kernel_rfl) (by kernel_rfl) (by kernel_rfl) (by kernel_rfl) (Ch N v2 (1:Int) (bs []) (⟨(1:Int64),(1:Int64)⟩:gj) (⟨(1:Int),(0:Int),(0:Int),(0:Int),(0:Int)⟩:bB) (0:Int64) v10 bf)⟩),(61,⟨_,_, .rq (db:=[(b9 dV),(.ptr 2 0)]) (h:=[.cells [(an (1:Int)),(an (0:Int)),(an (0:Int)),(an (0:Int)),(an (0:Int))], .cells (b9 v1).cells, .cells [(an (1:Int)),(bq (bs [])),(bt (1:Int64)),(bt (1:Int64)),(an (1:Int)),(an (0:Int)),(an (0:Int)),(an (0:Int)),(an (0:Int)),(bt (0:Int64)),(.d (.sl [])),(.d (.sl [])),(.d (.sl []))], .cells (b9 v2).cells, .cells [(bt (0:Int64)),(.d (.sl []))], .cells [(.full (ax [(bs [110])])),(.d (.v (.slice none 0 0))),(.full (bN [(⟨(bs [97]),(⟨(1:Int),(0:Int),(0:Int),(0:Int),(0:Int)⟩:bB),[v1]⟩:cq)])),(.full (cg [(⟨(bs [118]),(⟨(1:Int),(0:Int),(0:Int),(0:Int),(0:Int)⟩:bB),[(⟨(bs [105]),v1⟩:bk)],[],(0:Int),v3⟩:aL),(⟨(bs [119]),(⟨(1:Int),(0:Int),(0:Int),(0:Int),(0:Int)⟩:bB),[(⟨(bs [105]),v1⟩:bk)],[],(0:Int),v6⟩:aL)])),(.full (ax [(bs [119])]))], .cells (aX v7.1).cells, .cells (aX v8.1).cells]) (l:=[2]) (by kernel_rfl) (by kernel_rfl) (by kernel_rfl) (by kernel_rfl) (Ch N dV (1:Int) (bs []) (⟨(1:Int64),(1:Int64)⟩:gj) (⟨(1:Int),(0:Int),(0:Int),(0:Int),(0:Int)⟩:bB) (0:Int64) v11 b5)⟩),(64,cL (Jw N v10 v11 aC a8)),(67,cL (KL N v9.bE aC aI bA))]))),by kernel_rfl⟩
   obtain rfl:=sj cv;exact⟨so (os [9,12,15,18,22] (bT h9) (os [27,30,33,36,39,42,45,48,51,54,57,60,63,66,70] (bF az) (os [75,78,82] (bF rfl) [(16,oL v7.1.aA dB)]))),by kernel_rfl⟩
  obtain rfl:=sj cv;exact⟨so (os [9,12,15,18,22] (bF h9) (os [27,30,33,36,39,42,45,48,51,54,57,60,63,66,70,75,78,82] (bF rfl) [])),by kernel_rfl⟩
 obtain rfl:=sj J;exact wr ai []
def H7(N:Nat):Option ((List ByteArray)):=
 some [(bs [115,105,122,101]),(bs [119,104,101,114,101]),(bs [105,110]),(bs [100,101,102]),(bs [111,117,116]),(bs [115,117,109]),(bs [112,114,111,100]),(bs [109,105,110]),(bs [109,97,120]),(bs [115,99,97,110]),(bs [111,118,101,114]),(bs [105,102]),(bs [99,97,115,116]),(bs [102,114,97,99]),(bs [105,110,116]),(bs [102,105,120]),(bs [99,101,105,108]),(bs [102,108,111,111,114]),(bs [122,101,114,111]),(bs [101,118,101,110]),(bs [115,97,116]),(bs [119,114,97,112])]
theorem Vv(N:Nat)(r:(List ByteArray))(J:H7 N=some r):bm Tryz.prog 177 [] (·=(.d (.sl (ax r)))):=by
 rw[H7]at J;refine bK Tryz.func177 (by kernel_rfl) (by kernel_rfl) ?_;obtain rfl:=sj J;exact wr ai [[],[]]
def uD(N:Nat)(v2:ByteArray):List ByteArray→Nat→Option Bool
 |[],_=>
  some false
 |v5::v6,v3=>
  bif (bL v5==bL v2)then
   some true
  else
   (uD N v2 v6 (v3+1))
def oQ(N:Nat)(v1:List ByteArray)(v2:ByteArray):Option Bool:=
 uD N v2 v1 0
theorem xq(N:Nat)(v1:List ByteArray)(v2:ByteArray)(r:Bool)(J:oQ N v1 v2=some r):bm Tryz.prog 15 [(.d (.sl (ax v1))),(bq v2)] (·=(aM r)):=by
 rw[oQ]at J;refine bK Tryz.func15 (by kernel_rfl) (by kernel_rfl) ?_;refine au ai [[],[]] ?_;refine dP 0 (ax v1) (by kernel_rfl) fun h1=> ?_;have h2:=cr bD h1;refine cC ai 1 [] [0,1,5] 0 (fun((v3,v4):Nat×(List ByteArray))=>⟨18,[(0,(.d (.sl (ax v1)))),(1,(bq v2)),(5,(an (v3:Int)))],[]⟩) (fun((v3,v4):Nat×(List ByteArray))=>v1.drop v3=v4∧uD N v2 v4 v3=some r) (fun((v3,v4):Nat×(List ByteArray))=>v4.length) (0,v1) ⟨rfl,J⟩ ?_;rintro⟨v3,v4⟩ ⟨h3,J⟩ f1 aV;cases v4 with
 |nil=>
  rw[uD]at J;obtain rfl:=sj J;exact wr ai [[(7,oL v1 bD)],[(0,bF (bS h3))],[]]
 |cons v5 v6=>
  rw[uD]at J;refine au ai [[(7,oL v1 bD)],[(0,bT (bR h3))],[(7,oE (lK (bj h3)))]] ?_;refine bc J (fun h4 J=> ?_) fun h4 J=> ?_
  ·obtain rfl:=sj J;exact wr ai [[(0,bT h4)],[]]
  exact cx ai aV (v3+1,v6) [[(0,bF h4)],[(5,oq (b8 h3 rfl h2))]] ⟨b7 h3,J⟩
def tf(N:Nat)(v1:ByteArray):Nat→Int→Option Bool
 |0,_=>none
 |v5+1,v6=>
  bif (decide (v6<(v1.size:Int)))then
   bif (decide ((0:Int)≤v6))then
   Option.bind (v1[(v6).toNat]?) fun v7=>
   Option.bind (bif (decide ((v7.toNat:Int)≥(97:Int)))then(bif (decide ((v7.toNat:Int)≤(122:Int)))then some (!true)else(bif (decide (v6>(0:Int)))then(bif (decide ((v7.toNat:Int)≥(48:Int)))then(bif (decide ((v7.toNat:Int)≤(57:Int)))then some (!true)else some (!((v7.toNat:Int)==(95:Int))))else some (!((v7.toNat:Int)==(95:Int))))else some (!false)))else(bif (decide (v6>(0:Int)))then(bif (decide ((v7.toNat:Int)≥(48:Int)))then(bif (decide ((v7.toNat:Int)≤(57:Int)))then some (!true)else some (!((v7.toNat:Int)==(95:Int))))else some (!((v7.toNat:Int)==(95:Int))))else some (!false))) fun v8=>
   bif v8 then
    some false
   else
    (fun ck=>tf N v1 v5 ck) (a7 (v6+(1:Int)))
   else none
  else
   some true
def sx(N:Nat)(v1:ByteArray):Option Bool:=
 Option.bind (bif (decide ((v1.size:Int)<(1:Int)))then some true else(bif (decide ((v1.size:Int)>(16:Int)))then some true else Option.bind (H7 N) fun v2=>
 Option.bind (oQ N v2 v1) fun v3=>
 some v3)) fun v4=>
 bif v4 then
  some false
 else
  tf N v1 N (0:Int)
theorem u5(N:Nat)(v1:ByteArray)(r:Bool)(J:sx N v1=some r):bm Tryz.prog 141 [(bq v1)] (·=(aM r)):=by
 rw[sx]at J;refine bK Tryz.func141 (by kernel_rfl) (by kernel_rfl) ?_;refine au ai [[]] ?_;obtain⟨v4,h5,J⟩:=ar J;refine cN ai [(17,(aM v4))] [] ?_ ?_
 ·refine bc h5 (fun h1 h5=> ?_) fun h1 h5=> ?_
  ·obtain rfl:=sj h5;exact⟨so (os [12,15,18,22] (bT h1) (os [27,30,33,37] (bT rfl) [])),by kernel_rfl⟩
  refine bc h5 (fun h2 h5=> ?_) fun h2 h5=> ?_
  ·obtain rfl:=sj h5;exact⟨so (os [12,15,18,22] (bF h1) (os [27,30,33,37] (bT h2) [])),by kernel_rfl⟩
  obtain⟨v2,h3,h5⟩:=ar h5;obtain⟨v3,h4,h5⟩:=ar h5;obtain rfl:=sj h5;exact⟨so (os [12,15,18,22] (bF h1) (os [27,30,33,37] (bF h2) [(28,cL (Vv N v2 h3)),(34,cL (xq N v2 v1 v3 h4))])),by kernel_rfl⟩
 refine bc J (fun h6 J=> ?_) fun h6 J=> ?_
 ·obtain rfl:=sj J;exact wr ai [[(0,bT h6)],[]]
 refine cC ai 1 [[(0,bF h6)],[]] [0,3] 0 (fun((v5,v6):Nat×Int)=>⟨50,[(0,(bq v1)),(3,(an v6))],[]⟩) (fun((v5,v6):Nat×Int)=>tf N v1 v5 v6=some r) (fun((v5,v6):Nat×Int)=>v5) (N,(0:Int)) J ?_;rintro⟨v5,v6⟩ J f1 aV
 try dsimp only at J
 cases v5 with
 |zero=>
  rw[tf]at J;cases J
 |succ v5=>
  rw[tf]at J;refine au ai [[]] ?_;refine bc J (fun h7 J=> ?_) fun h7 J=> ?_
  ·obtain⟨h9,J⟩:=c8 J;obtain⟨v7,h8,J⟩:=ar J;refine au ai [[(0,bT h7)],[(7,⟨_,_, .ch (i:=v6) (of_decide_eq_true h9) h8⟩)]] ?_;obtain⟨v8,bQ,J⟩:=ar J;refine cN ai [(49,(aM v8))] [] ?_ ?_
   ·refine bc bQ (fun az bQ=> ?_) fun az bQ=> ?_
    ·refine bc bQ (fun aZ bQ=> ?_) fun aZ bQ=> ?_
     ·obtain rfl:=sj bQ;exact⟨so (os [9,12,16] (bT az) (os [21,24,27,60,64] (bT aZ) (os [30,33,36,39,42,45,48,51,54,57] uN []))),by kernel_rfl⟩
     refine bc bQ (fun bf bQ=> ?_) fun bf bQ=> ?_
     ·refine bc bQ (fun b5 bQ=> ?_) fun b5 bQ=> ?_
      ·refine bc bQ (fun a8 bQ=> ?_) fun a8 bQ=> ?_
       ·obtain rfl:=sj bQ;exact⟨so (os [9,12,16] (bT az) (os [21,24,27,60,64] (bF aZ) (os [30,33,36,45,48,57,61] (bT bf) (os [39,42,46] (bT b5) (os [51,54,58] (bT a8) []))))),by kernel_rfl⟩
       obtain rfl:=sj bQ;exact⟨so (os [9,12,16] (bT az) (os [21,24,27,60,64] (bF aZ) (os [30,33,36,45,48,57,61] (bT bf) (os [39,42,46] (bT b5) (os [51,54,58] (bF a8) []))))),by kernel_rfl⟩
      obtain rfl:=sj bQ;exact⟨so (os [9,12,16] (bT az) (os [21,24,27,60,64] (bF aZ) (os [30,33,36,45,48,57,61] (bT bf) (os [39,42,46] (bF b5) (os [51,54,58] (bF rfl) []))))),by kernel_rfl⟩
     obtain rfl:=sj bQ;exact⟨so (os [9,12,16] (bT az) (os [21,24,27,60,64] (bF aZ) (os [30,33,36,45,48,57,61] (bF bf) (os [39,42,51,54] uN [])))),by kernel_rfl⟩
    refine bc bQ (fun bA bQ=> ?_) fun bA bQ=> ?_
    ·refine bc bQ (fun a9 bQ=> ?_) fun a9 bQ=> ?_
     ·refine bc bQ (fun cv bQ=> ?_) fun cv bQ=> ?_
      ·obtain rfl:=sj bQ;exact⟨so (os [9,12,16] (bF az) (os [21,24,27,60,64] (bF rfl) (os [30,33,36,45,48,57,61] (bT bA) (os [39,42,46] (bT a9) (os [51,54,58] (bT cv) []))))),by kernel_rfl⟩
      obtain rfl:=sj bQ;exact⟨so (os [9,12,16] (bF az) (os [21,24,27,60,64] (bF rfl) (os [30,33,36,45,48,57,61] (bT bA) (os [39,42,46] (bT a9) (os [51,54,58] (bF cv) []))))),by kernel_rfl⟩
     obtain rfl:=sj bQ;exact⟨so (os [9,12,16] (bF az) (os [21,24,27,51,54,58,60,64] (bF rfl) (os [30,33,36,45,48,57,61] (bT bA) (os [39,42,46] (bF a9) [])))),by kernel_rfl⟩
    obtain rfl:=sj bQ;exact⟨so (os [9,12,16] (bF az) (os [21,24,27,60,64] (bF rfl) (os [30,33,36,45,48,57,61] (bF bA) (os [39,42,51,54] uN [])))),by kernel_rfl⟩
   refine bc J (fun dk J=> ?_) fun dk J=> ?_
   ·obtain rfl:=sj J;exact wr ai [[(0,bT dk)],[]]
   exact cx ai aV (v5,(a7 (v6+(1:Int)))) [[(0,bF dk)],[]] J
  obtain rfl:=sj J;exact wr ai [[(0,bF h7)],[]]
def rI(N:Nat)(v1:ByteArray)(v2:List ByteArray):Option Int:=
 Option.bind (sx N v1) fun v3=>
 bif v3 then
  Option.bind (oQ N v2 v1) fun v4=>
  bif v4 then
   some (8:Int)
  else
   some (0:Int)
 else
  some (7:Int)
theorem Ib(N:Nat)(v1:ByteArray)(v2:List ByteArray)(r:Int)(J:rI N v1 v2=some r):bm Tryz.prog 105 [(bq v1),(.d (.sl (ax v2)))] (·=(an r)):=by
 rw[rI]at J;refine bK Tryz.func105 (by kernel_rfl) (by kernel_rfl) ?_;obtain⟨v3,h1,J⟩:=ar J;refine au ai [[],[(4,cL (u5 N v1 v3 h1))]] ?_;refine bc J (fun h2 J=> ?_) fun h2 J=> ?_
 ·obtain⟨v4,h3,J⟩:=ar J;refine au ai [[(0,bF (cG h2))],[(7,cL (xq N v2 v1 v4 h3))]] ?_;refine bc J (fun h4 J=> ?_) fun h4 J=> ?_
  ·obtain rfl:=sj J;exact wr ai [[(0,bT h4)],[]]
  obtain rfl:=sj J;exact wr ai [[(0,bF h4)],[]]
 obtain rfl:=sj J;exact wr ai [[(0,bT (cT h2))],[]]
def vW(N:Nat)(v1:aY):List ByteArray→Nat→Option Int
 |[],_=>
  some (0:Int)
 |v5::v6,v3=>
  bif (decide (((v3:Int)).toNat≤v1.bx.length))then
  Option.bind (rI N v5 ((v1.bx.take ((v3:Int)).toNat).drop 0)) fun v7=>
  bif (v7 !=(0:Int))then
   some v7
  else
   (vW N v1 v6 (v3+1))
  else none
def G6(N:Nat)(v1:aY):Option Int:=
 Option.bind (bif (decide ((v1.bx.length:Int)>(64:Int)))then some true else(bif (decide ((v1.bu.length:Int)>(64:Int)))then some true else(bif (decide ((v1.aA.length:Int)>(64:Int)))then some true else(bif (decide ((v1.cU.length:Int)>(64:Int)))then some true else some (decide ((v1.cX.length:Int)>(256:Int))))))) fun v2=>
 bif v2 then
  some (2:Int)
 else
  vW N v1 v1.bx 0
theorem XJ(N:Nat)(v1:aY)(r:Int)(J:G6 N v1=some r):bm Tryz.prog 65 [(aX v1)] (·=(an r)):=by
 rw[G6]at J;refine bK Tryz.func65 (by kernel_rfl) (by kernel_rfl) ?_;refine au ai [[]] ?_;obtain⟨v2,h5,J⟩:=ar J;refine cN ai [(32,(aM v2))] [.cells (aX v1).cells] ?_ ?_
 ·refine bc h5 (fun h1 h5=> ?_) fun h1 h5=> ?_
  ·obtain rfl:=sj h5;exact⟨so (os [15,18,21,24,28] (bT h1) (os [33,36,39,42,46,51,54,57,60,64,69,72,75,78,82] (bT rfl) [(7,oL v1.bx bD)])),by kernel_rfl⟩
  refine bc h5 (fun h2 h5=> ?_) fun h2 h5=> ?_
  ·obtain rfl:=sj h5;exact⟨so (os [15,18,21,24,28] (bF h1) (os [33,36,39,42,46] (bT h2) (os [51,54,57,60,64,69,72,75,78,82] (bT rfl) [(7,oL v1.bx bD),(22,oL v1.bu er)]))),by kernel_rfl⟩
  refine bc h5 (fun h3 h5=> ?_) fun h3 h5=> ?_
  ·obtain rfl:=sj h5;exact⟨so (os [15,18,21,24,28] (bF h1) (os [33,36,39,42,46] (bF h2) (os [51,54,57,60,64] (bT h3) (os [69,72,75,78,82] (bT rfl) [(7,oL v1.bx bD),(22,oL v1.bu er),(40,oL v1.aA dB)])))),by kernel_rfl⟩
  refine bc h5 (fun h4 h5=> ?_) fun h4 h5=> ?_
  ·obtain rfl:=sj h5;exact⟨so (os [15,18,21,24,28] (bF h1) (os [33,36,39,42,46] (bF h2) (os [51,54,57,60,64] (bF h3) (os [69,72,75,78,82] (bT h4) [(7,oL v1.bx bD),(22,oL v1.bu er),(40,oL v1.aA dB),(58,oL v1.cU bD)])))),by kernel_rfl⟩
  obtain rfl:=sj h5;exact⟨so (os [15,18,21,24,28] (bF h1) (os [33,36,39,42,46] (bF h2) (os [51,54,57,60,64] (bF h3) (os [69,72,75,78,82] (bF h4) [(7,oL v1.bx bD),(22,oL v1.bu er),(40,oL v1.aA dB),(58,oL v1.cU bD),(76,oL v1.cX fa)])))),by kernel_rfl⟩
 refine bc J (fun h6 J=> ?_) fun h6 J=> ?_
 ·obtain rfl:=sj J;exact wr ai [[(0,bT h6)],[]]
 refine au ai [[(0,bF h6)],[]] ?_;refine eo 0 0 (ax v1.bx) (by kernel_rfl) fun h7=> ?_;have h8:=cr bD h7;refine cC ai 1 [] [1,3] 1 (fun((v3,v4):Nat×(List ByteArray))=>⟨53,[(1,(.ptr 0 0)),(3,(an (v3:Int)))],[.cells (aX v1).cells]⟩) (fun((v3,v4):Nat×(List ByteArray))=>v1.bx.drop v3=v4∧vW N v1 v4 v3=some r) (fun((v3,v4):Nat×(List ByteArray))=>v4.length) (0,v1.bx) ⟨rfl,J⟩ ?_;rintro⟨v3,v4⟩ ⟨h9,J⟩ f1 aV;cases v4 with
 |nil=>
  rw[vW]at J;obtain rfl:=sj J;exact wr ai [[(10,oL v1.bx bD)],[(0,bF (bS h9))],[]]
 |cons v5 v6=>
  rw[vW]at J;obtain⟨az,J⟩:=c8 J;obtain⟨v7,aZ,J⟩:=ar J;refine au ai [[(10,oL v1.bx bD)],[(0,bT (bR h9))],[(10,oE (lK (bj h9))),(25,⟨_,_, .sub (xs:=ax v1.bx) (lo:=(0:Int)) (hi:=(v3:Int)) (by decide) (Nat.zero_le _) (of_decide_eq_true (aha (Int.natCast_nonneg _))) (by rw[bD];exact(of_decide_eq_true az)) jz Ml⟩),(28,cL (Ib N v5 ((v1.bx.take ((v3:Int)).toNat).drop 0) v7 aZ))],[]] ?_;refine bc J (fun bf J=> ?_) fun bf J=> ?_
  ·obtain rfl:=sj J;exact wr ai [[(0,bT bf)],[]]
  exact cx ai aV (v3+1,v6) [[(0,bF bf)],[(5,oq (b8 h9 rfl h8))]] ⟨b7 h9,J⟩
end Go.Proofs.YtphmhnabilhbgaaGreatDoor
